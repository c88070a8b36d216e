/- awake of bastionlaw4 -/
import Derived.Test.YthkbeigimdgamaaPacketE
namespace Go.Proofs.Ythkbeigimdgamaa
open Go Go.RowKit

theorem packetAw_may : packetS.may [3, 0, 0, 0, 7, 0, 1, 300] [104, 105] = true := by decide
theorem packetAw_put : packetS.enc [3, 0, 0, 0, 7, 0, 1, 300] [104, 105] = [1, 3, 1, 1, 2, 1, 44, 1, 7, 1, 2, 104, 105] := by
  show numF 3 ++ (numsF [1, 300, 7] ++ putText [104, 105]) = _
  simp [numsF, numF, numMayB, numL, widthN, beN, putText]
theorem packetAw_ok : packetS.ok [1, 3, 1, 1, 2, 1, 44, 1, 7, 1, 2, 104, 105] = true := by rw [← packetAw_put]; exact (packetS.ok_fwd [3, 0, 0, 0, 7, 0, 1, 300] [104, 105] rfl packetAw_may).1
theorem packetAw_getC : packetS.getC [1, 3, 1, 1, 2, 1, 44, 1, 7, 1, 2, 104, 105] = [3, 0, 0, 0, 7, 0, 1, 300] := by
  rw [Sp.getC, packetAw_ok, if_pos rfl, ← packetAw_put]; exact (packetS.ok_fwd [3, 0, 0, 0, 7, 0, 1, 300] [104, 105] rfl packetAw_may).2.1
theorem packetAw_getD : packetS.getD [1, 3, 1, 1, 2, 1, 44, 1, 7, 1, 2, 104, 105] = [104, 105] := by
  rw [Sp.getD, packetAw_ok, if_pos rfl, ← packetAw_put]; exact (packetS.ok_fwd [3, 0, 0, 0, 7, 0, 1, 300] [104, 105] rfl packetAw_may).2.2
theorem packetAw_rd : rdNum [5] (some 0) = (0, none) := by
  decide
theorem packetAw_bad : packetS.ok [5] = false := by
  unfold Sp.ok Sp.body
  rw [packetAw_rd]
  rfl
theorem packetAw_may2 : packetS.may [4, 0, 1, 0, 0, 0, 0, 0] [] = false := by decide
theorem packetAw_may3 : packetS.may [5, 0, 0, 0, 0, 0, 0, 0] [] = false := by decide

theorem packetAw1 (w : World) : Calls Try.prog 34 #[.agg #[.int .i64 3, .int .i64 0, .int .i64 0, .int .i64 0, .int .i64 7, .int .i64 0, .int .i64 1, .int .i64 300, .string ⟨#[104, 105]⟩]] w fun e w' => e = .returned (.tuple #[.string ⟨#[1, 3, 1, 1, 2, 1, 44, 1, 7, 1, 2, 104, 105]⟩, .int .i64 0]) ∧ Below w.heap.size w w' := by
  have h := packetPut_any 3 0 0 0 7 0 1 300 [104, 105] w
  rw [Sp.put, packetAw_may, if_pos rfl, packetAw_put] at h
  exact h
theorem packetAw2 (w : World) : Calls Try.prog 36 #[.string ⟨#[1, 3, 1, 1, 2, 1, 44, 1, 7, 1, 2, 104, 105]⟩] w fun e w' => e = .returned (.tuple #[.agg #[.int .i64 3, .int .i64 0, .int .i64 0, .int .i64 0, .int .i64 7, .int .i64 0, .int .i64 1, .int .i64 300, .string ⟨#[104, 105]⟩], .int .i64 0]) ∧ Below w.heap.size w w' := by
  have h := packetGet_any [1, 3, 1, 1, 2, 1, 44, 1, 7, 1, 2, 104, 105] (by decide) w
  rw [packetAw_getC, packetAw_getD, packetAw_ok] at h
  exact h
theorem packetAw3 (w : World) : Calls Try.prog 36 #[.string ⟨#[5]⟩] w fun e w' => e = .returned (.tuple #[.agg #[.int .i64 0, .int .i64 0, .int .i64 0, .int .i64 0, .int .i64 0, .int .i64 0, .int .i64 0, .int .i64 0, .string ⟨#[]⟩], .int .i64 400]) ∧ Below w.heap.size w w' := by
  have h := packetGet_any [5] (by decide) w
  rw [Sp.getC, Sp.getD, packetAw_bad] at h
  exact h
theorem packetAw4 (w : World) : Calls Try.prog 34 #[.agg #[.int .i64 4, .int .i64 0, .int .i64 1, .int .i64 0, .int .i64 0, .int .i64 0, .int .i64 0, .int .i64 0, .string ⟨#[]⟩]] w fun e w' => e = .returned (.tuple #[.string ⟨#[]⟩, .int .i64 400]) ∧ Below w.heap.size w w' := by
  have h := packetPut_any 4 0 1 0 0 0 0 0 [] w
  rw [Sp.put, packetAw_may2] at h
  exact h
theorem packetAw5 (w : World) : Calls Try.prog 38 #[.agg #[.int .i64 3, .int .i64 0, .int .i64 0, .int .i64 0, .int .i64 7, .int .i64 0, .int .i64 1, .int .i64 300, .string ⟨#[104, 105]⟩]] w fun e w' => e = .returned (.bool true) ∧ Below w.heap.size w w' := by
  have h := packetMay_any 3 0 0 0 7 0 1 300 [104, 105] w
  rw [packetAw_may] at h
  exact h
theorem packetAw6 (w : World) : Calls Try.prog 38 #[.agg #[.int .i64 5, .int .i64 0, .int .i64 0, .int .i64 0, .int .i64 0, .int .i64 0, .int .i64 0, .int .i64 0, .string ⟨#[]⟩]] w fun e w' => e = .returned (.bool false) ∧ Below w.heap.size w w' := by
  have h := packetMay_any 5 0 0 0 0 0 0 0 [] w
  rw [packetAw_may3] at h
  exact h

theorem packetAw_eq (w : World) : (binOp .eql 56 (.agg #[.int .i64 3, .int .i64 0, .int .i64 0, .int .i64 0, .int .i64 7, .int .i64 0, .int .i64 1, .int .i64 300, .string ⟨#[104, 105]⟩]) (.agg #[.int .i64 3, .int .i64 0, .int .i64 0, .int .i64 0, .int .i64 7, .int .i64 0, .int .i64 1, .int .i64 300, .string ⟨#[104, 105]⟩])).run Try.prog w = .ok (.bool true) w := by
  have h := run_eqlPacket 3 0 0 0 7 0 1 300 3 0 0 0 7 0 1 300 ⟨#[104, 105]⟩ ⟨#[104, 105]⟩ w
  rw [h]
  rfl

set_option maxRecDepth 100000 in
set_option maxHeartbeats 6400000 in
theorem packetAwake_any (w : World) : Calls Try.prog 40 #[] w fun e w' => e = .returned (.bool true) ∧ Below w.heap.size w w' := by
  have R0 := Lib.hid (show Rec (w.alloc (.cells #[.int .i64 3, .int .i64 0, .int .i64 0, .int .i64 0, .int .i64 7, .int .i64 0, .int .i64 1, .int .i64 300, .string ⟨#[104, 105]⟩] 56)) w.heap.size [3, 0, 0, 0, 7, 0, 1, 300] [.string ⟨#[104, 105]⟩] from rec_new w [3, 0, 0, 0, 7, 0, 1, 300] [.string ⟨#[104, 105]⟩] 56)
  have B0 := Lib.hid (show Below w.heap.size w (w.alloc (.cells #[.int .i64 3, .int .i64 0, .int .i64 0, .int .i64 0, .int .i64 7, .int .i64 0, .int .i64 1, .int .i64 300, .string ⟨#[104, 105]⟩] 56)) from (Below.refl _ _).alloc (Nat.le_refl _) _)
  have hq := packetAw_eq
  have hg := guard56
  go_enter Try.func40, Try.ntmps40
  go_wp2_with fail
  refine (packetAw1 _).mono ?_
  rintro e w1 ⟨rfl, b⟩
  have R1 := Lib.hid (R0.out.below b)
  have B1 := Lib.hid (B0.out.trans (b.mono B0.out.size))
  clear b R0 B0
  go_wp2_with fail
  refine (packetAw2 _).mono ?_
  rintro e w2 ⟨rfl, b⟩
  have bb := b.trans (show Below w1.heap.size w2 (w2.alloc (.cells #[.int .i64 3, .int .i64 0, .int .i64 0, .int .i64 0, .int .i64 7, .int .i64 0, .int .i64 1, .int .i64 300, .string ⟨#[104, 105]⟩] 56)) from (Below.refl _ _).alloc b.size _)
  have R2 := Lib.hid (R1.out.below bb)
  have B2 := Lib.hid (B1.out.trans (bb.mono B1.out.size))
  have Q2 := Lib.hid (show Rec (w2.alloc (.cells #[.int .i64 3, .int .i64 0, .int .i64 0, .int .i64 0, .int .i64 7, .int .i64 0, .int .i64 1, .int .i64 300, .string ⟨#[104, 105]⟩] 56)) w2.heap.size [3, 0, 0, 0, 7, 0, 1, 300] [.string ⟨#[104, 105]⟩] from rec_new w2 [3, 0, 0, 0, 7, 0, 1, 300] [.string ⟨#[104, 105]⟩] 56)
  clear b bb R1 B1
  go_wp2_with fail
  refine (packetAw3 _).mono ?_
  rintro e w3 ⟨rfl, b⟩
  have bb := b.trans (show Below (w2.alloc (.cells #[.int .i64 3, .int .i64 0, .int .i64 0, .int .i64 0, .int .i64 7, .int .i64 0, .int .i64 1, .int .i64 300, .string ⟨#[104, 105]⟩] 56)).heap.size w3 (w3.alloc (.cells #[.int .i64 0, .int .i64 0, .int .i64 0, .int .i64 0, .int .i64 0, .int .i64 0, .int .i64 0, .int .i64 0, .string ⟨#[]⟩] 56)) from (Below.refl _ _).alloc b.size _)
  have R3 := Lib.hid (R2.out.below bb)
  have Q3 := Lib.hid (Q2.out.below bb)
  have B3 := Lib.hid (B2.out.trans (bb.mono B2.out.size))
  clear b bb R2 Q2 B2
  go_wp2_with fail
  refine (packetAw4 _).mono ?_
  rintro e w4 ⟨rfl, b⟩
  have R4 := Lib.hid (R3.out.below b)
  have Q4 := Lib.hid (Q3.out.below b)
  have B4 := Lib.hid (B3.out.trans (b.mono B3.out.size))
  clear b R3 Q3 B3
  have x0 : w4.cell? ⟨w.heap.size, 0, none⟩ = some (.int .i64 3) := R4.out.1 0 (by decide)
  have x1 : w4.cell? ⟨w.heap.size, 1, none⟩ = some (.int .i64 0) := R4.out.1 1 (by decide)
  have x2 : w4.cell? ⟨w.heap.size, 2, none⟩ = some (.int .i64 0) := R4.out.1 2 (by decide)
  have x3 : w4.cell? ⟨w.heap.size, 3, none⟩ = some (.int .i64 0) := R4.out.1 3 (by decide)
  have x4 : w4.cell? ⟨w.heap.size, 4, none⟩ = some (.int .i64 7) := R4.out.1 4 (by decide)
  have x5 : w4.cell? ⟨w.heap.size, 5, none⟩ = some (.int .i64 0) := R4.out.1 5 (by decide)
  have x6 : w4.cell? ⟨w.heap.size, 6, none⟩ = some (.int .i64 1) := R4.out.1 6 (by decide)
  have x7 : w4.cell? ⟨w.heap.size, 7, none⟩ = some (.int .i64 300) := R4.out.1 7 (by decide)
  have x8 : w4.cell? ⟨w.heap.size, 8, none⟩ = some (.string ⟨#[104, 105]⟩) := R4.out.2 0 (by decide)
  have y0 : w4.cell? ⟨w2.heap.size, 0, none⟩ = some (.int .i64 3) := Q4.out.1 0 (by decide)
  have y1 : w4.cell? ⟨w2.heap.size, 1, none⟩ = some (.int .i64 0) := Q4.out.1 1 (by decide)
  have y2 : w4.cell? ⟨w2.heap.size, 2, none⟩ = some (.int .i64 0) := Q4.out.1 2 (by decide)
  have y3 : w4.cell? ⟨w2.heap.size, 3, none⟩ = some (.int .i64 0) := Q4.out.1 3 (by decide)
  have y4 : w4.cell? ⟨w2.heap.size, 4, none⟩ = some (.int .i64 7) := Q4.out.1 4 (by decide)
  have y5 : w4.cell? ⟨w2.heap.size, 5, none⟩ = some (.int .i64 0) := Q4.out.1 5 (by decide)
  have y6 : w4.cell? ⟨w2.heap.size, 6, none⟩ = some (.int .i64 1) := Q4.out.1 6 (by decide)
  have y7 : w4.cell? ⟨w2.heap.size, 7, none⟩ = some (.int .i64 300) := Q4.out.1 7 (by decide)
  have y8 : w4.cell? ⟨w2.heap.size, 8, none⟩ = some (.string ⟨#[104, 105]⟩) := Q4.out.2 0 (by decide)
  go_wp2_with (first | (go_at_call 23; refine (num_any _ _).mono ?_; rintro e w' ⟨rfl, rfl⟩))
  refine (packetAw5 _).mono ?_
  rintro e w5 ⟨rfl, b⟩
  have B5 := Lib.hid (B4.out.trans (b.mono B4.out.size))
  clear b
  go_wp2_with fail
  refine (packetAw6 _).mono ?_
  rintro e w6 ⟨rfl, b⟩
  have B6 := Lib.hid (B5.out.trans (b.mono B5.out.size))
  clear b
  go_wp2
  go_ret
  exact ⟨rfl, B6.out⟩
end Go.Proofs.Ythkbeigimdgamaa
