/- awake of bastionlaw7 -/
import Derived.Test.YthkbeigimdgamaaEventE
namespace Go.Proofs.Ythkbeigimdgamaa
open Go Go.RowKit

theorem eventAw_may : eventS.may [5, 2, 1, 3, 0, 0, 0, 4] [] = true := by decide
theorem eventAw_put : eventS.enc [5, 2, 1, 3, 0, 0, 0, 4] [] = [1, 5, 1, 1, 1, 2, 1, 3, 1, 4] := by
  show numF 5 ++ (numsF [1, 2, 3, 4] ++ []) = _
  simp [numsF, numF, numMayB, numL, widthN, beN]
theorem eventAw_ok : eventS.ok [1, 5, 1, 1, 1, 2, 1, 3, 1, 4] = true := by rw [← eventAw_put]; exact (eventS.ok_fwd [5, 2, 1, 3, 0, 0, 0, 4] [] rfl eventAw_may).1
theorem eventAw_getC : eventS.getC [1, 5, 1, 1, 1, 2, 1, 3, 1, 4] = [5, 2, 1, 3, 0, 0, 0, 4] := by
  rw [Sp.getC, eventAw_ok, if_pos rfl, ← eventAw_put]; exact (eventS.ok_fwd [5, 2, 1, 3, 0, 0, 0, 4] [] rfl eventAw_may).2.1
theorem eventAw_getD : eventS.getD [1, 5, 1, 1, 1, 2, 1, 3, 1, 4] = [] := by
  rw [Sp.getD, eventAw_ok, if_pos rfl, ← eventAw_put]; exact (eventS.ok_fwd [5, 2, 1, 3, 0, 0, 0, 4] [] rfl eventAw_may).2.2
theorem eventAw_rd : rdNum [6, 1, 2, 5, 0] (some 0) = (0, none) := by
  decide
theorem eventAw_bad : eventS.ok [6, 1, 2, 5, 0] = false := by
  unfold Sp.ok Sp.body
  rw [eventAw_rd]
  rfl
theorem eventAw_may2 : eventS.may [8, 0, 0, 0, 1, 0, 0, 0] [] = false := by decide
theorem eventAw_may3 : eventS.may [10, 0, 0, 0, 0, 0, 0, 0] [] = false := by decide

theorem eventAw1 (w : World) : Calls Try.prog 27 #[.agg #[.int .i64 5, .int .i64 2, .int .i64 1, .int .i64 3, .int .i64 0, .int .i64 0, .int .i64 0, .int .i64 4]] w fun e w' => e = .returned (.tuple #[.string ⟨#[1, 5, 1, 1, 1, 2, 1, 3, 1, 4]⟩, .int .i64 0]) ∧ Below w.heap.size w w' := by
  have h := eventPut_any 5 2 1 3 0 0 0 4 w
  rw [Sp.put, eventAw_may, if_pos rfl, eventAw_put] at h
  exact h
theorem eventAw2 (w : World) : Calls Try.prog 29 #[.string ⟨#[1, 5, 1, 1, 1, 2, 1, 3, 1, 4]⟩] w fun e w' => e = .returned (.tuple #[.agg #[.int .i64 5, .int .i64 2, .int .i64 1, .int .i64 3, .int .i64 0, .int .i64 0, .int .i64 0, .int .i64 4], .int .i64 0]) ∧ Below w.heap.size w w' := by
  have h := eventGet_any [1, 5, 1, 1, 1, 2, 1, 3, 1, 4] (by decide) w
  rw [eventAw_getC, eventAw_ok] at h
  exact h
theorem eventAw3 (w : World) : Calls Try.prog 29 #[.string ⟨#[6, 1, 2, 5, 0]⟩] w fun e w' => e = .returned (.tuple #[.agg #[.int .i64 0, .int .i64 0, .int .i64 0, .int .i64 0, .int .i64 0, .int .i64 0, .int .i64 0, .int .i64 0], .int .i64 700]) ∧ Below w.heap.size w w' := by
  have h := eventGet_any [6, 1, 2, 5, 0] (by decide) w
  rw [Sp.getC, eventAw_bad] at h
  exact h
theorem eventAw4 (w : World) : Calls Try.prog 27 #[.agg #[.int .i64 8, .int .i64 0, .int .i64 0, .int .i64 0, .int .i64 1, .int .i64 0, .int .i64 0, .int .i64 0]] w fun e w' => e = .returned (.tuple #[.string ⟨#[]⟩, .int .i64 700]) ∧ Below w.heap.size w w' := by
  have h := eventPut_any 8 0 0 0 1 0 0 0 w
  rw [Sp.put, eventAw_may2] at h
  exact h
theorem eventAw5 (w : World) : Calls Try.prog 31 #[.agg #[.int .i64 5, .int .i64 2, .int .i64 1, .int .i64 3, .int .i64 0, .int .i64 0, .int .i64 0, .int .i64 4]] w fun e w' => e = .returned (.bool true) ∧ Below w.heap.size w w' := by
  have h := eventMay_any 5 2 1 3 0 0 0 4 w
  rw [eventAw_may] at h
  exact h
theorem eventAw6 (w : World) : Calls Try.prog 31 #[.agg #[.int .i64 10, .int .i64 0, .int .i64 0, .int .i64 0, .int .i64 0, .int .i64 0, .int .i64 0, .int .i64 0]] w fun e w' => e = .returned (.bool false) ∧ Below w.heap.size w w' := by
  have h := eventMay_any 10 0 0 0 0 0 0 0 w
  rw [eventAw_may3] at h
  exact h

theorem eventAw_eq (w : World) : (binOp .eql 43 (.agg #[.int .i64 5, .int .i64 2, .int .i64 1, .int .i64 3, .int .i64 0, .int .i64 0, .int .i64 0, .int .i64 4]) (.agg #[.int .i64 5, .int .i64 2, .int .i64 1, .int .i64 3, .int .i64 0, .int .i64 0, .int .i64 0, .int .i64 4])).run Try.prog w = .ok (.bool true) w := by
  have h := run_eqlEvent 5 2 1 3 0 0 0 4 5 2 1 3 0 0 0 4 w
  rw [h]
  rfl

set_option maxRecDepth 100000 in
set_option maxHeartbeats 6400000 in
theorem eventAwake_any (w : World) : Calls Try.prog 33 #[] w fun e w' => e = .returned (.bool true) ∧ Below w.heap.size w w' := by
  have R0 := Lib.hid (show Rec (w.alloc (.cells #[.int .i64 5, .int .i64 2, .int .i64 1, .int .i64 3, .int .i64 0, .int .i64 0, .int .i64 0, .int .i64 4] 43)) w.heap.size [5, 2, 1, 3, 0, 0, 0, 4] [] from rec_new w [5, 2, 1, 3, 0, 0, 0, 4] [] 43)
  have B0 := Lib.hid (show Below w.heap.size w (w.alloc (.cells #[.int .i64 5, .int .i64 2, .int .i64 1, .int .i64 3, .int .i64 0, .int .i64 0, .int .i64 0, .int .i64 4] 43)) from (Below.refl _ _).alloc (Nat.le_refl _) _)
  have hq := eventAw_eq
  have hg := guard43
  go_enter Try.func33, Try.ntmps33
  go_wp2_with fail
  refine (eventAw1 _).mono ?_
  rintro e w1 ⟨rfl, b⟩
  have R1 := Lib.hid (R0.out.below b)
  have B1 := Lib.hid (B0.out.trans (b.mono B0.out.size))
  clear b R0 B0
  go_wp2_with fail
  refine (eventAw2 _).mono ?_
  rintro e w2 ⟨rfl, b⟩
  have bb := b.trans (show Below w1.heap.size w2 (w2.alloc (.cells #[.int .i64 5, .int .i64 2, .int .i64 1, .int .i64 3, .int .i64 0, .int .i64 0, .int .i64 0, .int .i64 4] 43)) from (Below.refl _ _).alloc b.size _)
  have R2 := Lib.hid (R1.out.below bb)
  have B2 := Lib.hid (B1.out.trans (bb.mono B1.out.size))
  have Q2 := Lib.hid (show Rec (w2.alloc (.cells #[.int .i64 5, .int .i64 2, .int .i64 1, .int .i64 3, .int .i64 0, .int .i64 0, .int .i64 0, .int .i64 4] 43)) w2.heap.size [5, 2, 1, 3, 0, 0, 0, 4] [] from rec_new w2 [5, 2, 1, 3, 0, 0, 0, 4] [] 43)
  clear b bb R1 B1
  go_wp2_with fail
  refine (eventAw3 _).mono ?_
  rintro e w3 ⟨rfl, b⟩
  have bb := b.trans (show Below (w2.alloc (.cells #[.int .i64 5, .int .i64 2, .int .i64 1, .int .i64 3, .int .i64 0, .int .i64 0, .int .i64 0, .int .i64 4] 43)).heap.size w3 (w3.alloc (.cells #[.int .i64 0, .int .i64 0, .int .i64 0, .int .i64 0, .int .i64 0, .int .i64 0, .int .i64 0, .int .i64 0] 43)) from (Below.refl _ _).alloc b.size _)
  have R3 := Lib.hid (R2.out.below bb)
  have Q3 := Lib.hid (Q2.out.below bb)
  have B3 := Lib.hid (B2.out.trans (bb.mono B2.out.size))
  clear b bb R2 Q2 B2
  go_wp2_with fail
  refine (eventAw4 _).mono ?_
  rintro e w4 ⟨rfl, b⟩
  have R4 := Lib.hid (R3.out.below b)
  have Q4 := Lib.hid (Q3.out.below b)
  have B4 := Lib.hid (B3.out.trans (b.mono B3.out.size))
  clear b R3 Q3 B3
  have x0 : w4.cell? ⟨w.heap.size, 0, none⟩ = some (.int .i64 5) := R4.out.1 0 (by decide)
  have x1 : w4.cell? ⟨w.heap.size, 1, none⟩ = some (.int .i64 2) := R4.out.1 1 (by decide)
  have x2 : w4.cell? ⟨w.heap.size, 2, none⟩ = some (.int .i64 1) := R4.out.1 2 (by decide)
  have x3 : w4.cell? ⟨w.heap.size, 3, none⟩ = some (.int .i64 3) := R4.out.1 3 (by decide)
  have x4 : w4.cell? ⟨w.heap.size, 4, none⟩ = some (.int .i64 0) := R4.out.1 4 (by decide)
  have x5 : w4.cell? ⟨w.heap.size, 5, none⟩ = some (.int .i64 0) := R4.out.1 5 (by decide)
  have x6 : w4.cell? ⟨w.heap.size, 6, none⟩ = some (.int .i64 0) := R4.out.1 6 (by decide)
  have x7 : w4.cell? ⟨w.heap.size, 7, none⟩ = some (.int .i64 4) := R4.out.1 7 (by decide)
  have y0 : w4.cell? ⟨w2.heap.size, 0, none⟩ = some (.int .i64 5) := Q4.out.1 0 (by decide)
  have y1 : w4.cell? ⟨w2.heap.size, 1, none⟩ = some (.int .i64 2) := Q4.out.1 1 (by decide)
  have y2 : w4.cell? ⟨w2.heap.size, 2, none⟩ = some (.int .i64 1) := Q4.out.1 2 (by decide)
  have y3 : w4.cell? ⟨w2.heap.size, 3, none⟩ = some (.int .i64 3) := Q4.out.1 3 (by decide)
  have y4 : w4.cell? ⟨w2.heap.size, 4, none⟩ = some (.int .i64 0) := Q4.out.1 4 (by decide)
  have y5 : w4.cell? ⟨w2.heap.size, 5, none⟩ = some (.int .i64 0) := Q4.out.1 5 (by decide)
  have y6 : w4.cell? ⟨w2.heap.size, 6, none⟩ = some (.int .i64 0) := Q4.out.1 6 (by decide)
  have y7 : w4.cell? ⟨w2.heap.size, 7, none⟩ = some (.int .i64 4) := Q4.out.1 7 (by decide)
  go_wp2_with (first | (go_at_call 23; refine (num_any _ _).mono ?_; rintro e w' ⟨rfl, rfl⟩))
  refine (eventAw5 _).mono ?_
  rintro e w5 ⟨rfl, b⟩
  have B5 := Lib.hid (B4.out.trans (b.mono B4.out.size))
  clear b
  go_wp2_with fail
  refine (eventAw6 _).mono ?_
  rintro e w6 ⟨rfl, b⟩
  have B6 := Lib.hid (B5.out.trans (b.mono B5.out.size))
  clear b
  go_wp2
  go_ret
  exact ⟨rfl, B6.out⟩
end Go.Proofs.Ythkbeigimdgamaa
