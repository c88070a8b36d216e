/- awake of bastionlaw6 -/
import Derived.Test.YthkbeigimdgamaaAdminE
namespace Go.Proofs.Ythkbeigimdgamaa
open Go Go.RowKit

theorem adminAw_may : adminS.may [0, 7, 1, 2, 3, 0] [] = true := by decide
theorem adminAw_put : adminS.enc [0, 7, 1, 2, 3, 0] [] = [0, 1, 7, 1, 1, 1, 2, 1, 3] := by
  show numF 0 ++ (numsF [7, 1, 2, 3] ++ []) = _
  simp [numsF, numF, numMayB, numL, widthN, beN]
theorem adminAw_ok : adminS.ok [0, 1, 7, 1, 1, 1, 2, 1, 3] = true := by rw [← adminAw_put]; exact (adminS.ok_fwd [0, 7, 1, 2, 3, 0] [] rfl adminAw_may).1
theorem adminAw_getC : adminS.getC [0, 1, 7, 1, 1, 1, 2, 1, 3] = [0, 7, 1, 2, 3, 0] := by
  rw [Sp.getC, adminAw_ok, if_pos rfl, ← adminAw_put]; exact (adminS.ok_fwd [0, 7, 1, 2, 3, 0] [] rfl adminAw_may).2.1
theorem adminAw_getD : adminS.getD [0, 1, 7, 1, 1, 1, 2, 1, 3] = [] := by
  rw [Sp.getD, adminAw_ok, if_pos rfl, ← adminAw_put]; exact (adminS.ok_fwd [0, 7, 1, 2, 3, 0] [] rfl adminAw_may).2.2
theorem adminAw_rd : rdNum [1, 8] (some 0) = (8, some 2) := by
  have h := getF_fwd [1, 8] [] 0 8 (by decide) (by simp [numL, widthN, beN])
  have h2 : (numL 8).length = 2 := by simp [numL, widthN, beN]
  rw [h2] at h
  show ((getF [1, 8] ((0 : Nat) : Int)).1, stOf (getF [1, 8] ((0 : Nat) : Int)).2.1 (getF [1, 8] ((0 : Nat) : Int)).2.2) = _
  rw [h]
  rfl
theorem adminAw_bad : adminS.ok [1, 8] = false := by
  unfold Sp.ok Sp.body
  rw [adminAw_rd]
  rfl
theorem adminAw_may2 : adminS.may [3, 1, 0, 0, 0, 0] [] = false := by decide
theorem adminAw_may3 : adminS.may [5, 0, 0, 0, 0, 0] [] = false := by decide

theorem adminAw1 (w : World) : Calls Try.prog 19 #[.agg #[.int .i64 0, .int .i64 7, .int .i64 1, .int .i64 2, .int .i64 3, .int .i64 0]] w fun e w' => e = .returned (.tuple #[.string ⟨#[0, 1, 7, 1, 1, 1, 2, 1, 3]⟩, .int .i64 0]) ∧ Below w.heap.size w w' := by
  have h := adminPut_any 0 7 1 2 3 0 w
  rw [Sp.put, adminAw_may, if_pos rfl, adminAw_put] at h
  exact h
theorem adminAw2 (w : World) : Calls Try.prog 21 #[.string ⟨#[0, 1, 7, 1, 1, 1, 2, 1, 3]⟩] w fun e w' => e = .returned (.tuple #[.agg #[.int .i64 0, .int .i64 7, .int .i64 1, .int .i64 2, .int .i64 3, .int .i64 0], .int .i64 0]) ∧ Below w.heap.size w w' := by
  have h := adminGet_any [0, 1, 7, 1, 1, 1, 2, 1, 3] (by decide) w
  rw [adminAw_getC, adminAw_ok] at h
  exact h
theorem adminAw3 (w : World) : Calls Try.prog 21 #[.string ⟨#[1, 8]⟩] w fun e w' => e = .returned (.tuple #[.agg #[.int .i64 0, .int .i64 0, .int .i64 0, .int .i64 0, .int .i64 0, .int .i64 0], .int .i64 600]) ∧ Below w.heap.size w w' := by
  have h := adminGet_any [1, 8] (by decide) w
  rw [Sp.getC, adminAw_bad] at h
  exact h
theorem adminAw4 (w : World) : Calls Try.prog 19 #[.agg #[.int .i64 3, .int .i64 1, .int .i64 0, .int .i64 0, .int .i64 0, .int .i64 0]] w fun e w' => e = .returned (.tuple #[.string ⟨#[]⟩, .int .i64 600]) ∧ Below w.heap.size w w' := by
  have h := adminPut_any 3 1 0 0 0 0 w
  rw [Sp.put, adminAw_may2] at h
  exact h
theorem adminAw5 (w : World) : Calls Try.prog 24 #[.agg #[.int .i64 0, .int .i64 7, .int .i64 1, .int .i64 2, .int .i64 3, .int .i64 0]] w fun e w' => e = .returned (.bool true) ∧ Below w.heap.size w w' := by
  have h := adminMay_any 0 7 1 2 3 0 w
  rw [adminAw_may] at h
  exact h
theorem adminAw6 (w : World) : Calls Try.prog 24 #[.agg #[.int .i64 5, .int .i64 0, .int .i64 0, .int .i64 0, .int .i64 0, .int .i64 0]] w fun e w' => e = .returned (.bool false) ∧ Below w.heap.size w w' := by
  have h := adminMay_any 5 0 0 0 0 0 w
  rw [adminAw_may3] at h
  exact h

theorem adminAw_eq (w : World) : (binOp .eql 23 (.agg #[.int .i64 0, .int .i64 7, .int .i64 1, .int .i64 2, .int .i64 3, .int .i64 0]) (.agg #[.int .i64 0, .int .i64 7, .int .i64 1, .int .i64 2, .int .i64 3, .int .i64 0])).run Try.prog w = .ok (.bool true) w := by
  have h := run_eqlAdmin 0 7 1 2 3 0 0 7 1 2 3 0 w
  rw [h]
  rfl

set_option maxRecDepth 100000 in
set_option maxHeartbeats 6400000 in
theorem adminAwake_any (w : World) : Calls Try.prog 26 #[] w fun e w' => e = .returned (.bool true) ∧ Below w.heap.size w w' := by
  have R0 := Lib.hid (show Rec (w.alloc (.cells #[.int .i64 0, .int .i64 7, .int .i64 1, .int .i64 2, .int .i64 3, .int .i64 0] 23)) w.heap.size [0, 7, 1, 2, 3, 0] [] from rec_new w [0, 7, 1, 2, 3, 0] [] 23)
  have B0 := Lib.hid (show Below w.heap.size w (w.alloc (.cells #[.int .i64 0, .int .i64 7, .int .i64 1, .int .i64 2, .int .i64 3, .int .i64 0] 23)) from (Below.refl _ _).alloc (Nat.le_refl _) _)
  have hq := adminAw_eq
  have hg := guard23
  go_enter Try.func26, Try.ntmps26
  go_wp2_with fail
  refine (adminAw1 _).mono ?_
  rintro e w1 ⟨rfl, b⟩
  have R1 := Lib.hid (R0.out.below b)
  have B1 := Lib.hid (B0.out.trans (b.mono B0.out.size))
  clear b R0 B0
  go_wp2_with fail
  refine (adminAw2 _).mono ?_
  rintro e w2 ⟨rfl, b⟩
  have bb := b.trans (show Below w1.heap.size w2 (w2.alloc (.cells #[.int .i64 0, .int .i64 7, .int .i64 1, .int .i64 2, .int .i64 3, .int .i64 0] 23)) from (Below.refl _ _).alloc b.size _)
  have R2 := Lib.hid (R1.out.below bb)
  have B2 := Lib.hid (B1.out.trans (bb.mono B1.out.size))
  have Q2 := Lib.hid (show Rec (w2.alloc (.cells #[.int .i64 0, .int .i64 7, .int .i64 1, .int .i64 2, .int .i64 3, .int .i64 0] 23)) w2.heap.size [0, 7, 1, 2, 3, 0] [] from rec_new w2 [0, 7, 1, 2, 3, 0] [] 23)
  clear b bb R1 B1
  go_wp2_with fail
  refine (adminAw3 _).mono ?_
  rintro e w3 ⟨rfl, b⟩
  have bb := b.trans (show Below (w2.alloc (.cells #[.int .i64 0, .int .i64 7, .int .i64 1, .int .i64 2, .int .i64 3, .int .i64 0] 23)).heap.size w3 (w3.alloc (.cells #[.int .i64 0, .int .i64 0, .int .i64 0, .int .i64 0, .int .i64 0, .int .i64 0] 23)) from (Below.refl _ _).alloc b.size _)
  have R3 := Lib.hid (R2.out.below bb)
  have Q3 := Lib.hid (Q2.out.below bb)
  have B3 := Lib.hid (B2.out.trans (bb.mono B2.out.size))
  clear b bb R2 Q2 B2
  go_wp2_with fail
  refine (adminAw4 _).mono ?_
  rintro e w4 ⟨rfl, b⟩
  have R4 := Lib.hid (R3.out.below b)
  have Q4 := Lib.hid (Q3.out.below b)
  have B4 := Lib.hid (B3.out.trans (b.mono B3.out.size))
  clear b R3 Q3 B3
  have x0 : w4.cell? ⟨w.heap.size, 0, none⟩ = some (.int .i64 0) := R4.out.1 0 (by decide)
  have x1 : w4.cell? ⟨w.heap.size, 1, none⟩ = some (.int .i64 7) := R4.out.1 1 (by decide)
  have x2 : w4.cell? ⟨w.heap.size, 2, none⟩ = some (.int .i64 1) := R4.out.1 2 (by decide)
  have x3 : w4.cell? ⟨w.heap.size, 3, none⟩ = some (.int .i64 2) := R4.out.1 3 (by decide)
  have x4 : w4.cell? ⟨w.heap.size, 4, none⟩ = some (.int .i64 3) := R4.out.1 4 (by decide)
  have x5 : w4.cell? ⟨w.heap.size, 5, none⟩ = some (.int .i64 0) := R4.out.1 5 (by decide)
  have y0 : w4.cell? ⟨w2.heap.size, 0, none⟩ = some (.int .i64 0) := Q4.out.1 0 (by decide)
  have y1 : w4.cell? ⟨w2.heap.size, 1, none⟩ = some (.int .i64 7) := Q4.out.1 1 (by decide)
  have y2 : w4.cell? ⟨w2.heap.size, 2, none⟩ = some (.int .i64 1) := Q4.out.1 2 (by decide)
  have y3 : w4.cell? ⟨w2.heap.size, 3, none⟩ = some (.int .i64 2) := Q4.out.1 3 (by decide)
  have y4 : w4.cell? ⟨w2.heap.size, 4, none⟩ = some (.int .i64 3) := Q4.out.1 4 (by decide)
  have y5 : w4.cell? ⟨w2.heap.size, 5, none⟩ = some (.int .i64 0) := Q4.out.1 5 (by decide)
  go_wp2_with (first | (go_at_call 23; refine (num_any _ _).mono ?_; rintro e w' ⟨rfl, rfl⟩))
  refine (adminAw5 _).mono ?_
  rintro e w5 ⟨rfl, b⟩
  have B5 := Lib.hid (B4.out.trans (b.mono B4.out.size))
  clear b
  go_wp2_with fail
  refine (adminAw6 _).mono ?_
  rintro e w6 ⟨rfl, b⟩
  have B6 := Lib.hid (B5.out.trans (b.mono B5.out.size))
  clear b
  go_wp2
  go_ret
  exact ⟨rfl, B6.out⟩
end Go.Proofs.Ythkbeigimdgamaa
