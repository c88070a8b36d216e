/- awake of the pool's statements. -/
import Derived.Test.YtapacdkcekbnaaaN
namespace Go.Proofs.Ytapacdkcekbnaaa
open Go Go.RowKit

theorem Gives.some {w w' : World} {B : Nat} {r : Option (List Ad)} {e : Ending} (h : Gives B r w e w') {l : List Ad} (hr : r = Option.some l) :
    ∃ v', e = .returned (.tuple #[v', .int .i64 0]) ∧ Own w' B v' l ∧ Below B w w' := by
  subst hr
  exact h

theorem Gives.none_ {w w' : World} {B : Nat} {r : Option (List Ad)} {e : Ending} (h : Gives B r w e w') (hr : r = Option.none) :
    ∃ v', e = .returned (.tuple #[v', .int .i64 1600]) ∧ Own w' B v' [] ∧ Below B w w' := by
  subst hr
  exact h

def three : List Ad := [fresh, fresh, fresh]
def threeA : List Ad := [fresh, ⟨true, 4, 0⟩, fresh]
def threeB : List Ad := [fresh, ⟨false, 4, 9⟩, fresh]

theorem f1 : newF 3 = some three := by decide
theorem f2 : newF 17 = none := by decide
theorem f3 : takeF three 1 4 = some threeA := by decide
theorem f4 : leaseF threeA 4 0 = (0, 0) := by decide
theorem f5 : freeF threeA 1 9 = some threeB := by decide
theorem f6 : leaseF threeB 4 8 = (0, 0) := by decide
theorem f7 : leaseF threeB 4 9 = (1, 0) := by decide
theorem f8 : takeF threeA 1 4 = none := by decide
theorem f9 : freeF threeB 1 9 = none := by decide

theorem three_len : three.length = 3 := rfl
theorem threeB_len : threeB.length = 3 := rfl

set_option maxRecDepth 100000 in
set_option maxHeartbeats 4000000 in
theorem awake_any (w : World) : Calls Try.prog 21 #[] w fun e w' => e = .returned (.bool true) ∧ Below w.heap.size w w' := by
  have hnum := num_any
  go_enter Try.func21, Try.ntmps21
  go_wp2_with fail
  refine (new_any 3 _).mono ?_
  intro e w1 h
  obtain ⟨v1, rfl, o1, b1⟩ := h.some f1
  clear h
  obtain ⟨g1, c1, rfl, hg1, hgs1, hc1⟩ := o1.form (by decide)
  have S1 := Lib.hid o1.sl
  have B1 := Lib.hid b1
  have C1 := Lib.hid (show _ ∧ _ from (o1.elem 2 (by decide)).1.2)
  clear o1 b1 hc1
  go_wp2_with fail
  refine (new_any 17 _).mono ?_
  intro e w2 h
  obtain ⟨v2, rfl, o2, b2⟩ := h.none_ f2
  clear h
  replace S1 := Lib.hid (S1.out.below b2)
  replace C1 := Lib.hid (keep_cell C1.out.1 b2)
  replace B1 := Lib.hid (Below.next B1.out b2)
  clear o2 b2
  go_wp2_with fail
  refine (take_any _ three 1 4 _ S1.out).mono ?_
  intro e w3 h
  obtain ⟨v3, rfl, o3, b3⟩ := h.some f3
  clear h S1
  have S3 := Lib.hid o3.sl
  replace C1 := Lib.hid (keep_cell C1.out b3)
  replace B1 := Lib.hid (Below.next B1.out b3)
  clear o3 b3
  go_wp2_with fail
  refine (lease_any _ threeA 4 0 _ S3.out).mono ?_
  rw [f4]
  rintro e w4 ⟨rfl, b4⟩
  replace S3 := Lib.hid (S3.out.below b4)
  replace C1 := Lib.hid (keep_cell C1.out b4)
  replace B1 := Lib.hid (Below.next B1.out b4)
  clear b4
  go_wp2_with fail
  refine (free_call _ threeA 1 9 _ S3.out).mono ?_
  intro e w5 h
  obtain ⟨v5, rfl, o5, b5⟩ := h.some f5
  clear h
  obtain ⟨g5, c5, rfl, hg5, hgs5, hc5⟩ := o5.form (by decide)
  have S5 := Lib.hid o5.sl
  replace S3 := Lib.hid (S3.out.below b5)
  replace C1 := Lib.hid (keep_cell C1.out b5)
  replace B1 := Lib.hid (Below.next B1.out b5)
  clear o5 b5 hc5
  go_wp2_with fail
  refine (lease_any _ threeB 4 8 _ S5.out).mono ?_
  rw [f6]
  rintro e w6 ⟨rfl, b6⟩
  replace S3 := Lib.hid (S3.out.below b6)
  replace S5 := Lib.hid (S5.out.below b6)
  replace C1 := Lib.hid (keep_cell C1.out b6)
  replace B1 := Lib.hid (Below.next B1.out b6)
  clear b6
  go_wp2_with fail
  refine (lease_any _ threeB 4 9 _ S5.out).mono ?_
  rw [f7]
  rintro e w7 ⟨rfl, b7⟩
  replace S3 := Lib.hid (S3.out.below b7)
  replace S5 := Lib.hid (S5.out.below b7)
  replace C1 := Lib.hid (keep_cell C1.out b7)
  replace B1 := Lib.hid (Below.next B1.out b7)
  clear b7
  go_wp2_with fail
  refine (take_any _ threeA 1 4 _ S3.out).mono ?_
  intro e w8 h
  obtain ⟨v8, rfl, o8, b8⟩ := h.none_ f8
  clear h S3 o8
  replace S5 := Lib.hid (S5.out.below b8)
  replace C1 := Lib.hid (keep_cell C1.out b8)
  replace B1 := Lib.hid (Below.next B1.out b8)
  clear b8
  go_wp2_with fail
  refine (free_call _ threeB 1 9 _ S5.out).mono ?_
  intro e w9 h
  obtain ⟨v9, rfl, o9, b9⟩ := h.none_ f9
  clear h S5 o9
  replace C1 := Lib.hid (keep_cell C1.out b9)
  replace B1 := Lib.hid (Below.next B1.out b9)
  clear b9
  have cc : w9.cell? ⟨g1, 7, none⟩ = some (.int .i64 (-1)) := C1.out
  have l1 := three_len
  have l2 := threeB_len
  clear C1
  go_wp2_with (go_at_call 17; refine (hnum _ _).mono ?_; rintro e w' ⟨rfl, rfl⟩)
  go_ret
  exact ⟨rfl, B1.out⟩
end Go.Proofs.Ytapacdkcekbnaaa
