/- A slice of whatever size that is made; and with a mask. -/
import Derived.Test.YtapacdkcekbnaaaQ
import Derived.Laws.BitsLemmas
import Derived.IntWalk
namespace Go.Proofs.Ytapacdkcekbnaaa
open Go Go.RowKit

theorem made_any (n : Nat) : madeCells (Value.agg #[.bool false, .int .i64 0, .int .i64 0]).cells (n * 3) = (cellsOf (List.replicate n zeroAd)).toArray := by
  apply Array.ext'
  induction n with
  | zero => simp [madeCells, cellsOf]
  | succ n ih =>
    have e : (n + 1) * 3 = n * 3 + 1 + 1 + 1 := by omega
    rw [e, List.replicate_succ', cellsOf_append]
    simp only [madeCells, Array.toList_map, Array.toList_range, List.range_succ, List.map_append, List.map_cons, List.map_nil, Value.cells] at ih ⊢
    rw [ih]
    have h0 : n * 3 % 3 = 0 := by omega
    have h1 : (n * 3 + 1) % 3 = 1 := by omega
    have h2 : (n * 3 + 1 + 1) % 3 = 2 := by omega
    simp [cellsOf, zeroAd, h0, h1, h2]

theorem run_make_any (n : Nat) (hn : n ≤ 4000000000) (w : World) : (Instr.makeSlice 22 (.int .i64 n) (.int .i64 n)).run Try.prog w = .ok (.slice (some ⟨w.heap.size, 0, none⟩) n n) (w.alloc (.cells (cellsOf (List.replicate n zeroAd)).toArray 46)) := by
  obtain ⟨i0, hi, hz0, hz1, hz2⟩ := info_parts Try.info46
  have hr := run_make (P := Try.prog) w 22 46 i0 _ Try.underlying22 hi hz0 .i64 .i64 (n : Int) (n : Int) (by omega) (Int.le_refl _) (by rw [hz2]; omega) (by omega)
  rw [hz1] at hr
  simp only [Int.toNat_natCast] at hr
  rw [made_any n] at hr
  exact hr

theorem sl_made (w : World) (l : List Ad) (hl : l.length ≤ 9223372036854775807) (c : Nat) : Sl (w.alloc (.cells (cellsOf l).toArray 46)) (.slice (some ⟨w.heap.size, 0, none⟩) l.length c) l :=
  ⟨hl, .inr ⟨w.heap.size, 0, c, rfl, by simp, (show Row _ w.heap.size l from heap_alloc_new w _).holds⟩⟩

theorem and_mask (x : Int) (k : Nat) (hk : k < 63) : ∃ m : Nat, bits .and .i64 x ((2 ^ k - 1 : Nat) : Int) = (m : Int) ∧ m ≤ 2 ^ k - 1 := by
  have hp : 2 ^ k < 2 ^ 63 := Nat.pow_lt_pow_right (by omega) hk
  refine ⟨(BitVec.ofInt 64 x).toNat &&& (2 ^ k - 1), ?_, Nat.and_le_right⟩
  show IntKind.i64.wrap ((BitVec.ofInt 64 x &&& BitVec.ofInt 64 ((2 ^ k - 1 : Nat) : Int)).toNat : Int) = _
  have h1 : (BitVec.ofInt 64 ((2 ^ k - 1 : Nat) : Int)).toNat = 2 ^ k - 1 := by
    rw [BitVec.ofInt_natCast, BitVec.toNat_ofNat]
    exact Nat.mod_eq_of_lt (by omega)
  rw [BitVec.toNat_and, h1, IntKind.wrap_i64]
  have h2 : (BitVec.ofInt 64 x).toNat &&& (2 ^ k - 1) ≤ 2 ^ k - 1 := Nat.and_le_right
  omega

def threeC : List Ad := [fresh, ⟨true, 5, 0⟩, fresh]
theorem g1 : takeF three 1 5 = some threeC := by decide

set_option maxRecDepth 100000 in
set_option maxHeartbeats 4000000 in
theorem forms_walk (which x : Int) (w : World) : Calls Try.prog 5 #[.int .i64 which, .int .i64 x] w fun e w' => e = .returned (.bool true) ∧ Below w.heap.size w w' := by
  have hnum := num_any
  obtain ⟨m, hm0, hm1⟩ := and_mask x 10 (by omega)
  simp only [Nat.reducePow, Nat.reduceSub] at hm1
  have hm : bits .and .i64 x 1023 = (m : Int) := hm0
  clear hm0
  obtain ⟨q, hq0, hq1⟩ : ∃ q : Nat, (IntKind.u64.wrap which).tmod 14 = (q : Int) ∧ q < 14 := by
    have h0 : 0 ≤ IntKind.u64.wrap which := by rw [IntKind.wrap_u64]; omega
    refine ⟨((IntKind.u64.wrap which).tmod 14).toNat, ?_, ?_⟩
    · rw [Int.tmod_eq_emod_of_nonneg h0]; omega
    · rw [Int.tmod_eq_emod_of_nonneg h0]; omega
  have HQ := Lib.hid hq0
  clear hq0
  go_enter Try.func5, Try.ntmps5
  go_wp2_with fail
  refine (awake_any _).mono ?_
  rintro e w1 ⟨rfl, b⟩
  have CH := Lib.hid b
  clear b
  go_wp2_with fail
  refine (new_any 3 _).mono ?_
  intro e w2 h
  obtain ⟨v1, rfl, o1, b⟩ := h.some f1
  clear h
  obtain ⟨g1, c1, rfl, hg1, hgs1, hc1⟩ := o1.form (by decide)
  have SA := Lib.hid o1.sl
  have C1 := Lib.hid (show _ ∧ _ from (o1.elem 1 (by decide)).1)
  replace CH := Lib.hid (Below.next CH.out b)
  clear o1 b hc1 hg1 hgs1
  go_wp2_with fail
  refine (take_any _ three 1 5 _ SA.out).mono ?_
  intro e w3 h
  obtain ⟨v3, rfl, o3, b⟩ := h.some Ytapacdkcekbnaaa.g1
  clear h
  obtain ⟨g2, c2, rfl, hg2, hgs2, hc2⟩ := o3.form (by decide)
  have SB := Lib.hid o3.sl
  have C2 := Lib.hid (show _ ∧ _ from (o3.elem 1 (by decide)).1)
  replace SA := Lib.hid (SA.out.below b)
  replace C1 := Lib.hid (keep_cell C1.out.1 b)
  replace CH := Lib.hid (Below.next CH.out b)
  clear o3 b hc2 hg2 hgs2
  have l1 := three_len
  have l2 : threeC.length = 3 := rfl
  have hcases : q = 0 ∨ q = 1 ∨ q = 2 ∨ q = 3 ∨ q = 4 ∨ q = 5 ∨ q = 6 ∨ q = 7 ∨ q = 8 ∨ q = 9 ∨ q = 10 ∨ q = 11 ∨ q = 12 ∨ q = 13 := by omega
  have heq : ∀ w, (binOp .eql 46 (.agg #[.bool true, .int .i64 5, .int .i64 0]) (.agg #[.bool true, .int .i64 5, .int .i64 0])).run Try.prog w = .ok (.bool true) w := fun w => by
    have := run_eqlAd ⟨true, 5, 0⟩ ⟨true, 5, 0⟩ w
    simpa [Ad.val] using this
  have hguard := guard46
  have C2a : Hid (w3.cell? ⟨g2, 3, none⟩ = some (.bool true) ∧ w3.cell? ⟨g2, 4, none⟩ = some (.int .i64 5) ∧ w3.cell? ⟨g2, 5, none⟩ = some (.int .i64 0)) := C2.out
  have C1a : Hid (w3.cell? ⟨g1, 3, none⟩ = some (.bool false)) := C1.out
  clear C1 C2 hq1
  rcases hcases with rfl | rfl | rfl | rfl | rfl | rfl | rfl | rfl | rfl | rfl | rfl | rfl | rfl | rfl
  · have hq : (IntKind.u64.wrap which).tmod 14 = 0 := HQ.out
    clear HQ
    go_wp2_with (go_at_call 17; refine (hnum _ _).mono ?_; rintro e w' ⟨rfl, rfl⟩)
    refine (new_any _ _).mono ?_
    intro e w4 h; obtain ⟨v4, rfl, o4, b4⟩ := h.none_ (by unfold newF; rw [if_pos (by omega)]); clear h o4
    have c1 := keep_cell C1a.out (by assumption)
    have c2 := keep_cell C2a.out.1 (by assumption)
    have c3 := keep_cell C2a.out.2.1 (by assumption)
    have c4 := keep_cell C2a.out.2.2 (by assumption)
    go_wp2_with (go_at_call 17; refine (hnum _ _).mono ?_; rintro e w' ⟨rfl, rfl⟩)
    go_ret
    exact ⟨rfl, Below.next CH.out (by assumption)⟩
  · have hq : (IntKind.u64.wrap which).tmod 14 = 1 := HQ.out
    clear HQ
    go_wp2_with (go_at_call 17; refine (hnum _ _).mono ?_; rintro e w' ⟨rfl, rfl⟩)
    refine (new_any _ _).mono ?_
    intro e w4 h; obtain ⟨v4, rfl, o4, b4⟩ := h.none_ (by unfold newF; rw [if_pos (by omega)]); clear h o4
    have c1 := keep_cell C1a.out (by assumption)
    have c2 := keep_cell C2a.out.1 (by assumption)
    have c3 := keep_cell C2a.out.2.1 (by assumption)
    have c4 := keep_cell C2a.out.2.2 (by assumption)
    go_wp2_with (go_at_call 17; refine (hnum _ _).mono ?_; rintro e w' ⟨rfl, rfl⟩)
    go_ret
    exact ⟨rfl, Below.next CH.out (by assumption)⟩
  · have hq : (IntKind.u64.wrap which).tmod 14 = 2 := HQ.out
    clear HQ
    go_wp2_with (go_at_call 17; refine (hnum _ _).mono ?_; rintro e w' ⟨rfl, rfl⟩)
    refine (lease_bad _ [] 1 1 _ ⟨by simp, .inl ⟨rfl, none, 0, rfl⟩⟩ rfl).mono ?_
    rintro e w4 ⟨rfl, b4⟩
    have c1 := keep_cell C1a.out (by assumption)
    have c2 := keep_cell C2a.out.1 (by assumption)
    have c3 := keep_cell C2a.out.2.1 (by assumption)
    have c4 := keep_cell C2a.out.2.2 (by assumption)
    go_wp2_with (go_at_call 17; refine (hnum _ _).mono ?_; rintro e w' ⟨rfl, rfl⟩)
    go_ret
    exact ⟨rfl, Below.next CH.out (by assumption)⟩
  · have hq : (IntKind.u64.wrap which).tmod 14 = 3 := HQ.out
    clear HQ
    go_wp2_with (go_at_call 17; refine (hnum _ _).mono ?_; rintro e w' ⟨rfl, rfl⟩)
    refine (lease_bad _ three _ _ _ SA.out (by simp [userMayB]; omega)).mono ?_
    rintro e w4 ⟨rfl, b4⟩
    have c1 := keep_cell C1a.out (by assumption)
    have c2 := keep_cell C2a.out.1 (by assumption)
    have c3 := keep_cell C2a.out.2.1 (by assumption)
    have c4 := keep_cell C2a.out.2.2 (by assumption)
    go_wp2_with (go_at_call 17; refine (hnum _ _).mono ?_; rintro e w' ⟨rfl, rfl⟩)
    go_ret
    exact ⟨rfl, Below.next CH.out (by assumption)⟩
  · have hq : (IntKind.u64.wrap which).tmod 14 = 4 := HQ.out
    clear HQ
    go_wp2_with (go_at_call 17; refine (hnum _ _).mono ?_; rintro e w' ⟨rfl, rfl⟩)
    refine (lease_bad _ three _ _ _ SA.out (by simp [userMayB]; omega)).mono ?_
    rintro e w4 ⟨rfl, b4⟩
    have c1 := keep_cell C1a.out (by assumption)
    have c2 := keep_cell C2a.out.1 (by assumption)
    have c3 := keep_cell C2a.out.2.1 (by assumption)
    have c4 := keep_cell C2a.out.2.2 (by assumption)
    go_wp2_with (go_at_call 17; refine (hnum _ _).mono ?_; rintro e w' ⟨rfl, rfl⟩)
    go_ret
    exact ⟨rfl, Below.next CH.out (by assumption)⟩
  · have hq : (IntKind.u64.wrap which).tmod 14 = 5 := HQ.out
    clear HQ
    go_wp2_with (go_at_call 17; refine (hnum _ _).mono ?_; rintro e w' ⟨rfl, rfl⟩)
    refine (lease_bad _ three _ _ _ SA.out (by simp [tickMayB]; omega)).mono ?_
    rintro e w4 ⟨rfl, b4⟩
    have c1 := keep_cell C1a.out (by assumption)
    have c2 := keep_cell C2a.out.1 (by assumption)
    have c3 := keep_cell C2a.out.2.1 (by assumption)
    have c4 := keep_cell C2a.out.2.2 (by assumption)
    go_wp2_with (go_at_call 17; refine (hnum _ _).mono ?_; rintro e w' ⟨rfl, rfl⟩)
    go_ret
    exact ⟨rfl, Below.next CH.out (by assumption)⟩
  · have hq : (IntKind.u64.wrap which).tmod 14 = 6 := HQ.out
    clear HQ
    have hb0 : ∀ y : Ad, Below w3.heap.size w3 (w3.alloc (.cells #[.bool y.busy, .int .i64 y.last, .int .i64 y.til] 46)) := fun _ => (Below.refl _ _).alloc (Nat.le_refl _) _
    have HB0 := Lib.hid hb0
    clear hb0
    go_wp2_with (go_at_call 17; refine (hnum _ _).mono ?_; rintro e w' ⟨rfl, rfl⟩)
    refine (lease_bad _ [⟨false, 7 + (1 + (m : Int)), 0⟩] 1 1 _ (sl_new1 w3 ⟨false, 7 + (1 + (m : Int)), 0⟩) (by simp [mayB, notB, userMayB]; omega)).mono ?_
    rintro e w4 ⟨rfl, b4'⟩; have b4 := Below.next (HB0.out ⟨false, 7 + (1 + (m : Int)), 0⟩) b4'; clear b4'
    have c1 := keep_cell C1a.out (by assumption)
    have c2 := keep_cell C2a.out.1 (by assumption)
    have c3 := keep_cell C2a.out.2.1 (by assumption)
    have c4 := keep_cell C2a.out.2.2 (by assumption)
    go_wp2_with (go_at_call 17; refine (hnum _ _).mono ?_; rintro e w' ⟨rfl, rfl⟩)
    go_ret
    exact ⟨rfl, Below.next CH.out (by assumption)⟩
  · have hq : (IntKind.u64.wrap which).tmod 14 = 7 := HQ.out
    clear HQ
    have hb0 : ∀ y : Ad, Below w3.heap.size w3 (w3.alloc (.cells #[.bool y.busy, .int .i64 y.last, .int .i64 y.til] 46)) := fun _ => (Below.refl _ _).alloc (Nat.le_refl _) _
    have HB0 := Lib.hid hb0
    clear hb0
    go_wp2_with (go_at_call 17; refine (hnum _ _).mono ?_; rintro e w' ⟨rfl, rfl⟩)
    refine (lease_bad _ [⟨false, 0, -(1 + (m : Int))⟩] 1 1 _ (sl_new1 w3 ⟨false, 0, -(1 + (m : Int))⟩) (by simp [mayB, notB, userMayB]; omega)).mono ?_
    rintro e w4 ⟨rfl, b4'⟩; have b4 := Below.next (HB0.out ⟨false, 0, -(1 + (m : Int))⟩) b4'; clear b4'
    have c1 := keep_cell C1a.out (by assumption)
    have c2 := keep_cell C2a.out.1 (by assumption)
    have c3 := keep_cell C2a.out.2.1 (by assumption)
    have c4 := keep_cell C2a.out.2.2 (by assumption)
    go_wp2_with (go_at_call 17; refine (hnum _ _).mono ?_; rintro e w' ⟨rfl, rfl⟩)
    go_ret
    exact ⟨rfl, Below.next CH.out (by assumption)⟩
  · have hq : (IntKind.u64.wrap which).tmod 14 = 8 := HQ.out
    clear HQ
    go_wp2_with (go_at_call 17; refine (hnum _ _).mono ?_; rintro e w' ⟨rfl, rfl⟩)
    refine (take_any _ three _ 1 _ SA.out).mono ?_
    intro e w4 h; obtain ⟨v4, rfl, o4, b4⟩ := h.none_ (by unfold takeF; rw [if_pos]; simp [thereB, three]; omega); clear h o4
    have c1 := keep_cell C1a.out (by assumption)
    have c2 := keep_cell C2a.out.1 (by assumption)
    have c3 := keep_cell C2a.out.2.1 (by assumption)
    have c4 := keep_cell C2a.out.2.2 (by assumption)
    go_wp2_with (go_at_call 17; refine (hnum _ _).mono ?_; rintro e w' ⟨rfl, rfl⟩)
    go_ret
    exact ⟨rfl, Below.next CH.out (by assumption)⟩
  · have hq : (IntKind.u64.wrap which).tmod 14 = 9 := HQ.out
    clear HQ
    go_wp2_with (go_at_call 17; refine (hnum _ _).mono ?_; rintro e w' ⟨rfl, rfl⟩)
    refine (take_any _ threeC 1 1 _ SB.out).mono ?_
    intro e w4 h; obtain ⟨v4, rfl, o4, b4⟩ := h.none_ (by decide); clear h o4
    have c1 := keep_cell C1a.out (by assumption)
    have c2 := keep_cell C2a.out.1 (by assumption)
    have c3 := keep_cell C2a.out.2.1 (by assumption)
    have c4 := keep_cell C2a.out.2.2 (by assumption)
    go_wp2_with (go_at_call 17; refine (hnum _ _).mono ?_; rintro e w' ⟨rfl, rfl⟩)
    go_ret
    exact ⟨rfl, Below.next CH.out (by assumption)⟩
  · have hq : (IntKind.u64.wrap which).tmod 14 = 10 := HQ.out
    clear HQ
    go_wp2_with (go_at_call 17; refine (hnum _ _).mono ?_; rintro e w' ⟨rfl, rfl⟩)
    refine (free_call _ threeC _ 1 _ SB.out).mono ?_
    intro e w4 h; obtain ⟨v4, rfl, o4, b4⟩ := h.none_ (by unfold freeF; rw [if_pos]; simp [thereB, threeC]; omega); clear h o4
    have c1 := keep_cell C1a.out (by assumption)
    have c2 := keep_cell C2a.out.1 (by assumption)
    have c3 := keep_cell C2a.out.2.1 (by assumption)
    have c4 := keep_cell C2a.out.2.2 (by assumption)
    go_wp2_with (go_at_call 17; refine (hnum _ _).mono ?_; rintro e w' ⟨rfl, rfl⟩)
    go_ret
    exact ⟨rfl, Below.next CH.out (by assumption)⟩
  · have hq : (IntKind.u64.wrap which).tmod 14 = 11 := HQ.out
    clear HQ
    go_wp2_with (go_at_call 17; refine (hnum _ _).mono ?_; rintro e w' ⟨rfl, rfl⟩)
    refine (free_call _ threeC 0 1 _ SB.out).mono ?_
    intro e w4 h; obtain ⟨v4, rfl, o4, b4⟩ := h.none_ (by decide); clear h o4
    have c1 := keep_cell C1a.out (by assumption)
    have c2 := keep_cell C2a.out.1 (by assumption)
    have c3 := keep_cell C2a.out.2.1 (by assumption)
    have c4 := keep_cell C2a.out.2.2 (by assumption)
    go_wp2_with (go_at_call 17; refine (hnum _ _).mono ?_; rintro e w' ⟨rfl, rfl⟩)
    go_ret
    exact ⟨rfl, Below.next CH.out (by assumption)⟩
  · have hq : (IntKind.u64.wrap which).tmod 14 = 12 := HQ.out
    clear HQ
    go_wp2_with (go_at_call 17; refine (hnum _ _).mono ?_; rintro e w' ⟨rfl, rfl⟩)
    refine (free_call _ threeC 1 _ _ SB.out).mono ?_
    intro e w4 h; obtain ⟨v4, rfl, o4, b4⟩ := h.none_ (by unfold freeF; rw [if_pos]; simp; omega); clear h o4
    have c1 := keep_cell C1a.out (by assumption)
    have c2 := keep_cell C2a.out.1 (by assumption)
    have c3 := keep_cell C2a.out.2.1 (by assumption)
    have c4 := keep_cell C2a.out.2.2 (by assumption)
    go_wp2_with (go_at_call 17; refine (hnum _ _).mono ?_; rintro e w' ⟨rfl, rfl⟩)
    go_ret
    exact ⟨rfl, Below.next CH.out (by assumption)⟩
  · have hq : (IntKind.u64.wrap which).tmod 14 = 13 := HQ.out
    clear HQ
    have hmk := run_make_any (16 + (1 + m)) (by omega)
    have ecast : ((16 + (1 + m) : Nat) : Int) = 16 + (1 + (m : Int)) := by omega
    rw [ecast] at hmk
    clear ecast
    have hsl := sl_made w3 (List.replicate (16 + (1 + m)) zeroAd) (by simp; omega) (16 + (1 + m))
    rw [List.length_replicate] at hsl
    have HSL := Lib.hid hsl
    have hb0 : Below w3.heap.size w3 (w3.alloc (.cells (cellsOf (List.replicate (16 + (1 + m)) zeroAd)).toArray 46)) := (Below.refl _ _).alloc (Nat.le_refl _) _
    have HB0 := Lib.hid hb0
    clear hsl hb0
    go_wp2_with (go_at_call 17; refine (hnum _ _).mono ?_; rintro e w' ⟨rfl, rfl⟩)
    refine (take_any _ (List.replicate (16 + (1 + m)) zeroAd) 0 1 _ HSL.out).mono ?_
    intro e w4 h; obtain ⟨v4, rfl, o4, b4'⟩ := h.none_ (by unfold takeF; rw [if_pos]; simp [mayB]; omega); have b4 := Below.next HB0.out b4'; clear h o4 b4'
    have c1 := keep_cell C1a.out (by assumption)
    have c2 := keep_cell C2a.out.1 (by assumption)
    have c3 := keep_cell C2a.out.2.1 (by assumption)
    have c4 := keep_cell C2a.out.2.2 (by assumption)
    go_wp2_with (go_at_call 17; refine (hnum _ _).mono ?_; rintro e w' ⟨rfl, rfl⟩)
    go_ret
    exact ⟨rfl, Below.next CH.out (by assumption)⟩
end Go.Proofs.Ytapacdkcekbnaaa
