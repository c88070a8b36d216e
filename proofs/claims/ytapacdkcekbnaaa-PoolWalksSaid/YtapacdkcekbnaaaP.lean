/- The walk of the law Pools. -/
import Derived.Test.YtapacdkcekbnaaaO
namespace Go.Proofs.Ytapacdkcekbnaaa
open Go Go.RowKit

theorem Gives.parts {w w' : World} {B : Nat} {r : Option (List Ad)} {e : Ending} (h : Gives B r w e w') {c : Int} {l : List Ad} (hc : codeOf r = c) (hl : r.getD [] = l) :
    ∃ v', e = .returned (.tuple #[v', .int .i64 c]) ∧ Own w' B v' l ∧ Below B w w' := by
  subst hc; subst hl
  exact h

theorem same_self (v1 v2 : Value) (l : List Ad) (w : World) (h1 : Sl w v1 l) (h2 : Sl w v2 l) :
    Calls Try.prog 18 #[v1, v2] w fun e w' => e = .returned (.bool true) ∧ Below w.heap.size w w' := by
  have h := same_any v1 v2 l l w h1 h2
  rw [show decide (l = l) = true from by simp] at h
  exact h

theorem Own.kept_other {w w' : World} {B : Nat} {v : Value} {l : List Ad} {row : Option Nat} (h : Own w B v l) (hg : w.grownBy w' row) (hne : ∀ k, row = some k → k < B) : Own w' B v l := by
  refine World.ownsRow.kept h hg ?_
  cases hv : v.ownBlock with
  | none => exact .inl rfl
  | some k =>
    refine .inr fun e => ?_
    have h1 := (World.ownsRow.lt h k hv).1
    have h2 := hne k e.symm
    omega

set_option maxRecDepth 100000 in
set_option maxHeartbeats 4000000 in
theorem pools_walk (v : Value) (l : List Ad) (address user tick addresses : Int) (w : World) (hv : Sl w v l) (hr : l.length * 24 ≤ 140737488351232) :
    Calls Try.prog 3 #[v, .int .i64 address, .int .i64 user, .int .i64 tick, .int .i64 addresses] w fun e w' => e = .returned (.bool true) ∧ Below w.heap.size w w' := by
  have hnum := num_any
  have HV := Lib.hid hv
  have HV0 := Lib.hid hv
  have HRR := Lib.hid hr
  obtain ⟨c1, hc1⟩ : ∃ c, codeOf (takeF l address user) = c := ⟨_, rfl⟩
  obtain ⟨l1, hl1⟩ : ∃ c, (takeF l address user).getD [] = c := ⟨_, rfl⟩
  obtain ⟨c2, hc2⟩ : ∃ c, codeOf (freeF l address tick) = c := ⟨_, rfl⟩
  obtain ⟨l2, hl2⟩ : ∃ c, (freeF l address tick).getD [] = c := ⟨_, rfl⟩
  obtain ⟨c3, hc3⟩ : ∃ c, codeOf (newF addresses) = c := ⟨_, rfl⟩
  obtain ⟨l3, hl3⟩ : ∃ c, (newF addresses).getD [] = c := ⟨_, rfl⟩
  obtain ⟨r1, hr1⟩ : ∃ c, (leaseF l user tick).1 = c := ⟨_, rfl⟩
  obtain ⟨r2, hr2⟩ : ∃ c, (leaseF l user tick).2 = c := ⟨_, rfl⟩
  have HC1 := Lib.hid hc1
  have HC2 := Lib.hid hc2
  have HC3 := Lib.hid hc3
  have HL1 := Lib.hid hl1
  have HL2 := Lib.hid hl2
  have HL3 := Lib.hid hl3
  have HR1 := Lib.hid hr1
  have HR2 := Lib.hid hr2
  clear hc1 hc2 hc3 hl1 hl2 hl3 hr1 hr2 hv hr
  go_enter Try.func3, Try.ntmps3
  go_wp2_with fail
  refine (lend_any v l _ HV.out HRR.out).mono ?_
  rintro e w1 ⟨g, cap, rfl, hcap, hcb, hox, hb1⟩
  have OX := Lib.hid hox
  have SX := Lib.hid (lent_sl hox cap)
  have HB := Lib.hid hb1
  replace HV := Lib.hid (HV.out.below hb1)
  have CH : Hid (Below w1.heap.size w1 w1) := Below.refl _ _
  clear hox hb1
  go_wp2_with fail
  refine (lease_any _ l user tick _ SX.out).mono ?_
  rintro e w2 ⟨rfl, b⟩
  rw [HR1.out, HR2.out]
  replace HV := Lib.hid (HV.out.below b)
  replace SX := Lib.hid (SX.out.below b)
  replace CH := Lib.hid (Below.next CH.out b)
  clear b
  go_wp2_with fail
  refine (refLease_any _ l user tick _ HV.out).mono ?_
  rintro e w' ⟨rfl, rfl⟩
  rw [HR1.out, HR2.out]
  clear HR1 HR2
  go_wp2_with fail
  refine (take_any _ l address user _ SX.out).mono ?_
  intro e w3 h
  obtain ⟨v3, rfl, o3, b⟩ := h.parts HC1.out HL1.out
  have O3 := Lib.hid o3
  have S3 := Lib.hid o3.sl
  have CH3 : Hid (Below w3.heap.size w3 w3) := Below.refl _ _
  replace HV := Lib.hid (HV.out.below b)
  replace SX := Lib.hid (SX.out.below b)
  have hs3 := CH.out.size
  have HS23 := Lib.hid b.size
  replace CH := Lib.hid (Below.next CH.out b)
  clear b h o3
  go_wp2_with fail
  refine (refTake_any _ l address user _ HV.out).mono ?_
  intro e w4 h
  obtain ⟨v4, rfl, o4, b⟩ := h.parts HC1.out HL1.out
  have S4 := Lib.hid o4.sl
  replace HV := Lib.hid (HV.out.below b)
  replace SX := Lib.hid (SX.out.below b)
  replace S3 := Lib.hid (S3.out.below b)
  replace CH3 := Lib.hid (Below.next CH3.out b)
  replace CH := Lib.hid (Below.next CH.out b)
  clear b h o4
  go_wp2_with fail
  refine (free_call _ l address tick _ SX.out).mono ?_
  intro e w5 h
  obtain ⟨v5, rfl, o5, b⟩ := h.parts HC2.out HL2.out
  have O5 := Lib.hid o5
  have S5 := Lib.hid o5.sl
  have CH5 : Hid (Below w5.heap.size w5 w5) := Below.refl _ _
  replace HV := Lib.hid (HV.out.below b)
  replace SX := Lib.hid (SX.out.below b)
  replace S3 := Lib.hid (S3.out.below b)
  replace S4 := Lib.hid (S4.out.below b)
  have hs5 := CH3.out.size
  replace CH3 := Lib.hid (Below.next CH3.out b)
  replace CH := Lib.hid (Below.next CH.out b)
  clear b h o5
  go_wp2_with fail
  refine (refFree_any _ l address tick _ HV.out).mono ?_
  intro e w6 h
  obtain ⟨v6, rfl, o6, b⟩ := h.parts HC2.out HL2.out
  have S6 := Lib.hid o6.sl
  replace HV := Lib.hid (HV.out.below b)
  replace S3 := Lib.hid (S3.out.below b)
  replace S4 := Lib.hid (S4.out.below b)
  replace S5 := Lib.hid (S5.out.below b)
  replace CH3 := Lib.hid (Below.next CH3.out b)
  replace CH5 := Lib.hid (Below.next CH5.out b)
  replace CH := Lib.hid (Below.next CH.out b)
  clear b h o6 SX
  go_wp2_with fail
  refine (new_any addresses _).mono ?_
  intro e w7 h
  obtain ⟨v7, rfl, o7, b⟩ := h.parts HC3.out HL3.out
  have S7 := Lib.hid o7.sl
  replace HV := Lib.hid (HV.out.below b)
  replace S3 := Lib.hid (S3.out.below b)
  replace S4 := Lib.hid (S4.out.below b)
  replace S5 := Lib.hid (S5.out.below b)
  replace S6 := Lib.hid (S6.out.below b)
  replace CH3 := Lib.hid (Below.next CH3.out b)
  replace CH5 := Lib.hid (Below.next CH5.out b)
  replace CH := Lib.hid (Below.next CH.out b)
  clear b h o7
  go_wp2_with fail
  refine (refNew_any addresses _).mono ?_
  intro e w8 h
  obtain ⟨v8, rfl, o8, b⟩ := h.parts HC3.out HL3.out
  have S8 := Lib.hid o8.sl
  replace HV := Lib.hid (HV.out.below b)
  replace S3 := Lib.hid (S3.out.below b)
  replace S4 := Lib.hid (S4.out.below b)
  replace S5 := Lib.hid (S5.out.below b)
  replace S6 := Lib.hid (S6.out.below b)
  replace S7 := Lib.hid (S7.out.below b)
  replace CH3 := Lib.hid (Below.next CH3.out b)
  replace CH5 := Lib.hid (Below.next CH5.out b)
  replace CH := Lib.hid (Below.next CH.out b)
  clear b h o8 HC1 HC2 HC3 HL1 HL2 HL3
  go_wp2_with (go_at_call 17; refine (hnum _ _).mono ?_; rintro e w' ⟨rfl, rfl⟩)
  refine (same_self _ _ _ _ S3.out S4.out).mono ?_
  rintro e w9 ⟨rfl, b⟩
  replace HV := Lib.hid (HV.out.below b)
  replace S5 := Lib.hid (S5.out.below b)
  replace S6 := Lib.hid (S6.out.below b)
  replace S7 := Lib.hid (S7.out.below b)
  replace S8 := Lib.hid (S8.out.below b)
  replace CH3 := Lib.hid (Below.next CH3.out b)
  replace CH5 := Lib.hid (Below.next CH5.out b)
  replace CH := Lib.hid (Below.next CH.out b)
  clear b S3 S4
  go_wp2_with (go_at_call 17; refine (hnum _ _).mono ?_; rintro e w' ⟨rfl, rfl⟩)
  refine (same_self _ _ _ _ S5.out S6.out).mono ?_
  rintro e w10 ⟨rfl, b⟩
  replace HV := Lib.hid (HV.out.below b)
  replace S7 := Lib.hid (S7.out.below b)
  replace S8 := Lib.hid (S8.out.below b)
  replace CH3 := Lib.hid (Below.next CH3.out b)
  replace CH5 := Lib.hid (Below.next CH5.out b)
  replace CH := Lib.hid (Below.next CH.out b)
  clear b S5 S6
  go_wp2_with (go_at_call 17; refine (hnum _ _).mono ?_; rintro e w' ⟨rfl, rfl⟩)
  refine (same_self _ _ _ _ S7.out S8.out).mono ?_
  rintro e w11 ⟨rfl, b⟩
  replace HV := Lib.hid (HV.out.below b)
  replace CH3 := Lib.hid (Below.next CH3.out b)
  replace CH5 := Lib.hid (Below.next CH5.out b)
  replace CH := Lib.hid (Below.next CH.out b)
  clear b S7 S8
  go_wp2_with (go_at_call 17; refine (hnum _ _).mono ?_; rintro e w' ⟨rfl, rfl⟩)
  have o3 := O3.out.below CH3.out (Nat.le_refl _)
  have o5 := O5.out.below CH5.out (Nat.le_refl _)
  have lt3 := World.ownsRow.lt O3.out
  have lt5 := World.ownsRow.lt O5.out
  have L3 := Lib.hid lt3
  have L5 := Lib.hid lt5
  have O5' := Lib.hid o5
  clear o5 O3 O5 lt3 lt5 HV
  refine (spoil_any v3 l1 _ _ o3).mono ?_
  rintro e w12 ⟨rfl, hg⟩
  have o5 := O5'.out.kept_other hg (fun k hk => by have := (L3.out k hk).2; omega)
  have ch : Below w1.heap.size w1 w12 := CH.out.trans ((Below.refl _ _).grown hg CH.out.size (fun k hk => by have := (L3.out k hk).1; omega))
  have CH' := Lib.hid ch
  clear ch CH hg o3 O5' CH3 CH5
  go_wp2_with fail
  refine (spoil_any v5 l2 _ _ o5).mono ?_
  rintro e w13 ⟨rfl, hg⟩
  have hs2 : w2.heap.size ≤ w4.heap.size := by
    have h3 := HS23.out
    omega
  have ch : Below w1.heap.size w1 w13 := CH'.out.trans ((Below.refl _ _).grown hg CH'.out.size (fun k hk => by have := (L5.out k hk).1; omega))
  have CH := Lib.hid ch
  clear ch CH' hg o5
  have hox : Own w13 w.heap.size (.slice (some ⟨g, 0, none⟩) (l.length + 2) cap) (l ++ [markAd, markAd]) := by
    have h1 : Own w1 w.heap.size (.slice (some ⟨g, 0, none⟩) (l ++ [markAd, markAd]).length cap) (l ++ [markAd, markAd]) := by simpa using OX.out
    simpa using h1.below CH.out (Nat.le_refl _)
  have hbw : Below w.heap.size w w13 := Below.next HB.out CH.out
  have hk := kept_any g cap v l w.heap.size w13 hox hcap hcb (HV0.out.below hbw) HRR.out
  have HBW := Lib.hid hbw
  clear hbw hox OX CH HB HV0 HRR
  go_wp2_with (first | (go_at_call 20; refine hk.mono ?_; rintro e w14 ⟨rfl, hb14⟩) | (go_at_call 21; refine (awake_any _).mono ?_; rintro e w15 ⟨rfl, hb15⟩))
  go_ret
  exact ⟨rfl, Below.next (Below.next HBW.out hb14) hb15⟩
end Go.Proofs.Ytapacdkcekbnaaa
