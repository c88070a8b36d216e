/- Texts out of bytes: field.text, bastionref1.GetText. -/
import Derived.Test.YthkbeigimdgamaaF
namespace Go.Proofs.Ythkbeigimdgamaa
open Go Go.RowKit

/-- A text behind its length. -/
def textOf (l : List UInt8) (r : Int × Int × Int) : List UInt8 × Int × Int :=
  if r.2.2 ≠ 0 then ([], 0, r.2.2)
  else if 65536 < r.1 then ([], 0, 100)
  else if (l.length : Int) - r.2.1 < r.1 then ([], 0, 101)
  else ((l.drop r.2.1.toNat).take r.1.toNat, r.2.1 + r.1, 0)

/-- Reads a text: it, where it ends, the error. -/
def textF (l : List UInt8) (a : Int) : List UInt8 × Int × Int := textOf l (getF l a)

theorem textOf_err (l : List UInt8) (x t c : Int) (h : c ≠ 0) : textOf l (x, t, c) = ([], 0, c) := by
  unfold textOf; rw [if_pos h]
theorem textOf_form (l : List UInt8) (x t : Int) (h : 65536 < x) : textOf l (x, t, 0) = ([], 0, 100) := by
  unfold textOf; rw [if_neg (by simp), if_pos h]
theorem textOf_cut (l : List UInt8) (x t : Int) (h : ¬ 65536 < x) (h2 : (l.length : Int) - t < x) : textOf l (x, t, 0) = ([], 0, 101) := by
  unfold textOf; rw [if_neg (by simp), if_neg h, if_pos h2]
theorem textOf_ok (l : List UInt8) (x t : Nat) (h : ¬ (65536 : Int) < x) (h2 : ¬ (l.length : Int) - t < x) : textOf l (x, t, 0) = ((l.drop t).take x, (t : Int) + (x : Int), 0) := by
  unfold textOf; rw [if_neg (by simp), if_neg h, if_neg h2]; rfl

/-- What is known of a number that was read. -/
theorem getF_range (l : List UInt8) (a : Int) (h : (getF l a).2.2 = 0) : ∃ x t : Nat, (getF l a).1 = x ∧ (getF l a).2.1 = t ∧ x ≤ 1073741823 ∧ t ≤ l.length ∧ 0 ≤ a ∧ a < t := by
  unfold getF at h ⊢
  split at h
  · cases h
  rename_i c1
  rw [if_neg c1]
  split at h
  · cases h
  rename_i c2
  rw [if_neg c2]
  split at h
  · cases h
  rename_i c3
  rw [if_neg c3]
  split at h
  · cases h
  rename_i c4
  rw [if_neg c4]
  split at h
  · cases h
  rename_i c5
  rw [if_neg c5]
  refine ⟨_, a.toNat + 1 + l[a.toNat]!.toNat, rfl, ?_, by omega, by omega, by omega, by omega⟩
  show a + 1 + (l[a.toNat]!.toNat : Int) = _
  omega

set_option maxRecDepth 100000 in
set_option maxHeartbeats 1600000 in
theorem refGetText_any (l : List UInt8) (a : Int) (hs : l.length < 4611686018427387904) (w : World) : Calls Try.prog 73 #[strV l, .int .i64 a] w fun e w' => e = .returned (.tuple #[strV (textF l a).1, .int .i64 (textF l a).2.1, .int .i64 (textF l a).2.2]) ∧ w = w' := by
  have HC := Lib.hid (fun w => refGetNum_any l a hs w)
  have HR := Lib.hid (getF_range l a)
  unfold textF
  generalize getF l a = r at HC HR ⊢
  obtain ⟨x, t, c⟩ := r
  have hsz : (⟨l.toArray⟩ : ByteArray).size = l.length := rfl
  have hex := fun a b => (ByteArray.extract_mk l a b)
  have HX := Lib.hid hex
  clear hex
  unfold strV at HC ⊢
  have HS := Lib.hid hsz
  generalize (⟨l.toArray⟩ : ByteArray) = bs at HC HX HS hsz ⊢
  go_enter Try.func73, Try.ntmps73
  by_cases hc : c = 0
  · subst hc
    obtain ⟨x', t', hx, ht, hx1, ht1, ha0, ha1⟩ := HR.out rfl
    simp only at hx ht
    subst hx; subst ht
    clear HR
    by_cases h1 : (65536 : Int) < x'
    · have HQ := Lib.hid (textOf_form l x' t' h1)
      go_wp2_with (first | (go_at_call 71; refine (HC.out _).mono ?_; rintro e w' ⟨rfl, rfl⟩))
      go_ret3
      rw [HQ.out]
      exact ⟨rfl, rfl⟩
    · by_cases h2 : (bs.size : Int) - t' < x'
      · have HQ := Lib.hid (textOf_cut l x' t' h1 (by rw [← HS.out]; exact h2))
        go_wp2_with (first | (go_at_call 71; refine (HC.out _).mono ?_; rintro e w' ⟨rfl, rfl⟩))
        go_ret3
        rw [HQ.out]
        exact ⟨rfl, rfl⟩
      · have HQ := Lib.hid (textOf_ok l x' t' h1 (by rw [← HS.out]; exact h2))
        have HE := Lib.hid ((HX.out t' (t' + x')).trans (by rw [Nat.add_sub_cancel_left]))
        have e1 : ((t' : Int) + (x' : Int)).toNat = t' + x' := by omega
        go_wp2_with (first | (go_at_call 71; refine (HC.out _).mono ?_; rintro e w' ⟨rfl, rfl⟩))
        go_ret3
        rw [HQ.out, ← HE.out]
        exact ⟨rfl, rfl⟩
  · have HQ := Lib.hid (textOf_err l x t c hc)
    have hc2 : (c != 0) = true := by simpa using hc
    clear HR
    go_wp2_with (first | (go_at_call 71; refine (HC.out _).mono ?_; rintro e w' ⟨rfl, rfl⟩))
    go_ret3
    rw [HQ.out]
    exact ⟨rfl, rfl⟩
theorem IsErr.nil {w : World} {v : Value} {c : Int} (h : IsErr w v c) (hc : c = 0) : v = .nilIface := by
  rcases h with ⟨_, h⟩ | ⟨h, _⟩
  · exact h
  · exact absurd hc h
theorem IsErr.ne {w : World} {v : Value} {c : Int} (h : IsErr w v c) (hc : c ≠ 0) : ∃ b, v = .iface 126 (.pointer (some ⟨b, 0, none⟩)) ∧ Err w v c := by
  rcases h with ⟨h, _⟩ | ⟨_, h⟩
  · exact absurd h hc
  · exact h
theorem isErr_wrap (w : World) (a : Int) (v : Value) (c : Int) (h : Err w v c) (hc : c ≠ 0) : IsErr (w.alloc (.cells #[.int .i64 a, v] 128)) (.iface 126 (.pointer (some ⟨w.heap.size, 0, none⟩))) c :=
  .inr ⟨hc, _, rfl, .fault w.heap.size a v c (World.cell?_alloc_mark w _ _ _ 0) (World.cell?_alloc_mark w _ _ _ 1) (h.keep ((Below.refl _ _).alloc (Nat.le_refl _) _))⟩

set_option maxRecDepth 100000 in
set_option maxHeartbeats 1600000 in
theorem fieldtext_any (l : List UInt8) (a : Int) (hs : l.length < 4611686018427387904) (w : World) : Calls Try.prog 72 #[strV l, .int .i64 a] w fun e w' => ∃ v, e = .returned (.tuple #[strV (textF l a).1, .int .i64 (textF l a).2.1, v]) ∧ IsErr w' v (textF l a).2.2 ∧ Below w.heap.size w w' := by
  have HC := Lib.hid (fun w => fieldnum_any l a hs w)
  have HR := Lib.hid (getF_range l a)
  unfold textF
  generalize getF l a = r at HC HR ⊢
  obtain ⟨x, t, c⟩ := r
  have hsz : (⟨l.toArray⟩ : ByteArray).size = l.length := rfl
  have hex := fun a b => (ByteArray.extract_mk l a b)
  have HX := Lib.hid hex
  clear hex
  unfold strV at HC ⊢
  have HS := Lib.hid hsz
  generalize (⟨l.toArray⟩ : ByteArray) = bs at HC HX HS hsz ⊢
  go_enter Try.func72, Try.ntmps72
  by_cases hc : c = 0
  · subst hc
    obtain ⟨x', t', hx, ht, hx1, ht1, ha0, ha1⟩ := HR.out rfl
    simp only at hx ht
    subst hx; subst ht
    clear HR
    by_cases h1 : (65536 : Int) < x'
    · have HQ := Lib.hid (textOf_form l x' t' h1)
      go_wp2_with (first | (go_at_call 70; refine (HC.out _).mono ?_; rintro e w1 ⟨⟨v, rfl, hv⟩, hb⟩; obtain rfl := hv.nil rfl))
      go_ret3
      rw [HQ.out]
      exact ⟨_, rfl, isErr_new _ _ _ (by decide), hb.alloc hb.size _⟩
    · by_cases h2 : (bs.size : Int) - t' < x'
      · have HQ := Lib.hid (textOf_cut l x' t' h1 (by rw [← HS.out]; exact h2))
        go_wp2_with (first | (go_at_call 70; refine (HC.out _).mono ?_; rintro e w1 ⟨⟨v, rfl, hv⟩, hb⟩; obtain rfl := hv.nil rfl))
        go_ret3
        rw [HQ.out]
        exact ⟨_, rfl, isErr_new _ _ _ (by decide), hb.alloc hb.size _⟩
      · have HQ := Lib.hid (textOf_ok l x' t' h1 (by rw [← HS.out]; exact h2))
        have HE := Lib.hid ((HX.out t' (t' + x')).trans (by rw [Nat.add_sub_cancel_left]))
        have e1 : ((t' : Int) + (x' : Int)).toNat = t' + x' := by omega
        go_wp2_with (first | (go_at_call 70; refine (HC.out _).mono ?_; rintro e w1 ⟨⟨v, rfl, hv⟩, hb⟩; obtain rfl := hv.nil rfl))
        go_ret3
        rw [HQ.out, ← HE.out]
        exact ⟨_, rfl, isErr_nil _, hb⟩
  · have HQ := Lib.hid (textOf_err l x t c hc)
    have hc2 : (c != 0) = true := by simpa using hc
    clear HR
    go_wp2_with (first | (go_at_call 70; refine (HC.out _).mono ?_; rintro e w1 ⟨⟨v, rfl, hv⟩, hb⟩; obtain ⟨b, rfl, he⟩ := hv.ne hc))
    go_ret3
    rw [HQ.out]
    exact ⟨_, rfl, isErr_wrap _ _ _ _ he hc, hb.alloc hb.size _⟩
end Go.Proofs.Ythkbeigimdgamaa
