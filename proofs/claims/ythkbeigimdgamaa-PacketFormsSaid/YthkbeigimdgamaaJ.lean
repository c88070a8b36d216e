/- Reader.Done; the document's readers. -/
import Derived.Test.YthkbeigimdgamaaI
namespace Go.Proofs.Ythkbeigimdgamaa
open Go Go.RowKit

def doneB (l : List UInt8) (st : Option Int) : Bool := st == some (l.length : Int)

set_option maxRecDepth 100000 in
set_option maxHeartbeats 1600000 in
theorem readerDone_any (l : List UInt8) (st : Option Int) (b : Nat) (w : World) (hr : Rd w b l st) : Calls Try.prog 52 #[.pointer (some ⟨b, 0, none⟩)] w fun e w' => e = .returned (.bool (doneB l st)) ∧ Below w.heap.size w w' := by
  obtain ⟨h0, hf, a, v, h1, h2, h3⟩ := hr
  clear hf
  unfold strV at h0
  have hsz : (⟨l.toArray⟩ : ByteArray).size = l.length := rfl
  generalize (⟨l.toArray⟩ : ByteArray) = bs at h0 hsz
  have hb : Below w.heap.size w w := Below.refl _ _
  rcases h3 with ⟨rfl, rfl⟩ | ⟨rfl, g, rfl⟩
  · have HQ := Lib.hid (show doneB l (some a) = (a == (l.length : Int)) from by
      by_cases e : a = (l.length : Int)
      · simp [doneB, e]
      · simp [doneB])
    go_enter Try.func52, Try.ntmps52
    go_wp2
    go_quiet (fail)
    go_wp2
    go_ret
    rw [HQ.out]
    exact ⟨rfl, ⟨hb.os, hb.tape, hb.output, hb.size, hb.block⟩⟩
  · go_enter Try.func52, Try.ntmps52
    go_wp2
    go_quiet (fail)
    go_wp2
    go_ret
    exact ⟨rfl, ⟨hb.os, hb.tape, hb.output, hb.size, hb.block⟩⟩

/-- A reader of the document at block b. -/
def RdR (w : World) (b : Nat) (l : List UInt8) (st : Option Int) : Prop :=
  w.cell? ⟨b, 0, none⟩ = some (strV l) ∧ (∀ j, w.frozen? ⟨b, j, none⟩ = false) ∧
  ∃ a bad, w.cell? ⟨b, 1, none⟩ = some (.int .i64 a) ∧ w.cell? ⟨b, 2, none⟩ = some (.bool bad) ∧ st = if bad then none else some a

theorem getF_err (l : List UInt8) (a : Int) (h : (getF l a).2.2 ≠ 0) : (getF l a).1 = 0 := by
  unfold getF at h ⊢
  repeat (split; · rfl)
  rename_i h1 h2 h3 h4 h5
  rw [if_neg h1, if_neg h2, if_neg h3, if_neg h4, if_neg h5] at h
  exact absurd rfl h

theorem rdr_at {w : World} {b : Nat} {l : List UInt8} {v : Value} (t : Int) (h0 : w.cell? ⟨b, 0, none⟩ = some (strV l)) (h1 : w.cell? ⟨b, 1, none⟩ = some v) (h2 : w.cell? ⟨b, 2, none⟩ = some (.bool false))
    (hf : ∀ j, w.frozen? ⟨b, j, none⟩ = false) : RdR (w.drew.setCell ⟨b, 1, none⟩ (.int .i64 t)) b l (some t) :=
  ⟨cell_here w.drew _ _ _ _ _ h0, fun j => by rw [World.frozen?_setCell]; exact hf j, t, false, cell_here w.drew _ _ _ _ _ h1, cell_here w.drew _ _ _ _ _ h2, rfl⟩
theorem rdr_bad {w : World} {b : Nat} {l : List UInt8} {v : Value} {a : Int} (h0 : w.cell? ⟨b, 0, none⟩ = some (strV l)) (h1 : w.cell? ⟨b, 1, none⟩ = some (.int .i64 a)) (h2 : w.cell? ⟨b, 2, none⟩ = some v)
    (hf : ∀ j, w.frozen? ⟨b, j, none⟩ = false) : RdR (w.drew.setCell ⟨b, 2, none⟩ (.bool true)) b l none :=
  ⟨cell_here w.drew _ _ _ _ _ h0, fun j => by rw [World.frozen?_setCell]; exact hf j, a, true, cell_here w.drew _ _ _ _ _ h1, cell_here w.drew _ _ _ _ _ h2, rfl⟩
theorem only_drew (b : Nat) (w : World) (o : Nat) (v : Value) : Only b w (w.drew.setCell ⟨b, o, none⟩ v) := (show Only b w w.drew from ⟨rfl, rfl, rfl, Nat.le_refl _, fun _ _ _ => rfl⟩).setCell rfl _

set_option maxRecDepth 100000 in
set_option maxHeartbeats 1600000 in
theorem refReaderNum_any (l : List UInt8) (st : Option Int) (b : Nat) (w : World) (hs : l.length < 4611686018427387904) (hr : RdR w b l st) : Calls Try.prog 53 #[.pointer (some ⟨b, 0, none⟩)] w fun e w' => e = .returned (.int .i64 (rdNum l st).1) ∧ RdR w' b l (rdNum l st).2 ∧ Only b w w' := by
  obtain ⟨h0, hf, a, bad, h1, h2, h3⟩ := hr
  have hf1 := hf 1
  have hf2 := hf 2
  have HF := Lib.hid hf
  clear hf
  have HC := Lib.hid (fun w => refGetNum_any l a hs w)
  have HE := Lib.hid (getF_err l a)
  have RB := Lib.hid (rdr_bad h0 h1 h2 HF.out)
  have OB := Lib.hid (only_drew b w 2 (.bool true))
  cases bad
  · have e3 : st = some a := h3
    subst e3
    have RA := Lib.hid (fun t => rdr_at t h0 h1 h2 HF.out)
    have OA := Lib.hid (fun t => only_drew b w 1 (.int .i64 t))
    unfold strV at h0 HC
    generalize (⟨l.toArray⟩ : ByteArray) = bs at h0 HC
    rw [rdNum_some]
    generalize getF l a = r at HC HE ⊢
    obtain ⟨x, t, c⟩ := r
    clear h3
    by_cases hc : c = 0
    · subst hc
      have RA2 := Lib.hid (RA.out t)
      have OA2 := Lib.hid (OA.out t)
      clear RA OA RB OB HE
      go_enter Try.func53, Try.ntmps53
      go_wp2_with fail
      go_region_with (go_at_call 71; refine (HC.out _).mono ?_; rintro e w1 ⟨rfl, rfl⟩)
      all_goals
        go_wp2
        go_ret
        exact ⟨rfl, RA2.out, OA2.out⟩
    · have hx : x = 0 := HE.out hc
      subst hx
      have hc2 : (c != 0) = true := by simpa using hc
      have HQ := Lib.hid (show stOf t c = none from by unfold stOf; rw [if_neg hc])
      clear RA OA HE hc
      go_enter Try.func53, Try.ntmps53
      go_wp2_with fail
      go_region_with (go_at_call 71; refine (HC.out _).mono ?_; rintro e w1 ⟨rfl, rfl⟩)
      all_goals
        go_wp2
        go_ret
        rw [HQ.out]
        exact ⟨rfl, RB.out, OB.out⟩
  · have e3 : st = none := h3
    subst e3
    unfold strV at h0 HC
    generalize (⟨l.toArray⟩ : ByteArray) = bs at h0 HC
    generalize getF l a = r at HC HE
    obtain ⟨x, t, c⟩ := r
    clear h3 HE
    go_enter Try.func53, Try.ntmps53
    go_wp2_with fail
    go_region_with (go_at_call 71; refine (HC.out _).mono ?_; rintro e w1 ⟨rfl, rfl⟩)
    all_goals
      go_wp2
      go_ret
      exact ⟨rfl, RB.out, OB.out⟩
theorem textF_err (l : List UInt8) (a : Int) (h : (textF l a).2.2 ≠ 0) : (textF l a).1 = [] := by
  unfold textF textOf at h ⊢
  repeat (split; · rfl)
  rename_i h1 h2 h3
  rw [if_neg h1, if_neg h2, if_neg h3] at h
  exact absurd rfl h

set_option maxRecDepth 100000 in
set_option maxHeartbeats 1600000 in
theorem refReaderText_any (l : List UInt8) (st : Option Int) (b : Nat) (w : World) (hs : l.length < 4611686018427387904) (hr : RdR w b l st) : Calls Try.prog 64 #[.pointer (some ⟨b, 0, none⟩)] w fun e w' => e = .returned (strV (rdText l st).1) ∧ RdR w' b l (rdText l st).2 ∧ Only b w w' := by
  obtain ⟨h0, hf, a, bad, h1, h2, h3⟩ := hr
  have hf1 := hf 1
  have hf2 := hf 2
  have HF := Lib.hid hf
  clear hf
  have HC := Lib.hid (fun w => refGetText_any l a hs w)
  have HE := Lib.hid (textF_err l a)
  have RB := Lib.hid (rdr_bad h0 h1 h2 HF.out)
  have OB := Lib.hid (only_drew b w 2 (.bool true))
  cases bad
  · have e3 : st = some a := h3
    subst e3
    have RA := Lib.hid (fun t => rdr_at t h0 h1 h2 HF.out)
    have OA := Lib.hid (fun t => only_drew b w 1 (.int .i64 t))
    unfold strV at h0 HC ⊢
    generalize (⟨l.toArray⟩ : ByteArray) = bs at h0 HC
    rw [rdText_some]
    generalize textF l a = r at HC HE ⊢
    obtain ⟨x, t, c⟩ := r
    clear h3
    by_cases hc : c = 0
    · subst hc
      have RA2 := Lib.hid (RA.out t)
      have OA2 := Lib.hid (OA.out t)
      clear RA OA RB OB HE
      go_enter Try.func64, Try.ntmps64
      go_wp2_with fail
      go_region_with (go_at_call 73; refine (HC.out _).mono ?_; rintro e w1 ⟨rfl, rfl⟩)
      all_goals
        go_wp2
        go_ret
        exact ⟨rfl, RA2.out, OA2.out⟩
    · have hx : x = [] := HE.out hc
      subst hx
      have hc2 : (c != 0) = true := by simpa using hc
      have HQ := Lib.hid (show stOf t c = none from by unfold stOf; rw [if_neg hc])
      clear RA OA HE hc
      go_enter Try.func64, Try.ntmps64
      go_wp2_with fail
      go_region_with (go_at_call 73; refine (HC.out _).mono ?_; rintro e w1 ⟨rfl, rfl⟩)
      all_goals
        go_wp2
        go_ret
        rw [HQ.out]
        exact ⟨rfl, RB.out, OB.out⟩
  · have e3 : st = none := h3
    subst e3
    unfold strV at h0 HC
    generalize (⟨l.toArray⟩ : ByteArray) = bs at h0 HC
    generalize textF l a = r at HC HE
    obtain ⟨x, t, c⟩ := r
    clear h3 HE
    go_enter Try.func64, Try.ntmps64
    go_wp2_with fail
    go_region_with (go_at_call 73; refine (HC.out _).mono ?_; rintro e w1 ⟨rfl, rfl⟩)
    all_goals
      go_wp2
      go_ret
      exact ⟨rfl, RB.out, OB.out⟩
end Go.Proofs.Ythkbeigimdgamaa
