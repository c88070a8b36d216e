/- The contracts of pool.Take and pool.Free, and of the reference's. -/
import Derived.Test.YtapacdkcekbnaaaF
namespace Go.Proofs.Ytapacdkcekbnaaa
open Go Go.RowKit

def busyAt (l : List Ad) (k : Int) : Bool := (l[k.toNat]!).busy

/-- What Take gives: none: it is refused. -/
def takeF (l : List Ad) (k u : Int) : Option (List Ad) :=
  if !(mayB l) || !(userMayB u) || !(thereB l k) || busyAt l k then none else some (l.set k.toNat ⟨true, u, 0⟩)

/-- What Free gives: none: it is refused. -/
def freeF (l : List Ad) (k t : Int) : Option (List Ad) :=
  if !(mayB l) || !(thereB l k) || !(busyAt l k) || decide (t < 0) then none else some (l.set k.toNat ⟨false, (l[k.toNat]!).last, t⟩)

def codeOf (r : Option (List Ad)) : Int := if r.isSome then 0 else 1600

/-- Two results: a slice of the call's own, a number. -/
def Gives (B : Nat) (r : Option (List Ad)) (w : World) (e : Ending) (w' : World) : Prop :=
  ∃ v', e = .returned (.tuple #[v', .int .i64 (codeOf r)]) ∧ Own w' B v' (r.getD []) ∧ Below B w w'

theorem Gives.none {w w' : World} (hb : Below w.heap.size w w') : Gives w.heap.size Option.none w (.returned (.tuple #[.slice Option.none 0 0, .int .i64 1600])) w' :=
  ⟨_, rfl, World.ownsRow_nil _ _ _ _, hb⟩

theorem mayB_len {l : List Ad} (h : mayB l = true) : l.length ≤ 16 := by
  unfold mayB at h
  simp at h
  exact h.1.2

set_option maxHeartbeats 2000000 in
theorem take_any (v : Value) (l : List Ad) (k u : Int) (w : World) (hv : Sl w v l) :
    Calls Try.prog 11 #[v, .int .i64 k, .int .i64 u] w (Gives w.heap.size (takeF l k u) w) := by
  have hm := may_any v l w hv
  have hu := userMay_any u
  have hbig := hv.1
  obtain ⟨ao, c, hform⟩ := hv.form
  have ht := fun W => there_any ao c l k W hbig
  rw [← hform] at ht
  by_cases hbad : (!(mayB l) || !(userMayB u) || !(thereB l k)) = true
  · have hr : takeF l k u = Option.none := by unfold takeF; rw [if_pos]; simp only [Bool.or_eq_true] at hbad ⊢; exact .inl hbad
    rw [hr]
    clear hr hv hform
    generalize mayB l = a at hbad hm
    generalize userMayB u = b at hbad hu
    generalize thereB l k = d at hbad ht
    cases a
    · clear hbad hu ht
      go_enter Try.func11, Try.ntmps11
      go_wp2_with (go_at_call 23; refine hm.mono ?_; rintro e w1 ⟨rfl, hb⟩)
      go_ret2
      exact Gives.none hb
    · cases b
      · clear hbad ht
        go_enter Try.func11, Try.ntmps11
        go_wp2_with (first | (go_at_call 23; refine hm.mono ?_; rintro e w1 ⟨rfl, hb⟩) | (go_at_call 24; refine (hu _).mono ?_; rintro e w' ⟨rfl, rfl⟩))
        go_ret2
        exact Gives.none hb
      · have hd : d = false := by simpa using hbad
        subst hd
        clear hbad
        go_enter Try.func11, Try.ntmps11
        go_wp2_with (first | (go_at_call 23; refine hm.mono ?_; rintro e w1 ⟨rfl, hb⟩) | (go_at_call 24; refine (hu _).mono ?_; rintro e w' ⟨rfl, rfl⟩) | (go_at_call 32; refine (ht _).mono ?_; rintro e w' ⟨rfl, rfl⟩))
        go_ret2
        exact Gives.none hb
  · have hgood : mayB l = true ∧ userMayB u = true ∧ thereB l k = true := by simpa [and_assoc] using hbad
    obtain ⟨g1, g2, g3⟩ := hgood
    rw [g1] at hm
    rw [g2] at hu
    rw [g3] at ht
    have hlen := mayB_len g1
    have hk : 0 ≤ k ∧ k < l.length := by simpa [thereB] using g3
    obtain ⟨n, rfl⟩ := Int.eq_ofNat_of_zero_le hk.1
    have hn : n < l.length := by omega
    obtain ⟨b, off, c', hv', hbs, hh⟩ : ∃ b off c, v = .slice (some ⟨b, off, none⟩) l.length c ∧ b < w.heap.size ∧ Holds w b off l := by
      rcases hv.2 with ⟨rfl, _⟩ | h
      · simp at hn
      · exact h
    have hcells := fun W (hW : Below w.heap.size w W) => (hh.below hW hbs) n hn
    have hr : takeF l n u = if (l[n]!).busy then Option.none else some (l.set n ⟨true, u, 0⟩) := by
      unfold takeF busyAt
      simp [g1, g2, g3]
    generalize l[n]! = y at hcells hr
    have HV := Lib.hid hv
    have HR := Lib.hid hr
    have hni : (n : Int) < (l.length : Int) := by omega
    have hwith := fun W (hW : Below w.heap.size w W) => with_any v l n ⟨true, u, 0⟩ W (hv.below hW) hn (by omega)
    clear hr hv hh g1 g2 g3 hbad hform
    simp only [Ad.val] at hwith
    subst hv'
    obtain ⟨yb, yl, yt⟩ := y
    have HC := Lib.hid hcells
    have HW := Lib.hid hwith
    clear hcells hwith
    cases yb
    · have hfin : takeF l n u = some (l.set n ⟨true, u, 0⟩) := by rw [HR.out]; rfl
      rw [hfin]
      clear HR hfin
      go_enter Try.func11, Try.ntmps11
      go_wp2_with (first | (go_at_call 23; refine hm.mono ?_; rintro e w1 ⟨rfl, hb⟩; obtain ⟨c0, c1, c2⟩ := HC.out _ hb) | (go_at_call 24; refine (hu _).mono ?_; rintro e w' ⟨rfl, rfl⟩) | (go_at_call 32; refine (ht _).mono ?_; rintro e w' ⟨rfl, rfl⟩) | (go_at_call 33; refine (HW.out _ hb).mono ?_; rintro e w2 ⟨v2, rfl, hown, hb2⟩))
      go_ret2
      exact ⟨_, rfl, hown.low hb.size, Below.next hb hb2⟩
    · have hfin : takeF l n u = Option.none := by rw [HR.out]; rfl
      rw [hfin]
      clear HR hfin
      go_enter Try.func11, Try.ntmps11
      go_wp2_with (first | (go_at_call 23; refine hm.mono ?_; rintro e w1 ⟨rfl, hb⟩; obtain ⟨c0, c1, c2⟩ := HC.out _ hb) | (go_at_call 24; refine (hu _).mono ?_; rintro e w' ⟨rfl, rfl⟩) | (go_at_call 32; refine (ht _).mono ?_; rintro e w' ⟨rfl, rfl⟩))
      go_ret2
      exact Gives.none hb

set_option maxHeartbeats 2000000 in
theorem free_call (v : Value) (l : List Ad) (k t : Int) (w : World) (hv : Sl w v l) :
    Calls Try.prog 13 #[v, .int .i64 k, .int .i64 t] w (Gives w.heap.size (freeF l k t) w) := by
  have hm := may_any v l w hv
  have hbig := hv.1
  obtain ⟨ao, c, hform⟩ := hv.form
  have ht := fun W => there_any ao c l k W hbig
  rw [← hform] at ht
  by_cases hbad : (!(mayB l) || !(thereB l k)) = true
  · have hr : freeF l k t = Option.none := by unfold freeF; rw [if_pos]; simp only [Bool.or_eq_true] at hbad ⊢; exact .inl (.inl hbad)
    rw [hr]
    clear hr hv hform
    generalize mayB l = a at hbad hm
    generalize thereB l k = d at hbad ht
    cases a
    · clear hbad ht
      go_enter Try.func13, Try.ntmps13
      go_wp2_with (go_at_call 23; refine hm.mono ?_; rintro e w1 ⟨rfl, hb⟩)
      go_ret2
      exact Gives.none hb
    · have hd : d = false := by simpa using hbad
      subst hd
      clear hbad
      go_enter Try.func13, Try.ntmps13
      go_wp2_with (first | (go_at_call 23; refine hm.mono ?_; rintro e w1 ⟨rfl, hb⟩) | (go_at_call 32; refine (ht _).mono ?_; rintro e w' ⟨rfl, rfl⟩))
      go_ret2
      exact Gives.none hb
  · have hgood : mayB l = true ∧ thereB l k = true := by simpa using hbad
    obtain ⟨g1, g3⟩ := hgood
    rw [g1] at hm
    rw [g3] at ht
    have hlen := mayB_len g1
    have hk : 0 ≤ k ∧ k < l.length := by simpa [thereB] using g3
    obtain ⟨n, rfl⟩ := Int.eq_ofNat_of_zero_le hk.1
    have hn : n < l.length := by omega
    obtain ⟨b, off, c', hv', hbs, hh⟩ : ∃ b off c, v = .slice (some ⟨b, off, none⟩) l.length c ∧ b < w.heap.size ∧ Holds w b off l := by
      rcases hv.2 with ⟨rfl, _⟩ | h
      · simp at hn
      · exact h
    have hcells := fun W (hW : Below w.heap.size w W) => (hh.below hW hbs) n hn
    have hr : freeF l n t = if !(l[n]!).busy || decide (t < 0) then Option.none else some (l.set n ⟨false, (l[n]!).last, t⟩) := by
      unfold freeF busyAt
      simp [g1, g3]
    generalize l[n]! = y at hcells hr
    have HR := Lib.hid hr
    have hni : (n : Int) < (l.length : Int) := by omega
    have hwith := fun W (hW : Below w.heap.size w W) => with_any v l n ⟨false, y.last, t⟩ W (hv.below hW) hn (by omega)
    clear hr hv hh g1 g3 hbad hform
    simp only [Ad.val] at hwith
    subst hv'
    obtain ⟨yb, yl, yt⟩ := y
    have HC := Lib.hid hcells
    have HW := Lib.hid hwith
    clear hcells hwith
    cases yb
    · have hfin : freeF l n t = Option.none := by rw [HR.out]; rfl
      rw [hfin]
      clear HR hfin
      go_enter Try.func13, Try.ntmps13
      go_wp2_with (first | (go_at_call 23; refine hm.mono ?_; rintro e w1 ⟨rfl, hb⟩; obtain ⟨c0, c1, c2⟩ := HC.out _ hb) | (go_at_call 32; refine (ht _).mono ?_; rintro e w' ⟨rfl, rfl⟩))
      go_ret2
      exact Gives.none hb
    · by_cases hneg : t < 0
      · have hfin : freeF l n t = Option.none := by rw [HR.out]; simp [hneg]
        rw [hfin]
        clear HR hfin
        go_enter Try.func13, Try.ntmps13
        go_wp2_with (first | (go_at_call 23; refine hm.mono ?_; rintro e w1 ⟨rfl, hb⟩; obtain ⟨c0, c1, c2⟩ := HC.out _ hb) | (go_at_call 32; refine (ht _).mono ?_; rintro e w' ⟨rfl, rfl⟩))
        go_ret2
        exact Gives.none hb
      · have hfin : freeF l n t = some (l.set n ⟨false, yl, t⟩) := by rw [HR.out]; simp; omega
        rw [hfin]
        clear HR hfin
        go_enter Try.func13, Try.ntmps13
        go_wp2_with (first | (go_at_call 23; refine hm.mono ?_; rintro e w1 ⟨rfl, hb⟩; obtain ⟨c0, c1, c2⟩ := HC.out _ hb) | (go_at_call 32; refine (ht _).mono ?_; rintro e w' ⟨rfl, rfl⟩) | (go_at_call 33; refine (HW.out _ hb).mono ?_; rintro e w2 ⟨v2, rfl, hown, hb2⟩))
        go_ret2
        exact ⟨_, rfl, hown.low hb.size, Below.next hb hb2⟩
end Go.Proofs.Ytapacdkcekbnaaa
