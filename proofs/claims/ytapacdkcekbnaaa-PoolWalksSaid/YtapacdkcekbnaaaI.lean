/- The reference's Take and Free. -/
import Derived.Test.YtapacdkcekbnaaaH
namespace Go.Proofs.Ytapacdkcekbnaaa
open Go Go.RowKit

/-- A slice that has an element has its cells. -/
theorem Sl.at_ {w : World} {v : Value} {l : List Ad} (hv : Sl w v l) {n : Nat} (hn : n < l.length) : ∃ b off c, v = .slice (some ⟨b, off, none⟩) l.length c ∧ b < w.heap.size ∧ Holds w b off l := by
  rcases hv.2 with ⟨rfl, _⟩ | h
  · simp at hn
  · exact h

set_option maxHeartbeats 2000000 in
theorem refTake_any (v : Value) (l : List Ad) (k u : Int) (w : World) (hv : Sl w v l) :
    Calls Try.prog 12 #[v, .int .i64 k, .int .i64 u] w (Gives w.heap.size (takeF l k u) w) := by
  have hm := poolMay_any v l u w hv
  have hbig := hv.1
  obtain ⟨ao, c, hform⟩ := hv.form
  by_cases hbad : (mayB l && userMayB u) = false
  · have hr : takeF l k u = Option.none := by
      unfold takeF; rw [if_pos]
      cases h1 : mayB l <;> cases h2 : userMayB u <;> simp_all
    rw [hr]
    rw [hbad] at hm
    clear hr hv hform hbad
    go_enter Try.func12, Try.ntmps12
    go_wp2_with (go_at_call 30; refine hm.mono ?_; rintro e w1 ⟨rfl, rfl⟩)
    go_ret2
    exact Gives.none (Below.refl _ _)
  · have hg : mayB l = true ∧ userMayB u = true := by simpa using hbad
    rw [hg.1, hg.2] at hm
    by_cases h1 : k < 0
    · have hr : takeF l k u = Option.none := by unfold takeF; rw [if_pos]; simp [thereB]; omega
      rw [hr]
      subst hform
      clear hr hv hbad hg
      go_enter Try.func12, Try.ntmps12
      go_wp2_with (go_at_call 30; refine hm.mono ?_; rintro e w1 ⟨rfl, rfl⟩)
      go_ret2
      exact Gives.none (Below.refl _ _)
    · by_cases h2 : (l.length : Int) ≤ k
      · have hr : takeF l k u = Option.none := by unfold takeF; rw [if_pos]; simp [thereB]; omega
        rw [hr]
        subst hform
        clear hr hv hbad hg
        go_enter Try.func12, Try.ntmps12
        go_wp2_with (go_at_call 30; refine hm.mono ?_; rintro e w1 ⟨rfl, rfl⟩)
        go_ret2
        exact Gives.none (Below.refl _ _)
      · obtain ⟨n, rfl⟩ := Int.eq_ofNat_of_zero_le (Int.not_lt.1 h1)
        have hn : n < l.length := by omega
        have hlen := mayB_len hg.1
        obtain ⟨b, off, c', hv', hbs, hh⟩ := hv.at_ hn
        obtain ⟨c0, c1, c2⟩ := hh n hn
        have hr : takeF l n u = if (l[n]!).busy then Option.none else some (l.set n ⟨true, u, 0⟩) := by
          have hk : thereB l n = true := by simp [thereB]; omega
          unfold takeF busyAt
          simp [hg.1, hg.2, hk]
        generalize l[n]! = y at c0 c1 c2 hr
        have HR := Lib.hid hr
        have hni : (n : Int) < (l.length : Int) := by omega
        have hwith := refWith_any v l n ⟨true, u, 0⟩ w hv hn (by omega)
        clear hr hv hh hg hbad hform h2
        simp only [Ad.val] at hwith
        subst hv'
        obtain ⟨yb, yl, yt⟩ := y
        cases yb
        · have hfin : takeF l n u = some (l.set n ⟨true, u, 0⟩) := by rw [HR.out]; rfl
          rw [hfin]
          clear HR hfin
          go_enter Try.func12, Try.ntmps12
          go_wp2_with (first | (go_at_call 30; refine hm.mono ?_; rintro e w1 ⟨rfl, rfl⟩) | (go_at_call 34; refine hwith.mono ?_; rintro e w2 ⟨v2, rfl, hown, hb2⟩))
          go_ret2
          exact ⟨_, rfl, hown, hb2⟩
        · have hfin : takeF l n u = Option.none := by rw [HR.out]; rfl
          rw [hfin]
          clear HR hfin hwith
          go_enter Try.func12, Try.ntmps12
          go_wp2_with (first | (go_at_call 30; refine hm.mono ?_; rintro e w1 ⟨rfl, rfl⟩))
          go_ret2
          exact Gives.none (Below.refl _ _)

set_option maxHeartbeats 2000000 in
theorem refFree_any (v : Value) (l : List Ad) (k t : Int) (w : World) (hv : Sl w v l) :
    Calls Try.prog 14 #[v, .int .i64 k, .int .i64 t] w (Gives w.heap.size (freeF l k t) w) := by
  have hm := poolMay_any v l 0 w hv
  have hbig := hv.1
  obtain ⟨ao, c, hform⟩ := hv.form
  have hz : (mayB l && userMayB 0) = mayB l := by simp [userMayB]
  rw [hz] at hm
  clear hz
  by_cases hg : mayB l = true
  · rw [hg] at hm
    by_cases h1 : k < 0
    · have hr : freeF l k t = Option.none := by unfold freeF; rw [if_pos]; simp [thereB]; omega
      rw [hr]
      subst hform
      clear hr hv hg
      go_enter Try.func14, Try.ntmps14
      go_wp2_with (go_at_call 30; refine hm.mono ?_; rintro e w1 ⟨rfl, rfl⟩)
      go_ret2
      exact Gives.none (Below.refl _ _)
    · by_cases h2 : (l.length : Int) ≤ k
      · have hr : freeF l k t = Option.none := by unfold freeF; rw [if_pos]; simp [thereB]; omega
        rw [hr]
        subst hform
        clear hr hv hg
        go_enter Try.func14, Try.ntmps14
        go_wp2_with (go_at_call 30; refine hm.mono ?_; rintro e w1 ⟨rfl, rfl⟩)
        go_ret2
        exact Gives.none (Below.refl _ _)
      · obtain ⟨n, rfl⟩ := Int.eq_ofNat_of_zero_le (Int.not_lt.1 h1)
        have hn : n < l.length := by omega
        have hlen := mayB_len hg
        obtain ⟨b, off, c', hv', hbs, hh⟩ := hv.at_ hn
        obtain ⟨c0, c1, c2⟩ := hh n hn
        have hr : freeF l n t = if !(l[n]!).busy || decide (t < 0) then Option.none else some (l.set n ⟨false, (l[n]!).last, t⟩) := by
          have hk : thereB l n = true := by simp [thereB]; omega
          unfold freeF busyAt
          simp [hg, hk]
        generalize l[n]! = y at c0 c1 c2 hr
        have HR := Lib.hid hr
        have hni : (n : Int) < (l.length : Int) := by omega
        have hwith := fun W (hW : Below w.heap.size w W) => refWith_any v l n ⟨false, y.last, t⟩ W (hv.below hW) hn (by omega)
        clear hr hv hg hh hform h2
        simp only [Ad.val] at hwith
        subst hv'
        obtain ⟨yb, yl, yt⟩ := y
        have HW := Lib.hid hwith
        clear hwith
        cases yb
        · have hfin : freeF l n t = Option.none := by rw [HR.out]; rfl
          rw [hfin]
          clear HR hfin HW
          go_enter Try.func14, Try.ntmps14
          go_wp2_with (first | (go_at_call 30; refine hm.mono ?_; rintro e w1 ⟨rfl, rfl⟩))
          go_ret2
          exact Gives.none (Below.refl _ _)
        · by_cases hneg : t < 0
          · have hfin : freeF l n t = Option.none := by rw [HR.out]; simp [hneg]
            rw [hfin]
            clear HR hfin HW
            go_enter Try.func14, Try.ntmps14
            go_wp2_with (first | (go_at_call 30; refine hm.mono ?_; rintro e w1 ⟨rfl, rfl⟩))
            go_ret2
            exact Gives.none (Below.refl _ _)
          · have hfin : freeF l n t = some (l.set n ⟨false, yl, t⟩) := by rw [HR.out]; simp; omega
            rw [hfin]
            clear HR hfin
            have hb0 : ∀ x0 x1 x2, Below w.heap.size w (w.alloc (.cells #[x0, x1, x2] 46)) := fun _ _ _ => (Below.refl _ _).alloc (Nat.le_refl _) _
            have HB0 := Lib.hid hb0
            clear hb0
            go_enter Try.func14, Try.ntmps14
            go_wp2_with (first | (go_at_call 30; refine hm.mono ?_; rintro e w1 ⟨rfl, rfl⟩) | (go_at_call 34; refine (HW.out _ (HB0.out _ _ _)).mono ?_; rintro e w2 ⟨v2, rfl, hown, hb2⟩))
            go_ret2
            exact ⟨_, rfl, hown.low (by simp), (HB0.out _ _ _).trans (hb2.mono (by simp))⟩
  · have hr : freeF l k t = Option.none := by unfold freeF; rw [if_pos]; simp [hg]
    rw [hr]
    have hg' : mayB l = false := by simpa using hg
    rw [hg'] at hm
    clear hr hv hform hg hg'
    go_enter Try.func14, Try.ntmps14
    go_wp2_with (go_at_call 30; refine hm.mono ?_; rintro e w1 ⟨rfl, rfl⟩)
    go_ret2
    exact Gives.none (Below.refl _ _)
end Go.Proofs.Ytapacdkcekbnaaa
