/- The reference's poolMay, Take, Free. -/
import Derived.Test.YtapacdkcekbnaaaG
namespace Go.Proofs.Ytapacdkcekbnaaa
open Go Go.RowKit

theorem notB_eq (a : Ad) : notB a.last a.til = (decide (a.last < -1) || decide (8 ≤ a.last) || decide (a.til < 0)) := by
  unfold notB userMayB
  rw [Bool.eq_iff_iff]
  simp
  omega

theorem any_at {l : List Ad} {p : Ad → Bool} {k : Nat} (hk : k < l.length) (h : p l[k]! = true) : l.any p = true := by
  refine List.any_eq_true.2 ⟨l[k], List.getElem_mem hk, ?_⟩
  simpa [hk] using h

theorem any_none {l : List Ad} {p : Ad → Bool} (h : ∀ j, j < l.length → p l[j]! = false) : l.any p = false := by
  refine List.any_eq_false.2 fun x hx => ?_
  obtain ⟨j, hj, rfl⟩ := List.mem_iff_getElem.1 hx
  simpa [hj] using h j hj

set_option maxHeartbeats 2000000 in
theorem poolMay_any (v : Value) (l : List Ad) (u : Int) (w : World) (hv : Sl w v l) :
    Calls Try.prog 30 #[v, .int .i64 u] w fun e w' => e = .returned (.bool (mayB l && userMayB u)) ∧ w = w' := by
  have hbig := hv.1
  obtain ⟨ao, c, hform⟩ := hv.form
  have hh : ∀ k, k < l.length → ∃ b off, ao = some ⟨b, off, none⟩ ∧ w.cell? ⟨b, off + k * 3, none⟩ = some (.bool l[k]!.busy) ∧ w.cell? ⟨b, off + k * 3 + 1, none⟩ = some (.int .i64 l[k]!.last) ∧ w.cell? ⟨b, off + k * 3 + 2, none⟩ = some (.int .i64 l[k]!.til) := by
    intro k hk
    rcases hv.2 with ⟨rfl, _⟩ | ⟨b, off, c', hv', hbs, hh⟩
    · simp at hk
    · rw [hv'] at hform
      injection hform with h1
      exact ⟨b, off, h1.symm, hh k hk⟩
  have HH := Lib.hid hh
  subst hform
  clear hv hh
  obtain ⟨n, hn'⟩ : ∃ n, n = l.length := ⟨_, rfl⟩
  rw [← hn'] at hbig ⊢
  have HN : Aside (n = l.length) := hn'
  clear hn'
  obtain ⟨r, hr⟩ : ∃ r, r = (mayB l && userMayB u) := ⟨_, rfl⟩
  rw [← hr]
  have HR : Aside (r = (mayB l && userMayB u)) := hr
  clear hr
  go_enter Try.func30, Try.ntmps30
  go_wp2
  go_loopg [5] (n + 1) (fun gg s5 wr => ∃ k : Nat, k ≤ n ∧ n - k < gg ∧ s5 = .int .i64 k ∧ Aside (w = wr) ∧ Aside (∀ j, j < k → notB l[j]!.last l[j]!.til = false))
  case atStart => exact ⟨0, Nat.zero_le _, by omega, rfl, rfl, fun j hj => absurd hj (Nat.not_lt_zero _)⟩
  case round =>
    obtain ⟨k, hk, hg, rfl, EW, A⟩ := hrel
    obtain rfl := EW.out
    by_cases hlt : k < n
    · obtain ⟨b, off, rfl, c0, c1, c2⟩ := HH.out k (by rw [← HN.out]; exact hlt)
      have hki : (k : Int) < (n : Int) := by omega
      have hb := notB_eq l[k]!
      generalize hy : l[k]! = y at c0 c1 c2 hb
      have HY : Aside (l[k]! = y) := hy
      clear hy
      obtain ⟨yb, yl, yt⟩ := y
      have bad : notB yl yt = true → false = r := by
        intro hnb
        rw [HR.out]
        have h1 : (l.any fun a => notB a.last a.til) = true := any_at (k := k) (by rw [← HN.out]; exact hlt) (by rw [HY.out]; exact hnb)
        unfold mayB
        rw [h1]
        simp
      have HB := Lib.hid hb
      have HBad := Lib.hid bad
      clear hb bad
      by_cases h1 : yl < -1
      · have hr := HBad.out (by have := HB.out; simp only at this; rw [this]; simp [h1])
        subst hr
        go_wp2
        go_ret
        exact ⟨rfl, rfl⟩
      · by_cases h2 : 8 ≤ yl
        · have hr := HBad.out (by have := HB.out; simp only at this; rw [this]; simp [h2])
          subst hr
          go_wp2
          go_ret
          exact ⟨rfl, rfl⟩
        · by_cases h3 : yt < 0
          · have hr := HBad.out (by have := HB.out; simp only at this; rw [this]; simp [h3])
            subst hr
            go_wp2
            go_ret
            exact ⟨rfl, rfl⟩
          · have hgood : notB yl yt = false := by have := HB.out; simp only at this; rw [this]; simp; omega
            have HG := Lib.hid hgood
            clear hgood
            go_wp2
            go_roundg (n - k)
            case measure => omega
            case rel =>
              refine ⟨k + 1, by omega, by omega, by go_num, rfl, (show Aside _ from fun j hj => ?_)⟩
              by_cases e : j = k
              · subst e
                rw [HY.out]; exact HG.out
              · exact A.out j (by omega)
    · have hki : ¬ (k : Int) < (n : Int) := by omega
      have : k = n := by omega
      subst this
      have h0 : (l.any fun a => notB a.last a.til) = false := any_none (by rw [← HN.out]; exact A.out)
      have hr : r = (decide (1 ≤ k) && decide (k ≤ 16) && (decide (0 ≤ u) && decide (u < 8))) := by
        rw [HR.out]; unfold mayB userMayB; rw [h0, ← HN.out]; simp
      have HR2 := Lib.hid hr
      clear hr h0
      by_cases q1 : 1 ≤ k
      · by_cases q2 : k ≤ 16
        · by_cases q3 : 0 ≤ u
          all_goals
            have hr : r = (decide (0 ≤ u) && decide (u < 8)) := by rw [HR2.out]; simp [q1, q2]
            have HR3 := Lib.hid hr
            clear hr
            go_wp2
            go_ret
            exact ⟨by rw [HR3.out]; simp [q3]; try omega, rfl⟩
        · have hr : r = false := by rw [HR2.out]; simp [q2]
          subst hr
          go_wp2
          go_ret
          exact ⟨rfl, rfl⟩
      · have hr : r = false := by rw [HR2.out]; simp [q1]
        subst hr
        go_wp2
        go_ret
        exact ⟨rfl, rfl⟩
end Go.Proofs.Ytapacdkcekbnaaa
