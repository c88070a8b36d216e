/- The reference's Lease. -/
import Derived.Test.YtapacdkcekbnaaaI
namespace Go.Proofs.Ytapacdkcekbnaaa
open Go Go.RowKit

def NoneB (p : Ad → Bool) (l : List Ad) (k : Nat) : Prop := ∀ j, j < k → p l[j]! = false
def FirstB (p : Ad → Bool) (l : List Ad) (k : Nat) (b : Int) : Prop := ∃ n : Nat, b = n ∧ n < k ∧ p l[n]! = true ∧ ∀ j, j < n → p l[j]! = false

theorem NoneB.succ {p : Ad → Bool} {l : List Ad} {k : Nat} (h : NoneB p l k) (hk : p l[k]! = false) : NoneB p l (k + 1) := fun j hj => by
  by_cases e : j = k
  · subst e; exact hk
  · exact h j (by omega)
theorem FirstB.succ {p : Ad → Bool} {l : List Ad} {k : Nat} {b : Int} (h : FirstB p l k b) : FirstB p l (k + 1) b := by
  obtain ⟨n, h1, h2, h3⟩ := h
  exact ⟨n, h1, by omega, h3⟩
theorem NoneB.first {p : Ad → Bool} {l : List Ad} {k : Nat} (h : NoneB p l k) (hk : p l[k]! = true) : FirstB p l (k + 1) k := ⟨k, rfl, by omega, hk, h⟩
theorem FirstB.nonneg {p : Ad → Bool} {l : List Ad} {k : Nat} {b : Int} (h : FirstB p l k b) : 0 ≤ b := by obtain ⟨n, rfl, _⟩ := h; omega
theorem FirstB.idx {p : Ad → Bool} {l : List Ad} {b : Int} (h : FirstB p l l.length b) : idx p l = b := by
  obtain ⟨n, rfl, h1, h2, h3⟩ := h
  exact idx_hit h1 h2 h3
theorem NoneB.idx {p : Ad → Bool} {l : List Ad} (h : NoneB p l l.length) : idx p l = -1 := idx_miss h

/-- What the reference's loop knows behind k rounds. -/
def RefInv (l : List Ad) (u t : Int) (k : Nat) (b r : Int) : Prop :=
  (r = 0 ∧ FirstB (ownP t u) l k b) ∨ (r = 1 ∧ NoneB (ownP t u) l k ∧ FirstB (ownP t (-1)) l k b) ∨
  (r = 2 ∧ NoneB (ownP t u) l k ∧ NoneB (ownP t (-1)) l k ∧ FirstB (freeB t) l k b) ∨ (r = 3 ∧ NoneB (freeB t) l k ∧ b = -1)

theorem NoneB.own {t : Int} {l : List Ad} {k : Nat} (h : NoneB (freeB t) l k) (u : Int) : NoneB (ownP t u) l k := fun j hj => by
  unfold ownP; rw [h j hj]; rfl

theorem RefInv.leased {l : List Ad} {u t b r : Int} (h : RefInv l u t l.length b r) (h1 : mayB l = true) (h2 : userMayB u = true) (h3 : tickMayB t = true) :
    leaseF l u t = if b < 0 then (0, 1601) else (b, 0) := by
  unfold leaseF
  rw [h1, h2, h3]
  simp only [Bool.not_true, Bool.or_self, Bool.false_eq_true, if_false]
  rcases h with ⟨_, h⟩ | ⟨_, h, h'⟩ | ⟨_, h, h', h''⟩ | ⟨_, h, rfl⟩
  · have := h.nonneg
    rw [h.idx, if_pos this, if_neg (by omega)]
  · have := h'.nonneg
    rw [h.idx, h'.idx, if_neg (by omega), if_pos this, if_neg (by omega)]
  · have := h''.nonneg
    rw [h.idx, h'.idx, h''.idx, if_neg (by omega), if_neg (by omega), if_pos this, if_neg (by omega)]
  · rw [(h.own u).idx, (h.own (-1)).idx, h.idx, if_neg (by omega), if_neg (by omega), if_neg (by omega), if_pos (by omega)]

/-- An address that may not be leased. -/
theorem RefInv.skip {l : List Ad} {u t b r : Int} {k : Nat} (h : RefInv l u t k b r) (hf : freeB t l[k]! = false) : RefInv l u t (k + 1) b r := by
  have ho : ∀ x, ownP t x l[k]! = false := fun x => by unfold ownP; rw [hf]; rfl
  rcases h with ⟨hr, h⟩ | ⟨hr, h, h'⟩ | ⟨hr, h, h', h''⟩ | ⟨hr, h, hb⟩
  · exact .inl ⟨hr, h.succ⟩
  · exact .inr (.inl ⟨hr, h.succ (ho _), h'.succ⟩)
  · exact .inr (.inr (.inl ⟨hr, h.succ (ho _), h'.succ (ho _), h''.succ⟩))
  · exact .inr (.inr (.inr ⟨hr, h.succ hf, hb⟩))

theorem RefInv.own {l : List Ad} {u t b r : Int} {k : Nat} (h : RefInv l u t k b r) (hf : freeB t l[k]! = true) (hl : l[k]!.last = u) :
    RefInv l u t (k + 1) (if 0 < r then k else b) (if 0 < r then 0 else r) := by
  have ho : ownP t u l[k]! = true := by unfold ownP; rw [hf, hl]; simp
  rcases h with ⟨rfl, h⟩ | ⟨rfl, h, h'⟩ | ⟨rfl, h, h', h''⟩ | ⟨rfl, h, hb⟩
  · exact .inl ⟨rfl, h.succ⟩
  · exact .inl ⟨rfl, h.first ho⟩
  · exact .inl ⟨rfl, h.first ho⟩
  · exact .inl ⟨rfl, (h.own u).first ho⟩

theorem RefInv.new {l : List Ad} {u t b r : Int} {k : Nat} (h : RefInv l u t k b r) (hf : freeB t l[k]! = true) (hl : l[k]!.last ≠ u) (hn : l[k]!.last = -1) :
    RefInv l u t (k + 1) (if 1 < r then k else b) (if 1 < r then 1 else r) := by
  have ho : ownP t u l[k]! = false := by unfold ownP; rw [hf]; simpa using hl
  have hw : ownP t (-1) l[k]! = true := by unfold ownP; rw [hf, hn]; simp
  rcases h with ⟨rfl, h⟩ | ⟨rfl, h, h'⟩ | ⟨rfl, h, h', h''⟩ | ⟨rfl, h, hb⟩
  · exact .inl ⟨rfl, h.succ⟩
  · exact .inr (.inl ⟨rfl, h.succ ho, h'.succ⟩)
  · exact .inr (.inl ⟨rfl, h.succ ho, h'.first hw⟩)
  · exact .inr (.inl ⟨rfl, (h.own u).succ ho, (h.own (-1)).first hw⟩)

theorem RefInv.free {l : List Ad} {u t b r : Int} {k : Nat} (h : RefInv l u t k b r) (hf : freeB t l[k]! = true) (hl : l[k]!.last ≠ u) (hn : l[k]!.last ≠ -1) :
    RefInv l u t (k + 1) (if 2 < r then k else b) (if 2 < r then 2 else r) := by
  have ho : ownP t u l[k]! = false := by unfold ownP; rw [hf]; simpa using hl
  have hw : ownP t (-1) l[k]! = false := by unfold ownP; rw [hf]; simpa using hn
  rcases h with ⟨rfl, h⟩ | ⟨rfl, h, h'⟩ | ⟨rfl, h, h', h''⟩ | ⟨rfl, h, hb⟩
  · exact .inl ⟨rfl, h.succ⟩
  · exact .inr (.inl ⟨rfl, h.succ ho, h'.succ⟩)
  · exact .inr (.inr (.inl ⟨rfl, h.succ ho, h'.succ hw, h''.succ⟩))
  · exact .inr (.inr (.inl ⟨rfl, (h.own u).succ ho, (h.own (-1)).succ hw, h.first hf⟩))

set_option maxHeartbeats 4000000 in
theorem refLease_any (v : Value) (l : List Ad) (u t : Int) (w : World) (hv : Sl w v l) :
    Calls Try.prog 10 #[v, .int .i64 u, .int .i64 t] w fun e w' => e = .returned (.tuple #[.int .i64 (leaseF l u t).1, .int .i64 (leaseF l u t).2]) ∧ w = w' := by
  have hbig := hv.1
  have hm := poolMay_any v l u w hv
  have ht := refTickMay_any t
  obtain ⟨ao, c, hform⟩ := hv.form
  by_cases hbad : (mayB l && userMayB u) = false
  · have hr : leaseF l u t = (0, 1600) := by
      unfold leaseF; rw [if_pos]
      cases h1 : mayB l <;> cases h2 : userMayB u <;> simp_all
    rw [hr]
    rw [hbad] at hm
    clear hr hv hform hbad ht
    go_enter Try.func10, Try.ntmps10
    go_wp2_with (go_at_call 30; refine hm.mono ?_; rintro e w1 ⟨rfl, rfl⟩)
    go_ret2
    exact ⟨rfl, rfl⟩
  · have hg : mayB l = true ∧ userMayB u = true := by simpa using hbad
    rw [hg.1, hg.2] at hm
    by_cases hq : tickMayB t = true
    · rw [hq] at ht
      have hh : ∀ k, k < l.length → ∃ b off, ao = some ⟨b, off, none⟩ ∧ w.cell? ⟨b, off + k * 3, none⟩ = some (.bool l[k]!.busy) ∧ w.cell? ⟨b, off + k * 3 + 1, none⟩ = some (.int .i64 l[k]!.last) ∧ w.cell? ⟨b, off + k * 3 + 2, none⟩ = some (.int .i64 l[k]!.til) := by
        intro k hk
        obtain ⟨b, off, c', hv', hbs, hh⟩ := hv.at_ hk
        rw [hv'] at hform
        injection hform with h1
        exact ⟨b, off, h1.symm, hh k hk⟩
      have HH := Lib.hid hh
      subst hform
      have fin : ∀ b r, RefInv l u t l.length b r → leaseF l u t = if b < 0 then (0, 1601) else (b, 0) := fun b r h => h.leased hg.1 hg.2 hq
      have FIN := Lib.hid fin
      clear hv hh hbad hq hg fin
      obtain ⟨n, hn'⟩ : ∃ n, n = l.length := ⟨_, rfl⟩
      rw [← hn'] at hbig hm ⊢
      have HN : Aside (n = l.length) := hn'
      clear hn'
      generalize hres : leaseF l u t = res at FIN ⊢
      clear hres
      go_enter Try.func10, Try.ntmps10
      go_wp2_with (first | (go_at_call 30; refine hm.mono ?_; rintro e w1 ⟨rfl, rfl⟩) | (go_at_call 31; refine (ht _).mono ?_; rintro e w' ⟨rfl, rfl⟩))
      go_loopg [8, 9, 10] (n + 1) (fun gg s8 s9 s10 wr => ∃ (k : Nat) (b r : Int), k ≤ n ∧ n - k < gg ∧ s8 = .int .i64 b ∧ s9 = .int .i64 r ∧ s10 = .int .i64 k ∧ Aside (w = wr) ∧ Aside (RefInv l u t k b r))
      case atStart => exact ⟨0, -1, 3, Nat.zero_le _, by omega, rfl, rfl, rfl, rfl, .inr (.inr (.inr ⟨rfl, fun j hj => absurd hj (Nat.not_lt_zero _), rfl⟩))⟩
      case round =>
        obtain ⟨k, b, r, hk, hgg, rfl, rfl, rfl, EW, A⟩ := hrel
        obtain rfl := EW.out
        by_cases hlt : k < n
        · obtain ⟨bb, off, rfl, c0, c1, c2⟩ := HH.out k (by rw [← HN.out]; exact hlt)
          have hki : (k : Int) < (n : Int) := by omega
          have K0 := Lib.hid (fun hf => RefInv.skip A.out hf)
          have K1 := Lib.hid (fun hf hl => RefInv.own A.out hf hl)
          have K2 := Lib.hid (fun hf hl hn => RefInv.new A.out hf hl hn)
          have K3 := Lib.hid (fun hf hl hn => RefInv.free A.out hf hl hn)
          generalize l[k]! = y at c0 c1 c2 K0 K1 K2 K3
          obtain ⟨yb, yl, yt⟩ := y
          clear A
          cases yb
          · by_cases h1 : t < yt
            · have R := Lib.hid (K0.out (by simp [freeB]; omega))
              clear K0 K1 K2 K3
              go_wp2
              go_roundg (n - k)
              case measure => omega
              case rel => exact ⟨k + 1, b, r, by omega, by omega, rfl, rfl, by go_num, rfl, R.out⟩
            · have hfree : freeB t ⟨false, yl, yt⟩ = true := by simp [freeB]; omega
              have HF := Lib.hid hfree
              clear hfree
              by_cases h2 : yl = u
              · have R := Lib.hid (K1.out HF.out h2)
                subst h2
                clear K0 K1 K2 K3
                by_cases h4 : 0 < r
                · rw [if_pos h4, if_pos h4] at R
                  go_wp2
                  go_roundg (n - k)
                  case measure => omega
                  case rel => exact ⟨k + 1, k, 0, by omega, by omega, rfl, rfl, by go_num, rfl, R.out⟩
                · rw [if_neg h4, if_neg h4] at R
                  go_wp2
                  go_roundg (n - k)
                  case measure => omega
                  case rel => exact ⟨k + 1, b, r, by omega, by omega, rfl, rfl, by go_num, rfl, R.out⟩
              · by_cases h3 : yl = -1
                · have R := Lib.hid (K2.out HF.out h2 h3)
                  have h2b : (yl == u) = false := by simpa using h2
                  subst h3
                  clear K0 K1 K2 K3
                  by_cases h4 : 1 < r
                  · rw [if_pos h4, if_pos h4] at R
                    go_wp2
                    go_roundg (n - k)
                    case measure => omega
                    case rel => exact ⟨k + 1, k, 1, by omega, by omega, rfl, rfl, by go_num, rfl, R.out⟩
                  · rw [if_neg h4, if_neg h4] at R
                    go_wp2
                    go_roundg (n - k)
                    case measure => omega
                    case rel => exact ⟨k + 1, b, r, by omega, by omega, rfl, rfl, by go_num, rfl, R.out⟩
                · have R := Lib.hid (K3.out HF.out h2 h3)
                  have h2b : (yl == u) = false := by simpa using h2
                  have h3b : (yl == -1) = false := by simpa using h3
                  clear K0 K1 K2 K3
                  by_cases h4 : 2 < r
                  · rw [if_pos h4, if_pos h4] at R
                    go_wp2
                    go_roundg (n - k)
                    case measure => omega
                    case rel => exact ⟨k + 1, k, 2, by omega, by omega, rfl, rfl, by go_num, rfl, R.out⟩
                  · rw [if_neg h4, if_neg h4] at R
                    go_wp2
                    go_roundg (n - k)
                    case measure => omega
                    case rel => exact ⟨k + 1, b, r, by omega, by omega, rfl, rfl, by go_num, rfl, R.out⟩
          · have R := Lib.hid (K0.out (by simp [freeB]))
            clear K0 K1 K2 K3
            go_wp2
            go_roundg (n - k)
            case measure => omega
            case rel => exact ⟨k + 1, b, r, by omega, by omega, rfl, rfl, by go_num, rfl, R.out⟩
        · have hki : ¬ (k : Int) < (n : Int) := by omega
          have : k = n := by omega
          subst this
          have F := Lib.hid (FIN.out b r (by rw [← HN.out]; exact A.out))
          clear A FIN HH
          by_cases hneg : b < 0
          · rw [if_pos hneg] at F
            go_wp2
            go_ret2
            exact ⟨by rw [F.out]; rfl, rfl⟩
          · rw [if_neg hneg] at F
            go_wp2
            go_ret2
            exact ⟨by rw [F.out]; rfl, rfl⟩
    · have hq' : tickMayB t = false := by simpa using hq
      have hr : leaseF l u t = (0, 1600) := by unfold leaseF; rw [if_pos]; simp [hq']
      rw [hr]
      rw [hq'] at ht
      clear hr hv hform hbad hq hq' hg
      go_enter Try.func10, Try.ntmps10
      go_wp2_with (first | (go_at_call 30; refine hm.mono ?_; rintro e w1 ⟨rfl, rfl⟩) | (go_at_call 31; refine (ht _).mono ?_; rintro e w' ⟨rfl, rfl⟩))
      go_ret2
      exact ⟨rfl, rfl⟩
end Go.Proofs.Ytapacdkcekbnaaa
