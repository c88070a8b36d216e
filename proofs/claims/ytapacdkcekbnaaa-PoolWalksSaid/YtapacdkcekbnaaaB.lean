/- Contracts of slices.IndexFunc and slices.ContainsFunc at addresses. -/
import Derived.Test.YtapacdkcekbnaaaA
import Derived.Shelf.Abstract
import Derived.Deep.LoopGhost
namespace Go.Proofs.Ytapacdkcekbnaaa
open Go Go.RowKit

instance : Inhabited Ad := ⟨⟨false, 0, 0⟩⟩

/-- The cells of addresses, in their row. -/
def Holds (w : World) (b off : Nat) (l : List Ad) : Prop :=
  ∀ i, i < l.length → w.cell? ⟨b, off + i * 3, none⟩ = some (.bool l[i]!.busy) ∧ w.cell? ⟨b, off + i * 3 + 1, none⟩ = some (.int .i64 l[i]!.last) ∧ w.cell? ⟨b, off + i * 3 + 2, none⟩ = some (.int .i64 l[i]!.til)

theorem Holds.below {w w' : World} {b off B : Nat} {l : List Ad} (h : Holds w b off l) (hb : Below B w w') (hB : b < B) : Holds w' b off l := by
  intro i hi
  obtain ⟨h1, h2, h3⟩ := h i hi
  exact ⟨by rw [hb.cell (p := ⟨b, _, none⟩) hB]; exact h1, by rw [hb.cell (p := ⟨b, _, none⟩) hB]; exact h2, by rw [hb.cell (p := ⟨b, _, none⟩) hB]; exact h3⟩

def idx (p : Ad → Bool) (l : List Ad) : Int := match l.findIdx? p with
  | some i => (i : Int)
  | none => -1

theorem idx_hit {p : Ad → Bool} {l : List Ad} {k : Nat} (hk : k < l.length) (h : p l[k]! = true) (hj : ∀ j, j < k → p l[j]! = false) : idx p l = k := by
  have : l.findIdx? p = some k := by
    rw [List.findIdx?_eq_some_iff_getElem]
    refine ⟨hk, by simpa [hk] using h, fun j hj' => ?_⟩
    have := hj j hj'
    simpa [show j < l.length by omega] using this
  simp [idx, this]

theorem idx_miss {p : Ad → Bool} {l : List Ad} (hj : ∀ j, j < l.length → p l[j]! = false) : idx p l = -1 := by
  have : l.findIdx? p = none := by
    rw [List.findIdx?_eq_none_iff]
    intro x hx
    obtain ⟨j, hj', rfl⟩ := List.mem_iff_getElem.1 hx
    simpa [hj'] using hj j hj'
  simp [idx, this]

def PredOk (g : Nat) (lb : Array Value) (p : Ad → Bool) (w : World) : Prop :=
  ∀ (W : World) (x : Ad), Below w.heap.size w W → Calls Try.prog g (#[x.val] ++ lb) W fun e w' => e = .returned (.bool (p x)) ∧ Below w.heap.size w w'

set_option maxHeartbeats 1000000 in
theorem indexFunc_some (p : Ad → Bool) (g : Nat) (lb : Array Value) (eg : ∀ args w, (callFunc g args).run Try.prog w = .ok (.enter g args) w) (b off c : Nat) (l : List Ad) (w : World)
    (hp : PredOk g lb p w) (hn : l.length ≤ 9223372036854775807) (hb : b < w.heap.size) (hc : Holds w b off l) :
    Calls Try.prog 29 #[.slice (some ⟨b, off, none⟩) l.length c, .func (.func g) #[] lb] w fun e w' => e = .returned (.int .i64 (idx p l)) ∧ Below w.heap.size w w' := by
  have H : ∀ (W : World), Below w.heap.size w W → Holds W b off l := fun W hW => hc.below hW hb
  clear hc
  obtain ⟨n, hn'⟩ : ∃ n, n = l.length := ⟨_, rfl⟩
  rw [← hn'] at hn ⊢
  have HN : Aside (n = l.length) := hn'
  clear hn'
  have H' : Aside (∀ (W : World), Below w.heap.size w W → Holds W b off l) := H
  have hp' : Aside (PredOk g lb p w) := hp
  clear H hp
  go_enter Try.func29, Try.ntmps29
  go_wp2
  go_loopg [5, 8] n (fun gg _ s8 wr => ∃ kk : Nat, kk ≤ n ∧ n - kk ≤ gg ∧ s8 = .int .i64 kk ∧ Aside (Below w.heap.size w wr) ∧ Aside (∀ j, j < kk → p l[j]! = false))
  case atStart => exact ⟨0, Nat.zero_le _, by omega, rfl, Below.refl _ w, fun j hj => absurd hj (Nat.not_lt_zero _)⟩
  case round =>
    obtain ⟨kk, hkk, hg, rfl, BW, A⟩ := hrel
    by_cases hlt : kk < n
    · obtain ⟨h1, h2, h3⟩ := H'.out wr BW.out kk (by rw [← HN.out]; exact hlt)
      have hcall := hp'.out wr l[kk]! BW.out
      have hltz : (kk : Int) < (n : Int) := by omega
      unfold Ad.val at hcall
      generalize hy : l[kk]! = y at h1 h2 h3 hcall
      have B : Aside (l[kk]! = y) := hy
      clear hy
      cases hq : p y with
      | true =>
        rw [hq] at hcall
        go_wp2_with (go_at_fn g; refine hcall.mono ?_; rintro e w' ⟨rfl, hb'⟩)
        go_ret
        refine ⟨?_, hb'⟩
        rw [idx_hit (p := p) (l := l) (k := kk) (by rw [← HN.out]; exact hlt) (by rw [B.out]; exact hq) A.out]
        rfl
      | false =>
        rw [hq] at hcall
        go_wp2_with (go_at_fn g; refine hcall.mono ?_; rintro e w' ⟨rfl, hb'⟩)
        go_roundg (n - (kk + 1))
        case measure => omega
        case rel =>
          refine ⟨kk + 1, by omega, by omega, by go_num, hb', (show Aside _ from fun j hj => ?_)⟩
          by_cases e : j = kk
          · subst e
            rw [B.out]; exact hq
          · exact A.out j (by omega)
    · have hltz : ¬ (kk : Int) < (n : Int) := by omega
      have : kk = n := by omega
      subst this
      go_wp2
      go_ret
      refine ⟨?_, BW.out⟩
      rw [idx_miss (p := p) (l := l) (by rw [← HN.out]; exact A.out)]
      rfl

theorem indexFunc_empty (g : Nat) (lb : Array Value) (ao : Option Addr) (c : Nat) (w : World) :
    Calls Try.prog 29 #[.slice ao 0 c, .func (.func g) #[] lb] w fun e w' => e = .returned (.int .i64 (-1)) ∧ w = w' := by
  go_enter Try.func29, Try.ntmps29
  go_wp2
  refine wp_loop_rounds 1 ?_; rw [rounds_succ]
  go_wp2
  go_ret
  exact ⟨rfl, rfl⟩

/-- A slice value that reads as addresses. -/
def Sl (w : World) (v : Value) (l : List Ad) : Prop :=
  l.length ≤ 9223372036854775807 ∧ ((l = [] ∧ ∃ ao c, v = .slice ao 0 c) ∨ ∃ b off c, v = .slice (some ⟨b, off, none⟩) l.length c ∧ b < w.heap.size ∧ Holds w b off l)

theorem Sl.below {w w' : World} {v : Value} {l : List Ad} (h : Sl w v l) (hb : Below w.heap.size w w') : Sl w' v l := by
  obtain ⟨h0, h | ⟨b, off, c, rfl, h1, h2⟩⟩ := h
  · exact ⟨h0, .inl h⟩
  · exact ⟨h0, .inr ⟨b, off, c, rfl, Nat.lt_of_lt_of_le h1 hb.size, h2.below hb h1⟩⟩

theorem Below.next {w w1 w2 : World} (h : Below w.heap.size w w1) (h' : Below w1.heap.size w1 w2) : Below w.heap.size w w2 := h.trans (h'.mono h.size)

theorem indexFunc_any (p : Ad → Bool) (g : Nat) (lb : Array Value) (eg : ∀ args w, (callFunc g args).run Try.prog w = .ok (.enter g args) w) (v : Value) (l : List Ad) (w : World)
    (hp : PredOk g lb p w) (hv : Sl w v l) :
    Calls Try.prog 29 #[v, .func (.func g) #[] lb] w fun e w' => e = .returned (.int .i64 (idx p l)) ∧ Below w.heap.size w w' := by
  obtain ⟨h0, ⟨rfl, ao, c, rfl⟩ | ⟨b, off, c, rfl, h1, h2⟩⟩ := hv
  · exact (indexFunc_empty g lb ao c w).mono fun e w' ⟨he, hw⟩ => ⟨he, hw ▸ Below.refl _ _⟩
  · exact indexFunc_some p g lb eg b off c l w hp h0 h1 h2

theorem idx_nonneg (p : Ad → Bool) (l : List Ad) : decide (0 ≤ idx p l) = l.any p := by
  unfold idx
  cases h : l.findIdx? p with
  | some i =>
    have := List.findIdx?_eq_some_iff_getElem.1 h
    obtain ⟨hi, hp, _⟩ := this
    have : l.any p = true := List.any_eq_true.2 ⟨_, List.getElem_mem hi, hp⟩
    rw [this]; simp
  | none =>
    rw [List.findIdx?_eq_none_iff] at h
    have : l.any p = false := List.any_eq_false.2 fun x hx => by simpa using h x hx
    rw [this]; decide

theorem containsFunc_any (p : Ad → Bool) (g : Nat) (lb : Array Value) (eg : ∀ args w, (callFunc g args).run Try.prog w = .ok (.enter g args) w) (v : Value) (l : List Ad) (w : World)
    (hp : PredOk g lb p w) (hv : Sl w v l) :
    Calls Try.prog 37 #[v, .func (.func g) #[] lb] w fun e w' => e = .returned (.bool (l.any p)) ∧ Below w.heap.size w w' := by
  have hc := indexFunc_any p g lb eg v l w hp hv
  rw [← idx_nonneg]
  clear hp hv
  generalize idx p l = i at hc ⊢
  go_enter Try.func37, Try.ntmps37
  go_wp2_with (go_at_call 29; refine hc.mono ?_; rintro e w' ⟨rfl, hb'⟩)
  go_ret
  exact ⟨rfl, hb'⟩
end Go.Proofs.Ytapacdkcekbnaaa
