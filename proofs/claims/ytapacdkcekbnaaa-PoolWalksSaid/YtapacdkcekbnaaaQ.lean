/- A slice of addresses that came in reads as addresses. -/
import Derived.Test.YtapacdkcekbnaaaP
import Derived.ProofKit
import Derived.OpenShut
import Derived.SizedLaws
import Derived.Deep.Slices
import Derived.Deep.Strs
namespace Go.Proofs.Ytapacdkcekbnaaa
open Go Go.RowKit Go.ChangeShapes Go.WideShapes Go.Deep

theorem Try.cells46 : Try.prog.cellsOf 46 = 3 := by kernel_rfl
theorem Try.cells3 : Try.prog.cellsOf 3 = 1 := by kernel_rfl
theorem Try.cells4 : Try.prog.cellsOf 4 = 1 := by kernel_rfl
theorem Try.bytes46 : Try.prog.bytesOf 46 = 24 := by kernel_rfl

section
variable {H : Type} {enc : TypeId × Value → H} {w : World} {base : Nat} {spare : Nat → Bool} {held : Bool}

theorem open_ads {fuel : Nat} {ao : Option Addr} {len cap : Nat} {x : DataW H × List MemPlace} (h : DataW.trod enc Try.prog w base spare held fuel 22 [.slice ao len cap] = some x) :
    (∃ l : List Ad, l.length = len ∧ Sl w (.slice ao len cap) l) ∧ (len = 0 ∨ ∃ el sp, x.1 = .slice el sp ∧ el.length = len) := by
  rcases open_slice Try.underlying22 h with ⟨hcs, hx⟩ | ⟨a, len', cap', m, n, D, Pl, hcs, hb, hl, hm, hmm, hx, hi⟩
  · injection hcs with h1 _
    injection h1 with h1 h2 h3
    subst h1; subst h2; subst h3
    exact ⟨⟨[], rfl, by simp, .inl ⟨rfl, none, 0, rfl⟩⟩, .inl rfl⟩
  · injection hcs with h1 _
    injection h1 with h1 h2 h3
    subst h1; subst h2; subst h3
    refine ⟨?_, .inr ⟨_, _, by rw [hx], by simp⟩⟩
    have hle : len ≤ m := by rw [hmm]; split <;> omega
    have hel : ∀ i, i < len → ∃ y : Ad, w.cell? (a.add (i * 3)) = some (.bool y.busy) ∧ w.cell? (a.add (i * 3 + 1)) = some (.int .i64 y.last) ∧ w.cell? (a.add (i * 3 + 2)) = some (.int .i64 y.til) := by
      intro i hil
      obtain ⟨cs', hc, ht⟩ := hi i (by omega)
      rw [Try.cells46] at hc
      obtain ⟨_, hcl, hat⟩ := World.cells?_some hc
      obtain ⟨y0, y1, y2, n', _, _, g0, g1, g2⟩ := trod_struct3 Try.underlying46 ht
      simp only [Try.cells3, Try.cells4] at g0 g1 g2
      match cs', hcl with
      | [c0, c1, c2], _ =>
        obtain ⟨b, e0, _⟩ := DataW.trod_bool Try.underlying4 g0
        obtain ⟨p, e1, _, _⟩ := DataW.trod_int Try.underlying3 g1
        obtain ⟨q, e2, _, _⟩ := DataW.trod_int Try.underlying3 g2
        simp at e0 e1 e2
        subst e0; subst e1; subst e2
        have q0 := hat 0 (by omega)
        have q1 := hat 1 (by omega)
        have q2 := hat 2 (by omega)
        rw [Go.Deep.add_add] at q0 q1 q2
        exact ⟨⟨b, p, q⟩, by simpa using q0, by simpa using q1, by simpa using q2⟩
    by_cases h0 : len = 0
    · subst h0
      exact ⟨[], rfl, by simp, .inl ⟨rfl, some a, cap, rfl⟩⟩
    · obtain ⟨f, hf⟩ : ∃ f : Nat → Ad, ∀ i, i < len → w.cell? (a.add (i * 3)) = some (.bool (f i).busy) ∧ w.cell? (a.add (i * 3 + 1)) = some (.int .i64 (f i).last) ∧ w.cell? (a.add (i * 3 + 2)) = some (.int .i64 (f i).til) := by
        refine ⟨fun i => if hi : i < len then Classical.choose (hel i hi) else default, fun i hi => ?_⟩
        simp only [hi, dite_true]
        exact Classical.choose_spec (hel i hi)
      have hspot : ∃ b off, a = ⟨b, off, none⟩ := by
        obtain ⟨b, off, sp⟩ := a
        have := (hf 0 (by omega)).1
        cases sp with
        | none => exact ⟨b, off, rfl⟩
        | some s => simp [Addr.add, World.cell?] at this; split at this <;> simp_all
      obtain ⟨b, off, rfl⟩ := hspot
      have hlt : b < w.heap.size := by
        have := World.block_lt_of_cell? w _ (hf 0 (by omega)).1
        simpa [Addr.add] using this
      refine ⟨(List.range len).map f, by simp, by simp; unfold maxLen at hm; omega, .inr ⟨b, off, cap, by simp, hlt, fun i hi => ?_⟩⟩
      have hi' : i < len := by simpa using hi
      obtain ⟨c0, c1, c2⟩ := hf i hi'
      rw [Addr.add_lit] at c0 c1 c2
      have e : ((List.range len).map f)[i]! = f i := by simp [hi']
      rw [e]
      exact ⟨c0, c1, c2⟩
end
end Go.Proofs.Ytapacdkcekbnaaa
