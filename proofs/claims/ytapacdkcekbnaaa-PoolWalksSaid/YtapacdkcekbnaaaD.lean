/- What the call owns: rows of addresses in new memory; slices.Clone, with. -/
import Derived.Test.YtapacdkcekbnaaaC
import Derived.Laws.AppendOwnNone
namespace Go.Proofs.Ytapacdkcekbnaaa
open Go Go.RowKit

def cellsOf : List Ad → List Value
  | [] => []
  | a :: r => .bool a.busy :: .int .i64 a.last :: .int .i64 a.til :: cellsOf r

theorem cellsOf_length (l : List Ad) : (cellsOf l).length = l.length * 3 := by
  induction l with
  | nil => rfl
  | cons a r ih => simp [cellsOf, ih]; omega

theorem cellsOf_append (l m : List Ad) : cellsOf (l ++ m) = cellsOf l ++ cellsOf m := by
  induction l with
  | nil => rfl
  | cons a r ih => simp [cellsOf, ih]

theorem cellsOf_oneCell (l : List Ad) : ∀ u ∈ cellsOf l, u.oneCell' = true := by
  induction l with
  | nil => simp [cellsOf]
  | cons a r ih =>
    intro u hu
    simp only [cellsOf, List.mem_cons] at hu
    rcases hu with rfl | rfl | rfl | hu
    · rfl
    · rfl
    · rfl
    · exact ih u hu

theorem cellsOf_at (l : List Ad) : ∀ i, i < l.length → (cellsOf l)[i * 3]? = some (.bool l[i]!.busy) ∧ (cellsOf l)[i * 3 + 1]? = some (.int .i64 l[i]!.last) ∧ (cellsOf l)[i * 3 + 2]? = some (.int .i64 l[i]!.til) := by
  induction l with
  | nil => intro i hi; simp at hi
  | cons a r ih =>
    intro i hi
    cases i with
    | zero => simp [cellsOf]
    | succ i =>
      have h := ih i (by simpa using hi)
      have e : (i + 1) * 3 = i * 3 + 3 := by omega
      rw [e]
      simpa [cellsOf] using h

theorem cellsOf_inv (l : List Ad) (j : Nat) (u : Value) (h : (cellsOf l)[j]? = some u) :
    ∃ i r, i < l.length ∧ j = i * 3 + r ∧ ((r = 0 ∧ u = .bool l[i]!.busy) ∨ (r = 1 ∧ u = .int .i64 l[i]!.last) ∨ (r = 2 ∧ u = .int .i64 l[i]!.til)) := by
  have hj : j < l.length * 3 := by
    rw [← cellsOf_length]
    exact (List.getElem?_eq_some_iff.1 h).1
  have hi : j / 3 < l.length := by omega
  obtain ⟨h0, h1, h2⟩ := cellsOf_at l (j / 3) hi
  refine ⟨j / 3, j % 3, hi, by omega, ?_⟩
  have hr : j % 3 = 0 ∨ j % 3 = 1 ∨ j % 3 = 2 := by omega
  rcases hr with hr | hr | hr
  · rw [show j / 3 * 3 = j from by omega, h] at h0
    exact .inl ⟨hr, Option.some.inj h0⟩
  · rw [show j / 3 * 3 + 1 = j from by omega, h] at h1
    exact .inr (.inl ⟨hr, Option.some.inj h1⟩)
  · rw [show j / 3 * 3 + 2 = j from by omega, h] at h2
    exact .inr (.inr ⟨hr, Option.some.inj h2⟩)

theorem Holds.cells {w : World} {b off : Nat} {l : List Ad} (h : Holds w b off l) : ∀ j u, (cellsOf l)[j]? = some u → w.cell? ((⟨b, off, none⟩ : Addr).add j) = some u := by
  intro j u hu
  obtain ⟨i, r, hi, rfl, hr⟩ := cellsOf_inv l j u hu
  obtain ⟨h0, h1, h2⟩ := h i hi
  rw [Addr.add_lit]
  rcases hr with ⟨rfl, rfl⟩ | ⟨rfl, rfl⟩ | ⟨rfl, rfl⟩
  · exact h0
  · exact h1
  · exact h2

/-- The slice v is the call's own: it lies from block B on and holds l. -/
def Own (w : World) (B : Nat) (v : Value) (l : List Ad) : Prop := w.ownsRow B 46 3 v l.length (cellsOf l)

theorem Own.sl {w : World} {B : Nat} {v : Value} {l : List Ad} (h : Own w B v l) : Sl w v l := by
  have hlen : l.length ≤ 9223372036854775807 := by
    rcases h.2 with ⟨_, h0⟩ | ⟨g, cap, cur, _, _, _, hnc, hcm, _⟩
    · omega
    · unfold maxLen at hcm; omega
  refine ⟨hlen, ?_⟩
  have hlt := World.ownsRow.lt h
  rcases h.2 with ⟨rfl, h0⟩ | ⟨g, cap, cur, rfl, _, _, hnc, _⟩
  · exact .inl ⟨List.eq_nil_of_length_eq_zero h0, none, 0, rfl⟩
  · refine .inr ⟨g, 0, cap, rfl, (hlt g rfl).2, fun i hi => ?_⟩
    obtain ⟨h0, h1, h2⟩ := cellsOf_at l i hi
    have hc := fun j hj => World.ownsRow.cellAt (g := g) (cap := cap) h j hj
    exact ⟨by rw [Nat.zero_add, hc _ (by omega)]; exact h0, by rw [Nat.zero_add, hc _ (by omega)]; exact h1, by rw [Nat.zero_add, hc _ (by omega)]; exact h2⟩

theorem Own.form {w : World} {B : Nat} {v : Value} {l : List Ad} (h : Own w B v l) (hl : 0 < l.length) : ∃ g cap, v = .slice (some ⟨g, 0, none⟩) l.length cap ∧ B ≤ g ∧ g < w.heap.size ∧ l.length ≤ cap := by
  have hlt := World.ownsRow.lt h
  rcases h.2 with ⟨rfl, h0⟩ | ⟨g, cap, cur, rfl, hb, _, hnc, _⟩
  · omega
  · exact ⟨g, cap, rfl, hb, (hlt g rfl).2, hnc⟩

theorem Own.below {w w' : World} {B B' : Nat} {v : Value} {l : List Ad} (h : Own w B v l) (hb : Below B' w w') (hB : w.heap.size ≤ B') : Own w' B v l := by
  refine World.ownsRow.kept (row := none) h ⟨hb.os, hb.tape, hb.output, hb.size, fun k hk _ => hb.block k (by omega)⟩ ?_
  cases hv : v.ownBlock with
  | none => exact .inl rfl
  | some k => exact .inr (by simp)

theorem Own.low {w : World} {B B' : Nat} {v : Value} {l : List Ad} (h : Own w B v l) (hB : B' ≤ B) : Own w B' v l := by
  refine ⟨h.1, ?_⟩
  rcases h.2 with h2 | ⟨g, cap, cur, h1, h2, h3⟩
  · exact .inl h2
  · exact .inr ⟨g, cap, cur, h1, Nat.le_trans hB h2, h3⟩

theorem own_empty (w : World) : Own (w.alloc (.cells #[] 46)) w.heap.size (.slice (some ⟨w.heap.size, 0, none⟩) 0 0) [] :=
  World.ownsRow_lit w #[] 0 (Nat.le_refl _) (by unfold maxLen; omega) rfl

theorem Try.info46 : (Try.prog.info? 46).map (fun i => (i.zero, i.size, i.bytes)) = some (some (.agg #[.bool false, .int .i64 0, .int .i64 0]), 3, 24) := by kernel_rfl

theorem run_append_nil (w : World) (ty : TypeId) (B : Nat) (v : Value) (l : List Ad) (hown : Own w B v l) (c : Nat) :
    (Builtin.append_ #[22, 22] ty #[v, .slice none 0 c]).run Try.prog w = .ok v w := by
  obtain ⟨i0, hi, _, _, _⟩ := info_parts Try.info46
  rcases hown.2 with ⟨rfl, _⟩ | ⟨g, cap, cur, rfl, _, _, hnc, _⟩
  · simp [Builtin.append_, run_underlying Try.underlying22, sizeOf, typeInfo, hi, Builtin.lenOf, Builtin.firstCells]
  · simp [Builtin.append_, run_underlying Try.underlying22, sizeOf, typeInfo, hi, Builtin.lenOf, Builtin.firstCells, hnc, storeCells]

theorem Own.grown {w w' : World} {B : Nat} {v : Value} {l : List Ad} (h : Own w B v l) (hg : w.grownBy w' v.ownBlock) (hB : B ≤ w.heap.size) : Below B w w' :=
  (Below.refl _ _).grown hg hB fun k hk => (World.ownsRow.lt h k hk).1

/-- append(v, v2...), v the call's own, v2 whatever reads as addresses. -/
theorem wpList_app {w : World} {ops : Array Oper} {rest : List Oper} {o : Oper} {a : Act} {Q : Exit → Act → World → Prop} (hgd : o.guard = none) (s x : Operand)
    (ho : o.op = .call { callee := .builtin .append, args := #[s, x], argTypes := #[22, 22] })
    (B : Nat) (v v2 : Value) (l m : List Ad) (hs : a.eval s = v) (hown : Own w B v l) (hx : a.eval x = v2) (hv2 : Sl w v2 m)
    (hbytes : (l.length + m.length) * 24 ≤ 140737488355328) (hbase : B ≤ w.heap.size)
    (h : ∀ v' w', Own w' B v' (l ++ m) → Below B w w' → wpList Try.prog ops Q rest (a.put o.dst v') w') : wpList Try.prog ops Q (o :: rest) a w := by
  obtain ⟨i0, hi, hz0, hz1, hz2⟩ := info_parts Try.info46
  have h63 : l.length + m.length ≤ maxLen := by unfold maxLen; omega
  have key : ∀ (ad : Addr) (c : Nat), v2 = .slice (some ad) m.length c → (∀ j u, (cellsOf m)[j]? = some u → w.cell? (ad.add j) = some u) → wpList Try.prog ops Q (o :: rest) a w := fun ad c hv hcells =>
    wpList_append_own w hgd s x 22 ho B 46 i0 (.agg #[.bool false, .int .i64 0, .int .i64 0]) 3 24 Try.underlying22 hi hz0 hz1 hz2 rfl (by decide) v l.length (cellsOf l) hs hown ad m.length c (cellsOf m) (hx.trans hv) (cellsOf_length m) hcells (cellsOf_oneCell m) h63 hbytes hbase
      fun v' w' h1 h2 _ => h v' w' (by unfold Own; rw [cellsOf_append, List.length_append]; exact h1) (hown.grown h2 hbase)
  obtain ⟨h0, ⟨rfl, ao, c, rfl⟩ | ⟨b, off, c, rfl, h1, h2⟩⟩ := hv2
  · cases ao with
    | some ad => exact key ad c rfl (by simp [cellsOf])
    | none =>
      refine wpList_plain hgd fun K hK => ?_
      have hrun := run_append_nil w o.type B v l hown c
      unfold Oper.wp
      simp [execOp, ho, resolve, invoke, builtin, hs, hx, hrun, Result.andThen]
      exact hK _ _ (h v w (by simpa using hown) (Below.refl _ _))
  · exact key _ c rfl h2.cells

theorem clone_any (v : Value) (l : List Ad) (w : World) (hv : Sl w v l) (hr : l.length * 24 ≤ 140737488355328) :
    Calls Try.prog 38 #[v] w fun e w' => ∃ v', e = .returned v' ∧ Own w' w.heap.size v' l ∧ Below w.heap.size w w' := by
  have q22 : ∀ (w : World) (a : Option Addr) (n c n' c' : Nat), (binOp .eql 22 (.slice a n c) (.slice none n' c')).run Try.prog w = .ok (.bool a.isNone) w := fun w a n c n' c' => Lib.run_eql_slice_nil w _ _ a n c n' c' Try.underlying22
  have hs : Sl (w.alloc (.cells #[] 46)) v l := hv.below ((Below.refl _ _).alloc (Nat.le_refl _) _)
  have hn := hv.2
  obtain ⟨ao, c, rfl⟩ := hv.form
  cases ao with
  | none =>
    have hl : l = [] := by
      rcases hn with ⟨h, _⟩ | ⟨b, off, c', h, _⟩
      · exact h
      · injection h with h1; cases h1
    subst hl
    clear hs hn hv
    go_enter Try.func38, Try.ntmps38
    go_wp2_with fail
    go_ret
    exact ⟨_, rfl, World.ownsRow_nil _ _ _ _, Below.refl _ _⟩
  | some ad =>
    clear hn hv
    go_enter Try.func38, Try.ntmps38
    go_wp2_with (at_builtin; refine wpList_app rfl _ _ rfl w.heap.size _ _ [] l rfl (own_empty w) rfl hs (by simpa using hr) (by simp) ?_; intro v' w' hown hgrow)
    go_ret
    exact ⟨v', rfl, by simpa using hown, ((Below.refl _ _).alloc (Nat.le_refl _) _).trans hgrow⟩

/-- A row of the call's own behind stores into one of its elements. -/
theorem Own.set {w : World} {B g cap : Nat} {l : List Ad} (h : Own w B (.slice (some ⟨g, 0, none⟩) l.length cap) l) (k : Nat) (hk : k < l.length) (x : Ad) :
    Own (((w.setCell ⟨g, k * 3, none⟩ (.bool x.busy)).setCell ⟨g, k * 3 + 1, none⟩ (.int .i64 x.last)).setCell ⟨g, k * 3 + 2, none⟩ (.int .i64 x.til)) B (.slice (some ⟨g, 0, none⟩) (l.set k x).length cap) (l.set k x) := by
  have h1 := (World.ownsRow.stored h (k * 3) (.bool x.busy)).1
  have h2 := (World.ownsRow.stored h1 (k * 3 + 1) (.int .i64 x.last)).1
  have h3 := (World.ownsRow.stored h2 (k * 3 + 2) (.int .i64 x.til)).1
  have e : (((cellsOf l).set (k * 3) (.bool x.busy)).set (k * 3 + 1) (.int .i64 x.last)).set (k * 3 + 2) (.int .i64 x.til) = cellsOf (l.set k x) := by
    clear h h1 h2 h3
    induction l generalizing k with
    | nil => simp at hk
    | cons y r ih =>
      cases k with
      | zero => simp [cellsOf]
      | succ k =>
        have := ih k (by simpa using hk)
        have e : (k + 1) * 3 = k * 3 + 3 := by omega
        rw [e]
        simp only [List.set_cons_succ, cellsOf]
        rw [← this]
  unfold Own
  rw [← e, List.length_set]
  exact h3
end Go.Proofs.Ytapacdkcekbnaaa
