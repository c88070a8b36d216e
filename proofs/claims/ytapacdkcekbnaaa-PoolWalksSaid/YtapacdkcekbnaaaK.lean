/- math/bits.Mul at the sizes of a pool; copy of addresses. -/
import Derived.Test.YtapacdkcekbnaaaJ
import Derived.Deep.RegionLaw
import Derived.Laws.CopyRow
namespace Go.Proofs.Ytapacdkcekbnaaa
open Go Go.RowKit

set_option maxHeartbeats 4000000 in
theorem mul64_any (n : Nat) (hn : n ≤ 16) (w : World) : Calls Try.prog 41 #[.int .u64 1, .int .u64 n] w fun e w' => e = .returned (.tuple #[.int .u64 0, .int .u64 n]) ∧ w = w' := by
  have h : n = 0 ∨ n = 1 ∨ n = 2 ∨ n = 3 ∨ n = 4 ∨ n = 5 ∨ n = 6 ∨ n = 7 ∨ n = 8 ∨ n = 9 ∨ n = 10 ∨ n = 11 ∨ n = 12 ∨ n = 13 ∨ n = 14 ∨ n = 15 ∨ n = 16 := by omega
  clear hn
  rcases h with rfl | rfl | rfl | rfl | rfl | rfl | rfl | rfl | rfl | rfl | rfl | rfl | rfl | rfl | rfl | rfl | rfl
  all_goals
    go_enter Try.func41, Try.ntmps41
    go_wp2
    go_ret2
    exact ⟨rfl, rfl⟩

theorem mul_any (n : Nat) (hn : n ≤ 16) (w : World) : Calls Try.prog 39 #[.int .u64 1, .int .u64 n] w fun e w' => e = .returned (.tuple #[.int .u64 0, .int .u64 n]) ∧ w = w' := by
  have h := mul64_any n hn
  go_enter Try.func39, Try.ntmps39
  go_wp2_with (go_at_call 41; refine (h _).mono ?_; rintro e w' ⟨rfl, rfl⟩)
  go_ret2
  exact ⟨rfl, rfl⟩

/-- A row of the call's own, known whole: its addresses, nothing beyond them. -/
def Row (w : World) (g : Nat) (l : List Ad) : Prop := w.heap[g]? = some (.cells (cellsOf l).toArray 46 (0, 0))

theorem Row.holds {w : World} {g : Nat} {l : List Ad} (h : Row w g l) : Holds w g 0 l := by
  intro i hi
  obtain ⟨h0, h1, h2⟩ := cellsOf_at l i hi
  have hc := fun j => cell_of_row w g j (cellsOf l).toArray 46 (0, 0) h
  exact ⟨by rw [Nat.zero_add, hc]; simpa using h0, by rw [Nat.zero_add, hc]; simpa using h1, by rw [Nat.zero_add, hc]; simpa using h2⟩

theorem Row.own {w : World} {g : Nat} {l : List Ad} (h : Row w g l) (hl : l.length ≤ maxLen) : Own w g (.slice (some ⟨g, 0, none⟩) l.length l.length) l :=
  ⟨cellsOf_length l, .inr ⟨g, l.length, _, rfl, Nat.le_refl _, h, Nat.le_refl _, hl, by simp [cellsOf_length], by rw [← cellsOf_length]; simp⟩⟩

theorem run_copy3 (w : World) (ty : TypeId) (g o dLen dCap : Nat) (a : Addr) (sLen sCap : Nat) (pre mid post m : List Ad)
    (hg : Row w g (pre ++ (mid ++ post))) (ho : o = pre.length * 3) (hmid : mid.length = m.length) (hn : m.length = Nat.min sLen dLen)
    (hsrc : ∀ j v, (cellsOf m)[j]? = some v → w.cell? (a.add j) = some v) :
    (Builtin.copy_ #[22, 22] ty #[.slice (some ⟨g, o, none⟩) dLen dCap, .slice (some a) sLen sCap]).run Try.prog w =
      .ok (goInt m.length) (w.setRow g (cellsOf (pre ++ (m ++ post))).toArray) := by
  obtain ⟨i0, hi, _, hz1, _⟩ := info_parts Try.info46
  have hl := run_loadCells_list (P := Try.prog) w a (cellsOf m) hsrc
  have hlen := cellsOf_length m
  have hst := run_storeCells_at Try.prog g o 46 (cellsOf m) 0 _ w hg (by
    simp only [Nat.add_zero, List.size_toArray, cellsOf_length, List.length_append]
    omega) (cellsOf_oneCell m)
  have hmin : Nat.min sLen dLen * 3 = (cellsOf m).length := by rw [cellsOf_length, hn]
  have e1 : ((cellsOf (pre ++ (mid ++ post))).toArray.toList.take (o + 0) ++ cellsOf m ++ (cellsOf (pre ++ (mid ++ post))).toArray.toList.drop (o + 0 + (cellsOf m).length)) = cellsOf (pre ++ (m ++ post)) := by
    simp only [Nat.add_zero, cellsOf_append]
    have hp : o = (cellsOf pre).length := by rw [cellsOf_length]; exact ho
    have hm2 : (cellsOf m).length = (cellsOf mid).length := by rw [cellsOf_length, cellsOf_length, hmid]
    rw [hp, hm2]
    rw [List.take_left, ← List.length_append, ← List.append_assoc (cellsOf pre) (cellsOf mid), List.drop_left]
    simp
  rw [e1] at hst
  simp [Builtin.copy_, run_underlying Try.underlying22, Builtin.lenOf, Builtin.firstCells, sizeOf, typeInfo, hi, hz1, hmin, hl, hst, hn]

theorem wpList_copy3 {w : World} {ops : Array Oper} {rest : List Oper} {o : Oper} {a : Act} {Q : Exit → Act → World → Prop} (hgd : o.guard = none) (d s : Operand)
    (ho : o.op = .call { callee := .builtin .copy, args := #[d, s], argTypes := #[22, 22] })
    (g off dLen dCap : Nat) (ad : Addr) (sLen sCap : Nat) (hd : a.eval d = .slice (some ⟨g, off, none⟩) dLen dCap) (hs : a.eval s = .slice (some ad) sLen sCap)
    (pre mid post m : List Ad) (hg : Row w g (pre ++ (mid ++ post))) (hoff : off = pre.length * 3) (hmid : mid.length = m.length) (hn : m.length = Nat.min sLen dLen)
    (hsrc : ∀ j v, (cellsOf m)[j]? = some v → w.cell? (ad.add j) = some v) (B : Nat) (hB : B ≤ g)
    (h : ∀ w', Row w' g (pre ++ (m ++ post)) → Below B w w' → wpList Try.prog ops Q rest (a.put o.dst (goInt m.length)) w') : wpList Try.prog ops Q (o :: rest) a w := by
  refine wpList_plain hgd fun K hK => ?_
  have hrun := run_copy3 w o.type g off dLen dCap ad sLen sCap pre mid post m hg hoff hmid hn hsrc
  unfold Oper.wp
  simp [execOp, ho, resolve, invoke, builtin, hd, hs, hrun, Result.andThen]
  exact hK _ _ (h _ (setRow_heap w g _ _ 46 _ hg) ⟨rfl, rfl, rfl, by simp [World.setRow], fun k hk => setRow_other w g k _ (by omega)⟩)

theorem step_copy3 {w : World} {ops : Array Oper} {o : Oper} {a : Act} {K : Act → World → Prop} {Q : Exit → Act → World → Prop} {E : Prop} (hgd : o.guard = none) (d s : Operand)
    (ho : o.op = .call { callee := .builtin .copy, args := #[d, s], argTypes := #[22, 22] })
    (g off dLen dCap : Nat) (ad : Addr) (sLen sCap : Nat) (hd : a.eval d = .slice (some ⟨g, off, none⟩) dLen dCap) (hs : a.eval s = .slice (some ad) sLen sCap)
    (pre mid post m : List Ad) (hg : Row w g (pre ++ (mid ++ post))) (hoff : off = pre.length * 3) (hmid : mid.length = m.length) (hn : m.length = Nat.min sLen dLen)
    (hsrc : ∀ j v, (cellsOf m)[j]? = some v → w.cell? (ad.add j) = some v) (B : Nat) (hB : B ≤ g)
    (h : ∀ w', Row w' g (pre ++ (m ++ post)) → Below B w w' → K (a.put o.dst (goInt m.length)) w') :
    if Region.wanted o (yielded ops a.tmps) = true then Oper.wp Try.prog o a w K Q else E := by
  have hw : Region.wanted o (yielded ops a.tmps) = true := by simp [Region.wanted, hgd]
  rw [if_pos hw]
  have hrun := run_copy3 w o.type g off dLen dCap ad sLen sCap pre mid post m hg hoff hmid hn hsrc
  unfold Oper.wp
  simp [execOp, ho, resolve, invoke, builtin, hd, hs, hrun, Result.andThen]
  exact h _ (setRow_heap w g _ _ 46 _ hg) ⟨rfl, rfl, rfl, by simp [World.setRow], fun k hk => setRow_other w g k _ (by omega)⟩
end Go.Proofs.Ytapacdkcekbnaaa
