/- Records in memory: their fields, pointers to fields; what is written of them. -/
import Derived.Test.YthkbeigimdgamaaCodec
import Derived.Laws.StructEq
namespace Go.Proofs.Ythkbeigimdgamaa
open Go Go.RowKit

/-- A slice of pointers to fields of the record at block b; its cells lie in a block from B on. -/
def Ptrs (w : World) (B : Nat) (v : Value) (b : Nat) (is : List Nat) : Prop :=
  ∃ ao cap, v = .slice ao is.length cap ∧ ∀ j, j < is.length → ∃ g, ao = some ⟨g, 0, none⟩ ∧ B ≤ g ∧ w.cell? ⟨g, j, none⟩ = some (.pointer (some ⟨b, is[j]!, none⟩))

theorem ptrs_nil (w : World) (B b : Nat) : Ptrs w B (.slice none 0 0) b [] := ⟨none, 0, rfl, fun _ hj => absurd hj (Nat.not_lt_zero _)⟩

theorem ptrs_new (w : World) (B b : Nat) (is : List Nat) (t : TypeId) (hB : B ≤ w.heap.size) : Ptrs (w.alloc (.cells (is.map fun i => Value.pointer (some ⟨b, i, none⟩)).toArray t)) B (.slice (some ⟨w.heap.size, 0, none⟩) is.length is.length) b is :=
  ⟨_, _, rfl, fun j hj => ⟨w.heap.size, rfl, hB, by
    refine (World.cell?_alloc_mark w _ _ _ j).trans ?_
    simp [hj]⟩⟩

/-- A record at block b: numbers, then what else it has. -/
def Rec (w : World) (b : Nat) (c : List Int) (t : List Value) : Prop := (∀ j, j < c.length → w.cell? ⟨b, j, none⟩ = some (.int .i64 c[j]!)) ∧ ∀ j, j < t.length → w.cell? ⟨b, c.length + j, none⟩ = some t[j]!
def recL (c : List Int) (t : List Value) : List Value := c.map (Value.int .i64) ++ t
def recV (c : List Int) (t : List Value) : Value := .agg (recL c t).toArray

theorem copyF_take (c : List Int) (is : List Nat) (o : List Int) (j : Nat) (hj : j < is.length) : copyF c (is.take (j + 1)) o = (copyF c (is.take j) o).set is[j]! c[is[j]!]! := by
  rw [copyF, List.take_add_one, List.getElem?_eq_getElem hj, Option.toList_some, List.foldl_append, getElem!_pos is j hj]
  rfl

theorem rec_new (w : World) (c : List Int) (t : List Value) (T : TypeId) : Rec (w.alloc (.cells (recL c t).toArray T)) w.heap.size c t := by
  refine ⟨fun j hj => ?_, fun j hj => ?_⟩
  · refine (World.cell?_alloc_mark w _ _ _ j).trans ?_
    simp only [recL, List.getElem?_toArray]
    rw [List.getElem?_append_left (by simpa using hj)]
    simp [hj]
  · refine (World.cell?_alloc_mark w _ _ _ _).trans ?_
    simp [recL, hj]

theorem frozen_new (w : World) (cs : Array Value) (t : TypeId) (j : Nat) : (w.alloc (.cells cs t)).frozen? ⟨w.heap.size, j, none⟩ = false := by
  have h := heap_alloc_new w (.cells cs t)
  unfold World.frozen?
  simp only [h]
  simp

/-- A record of the call's own: read and written. -/
def Out (w : World) (b : Nat) (c : List Int) (t : List Value) : Prop := Rec w b c t ∧ ∀ j, w.frozen? ⟨b, j, none⟩ = false
theorem out_new (w : World) (c : List Int) (t : List Value) (T : TypeId) : Out (w.alloc (.cells (recL c t).toArray T)) w.heap.size c t := ⟨rec_new w c t T, fun j => frozen_new w _ T j⟩
theorem Rec.below {w w' : World} {b : Nat} {c : List Int} {t : List Value} (h : Rec w b c t) (hb : Below w.heap.size w w') : Rec w' b c t := ⟨fun j hj => keep_cell (h.1 j hj) hb, fun j hj => keep_cell (h.2 j hj) hb⟩
theorem Out.below {w w' : World} {b : Nat} {c : List Int} {t : List Value} (h : Out w b c t) (h0 : b < w.heap.size) (hb : Below w.heap.size w w') : Out w' b c t :=
  ⟨h.1.below hb, fun j => (hb.frozen (p := ⟨b, j, none⟩) h0).trans (h.2 j)⟩
theorem Out.set {w : World} {b : Nat} {c : List Int} {t : List Value} (h : Out w b c t) (i : Nat) (hi : i < c.length) (x : Int) : Out (w.setCell ⟨b, i, none⟩ (.int .i64 x)) b (c.set i x) t := by
  refine ⟨⟨fun j hj => ?_, fun j hj => ?_⟩, fun j => by rw [World.frozen?_setCell]; exact h.2 j⟩
  · rw [List.length_set] at hj
    rw [cell_here _ _ _ _ _ _ (h.1.1 j hj)]
    by_cases e : j = i
    · subst e; rw [if_pos rfl]; simp [hj]
    · rw [if_neg e]; simp [hj, List.getElem_set_ne (Ne.symm e)]
  · rw [List.length_set, cell_here _ _ _ _ _ _ (h.1.2 j hj), if_neg (by omega)]
theorem Out.setT {w : World} {b : Nat} {c : List Int} {t : List Value} (h : Out w b c t) (i : Nat) (hi : i < t.length) (x : Value) : Out (w.setCell ⟨b, c.length + i, none⟩ x) b c (t.set i x) := by
  refine ⟨⟨fun j hj => ?_, fun j hj => ?_⟩, fun j => by rw [World.frozen?_setCell]; exact h.2 j⟩
  · rw [cell_here _ _ _ _ _ _ (h.1.1 j hj), if_neg (by omega)]
  · rw [List.length_set] at hj
    rw [cell_here _ _ _ _ _ _ (h.1.2 j hj)]
    by_cases e : j = i
    · subst e; rw [if_pos rfl]; simp [hj]
    · rw [if_neg (by omega)]; simp [hj, List.getElem_set_ne (Ne.symm e)]
/-- A block that is not turned. -/
theorem Only.out {b x : Nat} {w w' : World} (h : Only b w w') {c : List Int} {t : List Value} (ho : Out w x c t) (hx : x < w.heap.size) (hne : x ≠ b) : Out w' x c t :=
  ⟨⟨fun j hj => h.cell (p := ⟨x, j, none⟩) hne (ho.1.1 j hj), fun j hj => h.cell (p := ⟨x, c.length + j, none⟩) hne (ho.1.2 j hj)⟩, fun j => (World.frozen?_of_block (w := w) (h.block x hx hne)).trans (ho.2 j)⟩
theorem Rd.only {b x : Nat} {w w' : World} {l : List UInt8} {st : Option Int} (h : Rd w b l st) (hb : b < w.heap.size) (hne : b ≠ x) (ho : Only x w w') : Rd w' b l st := by
  obtain ⟨h0, hf, a, v, h1, h2, h3⟩ := h
  exact ⟨ho.cell (p := ⟨b, 0, none⟩) hne h0, fun j => (World.frozen?_of_block (w := w) (ho.block b hb hne)).trans (hf j), a, v, ho.cell (p := ⟨b, 1, none⟩) hne h1, ho.cell (p := ⟨b, 2, none⟩) hne h2, h3⟩
theorem RdR.only {b x : Nat} {w w' : World} {l : List UInt8} {st : Option Int} (h : RdR w b l st) (hb : b < w.heap.size) (hne : b ≠ x) (ho : Only x w w') : RdR w' b l st := by
  obtain ⟨h0, hf, a, v, h1, h2, h3⟩ := h
  exact ⟨ho.cell (p := ⟨b, 0, none⟩) hne h0, fun j => (World.frozen?_of_block (w := w) (ho.block b hb hne)).trans (hf j), a, v, ho.cell (p := ⟨b, 1, none⟩) hne h1, ho.cell (p := ⟨b, 2, none⟩) hne h2, h3⟩
theorem Rd.below {b : Nat} {w w' : World} {l : List UInt8} {st : Option Int} (h : Rd w b l st) (hb : Below w.heap.size w w') : Rd w' b l st := by
  have hlt : b < w.heap.size := World.block_lt_of_cell? _ _ h.1
  exact h.only hlt (Nat.ne_of_lt (Nat.lt_succ_self b)) (Only.of_below (b + 1) hb)
theorem RdR.below {b : Nat} {w w' : World} {l : List UInt8} {st : Option Int} (h : RdR w b l st) (hb : Below w.heap.size w w') : RdR w' b l st := by
  have hlt : b < w.heap.size := World.block_lt_of_cell? _ _ h.1
  exact h.only hlt (Nat.ne_of_lt (Nat.lt_succ_self b)) (Only.of_below (b + 1) hb)
theorem rd_new (w : World) (l : List UInt8) (T : TypeId) : Rd (w.alloc (.cells #[strV l, .int .i64 0, .nilIface] T)) w.heap.size l (some 0) :=
  ⟨World.cell?_alloc_mark w _ _ _ 0, fun j => frozen_new w _ T j, 0, .nilIface, World.cell?_alloc_mark w _ _ _ 1, World.cell?_alloc_mark w _ _ _ 2, .inl ⟨rfl, rfl⟩⟩
theorem rdr_new (w : World) (l : List UInt8) (T : TypeId) : RdR (w.alloc (.cells #[strV l, .int .i64 0, .bool false] T)) w.heap.size l (some 0) :=
  ⟨World.cell?_alloc_mark w _ _ _ 0, fun j => frozen_new w _ T j, 0, false, World.cell?_alloc_mark w _ _ _ 1, World.cell?_alloc_mark w _ _ _ 2, rfl⟩

/-- Nothing that was is turned but two blocks. -/
structure Two (a b : Nat) (w w' : World) : Prop where
  os : w'.os = w.os
  tape : w'.tape = w.tape
  output : w'.output = w.output
  size : w.heap.size ≤ w'.heap.size
  block : ∀ k, k < w.heap.size → k ≠ a → k ≠ b → w'.heap[k]? = w.heap[k]?
theorem Two.refl (a b : Nat) (w : World) : Two a b w w := ⟨rfl, rfl, rfl, Nat.le_refl _, fun _ _ _ _ => rfl⟩
theorem Two.left {a b : Nat} {u v w : World} (h : Two a b u v) (k : Only a v w) : Two a b u w :=
  ⟨k.os.trans h.os, k.tape.trans h.tape, k.output.trans h.output, Nat.le_trans h.size k.size, fun i hi ha hb => (k.block i (Nat.lt_of_lt_of_le hi h.size) ha).trans (h.block i hi ha hb)⟩
theorem Two.right {a b : Nat} {u v w : World} (h : Two a b u v) (k : Only b v w) : Two a b u w :=
  ⟨k.os.trans h.os, k.tape.trans h.tape, k.output.trans h.output, Nat.le_trans h.size k.size, fun i hi ha hb => (k.block i (Nat.lt_of_lt_of_le hi h.size) hb).trans (h.block i hi ha hb)⟩
theorem Two.cell {a b : Nat} {w w' : World} (h : Two a b w w') {p : Addr} (ha : p.block ≠ a) (hb : p.block ≠ b) {v : Value} (hc : w.cell? p = some v) : w'.cell? p = some v := by
  have hl := World.block_lt_of_cell? _ _ hc
  exact (World.cell?_of_block (w := w) (h.block p.block hl ha hb)).trans hc
theorem Two.below {a b B : Nat} {w w' : World} (h : Two a b w w') (hB : B ≤ a) (hB2 : B ≤ b) (ha : a < w.heap.size) (hb : b < w.heap.size) : Below B w w' :=
  ⟨h.os, h.tape, h.output, h.size, fun k hk => h.block k (by omega) (by omega) (by omega)⟩
theorem Two.out {a b x : Nat} {w w' : World} (h : Two a b w w') {c : List Int} {t : List Value} (ho : Out w x c t) (hx : x < w.heap.size) (ha : x ≠ a) (hb : x ≠ b) : Out w' x c t :=
  ⟨⟨fun j hj => h.cell (p := ⟨x, j, none⟩) ha hb (ho.1.1 j hj), fun j hj => h.cell (p := ⟨x, c.length + j, none⟩) ha hb (ho.1.2 j hj)⟩, fun j => (World.frozen?_of_block (w := w) (h.block x hx ha hb)).trans (ho.2 j)⟩

theorem numMay_iff (x : Int) : numMayB x = true ↔ 0 ≤ x ∧ x ≤ 1073741823 := by simp [numMayB]
theorem numNot_of (x : Int) (h : ¬ (0 ≤ x ∧ x ≤ 1073741823)) : numMayB x = false := by
  cases e : numMayB x
  · rfl
  · exact absurd ((numMay_iff x).1 e) h
theorem okIte (p : Prop) [Decidable p] (q : Bool) (w : World) : (if p then (Result.ok q w : Result Bool) else Result.ok false w) = Result.ok (decide p && q) w := by
  by_cases h : p <;> simp [h]
theorem beq_of (k z : Int) (h : k = z) : (k == z) = true := by simp [h]
theorem bne_of (k z : Int) (h : k ≠ z) : (k == z) = false := by simp [h]

/-- Without limits: the numbers may be, and no other part is. -/
def Sp.rest (S : Sp) (c : List Int) (d : List UInt8) : Bool := (S.idx c[0]!).all (fun i => numMayB c[i]!) && (decide (c = plainF S.idx c) && (S.txt c[0]! || d.isEmpty))
theorem Sp.may_lim (S : Sp) (c : List Int) (d : List UInt8) : S.may c d = (S.lim c d && S.rest c d) := by simp [Sp.may, Sp.rest, Bool.and_assoc]

/-- A loop over the parts finds one that may not be. -/
theorem Sp.rest_bad (S : Sp) (c : List Int) (d : List UInt8) (j : Nat) (hj : j < (S.idx c[0]!).length) (h : numMayB c[(S.idx c[0]!)[j]!]! = false) : S.rest c d = false := by
  unfold Sp.rest
  rw [Bool.and_eq_false_iff]
  left
  rw [List.all_eq_false]
  exact ⟨(S.idx c[0]!)[j]!, by rw [getElem!_pos _ j hj]; exact List.getElem_mem _, by rw [h]; simp⟩
theorem Sp.rest_good (S : Sp) (c : List Int) (d : List UInt8) (h : ∀ j, j < (S.idx c[0]!).length → numMayB c[(S.idx c[0]!)[j]!]! = true) : S.rest c d = (decide (c = plainF S.idx c) && (S.txt c[0]! || d.isEmpty)) := by
  unfold Sp.rest
  have : (S.idx c[0]!).all (fun i => numMayB c[i]!) = true := by
    rw [List.all_eq_true]
    intro i hi
    obtain ⟨j, hj, rfl⟩ := List.getElem_of_mem hi
    have := h j hj
    rw [getElem!_pos _ j hj] at this
    exact this
  rw [this, Bool.true_and]
theorem Sp.may_bad (S : Sp) (c : List Int) (d : List UInt8) (j : Nat) (hj : j < (S.idx c[0]!).length) (h : numMayB c[(S.idx c[0]!)[j]!]! = false) : S.may c d = false := by
  rw [Sp.may_lim, S.rest_bad c d j hj h, Bool.and_false]
theorem Sp.may_good (S : Sp) (c : List Int) (d : List UInt8) (hl : S.lim c d = true) (h : ∀ j, j < (S.idx c[0]!).length → numMayB c[(S.idx c[0]!)[j]!]! = true) : S.may c d = (decide (c = plainF S.idx c) && (S.txt c[0]! || d.isEmpty)) := by
  rw [Sp.may_lim, S.rest_good c d h, hl, Bool.true_and]
theorem Sp.may_nolim (S : Sp) (c : List Int) (d : List UInt8) (hl : S.lim c d = false) : S.may c d = false := by
  rw [Sp.may_lim, hl, Bool.false_and]

theorem rdFold_take (l : List UInt8) (is : List Nat) (o : List Int) (st : Option Int) (j : Nat) (hj : j < is.length) :
    rdFold l (is.take (j + 1)) o st = ((rdFold l (is.take j) o st).1.set is[j]! (rdNum l (rdFold l (is.take j) o st).2).1, (rdNum l (rdFold l (is.take j) o st).2).2) := by
  rw [rdFold, List.take_add_one, List.getElem?_eq_getElem hj, Option.toList_some, List.foldl_append, getElem!_pos is j hj]
  rfl
theorem rdFold_other (l : List UInt8) : ∀ (is : List Nat) (o : List Int) (st : Option Int) (j : Nat), j ∉ is → (rdFold l is o st).1[j]! = o[j]!
  | [], _, _, _, _ => rfl
  | i :: is, o, st, j, hj => by
    simp only [List.mem_cons, not_or] at hj
    rw [rdFold_cons, rdFold_other l is _ _ j hj.2]
    simp [List.getElem!_eq_getElem?_getD, Ne.symm hj.1]
theorem txt_eq (tx : Bool) (d : List UInt8) : decide ((⟨d.toArray⟩ : ByteArray) = ⟨(if tx = true then d else []).toArray⟩) = (tx || d.isEmpty) := by
  cases tx <;> cases d <;> simp
theorem putText_length (d : List UInt8) (h : d.length ≤ 65536) : (putText d).length ≤ 65541 := by
  unfold putText
  rw [if_neg (by omega), List.length_append]
  have := numL_length d.length (by omega)
  omega
theorem rdFold_length (l : List UInt8) : ∀ (is : List Nat) (o : List Int) (st : Option Int), (rdFold l is o st).1.length = o.length
  | [], _, _ => rfl
  | i :: is, o, st => by rw [rdFold_cons, rdFold_length l is, List.length_set]

/-- The parts as numbers. -/
theorem map_at (c : List Int) (is : List Nat) (j : Nat) (hj : j < is.length) : (is.map fun i => c[i]!)[j]! = c[is[j]!]! := by
  rw [getElem!_pos _ j (by simpa using hj), getElem!_pos is j hj, List.getElem_map]

/-- What is read: the numbers; nothing where there is none. -/
def Sp.getC (S : Sp) (l : List UInt8) : List Int := if S.ok l then (S.body l).1.1 else List.replicate S.len 0
def Sp.getD (S : Sp) (l : List UInt8) : List UInt8 := if S.ok l then (S.body l).2.1 else []
theorem Sp.getC_length (S : Sp) (l : List UInt8) : (S.getC l).length = S.len := by
  unfold Sp.getC
  split
  · rename_i h
    exact (S.ok_bwd l h).1
  · simp
end Go.Proofs.Ythkbeigimdgamaa
