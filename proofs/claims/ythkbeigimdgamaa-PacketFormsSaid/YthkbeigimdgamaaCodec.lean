/- Records as bytes: what is written, what is read; no program in sight. -/
import Derived.Test.YthkbeigimdgamaaJ
namespace Go.Proofs.Ythkbeigimdgamaa
open Go Go.RowKit

def copyF (c : List Int) (is : List Nat) (o : List Int) : List Int := is.foldl (fun o j => o.set j c[j]!) o
def plainF (idx : Int → List Nat) (c : List Int) : List Int := copyF c (idx c[0]!) ((List.replicate c.length 0).set 0 c[0]!)
theorem copyF_length (c : List Int) : ∀ (is : List Nat) (o : List Int), (copyF c is o).length = o.length
  | [], _ => rfl
  | i :: is, o => by
    have := copyF_length c is (o.set i c[i]!)
    simpa [copyF] using this

theorem valN_beN : ∀ (k x : Nat), x < 256 ^ k → valN (beN k x) = x
  | 0, x, h => by have : x = 0 := by simpa using h
                  subst this; rfl
  | k + 1, x, h => by
    rw [beN_succ, valN_snoc, valN_beN k (x / 256) (by rw [Nat.pow_succ] at h; omega)]
    simp only [UInt8.toNat_ofNat']
    omega

theorem beN_valN (l : List UInt8) : beN l.length (valN l) = l := by
  rw [← l.reverse_reverse]
  generalize l.reverse = m
  induction m with
  | nil => rfl
  | cons b m ih =>
    rw [List.reverse_cons, List.length_append, List.length_singleton, beN_succ, valN_snoc]
    have hb : b.toNat < 256 := UInt8.toNat_lt _
    rw [show (valN m.reverse * 256 + b.toNat) / 256 = valN m.reverse from by omega, ih]
    congr 2
    apply UInt8.toNat.inj
    simp

theorem widthN_lt (x : Nat) : x < 256 ^ widthN x := by
  have h := widthN_gt (widthN x) x
  omega

theorem numL_len (x : Nat) : (numL x).length = widthN x + 1 := by rw [numL, List.length_cons, beN_length]

/-- Where a number stands it is read. -/
theorem getF_fwd (l r : List UInt8) (p x : Nat) (hx : x ≤ 1073741823) (h : l.drop p = numL x ++ r) : getF l p = ((x : Int), ((p + (numL x).length : Nat) : Int), 0) := by
  have hp : p < l.length := by
    have : (l.drop p).length ≠ 0 := by rw [h]; simp [numL]
    rw [List.length_drop] at this
    omega
  have hw := widthN_le 4 x (by omega)
  have hlen : l.length = p + (widthN x + 1) + r.length := by
    have := congrArg List.length h
    rw [List.length_drop, List.length_append, numL_len] at this
    omega
  have h1 : l[p]! = UInt8.ofNat (widthN x) := by
    rw [List.drop_eq_getElem_cons hp, numL, List.cons_append] at h
    rw [getElem!_pos l p hp]
    exact (List.cons.inj h).1
  have h2 : l.drop (p + 1) = beN (widthN x) x ++ r := by
    rw [List.drop_eq_getElem_cons hp, numL, List.cons_append] at h
    exact (List.cons.inj h).2
  have hk : l[p]!.toNat = widthN x := by rw [h1]; simp; omega
  have h3 : (l.drop (p + 1)).take (widthN x) = beN (widthN x) x := by
    rw [h2, List.take_append_of_le_length (by rw [beN_length]; omega), List.take_of_length_le (by rw [beN_length]; omega)]
  have h4 : valN (beN (widthN x) x) = x := valN_beN _ _ (widthN_lt x)
  unfold getF
  simp only [Int.toNat_natCast, hk, h3, h4]
  rw [if_neg (by omega), if_neg (by omega), if_neg (by omega), if_neg (by omega), if_neg (by omega), numL_len]
  simp only [Prod.mk.injEq, and_true, true_and]
  omega

/-- What is read stood there. -/
theorem getF_bwd (l : List UInt8) (a : Int) (h : (getF l a).2.2 = 0) :
    ∃ x p : Nat, a = p ∧ (getF l a).1 = x ∧ x ≤ 1073741823 ∧ (getF l a).2.1 = ((p + (numL x).length : Nat) : Int) ∧ p + (numL x).length ≤ l.length ∧ l.drop p = numL x ++ l.drop (p + (numL x).length) := by
  unfold getF at h ⊢
  split at h
  · cases h
  rename_i c1
  rw [if_neg c1]
  split at h
  · cases h
  rename_i c2
  rw [if_neg c2]
  split at h
  · cases h
  rename_i c3
  rw [if_neg c3]
  split at h
  · cases h
  rename_i c4
  rw [if_neg c4]
  split at h
  · cases h
  rename_i c5
  rw [if_neg c5]
  obtain ⟨p, rfl⟩ : ∃ p : Nat, a = p := ⟨a.toNat, by omega⟩
  simp only [Int.toNat_natCast] at c3 c4 c5 ⊢
  have hp : p < l.length := by omega
  have hm : ((l.drop (p + 1)).take l[p]!.toNat).length = l[p]!.toNat := by rw [List.length_take, List.length_drop]; omega
  have hb := beN_valN ((l.drop (p + 1)).take l[p]!.toNat)
  rw [hm] at hb
  have hw : widthN (valN ((l.drop (p + 1)).take l[p]!.toNat)) = l[p]!.toNat := by omega
  have hn : numL (valN ((l.drop (p + 1)).take l[p]!.toNat)) = l[p]! :: (l.drop (p + 1)).take l[p]!.toNat := by
    rw [numL, hw, hb, UInt8.ofNat_toNat]
  have hl : (numL (valN ((l.drop (p + 1)).take l[p]!.toNat))).length = l[p]!.toNat + 1 := by rw [numL_len, hw]
  refine ⟨_, p, rfl, rfl, by omega, by rw [hl]; omega, by rw [hl]; omega, ?_⟩
  rw [hl, hn, List.cons_append, show p + (l[p]!.toNat + 1) = (p + 1) + l[p]!.toNat from by omega, ← List.drop_drop (i := l[p]!.toNat), List.take_append_drop, List.drop_eq_getElem_cons hp, getElem!_pos l p hp]

theorem numF_of {x : Int} (h : numMayB x = true) : ∃ n : Nat, x = n ∧ n ≤ 1073741823 ∧ numF x = numL n := by
  have h' : 0 ≤ x ∧ x ≤ 1073741823 := by simpa [numMayB] using h
  exact ⟨x.toNat, by omega, by omega, by rw [numF, h]; rfl⟩
theorem numMayB_of (n : Nat) (h : n ≤ 1073741823) : numMayB (n : Int) = true := by simp [numMayB]; omega
theorem numF_nat (n : Nat) (h : n ≤ 1073741823) : numF (n : Int) = numL n := by rw [numF, numMayB_of n h]; rfl

theorem rdNum_fwd (l r : List UInt8) (p : Nat) (x : Int) (hx : numMayB x = true) (h : l.drop p = numF x ++ r) :
    rdNum l (some p) = (x, some ((p + (numF x).length : Nat) : Int)) ∧ l.drop (p + (numF x).length) = r := by
  obtain ⟨n, rfl, hn, he⟩ := numF_of hx
  rw [he] at h ⊢
  refine ⟨?_, ?_⟩
  · show ((getF l p).1, stOf (getF l p).2.1 (getF l p).2.2) = _
    rw [getF_fwd l r p n hn h]
    rfl
  · rw [← List.drop_drop, h, List.drop_left]

theorem rdNum_bwd (l : List UInt8) (st : Option Int) (x t : Int) (h : rdNum l st = (x, some t)) :
    ∃ p : Nat, st = some (p : Int) ∧ numMayB x = true ∧ t = ((p + (numF x).length : Nat) : Int) ∧ p + (numF x).length ≤ l.length ∧ l.drop p = numF x ++ l.drop (p + (numF x).length) := by
  match st, h with
  | some a, h =>
    have h : ((getF l a).1, stOf (getF l a).2.1 (getF l a).2.2) = (x, some t) := h
    simp only [Prod.mk.injEq, stOf] at h
    obtain ⟨h1, h2⟩ := h
    by_cases e : (getF l a).2.2 = 0
    · rw [if_pos e] at h2
      obtain ⟨n, p, rfl, hv, hn, ht, hle, hd⟩ := getF_bwd l a e
      rw [h1] at hv
      subst hv
      rw [numF_nat n hn]
      exact ⟨p, rfl, numMayB_of n hn, by rw [← ht]; injection h2 with h2; exact h2.symm, hle, hd⟩
    · rw [if_neg e] at h2
      cases h2

theorem rdText_fwd (l r d : List UInt8) (p : Nat) (hd : d.length ≤ 65536) (h : l.drop p = putText d ++ r) (hp : p ≤ l.length) :
    rdText l (some p) = (d, some ((p + (putText d).length : Nat) : Int)) ∧ l.drop (p + (putText d).length) = r := by
  have hput : putText d = numL d.length ++ d := by unfold putText; rw [if_neg (by omega)]
  rw [hput] at h ⊢
  have hg := getF_fwd l (d ++ r) p d.length (by omega) (by rw [h, List.append_assoc])
  have hr : l.drop (p + (numL d.length).length) = d ++ r := by rw [← List.drop_drop, h, List.append_assoc, List.drop_left]
  have hlen : l.length = p + (numL d.length).length + d.length + r.length := by
    have := congrArg List.length h
    rw [List.length_drop, List.length_append, List.length_append] at this
    omega
  refine ⟨?_, ?_⟩
  · show ((textF l p).1, stOf (textF l p).2.1 (textF l p).2.2) = _
    have : textF l p = (d, (((p + (numL d.length).length : Nat) : Int) + (d.length : Int)), 0) := by
      rw [textF, hg]
      unfold textOf
      simp only []
      rw [if_neg (by simp), if_neg (by omega), if_neg (by omega)]
      simp only [Int.toNat_natCast, hr, List.take_left]
    rw [this]
    simp only [stOf, if_true, Prod.mk.injEq, true_and, Option.some.injEq, List.length_append]
    omega
  · rw [List.length_append, ← Nat.add_assoc, ← List.drop_drop, hr, List.drop_left]

theorem rdText_bwd (l : List UInt8) (st : Option Int) (d : List UInt8) (t : Int) (h : rdText l st = (d, some t)) :
    ∃ p : Nat, st = some (p : Int) ∧ d.length ≤ 65536 ∧ t = ((p + (putText d).length : Nat) : Int) ∧ p + (putText d).length ≤ l.length ∧ l.drop p = putText d ++ l.drop (p + (putText d).length) := by
  match st, h with
  | some a, h =>
    have h : ((textF l a).1, stOf (textF l a).2.1 (textF l a).2.2) = (d, some t) := h
    simp only [Prod.mk.injEq, stOf] at h
    obtain ⟨h1, h2⟩ := h
    by_cases e : (textF l a).2.2 = 0
    · rw [if_pos e] at h2
      injection h2 with h2
      unfold textF textOf at h1 h2 e
      by_cases e1 : (getF l a).2.2 ≠ 0
      · rw [if_pos e1] at e; exact absurd e e1
      · rw [if_neg e1] at h1 h2 e
        by_cases e2 : 65536 < (getF l a).1
        · rw [if_pos e2] at e; exact absurd e (by decide)
        · rw [if_neg e2] at h1 h2 e
          by_cases e3 : (l.length : Int) - (getF l a).2.1 < (getF l a).1
          · rw [if_pos e3] at e; exact absurd e (by decide)
          · rw [if_neg e3] at h1 h2 e
            obtain ⟨n, p, rfl, hv, hn, ht, hle, hd⟩ := getF_bwd l a (by omega)
            rw [hv, ht] at h1 h2 e3
            rw [hv] at e2
            simp only [Int.toNat_natCast] at h1 h2
            have hdl : d.length = n := by rw [← h1, List.length_take, List.length_drop]; omega
            have hput : putText d = numL n ++ d := by unfold putText; rw [if_neg (by omega), hdl]
            have hpl : (putText d).length = (numL n).length + n := by rw [hput, List.length_append, hdl]
            refine ⟨p, rfl, by omega, by rw [hpl]; omega, by rw [hpl]; omega, ?_⟩
            rw [hpl, hput, hd, List.append_assoc]
            congr 1
            rw [← h1, show p + ((numL n).length + n) = p + (numL n).length + n from by omega, ← List.drop_drop (i := n), List.take_append_drop]
    · rw [if_neg e] at h2
      cases h2

def rdFold (l : List UInt8) (is : List Nat) (o : List Int) (st : Option Int) : List Int × Option Int :=
  is.foldl (fun s i => (s.1.set i (rdNum l s.2).1, (rdNum l s.2).2)) (o, st)
def setAll : List Nat → List Int → List Int → List Int
  | i :: is, x :: xs, o => setAll is xs (o.set i x)
  | _, _, o => o

theorem rdFold_cons (l : List UInt8) (i : Nat) (is : List Nat) (o : List Int) (st : Option Int) : rdFold l (i :: is) o st = rdFold l is (o.set i (rdNum l st).1) (rdNum l st).2 := rfl

theorem rdFold_fwd (l : List UInt8) (c : List Int) : ∀ (is : List Nat) (o : List Int) (p : Nat) (r : List UInt8), (∀ i ∈ is, numMayB c[i]! = true) → l.drop p = numsF (is.map fun i => c[i]!) ++ r →
    rdFold l is o (some p) = (copyF c is o, some ((p + (numsF (is.map fun i => c[i]!)).length : Nat) : Int)) ∧ l.drop (p + (numsF (is.map fun i => c[i]!)).length) = r
  | [], o, p, r, _, h => ⟨rfl, h⟩
  | i :: is, o, p, r, hm, h => by
    have e : numsF ((i :: is).map fun i => c[i]!) = numF c[i]! ++ numsF (is.map fun i => c[i]!) := rfl
    rw [e, List.append_assoc] at h
    obtain ⟨h1, h2⟩ := rdNum_fwd l _ p c[i]! (hm i (by simp)) h
    obtain ⟨h3, h4⟩ := rdFold_fwd l c is (o.set i c[i]!) _ r (fun j hj => hm j (by simp [hj])) h2
    rw [rdFold_cons, h1, h3, e, List.length_append, ← Nat.add_assoc]
    exact ⟨rfl, h4⟩

theorem rdNum_none (l : List UInt8) : rdNum l none = (0, none) := rfl
theorem rdFold_none (l : List UInt8) : ∀ (is : List Nat) (o : List Int), (rdFold l is o none).2 = none
  | [], _ => rfl
  | i :: is, o => by rw [rdFold_cons, rdNum_none]; exact rdFold_none l is _

theorem rdFold_bwd (l : List UInt8) : ∀ (is : List Nat) (o : List Int) (st : Option Int) (o' : List Int) (t : Nat), t ≤ l.length → rdFold l is o st = (o', some (t : Int)) →
    ∃ (p : Nat) (xs : List Int), st = some (p : Int) ∧ xs.length = is.length ∧ (∀ x ∈ xs, numMayB x = true) ∧ o' = setAll is xs o ∧ t = p + (numsF xs).length ∧ l.drop p = numsF xs ++ l.drop t
  | [], o, st, o', t, _, h => by
    have h : (o, st) = (o', some (t : Int)) := h
    simp only [Prod.mk.injEq] at h
    obtain ⟨rfl, rfl⟩ := h
    exact ⟨t, [], rfl, rfl, by simp, rfl, rfl, rfl⟩
  | i :: is, o, st, o', t, hl, h => by
    rw [rdFold_cons] at h
    obtain ⟨p, xs, hs, hxl, hxm, ho, ht, hd⟩ := rdFold_bwd l is _ _ o' t hl h
    obtain ⟨q, hq1, hq2, hq3, hq4, hq5⟩ := rdNum_bwd l st (rdNum l st).1 (p : Int) (by rw [← hs])
    have hpq : p = q + (numF (rdNum l st).1).length := by omega
    refine ⟨q, (rdNum l st).1 :: xs, hq1, by simp [hxl], ?_, ho, ?_, ?_⟩
    · intro x hx
      rcases List.mem_cons.1 hx with rfl | hx
      · exact hq2
      · exact hxm x hx
    · rw [ht, hpq]; simp [numsF]; omega
    · rw [hq5, ← hpq, hd]; simp [numsF]

theorem setAll_length : ∀ (is : List Nat) (xs o : List Int), (setAll is xs o).length = o.length
  | [], _, _ => rfl
  | _ :: _, [], _ => rfl
  | i :: is, x :: xs, o => by rw [setAll, setAll_length is xs, List.length_set]
theorem setAll_other : ∀ (is : List Nat) (xs o : List Int) (j : Nat), j ∉ is → (setAll is xs o)[j]! = o[j]!
  | [], _, _, _, _ => rfl
  | _ :: _, [], _, _, _ => rfl
  | i :: is, x :: xs, o, j, hj => by
    simp only [List.mem_cons, not_or] at hj
    rw [setAll, setAll_other is xs _ j hj.2]
    simp [List.getElem!_eq_getElem?_getD, Ne.symm hj.1]
theorem setAll_map : ∀ (is : List Nat) (xs o : List Int), is.Nodup → xs.length = is.length → (∀ i ∈ is, i < o.length) → is.map (fun i => (setAll is xs o)[i]!) = xs
  | [], [], _, _, _, _ => rfl
  | i :: is, x :: xs, o, hn, hl, hi => by
    rw [List.nodup_cons] at hn
    have hi0 := hi i (by simp)
    rw [List.map_cons]
    congr 1
    · rw [setAll, setAll_other is xs _ i hn.1]
      simp [hi0]
    · exact setAll_map is xs _ hn.2 (by simpa using hl) (fun j hj => by rw [List.length_set]; exact hi j (by simp [hj]))
theorem copyF_setAll (c : List Int) : ∀ (is : List Nat) (o : List Int), copyF c is o = setAll is (is.map fun i => c[i]!) o
  | [], _ => rfl
  | i :: is, o => by
    show copyF c is (o.set i c[i]!) = setAll is _ (o.set i c[i]!)
    exact copyF_setAll c is _

/-- A kind of record: its number fields, those that a kind names, its text, its limits. -/
structure Sp where
  len : Nat
  idx : Int → List Nat
  txt : Int → Bool
  lim : List Int → List UInt8 → Bool
  pos : 0 < len
  nodup : ∀ k, (idx k).Nodup
  range : ∀ k, ∀ i ∈ idx k, 0 < i ∧ i < len
  kind : ∀ c d, lim c d = true → numMayB c[0]! = true
  text : ∀ c d, lim c d = true → txt c[0]! = true → d.length ≤ 65536

def Sp.may (S : Sp) (c : List Int) (d : List UInt8) : Bool :=
  S.lim c d && (S.idx c[0]!).all (fun i => numMayB c[i]!) && decide (c = plainF S.idx c) && (S.txt c[0]! || d.isEmpty)
def Sp.enc (S : Sp) (c : List Int) (d : List UInt8) : List UInt8 :=
  numF c[0]! ++ (numsF ((S.idx c[0]!).map fun i => c[i]!) ++ (if S.txt c[0]! then putText d else []))
def Sp.put (S : Sp) (c : List Int) (d : List UInt8) : List UInt8 := if S.may c d then S.enc c d else []
def Sp.body (S : Sp) (l : List UInt8) : (List Int × Option Int) × (List UInt8 × Option Int) :=
  (rdFold l (S.idx (rdNum l (some 0)).1) ((List.replicate S.len 0).set 0 (rdNum l (some 0)).1) (rdNum l (some 0)).2,
    if S.txt (rdNum l (some 0)).1 then rdText l (rdFold l (S.idx (rdNum l (some 0)).1) ((List.replicate S.len 0).set 0 (rdNum l (some 0)).1) (rdNum l (some 0)).2).2
    else ([], (rdFold l (S.idx (rdNum l (some 0)).1) ((List.replicate S.len 0).set 0 (rdNum l (some 0)).1) (rdNum l (some 0)).2).2))
def Sp.ok (S : Sp) (l : List UInt8) : Bool := doneB l (S.body l).2.2 && S.may (S.body l).1.1 (S.body l).2.1

theorem Sp.may_parts {S : Sp} {c : List Int} {d : List UInt8} (h : S.may c d = true) :
    S.lim c d = true ∧ (∀ i ∈ S.idx c[0]!, numMayB c[i]! = true) ∧ c = plainF S.idx c ∧ (S.txt c[0]! = true ∨ d = []) := by
  unfold Sp.may at h
  simpa [and_assoc] using h

/-- What may be is read where it stands. -/
theorem Sp.body_fwd (S : Sp) (c : List Int) (d r : List UInt8) (hl : c.length = S.len) (h : S.may c d = true) (l : List UInt8) (e : l = S.enc c d ++ r) :
    S.body l = ((c, (S.body l).1.2), (d, some ((S.enc c d).length : Int))) := by
  obtain ⟨h1, h2, h3, h4⟩ := Sp.may_parts h
  have hk := S.kind c d h1
  have e0 : l.drop 0 = numF c[0]! ++ ((numsF ((S.idx c[0]!).map fun i => c[i]!) ++ (if S.txt c[0]! then putText d else [])) ++ r) := by
    rw [List.drop_zero, e, Sp.enc]; simp only [List.append_assoc]
  obtain ⟨r1, d1⟩ := rdNum_fwd l _ 0 c[0]! hk e0
  rw [List.append_assoc] at d1
  have r1' : rdNum l (some 0) = (c[0]!, some ((0 + (numF c[0]!).length : Nat) : Int)) := r1
  obtain ⟨r2, d2⟩ := rdFold_fwd l c (S.idx c[0]!) ((List.replicate S.len 0).set 0 c[0]!) _ _ h2 d1
  have hc : copyF c (S.idx c[0]!) ((List.replicate S.len 0).set 0 c[0]!) = c := by
    conv => rhs; rw [h3]
    rw [plainF, hl]
  rw [hc] at r2
  unfold Sp.body
  rw [r1']
  simp only [r2]
  by_cases ht : S.txt c[0]! = true
  · rw [if_pos ht] at d2 ⊢
    have hle : 0 + (numF c[0]!).length + (numsF ((S.idx c[0]!).map fun i => c[i]!)).length ≤ l.length := by
      rw [e, Sp.enc]; simp only [List.length_append]; omega
    obtain ⟨r3, _⟩ := rdText_fwd l r d _ (S.text c d h1 ht) d2 hle
    rw [r3]
    simp only [Prod.mk.injEq, true_and, Option.some.injEq, Sp.enc, if_pos ht, List.length_append]
    omega
  · rw [if_neg ht]
    have hd : d = [] := h4.resolve_left ht
    subst hd
    simp only [Prod.mk.injEq, true_and, Option.some.injEq, Sp.enc, if_neg ht, List.length_append, List.length_nil]
    omega

/-- What is read stood there. -/
theorem Sp.body_bwd (S : Sp) (l : List UInt8) (t : Nat) (ht : t ≤ l.length) (h : (S.body l).2.2 = some (t : Int)) :
    (S.body l).1.1.length = S.len ∧ t = (S.enc (S.body l).1.1 (S.body l).2.1).length ∧ l = S.enc (S.body l).1.1 (S.body l).2.1 ++ l.drop t := by
  obtain ⟨k, st1, e1⟩ : ∃ k st1, rdNum l (some 0) = (k, st1) := ⟨_, _, rfl⟩
  obtain ⟨o, st2, e2⟩ : ∃ o st2, rdFold l (S.idx k) ((List.replicate S.len 0).set 0 k) st1 = (o, st2) := ⟨_, _, rfl⟩
  unfold Sp.body at h ⊢
  simp only [e1, e2] at h ⊢
  have key : ∀ q : Nat, q ≤ l.length → st2 = some (q : Int) → o.length = S.len ∧ o[0]! = k ∧ q = (numF k).length + (numsF ((S.idx k).map fun i => o[i]!)).length ∧ l = numF k ++ (numsF ((S.idx k).map fun i => o[i]!) ++ l.drop q) := by
    intro q hq hs
    rw [hs] at e2
    obtain ⟨p, xs, hs1, hxl, hxm, ho, hqp, hd⟩ := rdFold_bwd l _ _ _ o q hq e2
    rw [hs1] at e1
    obtain ⟨p0, hp0, hm0, hp1, hp2, hp3⟩ := rdNum_bwd l _ k p e1
    have hp00 : p0 = 0 := by injection hp0 with hp0; omega
    subst hp00
    have hmap := setAll_map (S.idx k) xs ((List.replicate S.len 0).set 0 k) (S.nodup k) hxl (fun i hi => by have := S.range k i hi; simp; omega)
    rw [← ho] at hmap
    rw [hmap]
    have hpk : p = (numF k).length := by omega
    refine ⟨?_, ?_, by omega, ?_⟩
    · rw [ho, setAll_length]; simp
    · rw [ho, setAll_other _ _ _ 0 (fun h0 => absurd (S.range k 0 h0).1 (by omega))]
      have := S.pos
      simp [this]
    · rw [List.drop_zero, Nat.zero_add] at hp3
      rw [← hd, hpk, ← hp3]
  by_cases hx : S.txt k = true
  · rw [if_pos hx] at h ⊢
    obtain ⟨d, st3, e3⟩ : ∃ d st3, rdText l st2 = (d, st3) := ⟨_, _, rfl⟩
    simp only [e3] at h ⊢
    rw [h] at e3
    obtain ⟨q, hq1, hq2, hq3, hq4, hq5⟩ := rdText_bwd l st2 d t e3
    obtain ⟨k1, k2, k3, k4⟩ := key q (by omega) hq1
    have htq : t = q + (putText d).length := by omega
    refine ⟨k1, ?_, ?_⟩
    · rw [Sp.enc, k2, if_pos hx, List.length_append, List.length_append, htq, k3]; omega
    · rw [Sp.enc, k2, if_pos hx, List.append_assoc, List.append_assoc, htq, ← hq5, ← k4]
  · rw [if_neg hx] at h ⊢
    simp only at h ⊢
    obtain ⟨k1, k2, k3, k4⟩ := key t ht h
    refine ⟨k1, ?_, ?_⟩
    · rw [Sp.enc, k2, if_neg hx, List.length_append, List.append_nil, k3]
    · rw [Sp.enc, k2, if_neg hx, List.append_nil, List.append_assoc, ← k4]

theorem doneB_iff (l : List UInt8) (st : Option Int) : doneB l st = true ↔ st = some (l.length : Int) := by simp [doneB]

/-- Read: it may be, and this is it written. -/
theorem Sp.ok_bwd (S : Sp) (l : List UInt8) (h : S.ok l = true) : (S.body l).1.1.length = S.len ∧ S.may (S.body l).1.1 (S.body l).2.1 = true ∧ l = S.enc (S.body l).1.1 (S.body l).2.1 := by
  unfold Sp.ok at h
  rw [Bool.and_eq_true, doneB_iff] at h
  obtain ⟨h1, _, h3⟩ := S.body_bwd l l.length (Nat.le_refl _) h.1
  exact ⟨h1, h.2, by simpa using h3⟩
theorem Sp.ok_fwd (S : Sp) (c : List Int) (d : List UInt8) (hl : c.length = S.len) (h : S.may c d = true) : S.ok (S.enc c d) = true ∧ (S.body (S.enc c d)).1.1 = c ∧ (S.body (S.enc c d)).2.1 = d := by
  have e := S.body_fwd c d [] hl h (S.enc c d) (by simp)
  refine ⟨?_, by rw [e], by rw [e]⟩
  unfold Sp.ok
  rw [e]
  simp [doneB, h]
/-- No one's bytes begin another one's. -/
theorem Sp.enc_more (S : Sp) (c c' : List Int) (d d' r : List UInt8) (hl : c.length = S.len) (hl' : c'.length = S.len) (h : S.may c d = true) (h' : S.may c' d' = true) (e : S.enc c d = S.enc c' d' ++ r) : c = c' ∧ d = d' ∧ r = [] := by
  have e1 := S.body_fwd c d [] hl h (S.enc c d) (by simp)
  have e2 := S.body_fwd c' d' r hl' h' (S.enc c d) e
  have e3 := e1.symm.trans e2
  simp only [Prod.mk.injEq, and_true, Option.some.injEq] at e3
  refine ⟨e3.1, e3.2.1, ?_⟩
  have h4 := congrArg List.length e
  rw [List.length_append] at h4
  have : r.length = 0 := by omega
  exact List.length_eq_zero_iff.1 this
/-- Cut they are none. -/
theorem Sp.cut (S : Sp) (c : List Int) (d : List UInt8) (hl : c.length = S.len) (h : S.may c d = true) (k : Nat) (hk : k < (S.enc c d).length) : S.ok ((S.enc c d).take k) = false := by
  cases e : S.ok ((S.enc c d).take k)
  · rfl
  · obtain ⟨h1, h2, h3⟩ := S.ok_bwd _ e
    have h4 : S.enc c d = S.enc (S.body ((S.enc c d).take k)).1.1 (S.body ((S.enc c d).take k)).2.1 ++ (S.enc c d).drop k := by rw [← h3, List.take_append_drop]
    have h5 := (S.enc_more c _ d _ _ hl h1 h h2 h4).2.2
    have := congrArg List.length h5
    simp at this
    omega
theorem Sp.more (S : Sp) (c : List Int) (d : List UInt8) (hl : c.length = S.len) (h : S.may c d = true) (r : List UInt8) (hr : r ≠ []) : S.ok (S.enc c d ++ r) = false := by
  cases e : S.ok (S.enc c d ++ r)
  · rfl
  · obtain ⟨h1, h2, h3⟩ := S.ok_bwd _ e
    exact absurd (S.enc_more _ c _ d r h1 hl h2 h h3.symm).2.2 hr
theorem Sp.enc_pos (S : Sp) (c : List Int) (d : List UInt8) (h : S.may c d = true) : 0 < (S.enc c d).length := by
  obtain ⟨n, _, _, hn⟩ := numF_of (S.kind c d (Sp.may_parts h).1)
  rw [Sp.enc, hn, List.length_append, numL_len]
  omega
theorem Sp.enc_inj (S : Sp) (c c' : List Int) (d d' : List UInt8) (hl : c.length = S.len) (hl' : c'.length = S.len) (h : S.may c d = true) (h' : S.may c' d' = true) : S.enc c d = S.enc c' d' ↔ c = c' ∧ d = d' := by
  constructor
  · intro e
    obtain ⟨h1, h2, _⟩ := S.enc_more c c' d d' [] hl hl' h h' (by simpa using e)
    exact ⟨h1, h2⟩
  · rintro ⟨rfl, rfl⟩; rfl
end Go.Proofs.Ythkbeigimdgamaa
