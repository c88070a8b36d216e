/- The walk of PoolWalks: what the law keeps beside the pool mirrors it. -/
import Derived.Test.YtapacdkcekbnaaaU
namespace Go.Proofs.Ytapacdkcekbnaaa
open Go Go.RowKit

/-- What is leased when something is free. -/
theorem lease_some {l : List Ad} {u t : Int} (h1 : mayB l = true) (h2 : userMayB u = true) (h3 : tickMayB t = true) {j : Nat} (hj : j < l.length) (hf : freeB t l[j]! = true) :
    ∃ x : Nat, leaseF l u t = ((x : Int), 0) ∧ x < l.length ∧ freeB t l[x]! = true ∧ ∀ i, i < l.length → ownP t u l[i]! = true → l[x]!.last = u := by
  have key : ∀ p : Ad → Bool, (∃ m : Nat, idx p l = (m : Int) ∧ m < l.length ∧ p l[m]! = true) ∨ (idx p l = -1 ∧ ∀ i, i < l.length → p l[i]! = false) := by
    intro p
    unfold idx
    cases h : l.findIdx? p with
    | some i =>
      obtain ⟨hi, hp, _⟩ := List.findIdx?_eq_some_iff_getElem.1 h
      exact .inl ⟨i, rfl, hi, by simpa [hi] using hp⟩
    | none =>
      rw [List.findIdx?_eq_none_iff] at h
      exact .inr ⟨rfl, fun i hi => by simpa [hi] using h _ (List.getElem_mem hi)⟩
  have hfree : ∀ v a, ownP t v a = true → freeB t a = true := fun v a h => by
    unfold ownP at h
    simp only [Bool.and_eq_true] at h
    exact h.1
  unfold leaseF
  rw [h1, h2, h3]
  simp only [Bool.not_true, Bool.or_self, Bool.false_eq_true, if_false]
  rcases key (ownP t u) with ⟨m, e, hm, hp⟩ | ⟨e, hno⟩
  · rw [e, if_pos (by omega)]
    refine ⟨m, rfl, hm, hfree _ _ hp, fun _ _ _ => ?_⟩
    unfold ownP at hp
    simpa using (Bool.and_eq_true_iff.1 hp).2
  · rw [e, if_neg (by omega)]
    have no : ∀ x : Nat, ∀ i, i < l.length → ownP t u l[i]! = true → l[x]!.last = u := fun x i hi h => by rw [hno i hi] at h; cases h
    rcases key (ownP t (-1)) with ⟨m, e2, hm, hp⟩ | ⟨e2, _⟩
    · rw [e2, if_pos (by omega)]
      exact ⟨m, rfl, hm, hfree _ _ hp, no m⟩
    · rw [e2, if_neg (by omega)]
      rcases key (freeB t) with ⟨m, e3, hm, hp⟩ | ⟨_, hno3⟩
      · rw [e3, if_pos (by omega)]
        exact ⟨m, rfl, hm, hp, no m⟩
      · rw [hno3 j hj] at hf
        cases hf

theorem lease_full {l : List Ad} {u t : Int} (h1 : mayB l = true) (h2 : userMayB u = true) (h3 : tickMayB t = true) (hf : NoneB (freeB t) l l.length) : leaseF l u t = (0, 1601) := by
  unfold leaseF
  rw [h1, h2, h3, (hf.own u).idx, (hf.own (-1)).idx, hf.idx]
  simp

def Mirror (w : World) (B1 B2 B3 : Nat) (l : List Ad) : Prop :=
  (∀ j, j < 4 → w.cell? ⟨B1, j, none⟩ = some (.bool l[j]!.busy) ∧ w.cell? ⟨B2, j, none⟩ = some (.int .i64 l[j]!.last) ∧ w.cell? ⟨B3, j, none⟩ = some (.int .i64 l[j]!.til)) ∧
  ∀ j, w.frozen? ⟨B1, j, none⟩ = false ∧ w.frozen? ⟨B2, j, none⟩ = false ∧ w.frozen? ⟨B3, j, none⟩ = false

theorem Mirror.lt {w : World} {B1 B2 B3 : Nat} {l : List Ad} (h : Mirror w B1 B2 B3 l) : B1 < w.heap.size ∧ B2 < w.heap.size ∧ B3 < w.heap.size :=
  ⟨World.block_lt_of_cell? _ _ (h.1 0 (by omega)).1, World.block_lt_of_cell? _ _ (h.1 0 (by omega)).2.1, World.block_lt_of_cell? _ _ (h.1 0 (by omega)).2.2⟩

theorem Mirror.below {w w' : World} {B1 B2 B3 : Nat} {l : List Ad} (h : Mirror w B1 B2 B3 l) (hb : Below w.heap.size w w') : Mirror w' B1 B2 B3 l := by
  obtain ⟨l1, l2, l3⟩ := h.lt
  refine ⟨fun j hj => ?_, fun j => ?_⟩
  · obtain ⟨h0, h1, h2⟩ := h.1 j hj
    exact ⟨keep_cell h0 hb, keep_cell h1 hb, keep_cell h2 hb⟩
  · obtain ⟨h0, h1, h2⟩ := h.2 j
    exact ⟨(hb.frozen (p := ⟨B1, j, none⟩) l1).trans h0, (hb.frozen (p := ⟨B2, j, none⟩) l2).trans h1, (hb.frozen (p := ⟨B3, j, none⟩) l3).trans h2⟩

theorem cell_other (w : World) {b b' : Nat} (hne : b ≠ b') (o o' : Nat) (u : Value) : (w.setCell ⟨b, o, none⟩ u).cell? ⟨b', o', none⟩ = w.cell? ⟨b', o', none⟩ :=
  World.cell?_setCell_other w ⟨b, o, none⟩ ⟨b', o', none⟩ u (fun e => hne (by injection e))

theorem cell_here (w : World) (b o o' : Nat) (u v : Value) (h : w.cell? ⟨b, o', none⟩ = some v) : (w.setCell ⟨b, o, none⟩ u).cell? ⟨b, o', none⟩ = some (if o' = o then u else v) := by
  by_cases e : o' = o
  · subst e
    rw [if_pos rfl]
    exact World.cell?_setCell_same w ⟨b, o', none⟩ u h
  · rw [if_neg e, World.cell?_setCell_other w ⟨b, o, none⟩ ⟨b, o', none⟩ u (fun e' => e (by injection e' with _ e'; exact e'.symm))]
    exact h

theorem set_at (l : List Ad) (k j : Nat) (hk : k < l.length) (x : Ad) : (l.set k x)[j]! = if j = k then x else l[j]! := by
  by_cases e : j = k
  · subst e; rw [if_pos rfl]; exact set_self l j hk x
  · rw [if_neg e]; exact set_other l k j e x

/-- What Free turns beside the pool. -/
theorem Mirror.freed {w : World} {B1 B2 B3 : Nat} {l : List Ad} (h : Mirror w B1 B2 B3 l) (h12 : B1 ≠ B2) (h13 : B1 ≠ B3) (h23 : B2 ≠ B3) (k : Nat) (hk : k < l.length) (t : Int) :
    Mirror ((w.setCell ⟨B1, k, none⟩ (.bool false)).setCell ⟨B3, k, none⟩ (.int .i64 t)) B1 B2 B3 (l.set k ⟨false, l[k]!.last, t⟩) := by
  refine ⟨fun j hj => ?_, fun j => ?_⟩
  · obtain ⟨g0, g1, g2⟩ := h.1 j hj
    rw [set_at l k j hk]
    refine ⟨?_, ?_, ?_⟩
    · rw [cell_other _ (Ne.symm h13), cell_here _ _ _ _ _ _ g0]
      split <;> rfl
    · rw [cell_other _ (Ne.symm h23), cell_other _ h12, g1]
      split
      · rename_i e; subst e; rfl
      · rfl
    · rw [cell_here _ _ _ _ _ (.int .i64 l[j]!.til) (by rw [cell_other _ h13]; exact g2)]
      split <;> rfl
  · obtain ⟨g0, g1, g2⟩ := h.2 j
    simp only [World.frozen?_setCell]
    exact ⟨g0, g1, g2⟩

/-- What Take turns beside the pool. -/
theorem Mirror.taken {w : World} {B1 B2 B3 : Nat} {l : List Ad} (h : Mirror w B1 B2 B3 l) (h12 : B1 ≠ B2) (h13 : B1 ≠ B3) (h23 : B2 ≠ B3) (k : Nat) (hk : k < l.length) (u : Int) :
    Mirror (((w.setCell ⟨B1, k, none⟩ (.bool true)).setCell ⟨B2, k, none⟩ (.int .i64 u)).setCell ⟨B3, k, none⟩ (.int .i64 0)) B1 B2 B3 (l.set k ⟨true, u, 0⟩) := by
  refine ⟨fun j hj => ?_, fun j => ?_⟩
  · obtain ⟨g0, g1, g2⟩ := h.1 j hj
    rw [set_at l k j hk]
    refine ⟨?_, ?_, ?_⟩
    · rw [cell_other _ (Ne.symm h13), cell_other _ (Ne.symm h12), cell_here _ _ _ _ _ _ g0]
      split <;> rfl
    · rw [cell_other _ (Ne.symm h23), cell_here _ _ _ _ _ (.int .i64 l[j]!.last) (by rw [cell_other _ h12]; exact g1)]
      split <;> rfl
    · rw [cell_here _ _ _ _ _ (.int .i64 l[j]!.til) (by rw [cell_other _ h23, cell_other _ h13]; exact g2)]
      split <;> rfl
  · obtain ⟨g0, g1, g2⟩ := h.2 j
    simp only [World.frozen?_setCell]
    exact ⟨g0, g1, g2⟩

theorem num_quiet (x : Int) (w : World) (n : Nat) : Calls Try.prog 17 #[.int .i64 x] (w.drewN n) fun e w'' => e = .returned (.int .i64 x) ∧ ∃ m, w'' = w.drewN m :=
  (num_any x _).mono fun _ _ ⟨he, hm⟩ => ⟨he, n, hm.symm⟩

def four : List Ad := [fresh, fresh, fresh, fresh]
theorem f4new : newF 4 = some four := by decide
theorem four_ok : four.length = 4 ∧ ∀ a ∈ four, okAd a := by
  refine ⟨rfl, fun a ha => ?_⟩
  have : a = fresh := by simpa [four] using ha
  subst this
  exact ⟨by decide, by decide, by decide⟩

theorem mask3 (x : Int) : ∃ m : Nat, bits .and .i64 x 3 = (m : Int) ∧ m ≤ 3 := by
  obtain ⟨m, h, h'⟩ := and_mask x 2 (by omega)
  exact ⟨m, h, h'⟩
theorem mask1 (x : Int) : ∃ m : Nat, bits .and .i64 x 1 = (m : Int) ∧ m ≤ 1 := by
  obtain ⟨m, h, h'⟩ := and_mask x 1 (by omega)
  exact ⟨m, h, h'⟩

set_option maxRecDepth 100000 in
set_option maxHeartbeats 8000000 in
theorem walks_walk (v : Value) (zs : List Int) (w : World) (hv : Nums w v zs) :
    Calls Try.prog 4 #[v] w fun e w' => e = .returned (.bool true) ∧ Below w.heap.size w w' := by
  have hnum := num_any
  have hbig := hv.1
  obtain ⟨ao, c, hf, _⟩ := hv.2
  subst hf
  have HV := Lib.hid hv
  clear hv
  obtain ⟨n, hn⟩ : ∃ n, n = zs.length := ⟨_, rfl⟩
  have HN := Lib.hid hn
  rw [← hn] at hbig ⊢
  clear hn
  go_enter Try.func4, Try.ntmps4
  go_wp2_with fail
  refine (awake_any _).mono ?_
  rintro e w1 ⟨rfl, b⟩
  have CH := Lib.hid b
  replace HV := Lib.hid (HV.out.below b)
  clear b
  go_wp2_with fail
  refine (new_any 4 _).mono ?_
  intro e w2 h
  obtain ⟨v2, rfl, o2, b⟩ := h.some f4new
  clear h
  obtain ⟨g2, c2, rfl, _, _, _⟩ := o2.form (by decide)
  have S2 := Lib.hid o2.sl
  replace HV := Lib.hid (HV.out.below b)
  replace CH := Lib.hid (Below.next CH.out b)
  clear o2 b
  have l4 : four.length = 4 := rfl
  go_wp2_with (go_at_call 17; refine (hnum _ _).mono ?_; rintro e w' ⟨rfl, rfl⟩)
  have hb3 : Below w2.heap.size w2 (((w2.alloc (.cells #[.bool false, .bool false, .bool false, .bool false] 41)).alloc (.cells #[.int .i64 (-1), .int .i64 (-1), .int .i64 (-1), .int .i64 (-1)] 3)).alloc (.cells #[.int .i64 0, .int .i64 0, .int .i64 0, .int .i64 0] 42)) := (((Below.refl _ _).alloc (Nat.le_refl _) _).alloc (by simp) _).alloc (by simp; omega) _
  have hM : Mirror (((w2.alloc (.cells #[.bool false, .bool false, .bool false, .bool false] 41)).alloc (.cells #[.int .i64 (-1), .int .i64 (-1), .int .i64 (-1), .int .i64 (-1)] 3)).alloc (.cells #[.int .i64 0, .int .i64 0, .int .i64 0, .int .i64 0] 42)) w2.heap.size (w2.heap.size + 1) (w2.heap.size + 1 + 1) four := by
    refine ⟨fun j hj => ?_, fun j => ?_⟩
    · have : j = 0 ∨ j = 1 ∨ j = 2 ∨ j = 3 := by omega
      rcases this with rfl | rfl | rfl | rfl
      all_goals exact ⟨by go_simp; rfl, by go_simp; rfl, by go_simp; rfl⟩
    · have a1 := frozen_new w2 #[.bool false, .bool false, .bool false, .bool false] 41 j
      have a2 := frozen_new (w2.alloc (.cells #[.bool false, .bool false, .bool false, .bool false] 41)) #[.int .i64 (-1), .int .i64 (-1), .int .i64 (-1), .int .i64 (-1)] 3 j
      have a3 := frozen_new ((w2.alloc (.cells #[.bool false, .bool false, .bool false, .bool false] 41)).alloc (.cells #[.int .i64 (-1), .int .i64 (-1), .int .i64 (-1), .int .i64 (-1)] 3)) #[.int .i64 0, .int .i64 0, .int .i64 0, .int .i64 0] 42 j
      have h1 : Below w2.heap.size.succ (w2.alloc (.cells #[.bool false, .bool false, .bool false, .bool false] 41)) (((w2.alloc (.cells #[.bool false, .bool false, .bool false, .bool false] 41)).alloc (.cells #[.int .i64 (-1), .int .i64 (-1), .int .i64 (-1), .int .i64 (-1)] 3)).alloc (.cells #[.int .i64 0, .int .i64 0, .int .i64 0, .int .i64 0] 42)) := ((Below.refl _ _).alloc (by simp) _).alloc (by simp) _
      have h2 : Below (w2.heap.size + 1).succ ((w2.alloc (.cells #[.bool false, .bool false, .bool false, .bool false] 41)).alloc (.cells #[.int .i64 (-1), .int .i64 (-1), .int .i64 (-1), .int .i64 (-1)] 3)) (((w2.alloc (.cells #[.bool false, .bool false, .bool false, .bool false] 41)).alloc (.cells #[.int .i64 (-1), .int .i64 (-1), .int .i64 (-1), .int .i64 (-1)] 3)).alloc (.cells #[.int .i64 0, .int .i64 0, .int .i64 0, .int .i64 0] 42)) := (Below.refl _ _).alloc (by simp) _
      refine ⟨(h1.frozen (p := ⟨w2.heap.size, j, none⟩) (Nat.lt_succ_self _)).trans a1, (h2.frozen (p := ⟨w2.heap.size + 1, j, none⟩) (Nat.lt_succ_self _)).trans ?_, ?_⟩
      · simp
      · simpa using a3
  generalize (((w2.alloc (.cells #[.bool false, .bool false, .bool false, .bool false] 41)).alloc (.cells #[.int .i64 (-1), .int .i64 (-1), .int .i64 (-1), .int .i64 (-1)] 3)).alloc (.cells #[.int .i64 0, .int .i64 0, .int .i64 0, .int .i64 0] 42)) = w3 at hb3 hM ⊢
  have hB12 : w2.heap.size < w2.heap.size + 1 := by omega
  have hB23 : w2.heap.size + 1 < w2.heap.size + 1 + 1 := by omega
  have hB0 : w2.heap.size ≤ w2.heap.size := Nat.le_refl _
  have CH3 := Lib.hid (Below.next CH.out hb3)
  have S3 := Lib.hid (S2.out.below hb3)
  have HV3 := Lib.hid (HV.out.below hb3)
  have hBn : ∀ x, w2.heap.size ≤ x → Below x w3 w3 := fun x _ => Below.refl _ _
  have hle : w.heap.size ≤ w2.heap.size := CH.out.size
  have HV2 := Lib.hid HV.out
  generalize hB1 : w2.heap.size = B1 at *
  have HB1 := Lib.hid hB1
  clear hB1
  generalize B1 + 1 + 1 = B3 at *
  generalize B1 + 1 = B2 at *
  have HM := Lib.hid hM
  have HH := Lib.hid (show B1 < B2 ∧ B2 < B3 from ⟨hB12, hB23⟩)
  have CHB : Hid (Below B1 w2 w3) := hb3
  have HLE := Lib.hid hle
  clear hle HV3 hM hB12 hB23 hB0 hBn hb3 CH HV S2
  go_loopg [3, 8] (n + 1) (fun gg s3 s8 wr => ∃ (i : Nat) (a3 : Option Addr) (c3 : Nat) (l : List Ad), i ≤ n ∧ i ≤ 60 ∧ n - i < gg ∧ s8 = .int .i64 i ∧ s3 = .slice a3 4 c3 ∧ Aside (l.length = 4 ∧ ∀ a ∈ l, okAd a) ∧ Aside (Sl wr (.slice a3 4 c3) l) ∧ Aside (Mirror wr B1 B2 B3 l) ∧ Aside (Below B1 w3 wr))
  case atStart => exact ⟨0, _, _, four, Nat.zero_le _, by omega, by omega, rfl, rfl, four_ok, S3.out, HM.out, Below.refl _ _⟩
  case round =>
    obtain ⟨i, a3, c3, l, hi, hi60, hg, rfl, rfl, AL, AS, AM, AB⟩ := hrel
    by_cases hgo : i < n ∧ i < 60
    · obtain ⟨h1, h2⟩ := hgo
      have hki : (i : Int) < (n : Int) := by omega
      have hki2 : (i : Int) < 60 := by omega
      obtain ⟨b, off, rfl, cz⟩ := HV2.out.cellAt i (by rw [← HN.out]; exact h1)
      have hbb : b < B1 := by rw [← HB1.out]; exact World.block_lt_of_cell? _ _ cz
      have c0 : wr.cell? ⟨b, off + i, none⟩ = some (.int .i64 zs[i]!) := ((CHB.out.trans AB.out).cell (p := ⟨b, off + i, none⟩) hbb).trans cz
      have HBB := Lib.hid hbb
      clear cz hbb
      generalize zs[i]! = z at c0
      obtain ⟨u, hu, hu7⟩ := mask7 z
      obtain ⟨k, hk, hk3⟩ := mask3 (z / 8)
      obtain ⟨q, hq, hq1⟩ := mask1 (z / 32)
      obtain ⟨m, hm, hm7⟩ := mask7 (z / 64)
      have hkl : k < l.length := by rw [AL.out.1]; omega
      have hmay : mayB l = true := mayB_of (by rw [AL.out.1]; omega) (by rw [AL.out.1]; omega) AL.out.2
      have hthere : thereB l (k : Int) = true := by simp [thereB]; omega
      have HKL := Lib.hid hkl
      have HMAY := Lib.hid hmay
      have HTH := Lib.hid hthere
      have hk4i : (k : Int) < 4 := by omega
      clear hkl hmay hthere
      go_wp2
      go_quiet (fail)
      have hbd : Below B1 w3 (wr.drewN nq) := ⟨AB.out.os, AB.out.tape, AB.out.output, AB.out.size, AB.out.block⟩
      have hsd : Sl (wr.drewN nq) (.slice a3 4 c3) l := AS.out
      have hmd : Mirror (wr.drewN nq) B1 B2 B3 l := AM.out
      have c0' : (wr.drewN nq).cell? ⟨b, off + i, none⟩ = some (.int .i64 z) := c0
      generalize wr.drewN nq = wd at hbd hsd hmd c0' ⊢
      have HBD := Lib.hid hbd
      have HSD := Lib.hid hsd
      have HMD := Lib.hid hmd
      clear AB AS AM hbd hsd hmd c0
      have hq01 : q = 0 ∨ q = 1 := by omega
      rcases hq01 with rfl | rfl
      · have e1 : bits .and .i64 (z / 32) 1 = 0 := hq
        clear hq hq1
        have hU : userMayB (u : Int) = true := by simp [userMayB]; omega
        have hT : tickMayB (i : Int) = true := by simp [tickMayB]; omega
        have hfull := Lib.hid (fun hf => lease_full (l := l) HMAY.out hU hT hf)
        have hsome := Lib.hid (fun (j : Nat) (hj : j < l.length) hf => lease_some (l := l) HMAY.out hU hT hj hf)
        have htake := Lib.hid (fun (x : Nat) (hx : x < l.length) (hb : l[x]!.busy = false) => show takeF l (x : Int) (u : Int) = some (l.set x ⟨true, (u : Int), 0⟩) from by
          have hth : thereB l (x : Int) = true := by simp [thereB]; omega
          unfold takeF busyAt
          rw [Int.toNat_natCast, hb, HMAY.out, hth, hU]
          rfl)
        clear hU hT hk4i
        go_wp2_with fail
        refine (lease_any _ l u i _ HSD.out).mono ?_
        rintro e w4 ⟨rfl, b4⟩
        have HMD4 := Lib.hid (HMD.out.below b4)
        have HSD4 := Lib.hid (HSD.out.below b4)
        have HBD4 := Lib.hid (HBD.out.trans (b4.mono (Nat.le_of_lt HMD.out.lt.1)))
        clear b4 c0' HKL
        generalize hr1 : (leaseF l (u : Int) (i : Int)).1 = r1
        generalize hr2 : (leaseF l (u : Int) (i : Int)).2 = r2
        have HR : Hid (leaseF l (u : Int) (i : Int) = (r1, r2)) := by rw [← hr1, ← hr2]; exact rfl
        clear hr1 hr2
        go_wp2_with fail
        go_loopg [15, 16, 17] 5 (fun gg s15 s16 s17 wr2 => ∃ (j f : Nat) (o : Bool), j ≤ 4 ∧ f ≤ j ∧ 4 - j < gg ∧ s17 = .int .i64 j ∧ s15 = .int .i64 f ∧ s16 = .bool o ∧ Aside ((f = 0 → NoneB (freeB (i : Int)) l j) ∧ (0 < f → ∃ x, x < 4 ∧ freeB (i : Int) l[x]! = true) ∧ (o = true → ∃ x, x < 4 ∧ ownP (i : Int) (u : Int) l[x]! = true)) ∧ Aside (w4 = wr2))
        case atStart => exact ⟨0, 0, false, by omega, by omega, by omega, rfl, rfl, rfl, ⟨fun _ j hj => absurd hj (Nat.not_lt_zero _), fun h => absurd h (Nat.lt_irrefl _), fun h => by cases h⟩, rfl⟩
        case round =>
          obtain ⟨j, f, o, hj, hfj, hjg, rfl, rfl, rfl, AF, EW⟩ := hrel
          obtain rfl := EW.out
          by_cases hj4 : j < 4
          · have hji : (j : Int) < 4 := by omega
            obtain ⟨y0, y1, y2⟩ := HMD4.out.1 j hj4
            have P1 := Lib.hid (fun (hn : freeB (i : Int) l[j]! = false) => show (f = 0 → NoneB (freeB (i : Int)) l (j + 1)) ∧ (0 < f → ∃ x, x < 4 ∧ freeB (i : Int) l[x]! = true) ∧ (o = true → ∃ x, x < 4 ∧ ownP (i : Int) (u : Int) l[x]! = true) from ⟨fun h => (AF.out.1 h).succ hn, AF.out.2.1, AF.out.2.2⟩)
            have P2 := Lib.hid (fun (hn : freeB (i : Int) l[j]! = true) (o' : Bool) (ho : o' = true → o = true ∨ l[j]!.last = (u : Int)) => show (f + 1 = 0 → NoneB (freeB (i : Int)) l (j + 1)) ∧ (0 < f + 1 → ∃ x, x < 4 ∧ freeB (i : Int) l[x]! = true) ∧ (o' = true → ∃ x, x < 4 ∧ ownP (i : Int) (u : Int) l[x]! = true) from ⟨fun h => by omega, fun _ => ⟨j, hj4, hn⟩, fun h => by
              rcases ho h with h1 | h1
              · exact AF.out.2.2 h1
              · exact ⟨j, hj4, by unfold ownP; rw [hn, h1]; simp⟩⟩)
            generalize l[j]! = y at y0 y1 y2 P1 P2
            obtain ⟨yb, yl, yt⟩ := y
            clear AF
            cases yb
            · by_cases p1 : yt ≤ (i : Int)
              · have R := Lib.hid (P2.out (by simp [freeB]; omega))
                clear P1 P2
                cases o
                · by_cases p2 : yl = (u : Int)
                  · have p2b : (yl == (u : Int)) = true := by simpa using p2
                    have R2 := Lib.hid (R.out true (fun _ => .inr p2))
                    clear R p2
                    go_wp2
                    go_roundg (4 - j)
                    case measure => omega
                    case rel => exact ⟨j + 1, f + 1, true, by omega, by omega, by omega, by go_num, by go_num, rfl, ⟨R2.out.1, R2.out.2.1, fun _ => R2.out.2.2 trivial⟩, rfl⟩
                  · have p2b : (yl == (u : Int)) = false := by simpa using p2
                    have R2 := Lib.hid (R.out false (fun h => by cases h))
                    clear R p2
                    go_wp2
                    go_roundg (4 - j)
                    case measure => omega
                    case rel => exact ⟨j + 1, f + 1, false, by omega, by omega, by omega, by go_num, by go_num, rfl, R2.out, rfl⟩
                · have R2 := Lib.hid (R.out true (fun _ => .inl rfl))
                  clear R
                  go_wp2
                  go_roundg (4 - j)
                  case measure => omega
                  case rel => exact ⟨j + 1, f + 1, true, by omega, by omega, by omega, by go_num, by go_num, rfl, ⟨R2.out.1, R2.out.2.1, fun _ => R2.out.2.2 trivial⟩, rfl⟩
              · have R := Lib.hid (P1.out (by simp [freeB]; omega))
                clear P1 P2
                go_wp2
                go_roundg (4 - j)
                case measure => omega
                case rel => exact ⟨j + 1, f, o, by omega, by omega, by omega, by go_num, rfl, rfl, R.out, rfl⟩
            · have R := Lib.hid (P1.out (by simp [freeB]))
              clear P1 P2
              go_wp2
              go_roundg (4 - j)
              case measure => omega
              case rel => exact ⟨j + 1, f, o, by omega, by omega, by omega, by go_num, rfl, rfl, R.out, rfl⟩
          · have hji : ¬ (j : Int) < 4 := by omega
            have hj5 : j = 4 := by omega
            subst hj5
            by_cases hf0 : f = 0
            · subst hf0
              have he := hfull.out (by rw [AL.out.1]; exact AF.out.1 rfl)
              rw [HR.out] at he
              injection he with he1 he2
              subst he1; subst he2
              clear AF hfull hsome htake HR
              go_wp2_with (go_at_call 17; refine (hnum _ _).mono ?_; rintro e w' ⟨rfl, rfl⟩)
              go_roundg (n - i)
              case measure => omega
              case rel => exact ⟨i + 1, _, _, l, by omega, by omega, by omega, by go_num, rfl, AL.out, HSD4.out, HMD4.out, HBD4.out⟩
            · have hfz : ((f : Int) == 0) = false := by simp; omega
              obtain ⟨x0, hx0, hxf⟩ := AF.out.2.1 (by omega)
              obtain ⟨x, he, hxl, hfx, hown⟩ := hsome.out x0 (by rw [AL.out.1]; exact hx0) hxf
              rw [HR.out] at he
              injection he with he1 he2
              subst he1; subst he2
              have hx4 : x < 4 := by have := AL.out.1; omega
              have hxb : l[x]!.busy = false := by
                unfold freeB at hfx
                simp only [Bool.and_eq_true, Bool.not_eq_true'] at hfx
                exact hfx.1
              have hxt : l[x]!.til ≤ (i : Int) := by
                unfold freeB at hfx
                simp only [Bool.and_eq_true, decide_eq_true_eq] at hfx
                exact hfx.2
              have RES := Lib.hid (htake.out x hxl hxb)
              obtain ⟨y0, y1, y2⟩ := HMD4.out.1 x hx4
              obtain ⟨z0, z1, z2⟩ := HMD4.out.2 x
              have hlast : o = true → l[x]!.last = (u : Int) := fun h => by
                obtain ⟨x1, hx1, ho1⟩ := AF.out.2.2 h
                exact hown x1 (by rw [AL.out.1]; exact hx1) ho1
              rw [hxb] at y0
              generalize l[x]!.til = yt at hxt y2
              generalize l[x]!.last = yl at hlast y1
              have HXL := Lib.hid hxl
              have hxi : (x : Int) < 4 := by omega
              have hxi0 : 0 ≤ (x : Int) := by omega
              have HLAST := Lib.hid hlast
              clear AF hfull hsome htake HR hxf hxl hfx hown hxb hx0 hlast
              cases o
              · clear HLAST
                go_wp2_with (go_at_call 17; refine (hnum _ _).mono ?_; rintro e w' ⟨rfl, rfl⟩)
                refine (take_any _ l x u _ HSD4.out).mono ?_
                intro e w5 h
                obtain ⟨v5, rfl, o5, b5⟩ := h.some RES.out
                clear h
                have hl5 : (l.set x ⟨true, (u : Int), 0⟩).length = 4 := by rw [List.length_set]; exact AL.out.1
                obtain ⟨g5, c5, rfl, hg5, hgs5, hc5⟩ := o5.form (by rw [hl5]; omega)
                have hs5 := o5.sl
                rw [hl5] at hs5
                have HS5 := Lib.hid hs5
                have f0 := keep_cell y0 b5
                have f1 := keep_cell y1 b5
                have f2 := keep_cell y2 b5
                have HMD5 := Lib.hid (HMD4.out.below b5)
                have HBD5 := Lib.hid (HBD4.out.trans (b5.mono (Nat.le_of_lt HMD4.out.lt.1)))
                have hg1 : B3 < g5 := by have := HMD4.out.lt.2.2; omega
                have HG1 := Lib.hid hg1
                rw [hl5]
                have hres : ∀ a ∈ l.set x ⟨true, (u : Int), 0⟩, okAd a := set_ok AL.out.2 x ⟨by show (-1 : Int) ≤ (u : Int); omega, by show (u : Int) ≤ 7; omega, by show (0 : Int) ≤ 0; omega⟩
                have HRES := Lib.hid (show (l.set x ⟨true, (u : Int), 0⟩).length = 4 ∧ _ from ⟨hl5, hres⟩)
                clear b5 o5 hs5 hg5 hgs5 hc5 hg1 hres hl5 y0 y1 y2 z0 z1 z2
                have z0 := (HMD5.out.2 x).1
                have z1 := (HMD5.out.2 x).2.1
                have z2 := (HMD5.out.2 x).2.2
                have f1s : ∀ q : Value, (w5.setCell ⟨B1, x, none⟩ q).cell? ⟨B2, x, none⟩ = some (.int .i64 yl) := fun q => (cell_other w5 (by have := HH.out; omega) x x q).trans f1
                have f2s : ∀ q q' : Value, ((w5.setCell ⟨B1, x, none⟩ q).setCell ⟨B2, x, none⟩ q').cell? ⟨B3, x, none⟩ = some (.int .i64 yt) := fun q q' => (cell_other _ (by have := HH.out; omega) x x q').trans ((cell_other w5 (by have := HH.out; omega) x x q).trans f2)
                clear f2
                go_wp2_with (go_at_call 17; refine (hnum _ _).mono ?_; rintro e w' ⟨rfl, rfl⟩)
                go_roundg (n - i)
                case measure => omega
                case rel => exact ⟨i + 1, _, _, _, by omega, by omega, by omega, by go_num, rfl, HRES.out, ((HS5.out.other (p := ⟨B1, x, none⟩) (by have := HG1.out; have := HH.out; show g5 ≠ B1; omega) _).other (p := ⟨B2, x, none⟩) (by have := HG1.out; have := HH.out; show g5 ≠ B2; omega) _).other (p := ⟨B3, x, none⟩) (by have := HG1.out; show g5 ≠ B3; omega) _, HMD5.out.taken (by have := HH.out; omega) (by have := HH.out; omega) (by have := HH.out; omega) x HXL.out _, ((HBD5.out.setCell (p := ⟨B1, x, none⟩) (Nat.le_refl _) _).setCell (p := ⟨B2, x, none⟩) (by have := HH.out; show B1 ≤ B2; omega) _).setCell (p := ⟨B3, x, none⟩) (by have := HH.out; show B1 ≤ B3; omega) _⟩
              · have hyl : (yl != (u : Int)) = false := by simp [HLAST.out rfl]
                clear HLAST
                go_wp2_with (go_at_call 17; refine (hnum _ _).mono ?_; rintro e w' ⟨rfl, rfl⟩)
                refine (take_any _ l x u _ HSD4.out).mono ?_
                intro e w5 h
                obtain ⟨v5, rfl, o5, b5⟩ := h.some RES.out
                clear h
                have hl5 : (l.set x ⟨true, (u : Int), 0⟩).length = 4 := by rw [List.length_set]; exact AL.out.1
                obtain ⟨g5, c5, rfl, hg5, hgs5, hc5⟩ := o5.form (by rw [hl5]; omega)
                have hs5 := o5.sl
                rw [hl5] at hs5
                have HS5 := Lib.hid hs5
                have f0 := keep_cell y0 b5
                have f1 := keep_cell y1 b5
                have f2 := keep_cell y2 b5
                have HMD5 := Lib.hid (HMD4.out.below b5)
                have HBD5 := Lib.hid (HBD4.out.trans (b5.mono (Nat.le_of_lt HMD4.out.lt.1)))
                have hg1 : B3 < g5 := by have := HMD4.out.lt.2.2; omega
                have HG1 := Lib.hid hg1
                rw [hl5]
                have hres : ∀ a ∈ l.set x ⟨true, (u : Int), 0⟩, okAd a := set_ok AL.out.2 x ⟨by show (-1 : Int) ≤ (u : Int); omega, by show (u : Int) ≤ 7; omega, by show (0 : Int) ≤ 0; omega⟩
                have HRES := Lib.hid (show (l.set x ⟨true, (u : Int), 0⟩).length = 4 ∧ _ from ⟨hl5, hres⟩)
                clear b5 o5 hs5 hg5 hgs5 hc5 hg1 hres hl5 y0 y1 y2 z0 z1 z2
                have z0 := (HMD5.out.2 x).1
                have z1 := (HMD5.out.2 x).2.1
                have z2 := (HMD5.out.2 x).2.2
                have f1s : ∀ q : Value, (w5.setCell ⟨B1, x, none⟩ q).cell? ⟨B2, x, none⟩ = some (.int .i64 yl) := fun q => (cell_other w5 (by have := HH.out; omega) x x q).trans f1
                have f2s : ∀ q q' : Value, ((w5.setCell ⟨B1, x, none⟩ q).setCell ⟨B2, x, none⟩ q').cell? ⟨B3, x, none⟩ = some (.int .i64 yt) := fun q q' => (cell_other _ (by have := HH.out; omega) x x q').trans ((cell_other w5 (by have := HH.out; omega) x x q).trans f2)
                clear f2
                go_wp2_with (go_at_call 17; refine (hnum _ _).mono ?_; rintro e w' ⟨rfl, rfl⟩)
                go_roundg (n - i)
                case measure => omega
                case rel => exact ⟨i + 1, _, _, _, by omega, by omega, by omega, by go_num, rfl, HRES.out, ((HS5.out.other (p := ⟨B1, x, none⟩) (by have := HG1.out; have := HH.out; show g5 ≠ B1; omega) _).other (p := ⟨B2, x, none⟩) (by have := HG1.out; have := HH.out; show g5 ≠ B2; omega) _).other (p := ⟨B3, x, none⟩) (by have := HG1.out; show g5 ≠ B3; omega) _, HMD5.out.taken (by have := HH.out; omega) (by have := HH.out; omega) (by have := HH.out; omega) x HXL.out _, ((HBD5.out.setCell (p := ⟨B1, x, none⟩) (Nat.le_refl _) _).setCell (p := ⟨B2, x, none⟩) (by have := HH.out; show B1 ≤ B2; omega) _).setCell (p := ⟨B3, x, none⟩) (by have := HH.out; show B1 ≤ B3; omega) _⟩
      · have e1 : bits .and .i64 (z / 32) 1 = 1 := hq
        clear hq hq1
        go_wp2_with fail
        refine (free_call _ l k _ _ HSD.out).mono ?_
        intro e w4 h
        have hr : freeF l (k : Int) ((i : Int) + (m : Int)) = if l[k]!.busy then some (l.set k ⟨false, l[k]!.last, (i : Int) + (m : Int)⟩) else Option.none := by
          unfold freeF busyAt
          rw [Int.toNat_natCast, HMAY.out, HTH.out]
          cases l[k]!.busy
          · rfl
          · rw [if_neg (by simp; omega)]; rfl
        have hmk := HMD.out.1 k (by omega)
        have HMK := Lib.hid hmk
        have hoky : okAd l[k]! := by
          rw [show l[k]! = l[k]'(HKL.out) from by simp [HKL.out]]
          exact AL.out.2 _ (List.getElem_mem HKL.out)
        have HOKY := Lib.hid hoky
        have hfr := Lib.hid (fun t => HMD.out.freed (by have := HH.out; omega) (by have := HH.out; omega) (by have := HH.out; omega) k HKL.out t)
        clear hmk hoky
        cases hyb : l[k]!.busy
        · rw [hyb] at hr
          obtain ⟨v4, rfl, o4, b4⟩ := h.none_ hr
          clear h hr
          have f0 := keep_cell HMK.out.1 b4
          rw [hyb] at f0
          have c04 := keep_cell c0' b4
          have HMD4 := Lib.hid (HMD.out.below b4)
          have HSD4 := Lib.hid (HSD.out.below b4)
          have HBD4 := Lib.hid (HBD.out.trans (b4.mono (Nat.le_of_lt HMD.out.lt.1)))
          clear b4 o4 hfr HMK HOKY hyb
          go_wp2
          go_quiet ((go_at_call 17; exact num_quiet _ _ _))
          go_wp2
          go_roundg (n - i)
          case measure => omega
          case rel => exact ⟨i + 1, _, _, l, by omega, by omega, by omega, by go_num, rfl, AL.out, HSD4.out, HMD4.out, ⟨HBD4.out.os, HBD4.out.tape, HBD4.out.output, HBD4.out.size, HBD4.out.block⟩⟩
        · rw [hyb] at hr
          obtain ⟨v4, rfl, o4, b4⟩ := h.some hr
          clear h hr
          have hl4 : (l.set k ⟨false, l[k]!.last, (i : Int) + (m : Int)⟩).length = 4 := by rw [List.length_set]; exact AL.out.1
          obtain ⟨g4, c4, rfl, hg4, hgs4, hc4⟩ := o4.form (by rw [hl4]; omega)
          have hs4 := o4.sl
          rw [hl4] at hs4
          have HS4 := Lib.hid hs4
          have f0 := keep_cell HMK.out.1 b4
          rw [hyb] at f0
          have f2 := keep_cell HMK.out.2.2 b4
          generalize l[k]!.til = y2 at f2
          have c04 := keep_cell c0' b4
          have HMD4 := Lib.hid (HMD.out.below b4)
          have HBD4 := Lib.hid (HBD.out.trans (b4.mono (Nat.le_of_lt HMD.out.lt.1)))
          have hg1 : B3 < g4 := by have := HMD.out.lt.2.2; omega
          have HG1 := Lib.hid hg1
          rw [hl4]
          have hres : ∀ a ∈ l.set k ⟨false, l[k]!.last, (i : Int) + (m : Int)⟩, okAd a := set_ok AL.out.2 k ⟨HOKY.out.1, HOKY.out.2.1, by show (0 : Int) ≤ (i : Int) + (m : Int); omega⟩
          have HRES := Lib.hid (show (l.set k ⟨false, l[k]!.last, (i : Int) + (m : Int)⟩).length = 4 ∧ _ from ⟨hl4, hres⟩)
          clear b4 o4 hfr HMK HOKY hyb hs4 hg4 hgs4 hc4 hg1 hres hl4
          go_wp2
          go_quiet ((go_at_call 17; exact num_quiet _ _ _))
          have f0' : (w4.drewN nq).cell? ⟨B1, k, none⟩ = some (.bool true) := f0
          have f2' : (w4.drewN nq).cell? ⟨B3, k, none⟩ = some (.int .i64 y2) := f2
          have c04' : (w4.drewN nq).cell? ⟨b, off + i, none⟩ = some (.int .i64 z) := c04
          have hmq : Mirror (w4.drewN nq) B1 B2 B3 l := HMD4.out
          have hsq : Sl (w4.drewN nq) (.slice (some ⟨g4, 0, none⟩) 4 c4) (l.set k ⟨false, l[k]!.last, (i : Int) + (m : Int)⟩) := HS4.out
          have hbq : Below B1 w3 (w4.drewN nq) := ⟨HBD4.out.os, HBD4.out.tape, HBD4.out.output, HBD4.out.size, HBD4.out.block⟩
          generalize w4.drewN nq = wq at f0' f2' c04' hmq hsq hbq ⊢
          have z0 := (hmq.2 k).1
          have z2 := (hmq.2 k).2.2
          have f2s : ∀ x : Value, (wq.setCell ⟨B1, k, none⟩ x).cell? ⟨B3, k, none⟩ = some (.int .i64 y2) := fun x => (cell_other wq (by have := HH.out; omega) k k x).trans f2'
          have c0s : ∀ x : Value, (wq.setCell ⟨B1, k, none⟩ x).cell? ⟨b, off + i, none⟩ = some (.int .i64 z) := fun x => (cell_other wq (by have := HBB.out; omega) k (off + i) x).trans c04'
          have HMQ := Lib.hid hmq
          have HSQ := Lib.hid hsq
          have HBQ := Lib.hid hbq
          clear f0 f2 c04 HMD4 HS4 HBD4 hmq hsq hbq
          go_wp2
          go_roundg (n - i)
          case measure => omega
          case rel => exact ⟨i + 1, _, _, _, by omega, by omega, by omega, by go_num, rfl, HRES.out, (HSQ.out.other (p := ⟨B1, k, none⟩) (by have := HG1.out; have := HH.out; show g4 ≠ B1; omega) _).other (p := ⟨B3, k, none⟩) (by have := HG1.out; show g4 ≠ B3; omega) _, HMQ.out.freed (by have := HH.out; omega) (by have := HH.out; omega) (by have := HH.out; omega) k HKL.out _, (HBQ.out.setCell (p := ⟨B1, k, none⟩) (Nat.le_refl _) _).setCell (p := ⟨B3, k, none⟩) (by have := HH.out; show B1 ≤ B3; omega) _⟩
    · have hgo1 : (i : Int) < (n : Int) ∧ ¬ (i : Int) < 60 ∨ ¬ (i : Int) < (n : Int) := by omega
      have hfin : Below w.heap.size w wr := CH3.out.trans (AB.out.mono HLE.out)
      have HFIN := Lib.hid hfin
      clear hgo hfin
      rcases hgo1 with ⟨p1, p2⟩ | p1
      all_goals
        go_wp2
        go_ret
        exact ⟨rfl, HFIN.out⟩
end Go.Proofs.Ytapacdkcekbnaaa
