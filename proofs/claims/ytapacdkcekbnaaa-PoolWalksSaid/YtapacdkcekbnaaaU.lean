/- Slices of numbers that came in. -/
import Derived.Test.YtapacdkcekbnaaaT
namespace Go.Proofs.Ytapacdkcekbnaaa
open Go Go.RowKit

/-- A slice value that reads as numbers. -/
def Nums (w : World) (v : Value) (zs : List Int) : Prop :=
  zs.length ≤ 9223372036854775807 ∧ ∃ ao c, v = .slice ao zs.length c ∧ ∀ i, i < zs.length → ∃ b off, ao = some ⟨b, off, none⟩ ∧ w.cell? ⟨b, off + i, none⟩ = some (.int .i64 zs[i]!)

theorem nums_nil (w : World) : Nums w (.slice none 0 0) [] := ⟨by simp, none, 0, rfl, fun i hi => by simp at hi⟩

theorem nums_some {w : World} {x : Addr} {len cap : Nat} {zs : List Int} (hl : len ≤ cap) (hm : cap ≤ maxLen) (hz : zs.length = cap) (hcell : ∀ i, i < zs.length → w.cell? (x.add i) = some (.int .i64 (zs.getD i 0))) :
    Nums w (.slice (some x) len cap) (zs.take len) := by
  have hlen : (zs.take len).length = len := by simp; omega
  refine ⟨by rw [hlen]; unfold maxLen at hm; omega, some x, cap, by rw [hlen], fun i hi => ?_⟩
  rw [hlen] at hi
  have h0 := hcell 0 (by omega)
  have hs : ∃ b off, x = ⟨b, off, none⟩ := by
    obtain ⟨b, off, sp⟩ := x
    cases sp with
    | none => exact ⟨b, off, rfl⟩
    | some s => simp [Addr.add, World.cell?] at h0; split at h0 <;> simp_all
  obtain ⟨b, off, rfl⟩ := hs
  refine ⟨b, off, rfl, ?_⟩
  have := hcell i (by omega)
  rw [Addr.add_lit] at this
  rw [this]
  have h1 : i < zs.length := by omega
  simp [List.getD, h1, hi]

theorem Nums.below {w w' : World} {v : Value} {zs : List Int} (h : Nums w v zs) (hb : Below w.heap.size w w') : Nums w' v zs := by
  obtain ⟨h1, ao, c, rfl, h2⟩ := h
  refine ⟨h1, ao, c, rfl, fun i hi => ?_⟩
  obtain ⟨b, off, h3, h4⟩ := h2 i hi
  exact ⟨b, off, h3, keep_cell h4 hb⟩

theorem Nums.cellAt {w : World} {ao : Option Addr} {c n : Nat} {zs : List Int} (h : Nums w (.slice ao n c) zs) (k : Nat) (hk : k < zs.length) : ∃ b off, ao = some ⟨b, off, none⟩ ∧ w.cell? ⟨b, off + k, none⟩ = some (.int .i64 zs[k]!) := by
  obtain ⟨_, ao', c', hv, hc⟩ := h
  injection hv with h1
  subst h1
  exact hc k hk

theorem Sl.other {w : World} {b o n c : Nat} {l : List Ad} (h : Sl w (.slice (some ⟨b, o, none⟩) n c) l) {p : Addr} (hne : b ≠ p.block) (u : Value) : Sl (w.setCell p u) (.slice (some ⟨b, o, none⟩) n c) l := by
  obtain ⟨h0, h | ⟨b', o', c', hv, h1, h2⟩⟩ := h
  · exact ⟨h0, .inl h⟩
  · injection hv with e1 e2 e3
    injection e1 with e1
    injection e1 with e1 e4
    subst e1; subst e4; subst e3
    have hc : ∀ j, (w.setCell p u).cell? ⟨b, j, none⟩ = w.cell? ⟨b, j, none⟩ := fun j => World.cell?_setCell_other w p ⟨b, j, none⟩ u (fun e => hne (by rw [e]))
    refine ⟨h0, .inr ⟨b, o, c, by rw [e2], by simpa [World.setCell] using h1, fun i hi => ?_⟩⟩
    obtain ⟨g0, g1, g2⟩ := h2 i hi
    exact ⟨by rw [hc]; exact g0, by rw [hc]; exact g1, by rw [hc]; exact g2⟩

theorem frozen_new (w : World) (cs : Array Value) (t : TypeId) (j : Nat) : (w.alloc (.cells cs t)).frozen? ⟨w.heap.size, j, none⟩ = false := by
  have h := heap_alloc_new w (.cells cs t)
  unfold World.frozen?
  simp only [h]
  simp

theorem set_self (l : List Ad) (k : Nat) (hk : k < l.length) (x : Ad) : (l.set k x)[k]! = x := by
  simp [hk]

theorem set_other (l : List Ad) (k j : Nat) (hj : j ≠ k) (x : Ad) : (l.set k x)[j]! = l[j]! := by
  simp [List.getElem!_eq_getElem?_getD, Ne.symm hj]

theorem set_ok {l : List Ad} (h : ∀ a ∈ l, okAd a) (k : Nat) {x : Ad} (hx : okAd x) : ∀ a ∈ l.set k x, okAd a := fun a ha => by
  rcases List.mem_or_eq_of_mem_set ha with ha | ha
  · exact h a ha
  · rw [ha]; exact hx

def six : List Ad := [fresh, fresh, fresh, fresh, fresh, fresh]
theorem f6new : newF 6 = some six := by decide
theorem six_ok : six.length = 6 ∧ ∀ a ∈ six, okAd a := by
  refine ⟨rfl, fun a ha => ?_⟩
  have : a = fresh := by simpa [six] using ha
  subst this
  exact ⟨by decide, by decide, by decide⟩

set_option maxRecDepth 100000 in
set_option maxHeartbeats 4000000 in
theorem apart_walk (v : Value) (zs : List Int) (w : World) (hv : Nums w v zs) :
    Calls Try.prog 7 #[v] w fun e w' => e = .returned (.bool true) ∧ Below w.heap.size w w' := by
  have hnum := num_any
  have hbig := hv.1
  obtain ⟨ao, c, hf, _⟩ := hv.2
  subst hf
  have HV := Lib.hid hv
  clear hv
  obtain ⟨n, hn⟩ : ∃ n, n = zs.length := ⟨_, rfl⟩
  have HN := Lib.hid hn
  rw [← hn] at hbig ⊢
  clear hn
  go_enter Try.func7, Try.ntmps7
  go_wp2_with fail
  refine (awake_any _).mono ?_
  rintro e w1 ⟨rfl, b⟩
  have CH := Lib.hid b
  replace HV := Lib.hid (HV.out.below b)
  clear b
  go_wp2_with fail
  refine (new_any 6 _).mono ?_
  intro e w2 h
  obtain ⟨v2, rfl, o2, b⟩ := h.some f6new
  clear h
  obtain ⟨g2, c2, rfl, _, _, _⟩ := o2.form (by decide)
  have S2 := Lib.hid o2.sl
  replace HV := Lib.hid (HV.out.below b)
  replace CH := Lib.hid (Below.next CH.out b)
  clear o2 b
  have l6 : six.length = 6 := rfl
  go_wp2_with (go_at_call 17; refine (hnum _ _).mono ?_; rintro e w' ⟨rfl, rfl⟩)
  go_loopg [3, 5] (n + 1) (fun gg s3 s5 wr => ∃ (i : Nat) (a3 : Option Addr) (c3 : Nat) (l : List Ad), i ≤ n ∧ i ≤ 50 ∧ n - i < gg ∧ s5 = .int .i64 i ∧ s3 = .slice a3 6 c3 ∧ Aside (l.length = 6 ∧ ∀ a ∈ l, okAd a) ∧ Aside (Sl wr (.slice a3 6 c3) l) ∧ Aside (Below w2.heap.size w2 wr))
  case atStart => exact ⟨0, _, _, six, Nat.zero_le _, by omega, by omega, rfl, rfl, six_ok, S2.out, Below.refl _ _⟩
  case round =>
    obtain ⟨i, a3, c3, l, hi, hi50, hg, rfl, rfl, AL, AS, AB⟩ := hrel
    by_cases hgo : i < n ∧ i < 50
    · obtain ⟨h1, h2⟩ := hgo
      have hki : (i : Int) < (n : Int) := by omega
      have hki2 : (i : Int) < 50 := by omega
      obtain ⟨b, off, rfl, c0⟩ := HV.out.cellAt i (by rw [← HN.out]; exact h1)
      replace c0 := keep_cell c0 AB.out
      generalize zs[i]! = z at c0
      obtain ⟨m, hm, hm1⟩ := and_mask z 10 (by omega)
      simp only [Nat.reducePow, Nat.reduceSub] at hm1
      replace hm : bits .and .i64 z 1023 = (m : Int) := hm
      obtain ⟨k, hk, hk6⟩ : ∃ k : Nat, (m : Int).tmod 6 = (k : Int) ∧ k < 6 := by
        refine ⟨((m : Int).tmod 6).toNat, ?_, ?_⟩
        · rw [Int.tmod_eq_emod_of_nonneg (by omega)]; omega
        · rw [Int.tmod_eq_emod_of_nonneg (by omega)]; omega
      obtain ⟨u, hu, hu7⟩ := mask7 (z / 8)
      obtain ⟨t, ht, ht31⟩ := mask31 (z / 64)
      have hkl : k < l.length := by rw [AL.out.1]; exact hk6
      have hmay : mayB l = true := mayB_of (by rw [AL.out.1]; omega) (by rw [AL.out.1]; omega) AL.out.2
      have hthere : thereB l (k : Int) = true := by simp [thereB]; omega
      obtain ⟨b3, o3, rfl, y0, y1, y2⟩ := AS.out.cellsAt k hkl
      have hoky : okAd l[k]! := by
        rw [show l[k]! = l[k] from by simp [hkl]]
        exact AL.out.2 _ (List.getElem_mem hkl)
      have hfree : l[k]!.busy = true → freeF l (k : Int) (t : Int) = some (l.set k ⟨false, l[k]!.last, t⟩) := fun hb => by
        unfold freeF busyAt
        rw [Int.toNat_natCast, hb, hmay, hthere, if_neg (by simp)]
      have htake : l[k]!.busy = false → takeF l (k : Int) (u : Int) = some (l.set k ⟨true, u, 0⟩) := fun hb => by
        have hU : userMayB (u : Int) = true := by simp [userMayB]; omega
        unfold takeF busyAt
        rw [Int.toNat_natCast, hb, hmay, hthere, hU]
        rfl
      generalize hy : l[k]! = y at y0 y1 y2 hoky hfree htake
      obtain ⟨yb, yl, yt⟩ := y
      have HY := Lib.hid hy
      have HF := Lib.hid hfree
      have HT := Lib.hid htake
      have HKL := Lib.hid hkl
      have HOK := Lib.hid hoky
      have hk6i : (k : Int) < 6 := by omega
      have hkn : 0 ≤ (k : Int) := by omega
      clear hy hfree htake hkl hmay hthere hoky
      go_wp2
      go_quiet (fail)
      have hbd : Below w2.heap.size w2 (wr.drewN nq) := ⟨AB.out.os, AB.out.tape, AB.out.output, AB.out.size, AB.out.block⟩
      have hsd : Sl (wr.drewN nq) (.slice (some ⟨b3, o3, none⟩) 6 c3) l := AS.out
      have y0' : (wr.drewN nq).cell? ⟨b3, o3 + k * 3, none⟩ = some (.bool yb) := y0
      have y1' : (wr.drewN nq).cell? ⟨b3, o3 + k * 3 + 1, none⟩ = some (.int .i64 yl) := y1
      have y2' : (wr.drewN nq).cell? ⟨b3, o3 + k * 3 + 2, none⟩ = some (.int .i64 yt) := y2
      have c0' : (wr.drewN nq).cell? ⟨b, off + i, none⟩ = some (.int .i64 z) := c0
      generalize wr.drewN nq = wd at hbd hsd y0' y1' y2' c0' ⊢
      have hal : ∀ o : Obj, Below wd.heap.size wd (wd.alloc o) := fun o => (Below.refl _ _).alloc (Nat.le_refl _) _
      have y0'' : ∀ o : Obj, (wd.alloc o).cell? ⟨b3, o3 + k * 3, none⟩ = some (.bool yb) := fun o => keep_cell y0' (hal o)
      have c0'' : ∀ o : Obj, (wd.alloc o).cell? ⟨b, off + i, none⟩ = some (.int .i64 z) := fun o => keep_cell c0' (hal o)
      have HBD := Lib.hid hbd
      have HSD := Lib.hid hsd
      have HAL := Lib.hid hal
      clear y0 y1 y2 c0 AB AS hbd hsd hal wr
      cases yb
      · have RES := Lib.hid (HT.out rfl)
        clear HF HT
        go_wp2_with fail
        refine (take_any _ l k u _ (HSD.out.below (HAL.out _))).mono ?_
        intro e w3 h
        obtain ⟨v4, rfl, o4, b4⟩ := h.some RES.out
        clear h
        have hl6 : l.length = 6 := AL.out.1
        obtain ⟨g4, c4, rfl, hg4, hgs4, hc4⟩ := o4.form (by rw [List.length_set, hl6]; omega)
        obtain ⟨q0, q1, q2⟩ := box3 b4 (by simp)
        have fz : ∀ j, w3.frozen? ⟨wd.heap.size, j, none⟩ = false := fun j => by
          rw [b4.frozen (p := ⟨wd.heap.size, j, none⟩) (by simp)]
          exact frozen_new _ _ _ _
        have fz0 := fz 0
        have fz1 := fz 1
        have fz2 := fz 2
        have hl6' : (l.set k ⟨true, (u : Int), 0⟩).length = 6 := by rw [List.length_set, hl6]
        have SB := Lib.hid o4.sl
        have SA := Lib.hid ((HSD.out.below (HAL.out _)).below b4)
        have HB4 := Lib.hid (Below.next (HAL.out _) b4)
        have lt3 : b3 < wd.heap.size := World.block_lt_of_cell? _ _ y1'
        have ltb : b < wd.heap.size := World.block_lt_of_cell? _ _ c0'
        have hg4' : wd.heap.size < g4 := by simp at hg4; omega
        have c0w : w3.cell? ⟨b, off + i, none⟩ = some (.int .i64 z) := keep_cell (c0'' _) b4
        have c0s : ∀ x : Value, (w3.setCell ⟨wd.heap.size, 0, none⟩ x).cell? ⟨b, off + i, none⟩ = some (.int .i64 z) := fun x => (World.cell?_setCell_other w3 ⟨wd.heap.size, 0, none⟩ ⟨b, off + i, none⟩ x (fun e => by injection e with e; omega)).trans c0w
        rw [hl6'] at SB
        have HNB := Lib.hid hg4'
        have HLT3 := Lib.hid lt3
        clear b4 o4 fz hg4 hgs4 hc4 hg4' lt3 ltb y0' y0'' c0' c0'' y1' y2'
        go_wp2_with (go_at_call 17; refine (hnum _ _).mono ?_; rintro e w' ⟨rfl, rfl⟩)
        have WB := Lib.hid (show Below w2.heap.size w2 (((w3.setCell ⟨wd.heap.size, 0, none⟩ (.bool true)).setCell ⟨wd.heap.size, 1, none⟩ (.int .i64 (u : Int))).setCell ⟨wd.heap.size, 2, none⟩ (.int .i64 0)) from ((((HBD.out.trans (HB4.out.mono HBD.out.size)).setCell (p := ⟨wd.heap.size, _, none⟩) HBD.out.size _).setCell (p := ⟨wd.heap.size, _, none⟩) HBD.out.size _).setCell (p := ⟨wd.heap.size, _, none⟩) HBD.out.size _))
        have WSA := Lib.hid (show Sl (((w3.setCell ⟨wd.heap.size, 0, none⟩ (.bool true)).setCell ⟨wd.heap.size, 1, none⟩ (.int .i64 (u : Int))).setCell ⟨wd.heap.size, 2, none⟩ (.int .i64 0)) (.slice (some ⟨b3, o3, none⟩) 6 c3) l from (((SA.out.other (p := ⟨wd.heap.size, _, none⟩) (by have := HLT3.out; show b3 ≠ wd.heap.size; omega) _).other (p := ⟨wd.heap.size, _, none⟩) (by have := HLT3.out; show b3 ≠ wd.heap.size; omega) _).other (p := ⟨wd.heap.size, _, none⟩) (by have := HLT3.out; show b3 ≠ wd.heap.size; omega) _))
        have WSB := Lib.hid (show Sl (((w3.setCell ⟨wd.heap.size, 0, none⟩ (.bool true)).setCell ⟨wd.heap.size, 1, none⟩ (.int .i64 (u : Int))).setCell ⟨wd.heap.size, 2, none⟩ (.int .i64 0)) (.slice (some ⟨g4, 0, none⟩) 6 c4) (l.set k ⟨true, (u : Int), 0⟩) from (((SB.out.other (p := ⟨wd.heap.size, _, none⟩) (by have := HNB.out; show g4 ≠ wd.heap.size; omega) _).other (p := ⟨wd.heap.size, _, none⟩) (by have := HNB.out; show g4 ≠ wd.heap.size; omega) _).other (p := ⟨wd.heap.size, _, none⟩) (by have := HNB.out; show g4 ≠ wd.heap.size; omega) _))
        have WC := Lib.hid (show (((w3.setCell ⟨wd.heap.size, 0, none⟩ (.bool true)).setCell ⟨wd.heap.size, 1, none⟩ (.int .i64 (u : Int))).setCell ⟨wd.heap.size, 2, none⟩ (.int .i64 0)).cell? ⟨wd.heap.size, 0, none⟩ = some (.bool true) ∧ (((w3.setCell ⟨wd.heap.size, 0, none⟩ (.bool true)).setCell ⟨wd.heap.size, 1, none⟩ (.int .i64 (u : Int))).setCell ⟨wd.heap.size, 2, none⟩ (.int .i64 0)).cell? ⟨wd.heap.size, 1, none⟩ = some (.int .i64 (u : Int)) ∧ (((w3.setCell ⟨wd.heap.size, 0, none⟩ (.bool true)).setCell ⟨wd.heap.size, 1, none⟩ (.int .i64 (u : Int))).setCell ⟨wd.heap.size, 2, none⟩ (.int .i64 0)).cell? ⟨wd.heap.size, 2, none⟩ = some (.int .i64 0) from ⟨by go_simp, by go_simp, by go_simp⟩)
        generalize ((w3.setCell ⟨wd.heap.size, 0, none⟩ (.bool true)).setCell ⟨wd.heap.size, 1, none⟩ (.int .i64 (u : Int))).setCell ⟨wd.heap.size, 2, none⟩ (.int .i64 0) = wS at WB WSA WSB WC ⊢
        have HXOK : Hid (okAd ⟨true, (u : Int), 0⟩) := ⟨by show (-1 : Int) ≤ (u : Int); omega, by show (u : Int) ≤ 7; omega, by show (0 : Int) ≤ 0; omega⟩
        have hne := run_neqAd
        have hguard := guard46
        clear q0 q1 q2 fz0 fz1 fz2 c0w c0s SA SB HB4 hl6 hl6' HBD HSD HAL HNB HLT3
        go_loopg [11] 7 (fun gg s11 wr2 => ∃ j : Nat, j ≤ 6 ∧ 6 - j < gg ∧ s11 = .int .i64 j ∧ Aside (Below wS.heap.size wS wr2))
        case atStart => exact ⟨0, by omega, by omega, rfl, Below.refl _ _⟩
        case round =>
          obtain ⟨j, hj, hjg, rfl, JB⟩ := hrel
          by_cases hj6 : j < 6
          · have hji : (j : Int) < 6 := by omega
            obtain ⟨bb, oo, hA, a0, a1, a2⟩ := WSA.out.cellsAt j (by rw [AL.out.1]; exact hj6)
            obtain ⟨bb2, oo2, hA2, e0, e1, e2⟩ := WSB.out.cellsAt j (by rw [List.length_set, AL.out.1]; exact hj6)
            injection hA with hA
            injection hA with hA hA'
            subst hA; subst hA'
            injection hA2 with hA2
            injection hA2 with hA2 hA2'
            subst hA2; subst hA2'
            replace a0 := keep_cell a0 JB.out
            replace a1 := keep_cell a1 JB.out
            replace a2 := keep_cell a2 JB.out
            replace e0 := keep_cell e0 JB.out
            replace e1 := keep_cell e1 JB.out
            replace e2 := keep_cell e2 JB.out
            have w0 := keep_cell WC.out.1 JB.out
            have w1' := keep_cell WC.out.2.1 JB.out
            have w2' := keep_cell WC.out.2.2 JB.out
            simp only [Nat.zero_add] at e0 e1 e2
            by_cases hjk : j = k
            · subst hjk
              rw [set_self l j HKL.out] at e0 e1 e2
              have t1 : ((j : Int) == (j : Int)) = true := by simp
              have t2 : ((j : Int) != (j : Int)) = false := by simp
              have hx := fun w => hne ⟨true, (u : Int), 0⟩ ⟨true, (u : Int), 0⟩ w
              simp only [decide_true, Bool.not_true, Ad.val] at hx
              clear hne a0 a1 a2
              go_wp2
              go_quiet (fail)
              go_wp2
              go_roundg (6 - j)
              case measure => omega
              case rel => exact ⟨j + 1, by omega, by omega, by go_num, ⟨JB.out.os, JB.out.tape, JB.out.output, JB.out.size, JB.out.block⟩⟩
            · rw [set_other l k j hjk] at e0 e1 e2
              have t1 : ((j : Int) == (k : Int)) = false := by simp; omega
              have t2 : ((j : Int) != (k : Int)) = true := by simp; omega
              generalize l[j]! = y at a0 a1 a2 e0 e1 e2
              have hx := fun w => hne y y w
              simp only [decide_true, Bool.not_true, Ad.val] at hx
              clear hne w0 w1' w2'
              go_wp2
              go_quiet (fail)
              go_wp2
              go_roundg (6 - j)
              case measure => omega
              case rel => exact ⟨j + 1, by omega, by omega, by go_num, ⟨JB.out.os, JB.out.tape, JB.out.output, JB.out.size, JB.out.block⟩⟩
          · have hji : ¬ (j : Int) < 6 := by omega
            clear hne
            go_wp2
            go_roundg (n - i)
            case measure => omega
            case rel => exact ⟨i + 1, _, _, _, by omega, by omega, by omega, by go_num, rfl, ⟨by rw [List.length_set]; exact AL.out.1, set_ok AL.out.2 k HXOK.out⟩, WSB.out.below JB.out, WB.out.trans (JB.out.mono WB.out.size)⟩
      · have RES := Lib.hid (HF.out rfl)
        clear HF HT
        go_wp2_with fail
        refine (free_call _ l k t _ (HSD.out.below (HAL.out _))).mono ?_
        intro e w3 h
        obtain ⟨v4, rfl, o4, b4⟩ := h.some RES.out
        clear h
        have hl6 : l.length = 6 := AL.out.1
        obtain ⟨g4, c4, rfl, hg4, hgs4, hc4⟩ := o4.form (by rw [List.length_set, hl6]; omega)
        obtain ⟨q0, q1, q2⟩ := box3 b4 (by simp)
        have fz : ∀ j, w3.frozen? ⟨wd.heap.size, j, none⟩ = false := fun j => by
          rw [b4.frozen (p := ⟨wd.heap.size, j, none⟩) (by simp)]
          exact frozen_new _ _ _ _
        have fz0 := fz 0
        have fz1 := fz 1
        have fz2 := fz 2
        have hl6' : (l.set k ⟨false, yl, (t : Int)⟩).length = 6 := by rw [List.length_set, hl6]
        have SB := Lib.hid o4.sl
        have SA := Lib.hid ((HSD.out.below (HAL.out _)).below b4)
        have HB4 := Lib.hid (Below.next (HAL.out _) b4)
        have lt3 : b3 < wd.heap.size := World.block_lt_of_cell? _ _ y1'
        have ltb : b < wd.heap.size := World.block_lt_of_cell? _ _ c0'
        have hg4' : wd.heap.size < g4 := by simp at hg4; omega
        have c0w : w3.cell? ⟨b, off + i, none⟩ = some (.int .i64 z) := keep_cell (c0'' _) b4
        have c0s : ∀ x : Value, (w3.setCell ⟨wd.heap.size, 0, none⟩ x).cell? ⟨b, off + i, none⟩ = some (.int .i64 z) := fun x => (World.cell?_setCell_other w3 ⟨wd.heap.size, 0, none⟩ ⟨b, off + i, none⟩ x (fun e => by injection e with e; omega)).trans c0w
        rw [hl6'] at SB
        have HNB := Lib.hid hg4'
        have HLT3 := Lib.hid lt3
        clear b4 o4 fz hg4 hgs4 hc4 hg4' lt3 ltb y0' y0'' c0' c0'' y1' y2'
        go_wp2_with (go_at_call 17; refine (hnum _ _).mono ?_; rintro e w' ⟨rfl, rfl⟩)
        have WB := Lib.hid (show Below w2.heap.size w2 ((w3.setCell ⟨wd.heap.size, 0, none⟩ (.bool false)).setCell ⟨wd.heap.size, 2, none⟩ (.int .i64 (t : Int))) from (((HBD.out.trans (HB4.out.mono HBD.out.size)).setCell (p := ⟨wd.heap.size, _, none⟩) HBD.out.size _).setCell (p := ⟨wd.heap.size, _, none⟩) HBD.out.size _))
        have WSA := Lib.hid (show Sl ((w3.setCell ⟨wd.heap.size, 0, none⟩ (.bool false)).setCell ⟨wd.heap.size, 2, none⟩ (.int .i64 (t : Int))) (.slice (some ⟨b3, o3, none⟩) 6 c3) l from ((SA.out.other (p := ⟨wd.heap.size, _, none⟩) (by have := HLT3.out; show b3 ≠ wd.heap.size; omega) _).other (p := ⟨wd.heap.size, _, none⟩) (by have := HLT3.out; show b3 ≠ wd.heap.size; omega) _))
        have WSB := Lib.hid (show Sl ((w3.setCell ⟨wd.heap.size, 0, none⟩ (.bool false)).setCell ⟨wd.heap.size, 2, none⟩ (.int .i64 (t : Int))) (.slice (some ⟨g4, 0, none⟩) 6 c4) (l.set k ⟨false, yl, (t : Int)⟩) from ((SB.out.other (p := ⟨wd.heap.size, _, none⟩) (by have := HNB.out; show g4 ≠ wd.heap.size; omega) _).other (p := ⟨wd.heap.size, _, none⟩) (by have := HNB.out; show g4 ≠ wd.heap.size; omega) _))
        have WC := Lib.hid (show ((w3.setCell ⟨wd.heap.size, 0, none⟩ (.bool false)).setCell ⟨wd.heap.size, 2, none⟩ (.int .i64 (t : Int))).cell? ⟨wd.heap.size, 0, none⟩ = some (.bool false) ∧ ((w3.setCell ⟨wd.heap.size, 0, none⟩ (.bool false)).setCell ⟨wd.heap.size, 2, none⟩ (.int .i64 (t : Int))).cell? ⟨wd.heap.size, 1, none⟩ = some (.int .i64 yl) ∧ ((w3.setCell ⟨wd.heap.size, 0, none⟩ (.bool false)).setCell ⟨wd.heap.size, 2, none⟩ (.int .i64 (t : Int))).cell? ⟨wd.heap.size, 2, none⟩ = some (.int .i64 (t : Int)) from ⟨by go_simp, by go_simp, by go_simp⟩)
        generalize (w3.setCell ⟨wd.heap.size, 0, none⟩ (.bool false)).setCell ⟨wd.heap.size, 2, none⟩ (.int .i64 (t : Int)) = wS at WB WSA WSB WC ⊢
        have HXOK : Hid (okAd ⟨false, yl, (t : Int)⟩) := ⟨HOK.out.1, HOK.out.2.1, by show (0 : Int) ≤ (t : Int); omega⟩
        have hne := run_neqAd
        have hguard := guard46
        clear q0 q1 q2 fz0 fz1 fz2 c0w c0s SA SB HB4 hl6 hl6' HBD HSD HAL HNB HLT3
        go_loopg [11] 7 (fun gg s11 wr2 => ∃ j : Nat, j ≤ 6 ∧ 6 - j < gg ∧ s11 = .int .i64 j ∧ Aside (Below wS.heap.size wS wr2))
        case atStart => exact ⟨0, by omega, by omega, rfl, Below.refl _ _⟩
        case round =>
          obtain ⟨j, hj, hjg, rfl, JB⟩ := hrel
          by_cases hj6 : j < 6
          · have hji : (j : Int) < 6 := by omega
            obtain ⟨bb, oo, hA, a0, a1, a2⟩ := WSA.out.cellsAt j (by rw [AL.out.1]; exact hj6)
            obtain ⟨bb2, oo2, hA2, e0, e1, e2⟩ := WSB.out.cellsAt j (by rw [List.length_set, AL.out.1]; exact hj6)
            injection hA with hA
            injection hA with hA hA'
            subst hA; subst hA'
            injection hA2 with hA2
            injection hA2 with hA2 hA2'
            subst hA2; subst hA2'
            replace a0 := keep_cell a0 JB.out
            replace a1 := keep_cell a1 JB.out
            replace a2 := keep_cell a2 JB.out
            replace e0 := keep_cell e0 JB.out
            replace e1 := keep_cell e1 JB.out
            replace e2 := keep_cell e2 JB.out
            have w0 := keep_cell WC.out.1 JB.out
            have w1' := keep_cell WC.out.2.1 JB.out
            have w2' := keep_cell WC.out.2.2 JB.out
            simp only [Nat.zero_add] at e0 e1 e2
            by_cases hjk : j = k
            · subst hjk
              rw [set_self l j HKL.out] at e0 e1 e2
              have t1 : ((j : Int) == (j : Int)) = true := by simp
              have t2 : ((j : Int) != (j : Int)) = false := by simp
              have hx := fun w => hne ⟨false, yl, (t : Int)⟩ ⟨false, yl, (t : Int)⟩ w
              simp only [decide_true, Bool.not_true, Ad.val] at hx
              clear hne a0 a1 a2
              go_wp2
              go_quiet (fail)
              go_wp2
              go_roundg (6 - j)
              case measure => omega
              case rel => exact ⟨j + 1, by omega, by omega, by go_num, ⟨JB.out.os, JB.out.tape, JB.out.output, JB.out.size, JB.out.block⟩⟩
            · rw [set_other l k j hjk] at e0 e1 e2
              have t1 : ((j : Int) == (k : Int)) = false := by simp; omega
              have t2 : ((j : Int) != (k : Int)) = true := by simp; omega
              generalize l[j]! = y at a0 a1 a2 e0 e1 e2
              have hx := fun w => hne y y w
              simp only [decide_true, Bool.not_true, Ad.val] at hx
              clear hne w0 w1' w2'
              go_wp2
              go_quiet (fail)
              go_wp2
              go_roundg (6 - j)
              case measure => omega
              case rel => exact ⟨j + 1, by omega, by omega, by go_num, ⟨JB.out.os, JB.out.tape, JB.out.output, JB.out.size, JB.out.block⟩⟩
          · have hji : ¬ (j : Int) < 6 := by omega
            clear hne
            go_wp2
            go_roundg (n - i)
            case measure => omega
            case rel => exact ⟨i + 1, _, _, _, by omega, by omega, by omega, by go_num, rfl, ⟨by rw [List.length_set]; exact AL.out.1, set_ok AL.out.2 k HXOK.out⟩, WSB.out.below JB.out, WB.out.trans (JB.out.mono WB.out.size)⟩
    · have hgo1 : (i : Int) < (n : Int) ∧ ¬ (i : Int) < 50 ∨ ¬ (i : Int) < (n : Int) := by omega
      clear hgo
      rcases hgo1 with ⟨p1, p2⟩ | p1
      all_goals
        go_wp2
        go_ret
        exact ⟨rfl, Below.next CH.out AB.out⟩
end Go.Proofs.Ytapacdkcekbnaaa
