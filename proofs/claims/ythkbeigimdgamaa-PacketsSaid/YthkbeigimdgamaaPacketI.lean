/- bastionref1.GetPacket -/
import Derived.Test.YthkbeigimdgamaaPacketH
import Derived.Deep.Cut
namespace Go.Proofs.Ythkbeigimdgamaa
open Go Go.RowKit

set_option maxRecDepth 100000 in
set_option maxHeartbeats 25600000 in
theorem refPacketGet_any (l : List UInt8) (hs : l.length < 4611686018427387904) (w : World) : Calls Try.prog 37 #[strV l] w fun e w' => e = .returned (.tuple #[recV (packetS.getC l) [strV (packetS.getD l)], .int .i64 (formE (packetS.ok l) 400)]) ∧ Below w.heap.size w w' := by
  obtain ⟨k, st1, hkst⟩ : ∃ k st1, rdNum l (some 0) = (k, st1) := ⟨_, _, rfl⟩
  have hok : packetS.ok l = (if packetS.txt k = true then (doneB l (rdText l (rdFold l (packetIdx k) [k, 0, 0, 0, 0, 0, 0, 0] st1).2).2 && packetS.may (rdFold l (packetIdx k) [k, 0, 0, 0, 0, 0, 0, 0] st1).1 (rdText l (rdFold l (packetIdx k) [k, 0, 0, 0, 0, 0, 0, 0] st1).2).1) else (doneB l (rdFold l (packetIdx k) [k, 0, 0, 0, 0, 0, 0, 0] st1).2 && packetS.may (rdFold l (packetIdx k) [k, 0, 0, 0, 0, 0, 0, 0] st1).1 [])) := by
    unfold Sp.ok Sp.body
    rw [hkst]
    show (doneB l (if packetS.txt k = true then rdText l (rdFold l (packetIdx k) [k, 0, 0, 0, 0, 0, 0, 0] st1).2 else ([], (rdFold l (packetIdx k) [k, 0, 0, 0, 0, 0, 0, 0] st1).2)).2 && packetS.may (rdFold l (packetIdx k) [k, 0, 0, 0, 0, 0, 0, 0] st1).1 (if packetS.txt k = true then rdText l (rdFold l (packetIdx k) [k, 0, 0, 0, 0, 0, 0, 0] st1).2 else ([], (rdFold l (packetIdx k) [k, 0, 0, 0, 0, 0, 0, 0] st1).2)).1) = _
    split <;> rfl
  have hgc : packetS.getC l = if packetS.ok l = true then (rdFold l (packetIdx k) [k, 0, 0, 0, 0, 0, 0, 0] st1).1 else [0, 0, 0, 0, 0, 0, 0, 0] := by
    unfold Sp.getC Sp.body
    rw [hkst]
    rfl
  have hgd : packetS.getD l = if packetS.ok l = true then (if packetS.txt k = true then (rdText l (rdFold l (packetIdx k) [k, 0, 0, 0, 0, 0, 0, 0] st1).2).1 else []) else [] := by
    unfold Sp.getD Sp.body
    rw [hkst]
    show (if packetS.ok l = true then (if packetS.txt k = true then rdText l (rdFold l (packetIdx k) [k, 0, 0, 0, 0, 0, 0, 0] st1).2 else ([], (rdFold l (packetIdx k) [k, 0, 0, 0, 0, 0, 0, 0] st1).2)).1 else []) = _
    split
    · split <;> rfl
    · rfl
  generalize packetS.getD l = gd at hgd ⊢
  have HGD := Lib.hid hgd
  generalize packetS.getC l = gc at hgc ⊢
  have HGC := Lib.hid hgc
  generalize packetS.ok l = ok at hok HGC HGD ⊢
  have HOK := Lib.hid hok
  clear hok hgc hgd
  have RN := Lib.hid (fun st b w hr => refReaderNum_any l st b w hs hr)
  have RT := Lib.hid (fun st b w hr => refReaderText_any l st b w hs hr)
  have HLEN := Lib.hid (show (⟨l.toArray⟩ : ByteArray).size = l.length from rfl)
  have hlen : l.length < 4611686018427387904 := hs
  have hrd := rdr_new (w.alloc (.cells #[.int .i64 0, .int .i64 0, .int .i64 0, .int .i64 0, .int .i64 0, .int .i64 0, .int .i64 0, .int .i64 0, .string ⟨#[]⟩] 56)) l 96
  rw [World.size_alloc] at hrd
  have hres := out_new w [0, 0, 0, 0, 0, 0, 0, 0] [strV []] 56
  rw [show strV l = .string ⟨l.toArray⟩ from rfl] at hrd ⊢
  generalize (⟨l.toArray⟩ : ByteArray) = bs at hrd HLEN ⊢
  have HRD : Hid (RdR ((w.alloc (.cells #[.int .i64 0, .int .i64 0, .int .i64 0, .int .i64 0, .int .i64 0, .int .i64 0, .int .i64 0, .int .i64 0, .string ⟨#[]⟩] 56)).alloc (.cells #[.string bs, .int .i64 0, .bool false] 96)) (w.heap.size + 1) l (some 0)) := Lib.hid hrd
  have HRES : Hid (Out ((w.alloc (.cells #[.int .i64 0, .int .i64 0, .int .i64 0, .int .i64 0, .int .i64 0, .int .i64 0, .int .i64 0, .int .i64 0, .string ⟨#[]⟩] 56)).alloc (.cells #[.string bs, .int .i64 0, .bool false] 96)) w.heap.size [0, 0, 0, 0, 0, 0, 0, 0] [.string ⟨#[]⟩]) := Lib.hid (hres.below (by simp) ((Below.refl _ _).alloc (Nat.le_refl _) _))
  have BA := Lib.hid (show Below w.heap.size w ((w.alloc (.cells #[.int .i64 0, .int .i64 0, .int .i64 0, .int .i64 0, .int .i64 0, .int .i64 0, .int .i64 0, .int .i64 0, .string ⟨#[]⟩] 56)).alloc (.cells #[.string bs, .int .i64 0, .bool false] 96)) from ((Below.refl _ _).alloc (Nat.le_refl _) _).alloc (by simp) _)
  have SA := Lib.hid (show ((w.alloc (.cells #[.int .i64 0, .int .i64 0, .int .i64 0, .int .i64 0, .int .i64 0, .int .i64 0, .int .i64 0, .int .i64 0, .string ⟨#[]⟩] 56)).alloc (.cells #[.string bs, .int .i64 0, .bool false] 96)).heap.size = w.heap.size + 2 from by simp)
  clear hrd hres hs
  go_enter Try.func37, Try.ntmps37
  go_wp2_with fail
  refine (RN.out (some 0) (w.heap.size + 1) _ HRD.out).mono ?_
  rintro e w1 ⟨rfl, rd1, on1⟩
  rw [hkst] at rd1 ⊢
  clear hkst
  simp only at rd1 ⊢
  have S1 := Lib.hid (show w.heap.size + 2 ≤ w1.heap.size from by rw [← SA.out]; exact on1.size)
  have R1 := Lib.hid (on1.out HRES.out (by rw [SA.out]; omega) (by omega))
  have B1 := Lib.hid (BA.out.trans (on1.below (B := w.heap.size) (by omega) (by rw [SA.out]; omega)))
  have RD1 := Lib.hid rd1
  have O2 : Hid (Out (w1.alloc (.cells #[.int .i64 k, .int .i64 0, .int .i64 0, .int .i64 0, .int .i64 0, .int .i64 0, .int .i64 0, .int .i64 0, .string ⟨#[]⟩] 56)) w1.heap.size [k, 0, 0, 0, 0, 0, 0, 0] [.string ⟨#[]⟩]) := Lib.hid (out_new w1 [k, 0, 0, 0, 0, 0, 0, 0] [.string ⟨#[]⟩] 56)
  have BL2 := Lib.hid (show Below w1.heap.size w1 (w1.alloc (.cells #[.int .i64 k, .int .i64 0, .int .i64 0, .int .i64 0, .int .i64 0, .int .i64 0, .int .i64 0, .int .i64 0, .string ⟨#[]⟩] 56)) from (Below.refl _ _).alloc (Nat.le_refl _) _)
  have S2 := Lib.hid (show (w1.alloc (.cells #[.int .i64 k, .int .i64 0, .int .i64 0, .int .i64 0, .int .i64 0, .int .i64 0, .int .i64 0, .int .i64 0, .string ⟨#[]⟩] 56)).heap.size = w1.heap.size + 1 from by simp)
  clear rd1 on1 HRD HRES BA SA
  have R4 := Lib.hid (R1.out.below (by have := S1.out; omega) BL2.out)
  have RD4 := Lib.hid (RD1.out.below BL2.out)
  have B4 := Lib.hid (B1.out.trans (BL2.out.mono (by have := S1.out; omega)))
  have HNE := Lib.hid (show (w.heap.size + 1) ≠ w1.heap.size from by have := S1.out; omega)
  clear R1 RD1 B1 BL2
  have hc : k = 0 ∨ k = 1 ∨ k = 2 ∨ k = 3 ∨ k = 4 ∨ (k ≠ 0 ∧ k ≠ 1 ∧ k ≠ 2 ∧ k ≠ 3 ∧ k ≠ 4) := by omega
  rcases hc with rfl | rfl | rfl | rfl | rfl | ⟨g0, g1, g2, g3, g4⟩
  · have HIX := Lib.hid (show packetIdx 0 = [1, 2] from rfl)
    have HTX := Lib.hid (show packetS.txt 0 = false from by decide)
    obtain ⟨z1, s1, he1⟩ : ∃ z s, rdNum l st1 = (z, s) := ⟨_, _, rfl⟩
    obtain ⟨z2, s2, he2⟩ : ∃ z s, rdNum l s1 = (z, s) := ⟨_, _, rfl⟩
    have HF := Lib.hid (show rdFold l (packetIdx 0) [0, 0, 0, 0, 0, 0, 0, 0] st1 = ([0, z1, z2, 0, 0, 0, 0, 0], s2) from by rw [HIX.out]; simp only [rdFold_cons, he1, he2]; rfl)
    rw [HF.out] at HOK HGC HGD
    rw [HTX.out] at HOK HGD
    rw [if_neg (by decide)] at HOK
    simp only [Bool.false_eq_true, if_false] at HGD
    replace HOK : Hid (ok = (doneB l s2 && packetS.may [0, z1, z2, 0, 0, 0, 0, 0] [])) := HOK
    replace HGC : Hid (gc = if ok = true then [0, z1, z2, 0, 0, 0, 0, 0] else [0, 0, 0, 0, 0, 0, 0, 0]) := HGC
    replace HGD : Hid (gd = if ok = true then [] else []) := Lib.hid (HGD.out.trans (by cases ok <;> rfl))
    have HE1 := Lib.hid he1
    have HE2 := Lib.hid he2
    clear HF HIX HTX he1 he2
    have AO := O2
    have AR := RD4
    have AW := Lib.hid (Two.refl (w.heap.size + 1) w1.heap.size (w1.alloc (.cells #[.int .i64 0, .int .i64 0, .int .i64 0, .int .i64 0, .int .i64 0, .int .i64 0, .int .i64 0, .int .i64 0, .string ⟨#[]⟩] 56)))
    have SW := Lib.hid (show (w1.alloc (.cells #[.int .i64 0, .int .i64 0, .int .i64 0, .int .i64 0, .int .i64 0, .int .i64 0, .int .i64 0, .int .i64 0, .string ⟨#[]⟩] 56)).heap.size = w1.heap.size + 1 from by simp)
    clear O2 RD4 S2
    go_wp2_with fail
    have HR4 := R4
    have HB4 := B4
    generalize (w1.alloc (.cells #[.int .i64 0, .int .i64 0, .int .i64 0, .int .i64 0, .int .i64 0, .int .i64 0, .int .i64 0, .int .i64 0, .string ⟨#[]⟩] 56)) = w4 at AO AR AW SW HR4 HB4 ⊢
    clear R4 B4
    have S4 := Lib.hid (show w1.heap.size + 1 ≤ w4.heap.size from by rw [SW.out]; omega)
    clear SW
    have AWW := Lib.hid (Nat.le_refl w4.heap.size)
    refine (RN.out st1 (w.heap.size + 1) _ AR.out).mono ?_
    rintro e u0 ⟨rfl, rd5, on5⟩
    rw [HE1.out] at rd5 ⊢
    simp only at rd5 ⊢
    have o5 := on5.out AO.out (Nat.lt_of_lt_of_le S4.out AWW.out) (Ne.symm HNE.out)
    have f1 := o5.2 1
    have f2 := o5.1.1 1 (by simp)
    replace f2 : u0.cell? ⟨w1.heap.size, 1, none⟩ = some (.int .i64 0) := f2
    have OS := Lib.hid (o5.set 1 (by simp) z1)
    have on6 := Only.setCell (Only.refl w1.heap.size u0) (p := ⟨w1.heap.size, 1, none⟩) rfl (.int .i64 z1)
    have RS := Lib.hid (rd5.only (Nat.lt_of_lt_of_le (Nat.lt_of_lt_of_le (show (w.heap.size + 1) < w4.heap.size from by have := S1.out; have := S4.out; omega) AWW.out) on5.size) HNE.out on6)
    have TS := Lib.hid ((AW.out.left on5).right on6)
    have WS := Lib.hid (Nat.le_trans AWW.out (Nat.le_trans on5.size on6.size))
    clear AO AR AW AWW o5 rd5 on5 on6
    go_wp2_with fail
    generalize u0.setCell ⟨w1.heap.size, 1, none⟩ (.int .i64 z1) = y0 at OS RS TS WS ⊢
    have AR := RS
    have AW := TS
    have AWW := WS
    have AO : Hid (Out y0 w1.heap.size [0, z1, 0, 0, 0, 0, 0, 0] [.string ⟨#[]⟩]) := OS
    clear OS RS TS WS f1 f2
    refine (RN.out s1 (w.heap.size + 1) _ AR.out).mono ?_
    rintro e u1 ⟨rfl, rd5, on5⟩
    rw [HE2.out] at rd5 ⊢
    simp only at rd5 ⊢
    have o5 := on5.out AO.out (Nat.lt_of_lt_of_le S4.out AWW.out) (Ne.symm HNE.out)
    have f1 := o5.2 2
    have f2 := o5.1.1 2 (by simp)
    replace f2 : u1.cell? ⟨w1.heap.size, 2, none⟩ = some (.int .i64 0) := f2
    have OS := Lib.hid (o5.set 2 (by simp) z2)
    have on6 := Only.setCell (Only.refl w1.heap.size u1) (p := ⟨w1.heap.size, 2, none⟩) rfl (.int .i64 z2)
    have RS := Lib.hid (rd5.only (Nat.lt_of_lt_of_le (Nat.lt_of_lt_of_le (show (w.heap.size + 1) < w4.heap.size from by have := S1.out; have := S4.out; omega) AWW.out) on5.size) HNE.out on6)
    have TS := Lib.hid ((AW.out.left on5).right on6)
    have WS := Lib.hid (Nat.le_trans AWW.out (Nat.le_trans on5.size on6.size))
    clear AO AR AW AWW o5 rd5 on5 on6
    go_upto_region 23 with (fail)
    generalize u1.setCell ⟨w1.heap.size, 2, none⟩ (.int .i64 z2) = y1 at OS RS TS WS ⊢
    have AR := RS
    have AW := TS
    have AWW := WS
    have AO : Hid (Out y1 w1.heap.size [0, z1, z2, 0, 0, 0, 0, 0] [.string ⟨#[]⟩]) := OS
    clear OS RS TS WS f1 f2
    have MY := Lib.hid (fun w => refPacketMay_any 0 z1 z2 0 0 0 0 0 [] w)
    have HVD := Lib.hid (show ∀ g : List UInt8, g = [] → Value.string ⟨#[]⟩ = strV g from fun g h => by rw [h]; rfl)
    rw [show strV ([] : List UInt8) = .string ⟨#[]⟩ from rfl] at MY
    have HBW := Lib.hid (HB4.out.trans (AW.out.below (B := w.heap.size) (by omega) (by have := S1.out; omega) (by have := S1.out; have := S4.out; omega) (by have := S4.out; omega)))
    have HRW := Lib.hid (AW.out.out HR4.out (by have := S1.out; have := S4.out; omega) (by omega) (by have := S1.out; omega))
    have HNX := Lib.hid (show w.heap.size ≠ w1.heap.size from by have := S1.out; omega)
    clear AW
    obtain ⟨_, _, at_, bad, c1, c2, hst⟩ := AR.out
    clear AR
    cases bad
    · have HST := Lib.hid (show s2 = some at_ from hst)
      clear hst
      by_cases hat : at_ = (bs.size : Int)
      · have HDN : Hid (doneB l s2 = true) := Lib.hid (by rw [HST.out]; exact (doneB_iff l _).2 (by rw [hat, HLEN.out]))
        have hat2 : (at_ != (bs.size : Int)) = false := by simp [hat]
        clear hat
        have x0 : y1.cell? ⟨w1.heap.size, 0, none⟩ = some (.int .i64 0) := AO.out.1.1 0 (by simp)
        have x1 : y1.cell? ⟨w1.heap.size, 1, none⟩ = some (.int .i64 z1) := AO.out.1.1 1 (by simp)
        have x2 : y1.cell? ⟨w1.heap.size, 2, none⟩ = some (.int .i64 z2) := AO.out.1.1 2 (by simp)
        have x3 : y1.cell? ⟨w1.heap.size, 3, none⟩ = some (.int .i64 0) := AO.out.1.1 3 (by simp)
        have x4 : y1.cell? ⟨w1.heap.size, 4, none⟩ = some (.int .i64 0) := AO.out.1.1 4 (by simp)
        have x5 : y1.cell? ⟨w1.heap.size, 5, none⟩ = some (.int .i64 0) := AO.out.1.1 5 (by simp)
        have x6 : y1.cell? ⟨w1.heap.size, 6, none⟩ = some (.int .i64 0) := AO.out.1.1 6 (by simp)
        have x7 : y1.cell? ⟨w1.heap.size, 7, none⟩ = some (.int .i64 0) := AO.out.1.1 7 (by simp)
        have x8 : y1.cell? ⟨w1.heap.size, 8, none⟩ = some (.string ⟨#[]⟩) := AO.out.1.2 0 (by simp)
        cases hmay : packetS.may [0, z1, z2, 0, 0, 0, 0, 0] []
        · have HMY := Lib.hid hmay
          have HOK0 : Hid (ok = false) := Lib.hid (by rw [HOK.out, HDN.out, hmay]; rfl)
          clear hmay
          have HC0 := Lib.hid (show gc = [0, 0, 0, 0, 0, 0, 0, 0] from by rw [HGC.out, HOK0.out]; rfl)
          have HD0 := Lib.hid (show gd = [] from by rw [HGD.out, HOK0.out]; rfl)
          go_wp2_with fail
          refine (show Calls Try.prog 39 #[.agg #[.int .i64 0, .int .i64 z1, .int .i64 z2, .int .i64 0, .int .i64 0, .int .i64 0, .int .i64 0, .int .i64 0, .string ⟨#[]⟩]] y1 _ from MY.out y1).mono ?_
          rintro e w7 ⟨rfl, b7⟩
          rw [HMY.out]
          have O7 := Lib.hid (AO.out.below (World.block_lt_of_cell? _ _ x0) b7)
          have R7 := Lib.hid (HRW.out.below (World.block_lt_of_cell? _ _ (HRW.out.1.1 0 (by decide))) b7)
          have B7 := Lib.hid (HBW.out.trans (b7.mono HBW.out.size))
          clear b7 x0 x1 x2 x3 x4 x5 x6 x7 x8 c1 c2
          have r0 : w7.cell? ⟨w.heap.size, 0, none⟩ = some (.int .i64 0) := R7.out.1.1 0 (by decide)
          have z_0 := R7.out.2 0
          have r1 : w7.cell? ⟨w.heap.size, 1, none⟩ = some (.int .i64 0) := R7.out.1.1 1 (by decide)
          have z_1 := R7.out.2 1
          have r2 : w7.cell? ⟨w.heap.size, 2, none⟩ = some (.int .i64 0) := R7.out.1.1 2 (by decide)
          have z_2 := R7.out.2 2
          have r3 : w7.cell? ⟨w.heap.size, 3, none⟩ = some (.int .i64 0) := R7.out.1.1 3 (by decide)
          have z_3 := R7.out.2 3
          have r4 : w7.cell? ⟨w.heap.size, 4, none⟩ = some (.int .i64 0) := R7.out.1.1 4 (by decide)
          have z_4 := R7.out.2 4
          have r5 : w7.cell? ⟨w.heap.size, 5, none⟩ = some (.int .i64 0) := R7.out.1.1 5 (by decide)
          have z_5 := R7.out.2 5
          have r6 : w7.cell? ⟨w.heap.size, 6, none⟩ = some (.int .i64 0) := R7.out.1.1 6 (by decide)
          have z_6 := R7.out.2 6
          have r7 : w7.cell? ⟨w.heap.size, 7, none⟩ = some (.int .i64 0) := R7.out.1.1 7 (by decide)
          have z_7 := R7.out.2 7
          have r8 : w7.cell? ⟨w.heap.size, 8, none⟩ = some (.string ⟨#[]⟩) := R7.out.1.2 0 (by simp)
          have z_8 := R7.out.2 8
          go_wp2
          refine bodyPost_ret (v := .tuple #[recV [0, 0, 0, 0, 0, 0, 0, 0] [.string ⟨#[]⟩], .int .i64 400]) (by simp [results, Try.results37, go_sem, recV, recL, r0, r1, r2, r3, r4, r5, r6, r7, r8]) rfl ⟨by rw [HC0.out, HOK0.out, HD0.out]; rfl, ?_⟩
          exact (((((((((B7.out.setCell (Nat.le_refl _) _).setCell (Nat.le_refl _) _).setCell (Nat.le_refl _) _).setCell (Nat.le_refl _) _).setCell (Nat.le_refl _) _).setCell (Nat.le_refl _) _).setCell (Nat.le_refl _) _).setCell (Nat.le_refl _) _).setCell (Nat.le_refl _) _)
        · have HMY := Lib.hid hmay
          have HOK0 : Hid (ok = true) := Lib.hid (by rw [HOK.out, HDN.out, hmay]; rfl)
          clear hmay
          have HC0 := Lib.hid (show gc = [0, z1, z2, 0, 0, 0, 0, 0] from by rw [HGC.out, HOK0.out]; rfl)
          have HD0 := Lib.hid (show gd = [] from by rw [HGD.out, HOK0.out]; rfl)
          go_wp2_with fail
          refine (show Calls Try.prog 39 #[.agg #[.int .i64 0, .int .i64 z1, .int .i64 z2, .int .i64 0, .int .i64 0, .int .i64 0, .int .i64 0, .int .i64 0, .string ⟨#[]⟩]] y1 _ from MY.out y1).mono ?_
          rintro e w7 ⟨rfl, b7⟩
          rw [HMY.out]
          have O7 := Lib.hid (AO.out.below (World.block_lt_of_cell? _ _ x0) b7)
          have R7 := Lib.hid (HRW.out.below (World.block_lt_of_cell? _ _ (HRW.out.1.1 0 (by decide))) b7)
          have B7 := Lib.hid (HBW.out.trans (b7.mono HBW.out.size))
          clear b7 x0 x1 x2 x3 x4 x5 x6 x7 x8 c1 c2
          have x0 : w7.cell? ⟨w1.heap.size, 0, none⟩ = some (.int .i64 0) := O7.out.1.1 0 (by simp)
          have x1 : w7.cell? ⟨w1.heap.size, 1, none⟩ = some (.int .i64 z1) := O7.out.1.1 1 (by simp)
          have x2 : w7.cell? ⟨w1.heap.size, 2, none⟩ = some (.int .i64 z2) := O7.out.1.1 2 (by simp)
          have x3 : w7.cell? ⟨w1.heap.size, 3, none⟩ = some (.int .i64 0) := O7.out.1.1 3 (by simp)
          have x4 : w7.cell? ⟨w1.heap.size, 4, none⟩ = some (.int .i64 0) := O7.out.1.1 4 (by simp)
          have x5 : w7.cell? ⟨w1.heap.size, 5, none⟩ = some (.int .i64 0) := O7.out.1.1 5 (by simp)
          have x6 : w7.cell? ⟨w1.heap.size, 6, none⟩ = some (.int .i64 0) := O7.out.1.1 6 (by simp)
          have x7 : w7.cell? ⟨w1.heap.size, 7, none⟩ = some (.int .i64 0) := O7.out.1.1 7 (by simp)
          have x8 : w7.cell? ⟨w1.heap.size, 8, none⟩ = some (.string ⟨#[]⟩) := O7.out.1.2 0 (by simp)
          have r0 : w7.cell? ⟨w.heap.size, 0, none⟩ = some (.int .i64 0) := R7.out.1.1 0 (by decide)
          have z_0 := R7.out.2 0
          have r1 : w7.cell? ⟨w.heap.size, 1, none⟩ = some (.int .i64 0) := R7.out.1.1 1 (by decide)
          have z_1 := R7.out.2 1
          have r2 : w7.cell? ⟨w.heap.size, 2, none⟩ = some (.int .i64 0) := R7.out.1.1 2 (by decide)
          have z_2 := R7.out.2 2
          have r3 : w7.cell? ⟨w.heap.size, 3, none⟩ = some (.int .i64 0) := R7.out.1.1 3 (by decide)
          have z_3 := R7.out.2 3
          have r4 : w7.cell? ⟨w.heap.size, 4, none⟩ = some (.int .i64 0) := R7.out.1.1 4 (by decide)
          have z_4 := R7.out.2 4
          have r5 : w7.cell? ⟨w.heap.size, 5, none⟩ = some (.int .i64 0) := R7.out.1.1 5 (by decide)
          have z_5 := R7.out.2 5
          have r6 : w7.cell? ⟨w.heap.size, 6, none⟩ = some (.int .i64 0) := R7.out.1.1 6 (by decide)
          have z_6 := R7.out.2 6
          have r7 : w7.cell? ⟨w.heap.size, 7, none⟩ = some (.int .i64 0) := R7.out.1.1 7 (by decide)
          have z_7 := R7.out.2 7
          have r8 : w7.cell? ⟨w.heap.size, 8, none⟩ = some (.string ⟨#[]⟩) := R7.out.1.2 0 (by simp)
          have z_8 := R7.out.2 8
          have hne2 := HNX.out
          go_wp2
          refine bodyPost_ret (v := .tuple #[recV [0, z1, z2, 0, 0, 0, 0, 0] [.string ⟨#[]⟩], .int .i64 0]) (by simp [results, Try.results37, go_sem, recV, recL, r0, r1, r2, r3, r4, r5, r6, r7, r8]) rfl ⟨by rw [HC0.out, HOK0.out, HVD.out gd HD0.out]; rfl, ?_⟩
          exact (((((((((B7.out.setCell (Nat.le_refl _) _).setCell (Nat.le_refl _) _).setCell (Nat.le_refl _) _).setCell (Nat.le_refl _) _).setCell (Nat.le_refl _) _).setCell (Nat.le_refl _) _).setCell (Nat.le_refl _) _).setCell (Nat.le_refl _) _).setCell (Nat.le_refl _) _)
      · have HDN : Hid (doneB l s2 = false) := Lib.hid (by
          rw [HST.out]
          cases e : doneB l (some at_)
          · rfl
          · have h2 := (doneB_iff l (some at_)).1 e
            injection h2 with h2
            exact absurd (h2.trans (by rw [← HLEN.out])) hat)
        have HOK0 : Hid (ok = false) := Lib.hid (by rw [HOK.out, HDN.out]; rfl)
        have hat2 : (at_ != (bs.size : Int)) = true := by simp [hat]
        clear hat
        have HC0 := Lib.hid (show gc = [0, 0, 0, 0, 0, 0, 0, 0] from by rw [HGC.out, HOK0.out]; rfl)
        have HD0 := Lib.hid (show gd = [] from by rw [HGD.out, HOK0.out]; rfl)
        have r0 : y1.cell? ⟨w.heap.size, 0, none⟩ = some (.int .i64 0) := HRW.out.1.1 0 (by decide)
        have z_0 := HRW.out.2 0
        have r1 : y1.cell? ⟨w.heap.size, 1, none⟩ = some (.int .i64 0) := HRW.out.1.1 1 (by decide)
        have z_1 := HRW.out.2 1
        have r2 : y1.cell? ⟨w.heap.size, 2, none⟩ = some (.int .i64 0) := HRW.out.1.1 2 (by decide)
        have z_2 := HRW.out.2 2
        have r3 : y1.cell? ⟨w.heap.size, 3, none⟩ = some (.int .i64 0) := HRW.out.1.1 3 (by decide)
        have z_3 := HRW.out.2 3
        have r4 : y1.cell? ⟨w.heap.size, 4, none⟩ = some (.int .i64 0) := HRW.out.1.1 4 (by decide)
        have z_4 := HRW.out.2 4
        have r5 : y1.cell? ⟨w.heap.size, 5, none⟩ = some (.int .i64 0) := HRW.out.1.1 5 (by decide)
        have z_5 := HRW.out.2 5
        have r6 : y1.cell? ⟨w.heap.size, 6, none⟩ = some (.int .i64 0) := HRW.out.1.1 6 (by decide)
        have z_6 := HRW.out.2 6
        have r7 : y1.cell? ⟨w.heap.size, 7, none⟩ = some (.int .i64 0) := HRW.out.1.1 7 (by decide)
        have z_7 := HRW.out.2 7
        have r8 : y1.cell? ⟨w.heap.size, 8, none⟩ = some (.string ⟨#[]⟩) := HRW.out.1.2 0 (by simp)
        have z_8 := HRW.out.2 8
        go_wp2
        refine bodyPost_ret (v := .tuple #[recV [0, 0, 0, 0, 0, 0, 0, 0] [.string ⟨#[]⟩], .int .i64 400]) (by simp [results, Try.results37, go_sem, recV, recL, r0, r1, r2, r3, r4, r5, r6, r7, r8]) rfl ⟨by rw [HC0.out, HOK0.out, HD0.out]; rfl, ?_⟩
        exact (((((((((HBW.out.setCell (Nat.le_refl _) _).setCell (Nat.le_refl _) _).setCell (Nat.le_refl _) _).setCell (Nat.le_refl _) _).setCell (Nat.le_refl _) _).setCell (Nat.le_refl _) _).setCell (Nat.le_refl _) _).setCell (Nat.le_refl _) _).setCell (Nat.le_refl _) _)
    · have HDN : Hid (doneB l s2 = false) := Lib.hid (by rw [show s2 = none from hst]; rfl)
      clear hst
      have HOK0 : Hid (ok = false) := Lib.hid (by rw [HOK.out, HDN.out]; rfl)
      have HC0 := Lib.hid (show gc = [0, 0, 0, 0, 0, 0, 0, 0] from by rw [HGC.out, HOK0.out]; rfl)
      have HD0 := Lib.hid (show gd = [] from by rw [HGD.out, HOK0.out]; rfl)
      have r0 : y1.cell? ⟨w.heap.size, 0, none⟩ = some (.int .i64 0) := HRW.out.1.1 0 (by decide)
      have z_0 := HRW.out.2 0
      have r1 : y1.cell? ⟨w.heap.size, 1, none⟩ = some (.int .i64 0) := HRW.out.1.1 1 (by decide)
      have z_1 := HRW.out.2 1
      have r2 : y1.cell? ⟨w.heap.size, 2, none⟩ = some (.int .i64 0) := HRW.out.1.1 2 (by decide)
      have z_2 := HRW.out.2 2
      have r3 : y1.cell? ⟨w.heap.size, 3, none⟩ = some (.int .i64 0) := HRW.out.1.1 3 (by decide)
      have z_3 := HRW.out.2 3
      have r4 : y1.cell? ⟨w.heap.size, 4, none⟩ = some (.int .i64 0) := HRW.out.1.1 4 (by decide)
      have z_4 := HRW.out.2 4
      have r5 : y1.cell? ⟨w.heap.size, 5, none⟩ = some (.int .i64 0) := HRW.out.1.1 5 (by decide)
      have z_5 := HRW.out.2 5
      have r6 : y1.cell? ⟨w.heap.size, 6, none⟩ = some (.int .i64 0) := HRW.out.1.1 6 (by decide)
      have z_6 := HRW.out.2 6
      have r7 : y1.cell? ⟨w.heap.size, 7, none⟩ = some (.int .i64 0) := HRW.out.1.1 7 (by decide)
      have z_7 := HRW.out.2 7
      have r8 : y1.cell? ⟨w.heap.size, 8, none⟩ = some (.string ⟨#[]⟩) := HRW.out.1.2 0 (by simp)
      have z_8 := HRW.out.2 8
      go_wp2
      refine bodyPost_ret (v := .tuple #[recV [0, 0, 0, 0, 0, 0, 0, 0] [.string ⟨#[]⟩], .int .i64 400]) (by simp [results, Try.results37, go_sem, recV, recL, r0, r1, r2, r3, r4, r5, r6, r7, r8]) rfl ⟨by rw [HC0.out, HOK0.out, HD0.out]; rfl, ?_⟩
      exact (((((((((HBW.out.setCell (Nat.le_refl _) _).setCell (Nat.le_refl _) _).setCell (Nat.le_refl _) _).setCell (Nat.le_refl _) _).setCell (Nat.le_refl _) _).setCell (Nat.le_refl _) _).setCell (Nat.le_refl _) _).setCell (Nat.le_refl _) _).setCell (Nat.le_refl _) _)
  · have HIX := Lib.hid (show packetIdx 1 = [3, 4, 5] from rfl)
    have HTX := Lib.hid (show packetS.txt 1 = false from by decide)
    obtain ⟨z3, s1, he1⟩ : ∃ z s, rdNum l st1 = (z, s) := ⟨_, _, rfl⟩
    obtain ⟨z4, s2, he2⟩ : ∃ z s, rdNum l s1 = (z, s) := ⟨_, _, rfl⟩
    obtain ⟨z5, s3, he3⟩ : ∃ z s, rdNum l s2 = (z, s) := ⟨_, _, rfl⟩
    have HF := Lib.hid (show rdFold l (packetIdx 1) [1, 0, 0, 0, 0, 0, 0, 0] st1 = ([1, 0, 0, z3, z4, z5, 0, 0], s3) from by rw [HIX.out]; simp only [rdFold_cons, he1, he2, he3]; rfl)
    rw [HF.out] at HOK HGC HGD
    rw [HTX.out] at HOK HGD
    rw [if_neg (by decide)] at HOK
    simp only [Bool.false_eq_true, if_false] at HGD
    replace HOK : Hid (ok = (doneB l s3 && packetS.may [1, 0, 0, z3, z4, z5, 0, 0] [])) := HOK
    replace HGC : Hid (gc = if ok = true then [1, 0, 0, z3, z4, z5, 0, 0] else [0, 0, 0, 0, 0, 0, 0, 0]) := HGC
    replace HGD : Hid (gd = if ok = true then [] else []) := Lib.hid (HGD.out.trans (by cases ok <;> rfl))
    have HE1 := Lib.hid he1
    have HE2 := Lib.hid he2
    have HE3 := Lib.hid he3
    clear HF HIX HTX he1 he2 he3
    have AO := O2
    have AR := RD4
    have AW := Lib.hid (Two.refl (w.heap.size + 1) w1.heap.size (w1.alloc (.cells #[.int .i64 1, .int .i64 0, .int .i64 0, .int .i64 0, .int .i64 0, .int .i64 0, .int .i64 0, .int .i64 0, .string ⟨#[]⟩] 56)))
    have SW := Lib.hid (show (w1.alloc (.cells #[.int .i64 1, .int .i64 0, .int .i64 0, .int .i64 0, .int .i64 0, .int .i64 0, .int .i64 0, .int .i64 0, .string ⟨#[]⟩] 56)).heap.size = w1.heap.size + 1 from by simp)
    clear O2 RD4 S2
    go_wp2_with fail
    have HR4 := R4
    have HB4 := B4
    generalize (w1.alloc (.cells #[.int .i64 1, .int .i64 0, .int .i64 0, .int .i64 0, .int .i64 0, .int .i64 0, .int .i64 0, .int .i64 0, .string ⟨#[]⟩] 56)) = w4 at AO AR AW SW HR4 HB4 ⊢
    clear R4 B4
    have S4 := Lib.hid (show w1.heap.size + 1 ≤ w4.heap.size from by rw [SW.out]; omega)
    clear SW
    have AWW := Lib.hid (Nat.le_refl w4.heap.size)
    refine (RN.out st1 (w.heap.size + 1) _ AR.out).mono ?_
    rintro e u0 ⟨rfl, rd5, on5⟩
    rw [HE1.out] at rd5 ⊢
    simp only at rd5 ⊢
    have o5 := on5.out AO.out (Nat.lt_of_lt_of_le S4.out AWW.out) (Ne.symm HNE.out)
    have f1 := o5.2 3
    have f2 := o5.1.1 3 (by simp)
    replace f2 : u0.cell? ⟨w1.heap.size, 3, none⟩ = some (.int .i64 0) := f2
    have OS := Lib.hid (o5.set 3 (by simp) z3)
    have on6 := Only.setCell (Only.refl w1.heap.size u0) (p := ⟨w1.heap.size, 3, none⟩) rfl (.int .i64 z3)
    have RS := Lib.hid (rd5.only (Nat.lt_of_lt_of_le (Nat.lt_of_lt_of_le (show (w.heap.size + 1) < w4.heap.size from by have := S1.out; have := S4.out; omega) AWW.out) on5.size) HNE.out on6)
    have TS := Lib.hid ((AW.out.left on5).right on6)
    have WS := Lib.hid (Nat.le_trans AWW.out (Nat.le_trans on5.size on6.size))
    clear AO AR AW AWW o5 rd5 on5 on6
    go_wp2_with fail
    generalize u0.setCell ⟨w1.heap.size, 3, none⟩ (.int .i64 z3) = y0 at OS RS TS WS ⊢
    have AR := RS
    have AW := TS
    have AWW := WS
    have AO : Hid (Out y0 w1.heap.size [1, 0, 0, z3, 0, 0, 0, 0] [.string ⟨#[]⟩]) := OS
    clear OS RS TS WS f1 f2
    refine (RN.out s1 (w.heap.size + 1) _ AR.out).mono ?_
    rintro e u1 ⟨rfl, rd5, on5⟩
    rw [HE2.out] at rd5 ⊢
    simp only at rd5 ⊢
    have o5 := on5.out AO.out (Nat.lt_of_lt_of_le S4.out AWW.out) (Ne.symm HNE.out)
    have f1 := o5.2 4
    have f2 := o5.1.1 4 (by simp)
    replace f2 : u1.cell? ⟨w1.heap.size, 4, none⟩ = some (.int .i64 0) := f2
    have OS := Lib.hid (o5.set 4 (by simp) z4)
    have on6 := Only.setCell (Only.refl w1.heap.size u1) (p := ⟨w1.heap.size, 4, none⟩) rfl (.int .i64 z4)
    have RS := Lib.hid (rd5.only (Nat.lt_of_lt_of_le (Nat.lt_of_lt_of_le (show (w.heap.size + 1) < w4.heap.size from by have := S1.out; have := S4.out; omega) AWW.out) on5.size) HNE.out on6)
    have TS := Lib.hid ((AW.out.left on5).right on6)
    have WS := Lib.hid (Nat.le_trans AWW.out (Nat.le_trans on5.size on6.size))
    clear AO AR AW AWW o5 rd5 on5 on6
    go_wp2_with fail
    generalize u1.setCell ⟨w1.heap.size, 4, none⟩ (.int .i64 z4) = y1 at OS RS TS WS ⊢
    have AR := RS
    have AW := TS
    have AWW := WS
    have AO : Hid (Out y1 w1.heap.size [1, 0, 0, z3, z4, 0, 0, 0] [.string ⟨#[]⟩]) := OS
    clear OS RS TS WS f1 f2
    refine (RN.out s2 (w.heap.size + 1) _ AR.out).mono ?_
    rintro e u2 ⟨rfl, rd5, on5⟩
    rw [HE3.out] at rd5 ⊢
    simp only at rd5 ⊢
    have o5 := on5.out AO.out (Nat.lt_of_lt_of_le S4.out AWW.out) (Ne.symm HNE.out)
    have f1 := o5.2 5
    have f2 := o5.1.1 5 (by simp)
    replace f2 : u2.cell? ⟨w1.heap.size, 5, none⟩ = some (.int .i64 0) := f2
    have OS := Lib.hid (o5.set 5 (by simp) z5)
    have on6 := Only.setCell (Only.refl w1.heap.size u2) (p := ⟨w1.heap.size, 5, none⟩) rfl (.int .i64 z5)
    have RS := Lib.hid (rd5.only (Nat.lt_of_lt_of_le (Nat.lt_of_lt_of_le (show (w.heap.size + 1) < w4.heap.size from by have := S1.out; have := S4.out; omega) AWW.out) on5.size) HNE.out on6)
    have TS := Lib.hid ((AW.out.left on5).right on6)
    have WS := Lib.hid (Nat.le_trans AWW.out (Nat.le_trans on5.size on6.size))
    clear AO AR AW AWW o5 rd5 on5 on6
    go_upto_region 23 with (fail)
    generalize u2.setCell ⟨w1.heap.size, 5, none⟩ (.int .i64 z5) = y2 at OS RS TS WS ⊢
    have AR := RS
    have AW := TS
    have AWW := WS
    have AO : Hid (Out y2 w1.heap.size [1, 0, 0, z3, z4, z5, 0, 0] [.string ⟨#[]⟩]) := OS
    clear OS RS TS WS f1 f2
    have MY := Lib.hid (fun w => refPacketMay_any 1 0 0 z3 z4 z5 0 0 [] w)
    have HVD := Lib.hid (show ∀ g : List UInt8, g = [] → Value.string ⟨#[]⟩ = strV g from fun g h => by rw [h]; rfl)
    rw [show strV ([] : List UInt8) = .string ⟨#[]⟩ from rfl] at MY
    have HBW := Lib.hid (HB4.out.trans (AW.out.below (B := w.heap.size) (by omega) (by have := S1.out; omega) (by have := S1.out; have := S4.out; omega) (by have := S4.out; omega)))
    have HRW := Lib.hid (AW.out.out HR4.out (by have := S1.out; have := S4.out; omega) (by omega) (by have := S1.out; omega))
    have HNX := Lib.hid (show w.heap.size ≠ w1.heap.size from by have := S1.out; omega)
    clear AW
    obtain ⟨_, _, at_, bad, c1, c2, hst⟩ := AR.out
    clear AR
    cases bad
    · have HST := Lib.hid (show s3 = some at_ from hst)
      clear hst
      by_cases hat : at_ = (bs.size : Int)
      · have HDN : Hid (doneB l s3 = true) := Lib.hid (by rw [HST.out]; exact (doneB_iff l _).2 (by rw [hat, HLEN.out]))
        have hat2 : (at_ != (bs.size : Int)) = false := by simp [hat]
        clear hat
        have x0 : y2.cell? ⟨w1.heap.size, 0, none⟩ = some (.int .i64 1) := AO.out.1.1 0 (by simp)
        have x1 : y2.cell? ⟨w1.heap.size, 1, none⟩ = some (.int .i64 0) := AO.out.1.1 1 (by simp)
        have x2 : y2.cell? ⟨w1.heap.size, 2, none⟩ = some (.int .i64 0) := AO.out.1.1 2 (by simp)
        have x3 : y2.cell? ⟨w1.heap.size, 3, none⟩ = some (.int .i64 z3) := AO.out.1.1 3 (by simp)
        have x4 : y2.cell? ⟨w1.heap.size, 4, none⟩ = some (.int .i64 z4) := AO.out.1.1 4 (by simp)
        have x5 : y2.cell? ⟨w1.heap.size, 5, none⟩ = some (.int .i64 z5) := AO.out.1.1 5 (by simp)
        have x6 : y2.cell? ⟨w1.heap.size, 6, none⟩ = some (.int .i64 0) := AO.out.1.1 6 (by simp)
        have x7 : y2.cell? ⟨w1.heap.size, 7, none⟩ = some (.int .i64 0) := AO.out.1.1 7 (by simp)
        have x8 : y2.cell? ⟨w1.heap.size, 8, none⟩ = some (.string ⟨#[]⟩) := AO.out.1.2 0 (by simp)
        cases hmay : packetS.may [1, 0, 0, z3, z4, z5, 0, 0] []
        · have HMY := Lib.hid hmay
          have HOK0 : Hid (ok = false) := Lib.hid (by rw [HOK.out, HDN.out, hmay]; rfl)
          clear hmay
          have HC0 := Lib.hid (show gc = [0, 0, 0, 0, 0, 0, 0, 0] from by rw [HGC.out, HOK0.out]; rfl)
          have HD0 := Lib.hid (show gd = [] from by rw [HGD.out, HOK0.out]; rfl)
          go_wp2_with fail
          refine (show Calls Try.prog 39 #[.agg #[.int .i64 1, .int .i64 0, .int .i64 0, .int .i64 z3, .int .i64 z4, .int .i64 z5, .int .i64 0, .int .i64 0, .string ⟨#[]⟩]] y2 _ from MY.out y2).mono ?_
          rintro e w7 ⟨rfl, b7⟩
          rw [HMY.out]
          have O7 := Lib.hid (AO.out.below (World.block_lt_of_cell? _ _ x0) b7)
          have R7 := Lib.hid (HRW.out.below (World.block_lt_of_cell? _ _ (HRW.out.1.1 0 (by decide))) b7)
          have B7 := Lib.hid (HBW.out.trans (b7.mono HBW.out.size))
          clear b7 x0 x1 x2 x3 x4 x5 x6 x7 x8 c1 c2
          have r0 : w7.cell? ⟨w.heap.size, 0, none⟩ = some (.int .i64 0) := R7.out.1.1 0 (by decide)
          have z_0 := R7.out.2 0
          have r1 : w7.cell? ⟨w.heap.size, 1, none⟩ = some (.int .i64 0) := R7.out.1.1 1 (by decide)
          have z_1 := R7.out.2 1
          have r2 : w7.cell? ⟨w.heap.size, 2, none⟩ = some (.int .i64 0) := R7.out.1.1 2 (by decide)
          have z_2 := R7.out.2 2
          have r3 : w7.cell? ⟨w.heap.size, 3, none⟩ = some (.int .i64 0) := R7.out.1.1 3 (by decide)
          have z_3 := R7.out.2 3
          have r4 : w7.cell? ⟨w.heap.size, 4, none⟩ = some (.int .i64 0) := R7.out.1.1 4 (by decide)
          have z_4 := R7.out.2 4
          have r5 : w7.cell? ⟨w.heap.size, 5, none⟩ = some (.int .i64 0) := R7.out.1.1 5 (by decide)
          have z_5 := R7.out.2 5
          have r6 : w7.cell? ⟨w.heap.size, 6, none⟩ = some (.int .i64 0) := R7.out.1.1 6 (by decide)
          have z_6 := R7.out.2 6
          have r7 : w7.cell? ⟨w.heap.size, 7, none⟩ = some (.int .i64 0) := R7.out.1.1 7 (by decide)
          have z_7 := R7.out.2 7
          have r8 : w7.cell? ⟨w.heap.size, 8, none⟩ = some (.string ⟨#[]⟩) := R7.out.1.2 0 (by simp)
          have z_8 := R7.out.2 8
          go_wp2
          refine bodyPost_ret (v := .tuple #[recV [0, 0, 0, 0, 0, 0, 0, 0] [.string ⟨#[]⟩], .int .i64 400]) (by simp [results, Try.results37, go_sem, recV, recL, r0, r1, r2, r3, r4, r5, r6, r7, r8]) rfl ⟨by rw [HC0.out, HOK0.out, HD0.out]; rfl, ?_⟩
          exact (((((((((B7.out.setCell (Nat.le_refl _) _).setCell (Nat.le_refl _) _).setCell (Nat.le_refl _) _).setCell (Nat.le_refl _) _).setCell (Nat.le_refl _) _).setCell (Nat.le_refl _) _).setCell (Nat.le_refl _) _).setCell (Nat.le_refl _) _).setCell (Nat.le_refl _) _)
        · have HMY := Lib.hid hmay
          have HOK0 : Hid (ok = true) := Lib.hid (by rw [HOK.out, HDN.out, hmay]; rfl)
          clear hmay
          have HC0 := Lib.hid (show gc = [1, 0, 0, z3, z4, z5, 0, 0] from by rw [HGC.out, HOK0.out]; rfl)
          have HD0 := Lib.hid (show gd = [] from by rw [HGD.out, HOK0.out]; rfl)
          go_wp2_with fail
          refine (show Calls Try.prog 39 #[.agg #[.int .i64 1, .int .i64 0, .int .i64 0, .int .i64 z3, .int .i64 z4, .int .i64 z5, .int .i64 0, .int .i64 0, .string ⟨#[]⟩]] y2 _ from MY.out y2).mono ?_
          rintro e w7 ⟨rfl, b7⟩
          rw [HMY.out]
          have O7 := Lib.hid (AO.out.below (World.block_lt_of_cell? _ _ x0) b7)
          have R7 := Lib.hid (HRW.out.below (World.block_lt_of_cell? _ _ (HRW.out.1.1 0 (by decide))) b7)
          have B7 := Lib.hid (HBW.out.trans (b7.mono HBW.out.size))
          clear b7 x0 x1 x2 x3 x4 x5 x6 x7 x8 c1 c2
          have x0 : w7.cell? ⟨w1.heap.size, 0, none⟩ = some (.int .i64 1) := O7.out.1.1 0 (by simp)
          have x1 : w7.cell? ⟨w1.heap.size, 1, none⟩ = some (.int .i64 0) := O7.out.1.1 1 (by simp)
          have x2 : w7.cell? ⟨w1.heap.size, 2, none⟩ = some (.int .i64 0) := O7.out.1.1 2 (by simp)
          have x3 : w7.cell? ⟨w1.heap.size, 3, none⟩ = some (.int .i64 z3) := O7.out.1.1 3 (by simp)
          have x4 : w7.cell? ⟨w1.heap.size, 4, none⟩ = some (.int .i64 z4) := O7.out.1.1 4 (by simp)
          have x5 : w7.cell? ⟨w1.heap.size, 5, none⟩ = some (.int .i64 z5) := O7.out.1.1 5 (by simp)
          have x6 : w7.cell? ⟨w1.heap.size, 6, none⟩ = some (.int .i64 0) := O7.out.1.1 6 (by simp)
          have x7 : w7.cell? ⟨w1.heap.size, 7, none⟩ = some (.int .i64 0) := O7.out.1.1 7 (by simp)
          have x8 : w7.cell? ⟨w1.heap.size, 8, none⟩ = some (.string ⟨#[]⟩) := O7.out.1.2 0 (by simp)
          have r0 : w7.cell? ⟨w.heap.size, 0, none⟩ = some (.int .i64 0) := R7.out.1.1 0 (by decide)
          have z_0 := R7.out.2 0
          have r1 : w7.cell? ⟨w.heap.size, 1, none⟩ = some (.int .i64 0) := R7.out.1.1 1 (by decide)
          have z_1 := R7.out.2 1
          have r2 : w7.cell? ⟨w.heap.size, 2, none⟩ = some (.int .i64 0) := R7.out.1.1 2 (by decide)
          have z_2 := R7.out.2 2
          have r3 : w7.cell? ⟨w.heap.size, 3, none⟩ = some (.int .i64 0) := R7.out.1.1 3 (by decide)
          have z_3 := R7.out.2 3
          have r4 : w7.cell? ⟨w.heap.size, 4, none⟩ = some (.int .i64 0) := R7.out.1.1 4 (by decide)
          have z_4 := R7.out.2 4
          have r5 : w7.cell? ⟨w.heap.size, 5, none⟩ = some (.int .i64 0) := R7.out.1.1 5 (by decide)
          have z_5 := R7.out.2 5
          have r6 : w7.cell? ⟨w.heap.size, 6, none⟩ = some (.int .i64 0) := R7.out.1.1 6 (by decide)
          have z_6 := R7.out.2 6
          have r7 : w7.cell? ⟨w.heap.size, 7, none⟩ = some (.int .i64 0) := R7.out.1.1 7 (by decide)
          have z_7 := R7.out.2 7
          have r8 : w7.cell? ⟨w.heap.size, 8, none⟩ = some (.string ⟨#[]⟩) := R7.out.1.2 0 (by simp)
          have z_8 := R7.out.2 8
          have hne2 := HNX.out
          go_wp2
          refine bodyPost_ret (v := .tuple #[recV [1, 0, 0, z3, z4, z5, 0, 0] [.string ⟨#[]⟩], .int .i64 0]) (by simp [results, Try.results37, go_sem, recV, recL, r0, r1, r2, r3, r4, r5, r6, r7, r8]) rfl ⟨by rw [HC0.out, HOK0.out, HVD.out gd HD0.out]; rfl, ?_⟩
          exact (((((((((B7.out.setCell (Nat.le_refl _) _).setCell (Nat.le_refl _) _).setCell (Nat.le_refl _) _).setCell (Nat.le_refl _) _).setCell (Nat.le_refl _) _).setCell (Nat.le_refl _) _).setCell (Nat.le_refl _) _).setCell (Nat.le_refl _) _).setCell (Nat.le_refl _) _)
      · have HDN : Hid (doneB l s3 = false) := Lib.hid (by
          rw [HST.out]
          cases e : doneB l (some at_)
          · rfl
          · have h2 := (doneB_iff l (some at_)).1 e
            injection h2 with h2
            exact absurd (h2.trans (by rw [← HLEN.out])) hat)
        have HOK0 : Hid (ok = false) := Lib.hid (by rw [HOK.out, HDN.out]; rfl)
        have hat2 : (at_ != (bs.size : Int)) = true := by simp [hat]
        clear hat
        have HC0 := Lib.hid (show gc = [0, 0, 0, 0, 0, 0, 0, 0] from by rw [HGC.out, HOK0.out]; rfl)
        have HD0 := Lib.hid (show gd = [] from by rw [HGD.out, HOK0.out]; rfl)
        have r0 : y2.cell? ⟨w.heap.size, 0, none⟩ = some (.int .i64 0) := HRW.out.1.1 0 (by decide)
        have z_0 := HRW.out.2 0
        have r1 : y2.cell? ⟨w.heap.size, 1, none⟩ = some (.int .i64 0) := HRW.out.1.1 1 (by decide)
        have z_1 := HRW.out.2 1
        have r2 : y2.cell? ⟨w.heap.size, 2, none⟩ = some (.int .i64 0) := HRW.out.1.1 2 (by decide)
        have z_2 := HRW.out.2 2
        have r3 : y2.cell? ⟨w.heap.size, 3, none⟩ = some (.int .i64 0) := HRW.out.1.1 3 (by decide)
        have z_3 := HRW.out.2 3
        have r4 : y2.cell? ⟨w.heap.size, 4, none⟩ = some (.int .i64 0) := HRW.out.1.1 4 (by decide)
        have z_4 := HRW.out.2 4
        have r5 : y2.cell? ⟨w.heap.size, 5, none⟩ = some (.int .i64 0) := HRW.out.1.1 5 (by decide)
        have z_5 := HRW.out.2 5
        have r6 : y2.cell? ⟨w.heap.size, 6, none⟩ = some (.int .i64 0) := HRW.out.1.1 6 (by decide)
        have z_6 := HRW.out.2 6
        have r7 : y2.cell? ⟨w.heap.size, 7, none⟩ = some (.int .i64 0) := HRW.out.1.1 7 (by decide)
        have z_7 := HRW.out.2 7
        have r8 : y2.cell? ⟨w.heap.size, 8, none⟩ = some (.string ⟨#[]⟩) := HRW.out.1.2 0 (by simp)
        have z_8 := HRW.out.2 8
        go_wp2
        refine bodyPost_ret (v := .tuple #[recV [0, 0, 0, 0, 0, 0, 0, 0] [.string ⟨#[]⟩], .int .i64 400]) (by simp [results, Try.results37, go_sem, recV, recL, r0, r1, r2, r3, r4, r5, r6, r7, r8]) rfl ⟨by rw [HC0.out, HOK0.out, HD0.out]; rfl, ?_⟩
        exact (((((((((HBW.out.setCell (Nat.le_refl _) _).setCell (Nat.le_refl _) _).setCell (Nat.le_refl _) _).setCell (Nat.le_refl _) _).setCell (Nat.le_refl _) _).setCell (Nat.le_refl _) _).setCell (Nat.le_refl _) _).setCell (Nat.le_refl _) _).setCell (Nat.le_refl _) _)
    · have HDN : Hid (doneB l s3 = false) := Lib.hid (by rw [show s3 = none from hst]; rfl)
      clear hst
      have HOK0 : Hid (ok = false) := Lib.hid (by rw [HOK.out, HDN.out]; rfl)
      have HC0 := Lib.hid (show gc = [0, 0, 0, 0, 0, 0, 0, 0] from by rw [HGC.out, HOK0.out]; rfl)
      have HD0 := Lib.hid (show gd = [] from by rw [HGD.out, HOK0.out]; rfl)
      have r0 : y2.cell? ⟨w.heap.size, 0, none⟩ = some (.int .i64 0) := HRW.out.1.1 0 (by decide)
      have z_0 := HRW.out.2 0
      have r1 : y2.cell? ⟨w.heap.size, 1, none⟩ = some (.int .i64 0) := HRW.out.1.1 1 (by decide)
      have z_1 := HRW.out.2 1
      have r2 : y2.cell? ⟨w.heap.size, 2, none⟩ = some (.int .i64 0) := HRW.out.1.1 2 (by decide)
      have z_2 := HRW.out.2 2
      have r3 : y2.cell? ⟨w.heap.size, 3, none⟩ = some (.int .i64 0) := HRW.out.1.1 3 (by decide)
      have z_3 := HRW.out.2 3
      have r4 : y2.cell? ⟨w.heap.size, 4, none⟩ = some (.int .i64 0) := HRW.out.1.1 4 (by decide)
      have z_4 := HRW.out.2 4
      have r5 : y2.cell? ⟨w.heap.size, 5, none⟩ = some (.int .i64 0) := HRW.out.1.1 5 (by decide)
      have z_5 := HRW.out.2 5
      have r6 : y2.cell? ⟨w.heap.size, 6, none⟩ = some (.int .i64 0) := HRW.out.1.1 6 (by decide)
      have z_6 := HRW.out.2 6
      have r7 : y2.cell? ⟨w.heap.size, 7, none⟩ = some (.int .i64 0) := HRW.out.1.1 7 (by decide)
      have z_7 := HRW.out.2 7
      have r8 : y2.cell? ⟨w.heap.size, 8, none⟩ = some (.string ⟨#[]⟩) := HRW.out.1.2 0 (by simp)
      have z_8 := HRW.out.2 8
      go_wp2
      refine bodyPost_ret (v := .tuple #[recV [0, 0, 0, 0, 0, 0, 0, 0] [.string ⟨#[]⟩], .int .i64 400]) (by simp [results, Try.results37, go_sem, recV, recL, r0, r1, r2, r3, r4, r5, r6, r7, r8]) rfl ⟨by rw [HC0.out, HOK0.out, HD0.out]; rfl, ?_⟩
      exact (((((((((HBW.out.setCell (Nat.le_refl _) _).setCell (Nat.le_refl _) _).setCell (Nat.le_refl _) _).setCell (Nat.le_refl _) _).setCell (Nat.le_refl _) _).setCell (Nat.le_refl _) _).setCell (Nat.le_refl _) _).setCell (Nat.le_refl _) _).setCell (Nat.le_refl _) _)
  · have HIX := Lib.hid (show packetIdx 2 = [4, 2, 5] from rfl)
    have HTX := Lib.hid (show packetS.txt 2 = false from by decide)
    obtain ⟨z4, s1, he1⟩ : ∃ z s, rdNum l st1 = (z, s) := ⟨_, _, rfl⟩
    obtain ⟨z2, s2, he2⟩ : ∃ z s, rdNum l s1 = (z, s) := ⟨_, _, rfl⟩
    obtain ⟨z5, s3, he3⟩ : ∃ z s, rdNum l s2 = (z, s) := ⟨_, _, rfl⟩
    have HF := Lib.hid (show rdFold l (packetIdx 2) [2, 0, 0, 0, 0, 0, 0, 0] st1 = ([2, 0, z2, 0, z4, z5, 0, 0], s3) from by rw [HIX.out]; simp only [rdFold_cons, he1, he2, he3]; rfl)
    rw [HF.out] at HOK HGC HGD
    rw [HTX.out] at HOK HGD
    rw [if_neg (by decide)] at HOK
    simp only [Bool.false_eq_true, if_false] at HGD
    replace HOK : Hid (ok = (doneB l s3 && packetS.may [2, 0, z2, 0, z4, z5, 0, 0] [])) := HOK
    replace HGC : Hid (gc = if ok = true then [2, 0, z2, 0, z4, z5, 0, 0] else [0, 0, 0, 0, 0, 0, 0, 0]) := HGC
    replace HGD : Hid (gd = if ok = true then [] else []) := Lib.hid (HGD.out.trans (by cases ok <;> rfl))
    have HE1 := Lib.hid he1
    have HE2 := Lib.hid he2
    have HE3 := Lib.hid he3
    clear HF HIX HTX he1 he2 he3
    have AO := O2
    have AR := RD4
    have AW := Lib.hid (Two.refl (w.heap.size + 1) w1.heap.size (w1.alloc (.cells #[.int .i64 2, .int .i64 0, .int .i64 0, .int .i64 0, .int .i64 0, .int .i64 0, .int .i64 0, .int .i64 0, .string ⟨#[]⟩] 56)))
    have SW := Lib.hid (show (w1.alloc (.cells #[.int .i64 2, .int .i64 0, .int .i64 0, .int .i64 0, .int .i64 0, .int .i64 0, .int .i64 0, .int .i64 0, .string ⟨#[]⟩] 56)).heap.size = w1.heap.size + 1 from by simp)
    clear O2 RD4 S2
    go_wp2_with fail
    have HR4 := R4
    have HB4 := B4
    generalize (w1.alloc (.cells #[.int .i64 2, .int .i64 0, .int .i64 0, .int .i64 0, .int .i64 0, .int .i64 0, .int .i64 0, .int .i64 0, .string ⟨#[]⟩] 56)) = w4 at AO AR AW SW HR4 HB4 ⊢
    clear R4 B4
    have S4 := Lib.hid (show w1.heap.size + 1 ≤ w4.heap.size from by rw [SW.out]; omega)
    clear SW
    have AWW := Lib.hid (Nat.le_refl w4.heap.size)
    refine (RN.out st1 (w.heap.size + 1) _ AR.out).mono ?_
    rintro e u0 ⟨rfl, rd5, on5⟩
    rw [HE1.out] at rd5 ⊢
    simp only at rd5 ⊢
    have o5 := on5.out AO.out (Nat.lt_of_lt_of_le S4.out AWW.out) (Ne.symm HNE.out)
    have f1 := o5.2 4
    have f2 := o5.1.1 4 (by simp)
    replace f2 : u0.cell? ⟨w1.heap.size, 4, none⟩ = some (.int .i64 0) := f2
    have OS := Lib.hid (o5.set 4 (by simp) z4)
    have on6 := Only.setCell (Only.refl w1.heap.size u0) (p := ⟨w1.heap.size, 4, none⟩) rfl (.int .i64 z4)
    have RS := Lib.hid (rd5.only (Nat.lt_of_lt_of_le (Nat.lt_of_lt_of_le (show (w.heap.size + 1) < w4.heap.size from by have := S1.out; have := S4.out; omega) AWW.out) on5.size) HNE.out on6)
    have TS := Lib.hid ((AW.out.left on5).right on6)
    have WS := Lib.hid (Nat.le_trans AWW.out (Nat.le_trans on5.size on6.size))
    clear AO AR AW AWW o5 rd5 on5 on6
    go_wp2_with fail
    generalize u0.setCell ⟨w1.heap.size, 4, none⟩ (.int .i64 z4) = y0 at OS RS TS WS ⊢
    have AR := RS
    have AW := TS
    have AWW := WS
    have AO : Hid (Out y0 w1.heap.size [2, 0, 0, 0, z4, 0, 0, 0] [.string ⟨#[]⟩]) := OS
    clear OS RS TS WS f1 f2
    refine (RN.out s1 (w.heap.size + 1) _ AR.out).mono ?_
    rintro e u1 ⟨rfl, rd5, on5⟩
    rw [HE2.out] at rd5 ⊢
    simp only at rd5 ⊢
    have o5 := on5.out AO.out (Nat.lt_of_lt_of_le S4.out AWW.out) (Ne.symm HNE.out)
    have f1 := o5.2 2
    have f2 := o5.1.1 2 (by simp)
    replace f2 : u1.cell? ⟨w1.heap.size, 2, none⟩ = some (.int .i64 0) := f2
    have OS := Lib.hid (o5.set 2 (by simp) z2)
    have on6 := Only.setCell (Only.refl w1.heap.size u1) (p := ⟨w1.heap.size, 2, none⟩) rfl (.int .i64 z2)
    have RS := Lib.hid (rd5.only (Nat.lt_of_lt_of_le (Nat.lt_of_lt_of_le (show (w.heap.size + 1) < w4.heap.size from by have := S1.out; have := S4.out; omega) AWW.out) on5.size) HNE.out on6)
    have TS := Lib.hid ((AW.out.left on5).right on6)
    have WS := Lib.hid (Nat.le_trans AWW.out (Nat.le_trans on5.size on6.size))
    clear AO AR AW AWW o5 rd5 on5 on6
    go_wp2_with fail
    generalize u1.setCell ⟨w1.heap.size, 2, none⟩ (.int .i64 z2) = y1 at OS RS TS WS ⊢
    have AR := RS
    have AW := TS
    have AWW := WS
    have AO : Hid (Out y1 w1.heap.size [2, 0, z2, 0, z4, 0, 0, 0] [.string ⟨#[]⟩]) := OS
    clear OS RS TS WS f1 f2
    refine (RN.out s2 (w.heap.size + 1) _ AR.out).mono ?_
    rintro e u2 ⟨rfl, rd5, on5⟩
    rw [HE3.out] at rd5 ⊢
    simp only at rd5 ⊢
    have o5 := on5.out AO.out (Nat.lt_of_lt_of_le S4.out AWW.out) (Ne.symm HNE.out)
    have f1 := o5.2 5
    have f2 := o5.1.1 5 (by simp)
    replace f2 : u2.cell? ⟨w1.heap.size, 5, none⟩ = some (.int .i64 0) := f2
    have OS := Lib.hid (o5.set 5 (by simp) z5)
    have on6 := Only.setCell (Only.refl w1.heap.size u2) (p := ⟨w1.heap.size, 5, none⟩) rfl (.int .i64 z5)
    have RS := Lib.hid (rd5.only (Nat.lt_of_lt_of_le (Nat.lt_of_lt_of_le (show (w.heap.size + 1) < w4.heap.size from by have := S1.out; have := S4.out; omega) AWW.out) on5.size) HNE.out on6)
    have TS := Lib.hid ((AW.out.left on5).right on6)
    have WS := Lib.hid (Nat.le_trans AWW.out (Nat.le_trans on5.size on6.size))
    clear AO AR AW AWW o5 rd5 on5 on6
    go_upto_region 23 with (fail)
    generalize u2.setCell ⟨w1.heap.size, 5, none⟩ (.int .i64 z5) = y2 at OS RS TS WS ⊢
    have AR := RS
    have AW := TS
    have AWW := WS
    have AO : Hid (Out y2 w1.heap.size [2, 0, z2, 0, z4, z5, 0, 0] [.string ⟨#[]⟩]) := OS
    clear OS RS TS WS f1 f2
    have MY := Lib.hid (fun w => refPacketMay_any 2 0 z2 0 z4 z5 0 0 [] w)
    have HVD := Lib.hid (show ∀ g : List UInt8, g = [] → Value.string ⟨#[]⟩ = strV g from fun g h => by rw [h]; rfl)
    rw [show strV ([] : List UInt8) = .string ⟨#[]⟩ from rfl] at MY
    have HBW := Lib.hid (HB4.out.trans (AW.out.below (B := w.heap.size) (by omega) (by have := S1.out; omega) (by have := S1.out; have := S4.out; omega) (by have := S4.out; omega)))
    have HRW := Lib.hid (AW.out.out HR4.out (by have := S1.out; have := S4.out; omega) (by omega) (by have := S1.out; omega))
    have HNX := Lib.hid (show w.heap.size ≠ w1.heap.size from by have := S1.out; omega)
    clear AW
    obtain ⟨_, _, at_, bad, c1, c2, hst⟩ := AR.out
    clear AR
    cases bad
    · have HST := Lib.hid (show s3 = some at_ from hst)
      clear hst
      by_cases hat : at_ = (bs.size : Int)
      · have HDN : Hid (doneB l s3 = true) := Lib.hid (by rw [HST.out]; exact (doneB_iff l _).2 (by rw [hat, HLEN.out]))
        have hat2 : (at_ != (bs.size : Int)) = false := by simp [hat]
        clear hat
        have x0 : y2.cell? ⟨w1.heap.size, 0, none⟩ = some (.int .i64 2) := AO.out.1.1 0 (by simp)
        have x1 : y2.cell? ⟨w1.heap.size, 1, none⟩ = some (.int .i64 0) := AO.out.1.1 1 (by simp)
        have x2 : y2.cell? ⟨w1.heap.size, 2, none⟩ = some (.int .i64 z2) := AO.out.1.1 2 (by simp)
        have x3 : y2.cell? ⟨w1.heap.size, 3, none⟩ = some (.int .i64 0) := AO.out.1.1 3 (by simp)
        have x4 : y2.cell? ⟨w1.heap.size, 4, none⟩ = some (.int .i64 z4) := AO.out.1.1 4 (by simp)
        have x5 : y2.cell? ⟨w1.heap.size, 5, none⟩ = some (.int .i64 z5) := AO.out.1.1 5 (by simp)
        have x6 : y2.cell? ⟨w1.heap.size, 6, none⟩ = some (.int .i64 0) := AO.out.1.1 6 (by simp)
        have x7 : y2.cell? ⟨w1.heap.size, 7, none⟩ = some (.int .i64 0) := AO.out.1.1 7 (by simp)
        have x8 : y2.cell? ⟨w1.heap.size, 8, none⟩ = some (.string ⟨#[]⟩) := AO.out.1.2 0 (by simp)
        cases hmay : packetS.may [2, 0, z2, 0, z4, z5, 0, 0] []
        · have HMY := Lib.hid hmay
          have HOK0 : Hid (ok = false) := Lib.hid (by rw [HOK.out, HDN.out, hmay]; rfl)
          clear hmay
          have HC0 := Lib.hid (show gc = [0, 0, 0, 0, 0, 0, 0, 0] from by rw [HGC.out, HOK0.out]; rfl)
          have HD0 := Lib.hid (show gd = [] from by rw [HGD.out, HOK0.out]; rfl)
          go_wp2_with fail
          refine (show Calls Try.prog 39 #[.agg #[.int .i64 2, .int .i64 0, .int .i64 z2, .int .i64 0, .int .i64 z4, .int .i64 z5, .int .i64 0, .int .i64 0, .string ⟨#[]⟩]] y2 _ from MY.out y2).mono ?_
          rintro e w7 ⟨rfl, b7⟩
          rw [HMY.out]
          have O7 := Lib.hid (AO.out.below (World.block_lt_of_cell? _ _ x0) b7)
          have R7 := Lib.hid (HRW.out.below (World.block_lt_of_cell? _ _ (HRW.out.1.1 0 (by decide))) b7)
          have B7 := Lib.hid (HBW.out.trans (b7.mono HBW.out.size))
          clear b7 x0 x1 x2 x3 x4 x5 x6 x7 x8 c1 c2
          have r0 : w7.cell? ⟨w.heap.size, 0, none⟩ = some (.int .i64 0) := R7.out.1.1 0 (by decide)
          have z_0 := R7.out.2 0
          have r1 : w7.cell? ⟨w.heap.size, 1, none⟩ = some (.int .i64 0) := R7.out.1.1 1 (by decide)
          have z_1 := R7.out.2 1
          have r2 : w7.cell? ⟨w.heap.size, 2, none⟩ = some (.int .i64 0) := R7.out.1.1 2 (by decide)
          have z_2 := R7.out.2 2
          have r3 : w7.cell? ⟨w.heap.size, 3, none⟩ = some (.int .i64 0) := R7.out.1.1 3 (by decide)
          have z_3 := R7.out.2 3
          have r4 : w7.cell? ⟨w.heap.size, 4, none⟩ = some (.int .i64 0) := R7.out.1.1 4 (by decide)
          have z_4 := R7.out.2 4
          have r5 : w7.cell? ⟨w.heap.size, 5, none⟩ = some (.int .i64 0) := R7.out.1.1 5 (by decide)
          have z_5 := R7.out.2 5
          have r6 : w7.cell? ⟨w.heap.size, 6, none⟩ = some (.int .i64 0) := R7.out.1.1 6 (by decide)
          have z_6 := R7.out.2 6
          have r7 : w7.cell? ⟨w.heap.size, 7, none⟩ = some (.int .i64 0) := R7.out.1.1 7 (by decide)
          have z_7 := R7.out.2 7
          have r8 : w7.cell? ⟨w.heap.size, 8, none⟩ = some (.string ⟨#[]⟩) := R7.out.1.2 0 (by simp)
          have z_8 := R7.out.2 8
          go_wp2
          refine bodyPost_ret (v := .tuple #[recV [0, 0, 0, 0, 0, 0, 0, 0] [.string ⟨#[]⟩], .int .i64 400]) (by simp [results, Try.results37, go_sem, recV, recL, r0, r1, r2, r3, r4, r5, r6, r7, r8]) rfl ⟨by rw [HC0.out, HOK0.out, HD0.out]; rfl, ?_⟩
          exact (((((((((B7.out.setCell (Nat.le_refl _) _).setCell (Nat.le_refl _) _).setCell (Nat.le_refl _) _).setCell (Nat.le_refl _) _).setCell (Nat.le_refl _) _).setCell (Nat.le_refl _) _).setCell (Nat.le_refl _) _).setCell (Nat.le_refl _) _).setCell (Nat.le_refl _) _)
        · have HMY := Lib.hid hmay
          have HOK0 : Hid (ok = true) := Lib.hid (by rw [HOK.out, HDN.out, hmay]; rfl)
          clear hmay
          have HC0 := Lib.hid (show gc = [2, 0, z2, 0, z4, z5, 0, 0] from by rw [HGC.out, HOK0.out]; rfl)
          have HD0 := Lib.hid (show gd = [] from by rw [HGD.out, HOK0.out]; rfl)
          go_wp2_with fail
          refine (show Calls Try.prog 39 #[.agg #[.int .i64 2, .int .i64 0, .int .i64 z2, .int .i64 0, .int .i64 z4, .int .i64 z5, .int .i64 0, .int .i64 0, .string ⟨#[]⟩]] y2 _ from MY.out y2).mono ?_
          rintro e w7 ⟨rfl, b7⟩
          rw [HMY.out]
          have O7 := Lib.hid (AO.out.below (World.block_lt_of_cell? _ _ x0) b7)
          have R7 := Lib.hid (HRW.out.below (World.block_lt_of_cell? _ _ (HRW.out.1.1 0 (by decide))) b7)
          have B7 := Lib.hid (HBW.out.trans (b7.mono HBW.out.size))
          clear b7 x0 x1 x2 x3 x4 x5 x6 x7 x8 c1 c2
          have x0 : w7.cell? ⟨w1.heap.size, 0, none⟩ = some (.int .i64 2) := O7.out.1.1 0 (by simp)
          have x1 : w7.cell? ⟨w1.heap.size, 1, none⟩ = some (.int .i64 0) := O7.out.1.1 1 (by simp)
          have x2 : w7.cell? ⟨w1.heap.size, 2, none⟩ = some (.int .i64 z2) := O7.out.1.1 2 (by simp)
          have x3 : w7.cell? ⟨w1.heap.size, 3, none⟩ = some (.int .i64 0) := O7.out.1.1 3 (by simp)
          have x4 : w7.cell? ⟨w1.heap.size, 4, none⟩ = some (.int .i64 z4) := O7.out.1.1 4 (by simp)
          have x5 : w7.cell? ⟨w1.heap.size, 5, none⟩ = some (.int .i64 z5) := O7.out.1.1 5 (by simp)
          have x6 : w7.cell? ⟨w1.heap.size, 6, none⟩ = some (.int .i64 0) := O7.out.1.1 6 (by simp)
          have x7 : w7.cell? ⟨w1.heap.size, 7, none⟩ = some (.int .i64 0) := O7.out.1.1 7 (by simp)
          have x8 : w7.cell? ⟨w1.heap.size, 8, none⟩ = some (.string ⟨#[]⟩) := O7.out.1.2 0 (by simp)
          have r0 : w7.cell? ⟨w.heap.size, 0, none⟩ = some (.int .i64 0) := R7.out.1.1 0 (by decide)
          have z_0 := R7.out.2 0
          have r1 : w7.cell? ⟨w.heap.size, 1, none⟩ = some (.int .i64 0) := R7.out.1.1 1 (by decide)
          have z_1 := R7.out.2 1
          have r2 : w7.cell? ⟨w.heap.size, 2, none⟩ = some (.int .i64 0) := R7.out.1.1 2 (by decide)
          have z_2 := R7.out.2 2
          have r3 : w7.cell? ⟨w.heap.size, 3, none⟩ = some (.int .i64 0) := R7.out.1.1 3 (by decide)
          have z_3 := R7.out.2 3
          have r4 : w7.cell? ⟨w.heap.size, 4, none⟩ = some (.int .i64 0) := R7.out.1.1 4 (by decide)
          have z_4 := R7.out.2 4
          have r5 : w7.cell? ⟨w.heap.size, 5, none⟩ = some (.int .i64 0) := R7.out.1.1 5 (by decide)
          have z_5 := R7.out.2 5
          have r6 : w7.cell? ⟨w.heap.size, 6, none⟩ = some (.int .i64 0) := R7.out.1.1 6 (by decide)
          have z_6 := R7.out.2 6
          have r7 : w7.cell? ⟨w.heap.size, 7, none⟩ = some (.int .i64 0) := R7.out.1.1 7 (by decide)
          have z_7 := R7.out.2 7
          have r8 : w7.cell? ⟨w.heap.size, 8, none⟩ = some (.string ⟨#[]⟩) := R7.out.1.2 0 (by simp)
          have z_8 := R7.out.2 8
          have hne2 := HNX.out
          go_wp2
          refine bodyPost_ret (v := .tuple #[recV [2, 0, z2, 0, z4, z5, 0, 0] [.string ⟨#[]⟩], .int .i64 0]) (by simp [results, Try.results37, go_sem, recV, recL, r0, r1, r2, r3, r4, r5, r6, r7, r8]) rfl ⟨by rw [HC0.out, HOK0.out, HVD.out gd HD0.out]; rfl, ?_⟩
          exact (((((((((B7.out.setCell (Nat.le_refl _) _).setCell (Nat.le_refl _) _).setCell (Nat.le_refl _) _).setCell (Nat.le_refl _) _).setCell (Nat.le_refl _) _).setCell (Nat.le_refl _) _).setCell (Nat.le_refl _) _).setCell (Nat.le_refl _) _).setCell (Nat.le_refl _) _)
      · have HDN : Hid (doneB l s3 = false) := Lib.hid (by
          rw [HST.out]
          cases e : doneB l (some at_)
          · rfl
          · have h2 := (doneB_iff l (some at_)).1 e
            injection h2 with h2
            exact absurd (h2.trans (by rw [← HLEN.out])) hat)
        have HOK0 : Hid (ok = false) := Lib.hid (by rw [HOK.out, HDN.out]; rfl)
        have hat2 : (at_ != (bs.size : Int)) = true := by simp [hat]
        clear hat
        have HC0 := Lib.hid (show gc = [0, 0, 0, 0, 0, 0, 0, 0] from by rw [HGC.out, HOK0.out]; rfl)
        have HD0 := Lib.hid (show gd = [] from by rw [HGD.out, HOK0.out]; rfl)
        have r0 : y2.cell? ⟨w.heap.size, 0, none⟩ = some (.int .i64 0) := HRW.out.1.1 0 (by decide)
        have z_0 := HRW.out.2 0
        have r1 : y2.cell? ⟨w.heap.size, 1, none⟩ = some (.int .i64 0) := HRW.out.1.1 1 (by decide)
        have z_1 := HRW.out.2 1
        have r2 : y2.cell? ⟨w.heap.size, 2, none⟩ = some (.int .i64 0) := HRW.out.1.1 2 (by decide)
        have z_2 := HRW.out.2 2
        have r3 : y2.cell? ⟨w.heap.size, 3, none⟩ = some (.int .i64 0) := HRW.out.1.1 3 (by decide)
        have z_3 := HRW.out.2 3
        have r4 : y2.cell? ⟨w.heap.size, 4, none⟩ = some (.int .i64 0) := HRW.out.1.1 4 (by decide)
        have z_4 := HRW.out.2 4
        have r5 : y2.cell? ⟨w.heap.size, 5, none⟩ = some (.int .i64 0) := HRW.out.1.1 5 (by decide)
        have z_5 := HRW.out.2 5
        have r6 : y2.cell? ⟨w.heap.size, 6, none⟩ = some (.int .i64 0) := HRW.out.1.1 6 (by decide)
        have z_6 := HRW.out.2 6
        have r7 : y2.cell? ⟨w.heap.size, 7, none⟩ = some (.int .i64 0) := HRW.out.1.1 7 (by decide)
        have z_7 := HRW.out.2 7
        have r8 : y2.cell? ⟨w.heap.size, 8, none⟩ = some (.string ⟨#[]⟩) := HRW.out.1.2 0 (by simp)
        have z_8 := HRW.out.2 8
        go_wp2
        refine bodyPost_ret (v := .tuple #[recV [0, 0, 0, 0, 0, 0, 0, 0] [.string ⟨#[]⟩], .int .i64 400]) (by simp [results, Try.results37, go_sem, recV, recL, r0, r1, r2, r3, r4, r5, r6, r7, r8]) rfl ⟨by rw [HC0.out, HOK0.out, HD0.out]; rfl, ?_⟩
        exact (((((((((HBW.out.setCell (Nat.le_refl _) _).setCell (Nat.le_refl _) _).setCell (Nat.le_refl _) _).setCell (Nat.le_refl _) _).setCell (Nat.le_refl _) _).setCell (Nat.le_refl _) _).setCell (Nat.le_refl _) _).setCell (Nat.le_refl _) _).setCell (Nat.le_refl _) _)
    · have HDN : Hid (doneB l s3 = false) := Lib.hid (by rw [show s3 = none from hst]; rfl)
      clear hst
      have HOK0 : Hid (ok = false) := Lib.hid (by rw [HOK.out, HDN.out]; rfl)
      have HC0 := Lib.hid (show gc = [0, 0, 0, 0, 0, 0, 0, 0] from by rw [HGC.out, HOK0.out]; rfl)
      have HD0 := Lib.hid (show gd = [] from by rw [HGD.out, HOK0.out]; rfl)
      have r0 : y2.cell? ⟨w.heap.size, 0, none⟩ = some (.int .i64 0) := HRW.out.1.1 0 (by decide)
      have z_0 := HRW.out.2 0
      have r1 : y2.cell? ⟨w.heap.size, 1, none⟩ = some (.int .i64 0) := HRW.out.1.1 1 (by decide)
      have z_1 := HRW.out.2 1
      have r2 : y2.cell? ⟨w.heap.size, 2, none⟩ = some (.int .i64 0) := HRW.out.1.1 2 (by decide)
      have z_2 := HRW.out.2 2
      have r3 : y2.cell? ⟨w.heap.size, 3, none⟩ = some (.int .i64 0) := HRW.out.1.1 3 (by decide)
      have z_3 := HRW.out.2 3
      have r4 : y2.cell? ⟨w.heap.size, 4, none⟩ = some (.int .i64 0) := HRW.out.1.1 4 (by decide)
      have z_4 := HRW.out.2 4
      have r5 : y2.cell? ⟨w.heap.size, 5, none⟩ = some (.int .i64 0) := HRW.out.1.1 5 (by decide)
      have z_5 := HRW.out.2 5
      have r6 : y2.cell? ⟨w.heap.size, 6, none⟩ = some (.int .i64 0) := HRW.out.1.1 6 (by decide)
      have z_6 := HRW.out.2 6
      have r7 : y2.cell? ⟨w.heap.size, 7, none⟩ = some (.int .i64 0) := HRW.out.1.1 7 (by decide)
      have z_7 := HRW.out.2 7
      have r8 : y2.cell? ⟨w.heap.size, 8, none⟩ = some (.string ⟨#[]⟩) := HRW.out.1.2 0 (by simp)
      have z_8 := HRW.out.2 8
      go_wp2
      refine bodyPost_ret (v := .tuple #[recV [0, 0, 0, 0, 0, 0, 0, 0] [.string ⟨#[]⟩], .int .i64 400]) (by simp [results, Try.results37, go_sem, recV, recL, r0, r1, r2, r3, r4, r5, r6, r7, r8]) rfl ⟨by rw [HC0.out, HOK0.out, HD0.out]; rfl, ?_⟩
      exact (((((((((HBW.out.setCell (Nat.le_refl _) _).setCell (Nat.le_refl _) _).setCell (Nat.le_refl _) _).setCell (Nat.le_refl _) _).setCell (Nat.le_refl _) _).setCell (Nat.le_refl _) _).setCell (Nat.le_refl _) _).setCell (Nat.le_refl _) _).setCell (Nat.le_refl _) _)
  · have HIX := Lib.hid (show packetIdx 3 = [6, 7, 4] from rfl)
    have HTX := Lib.hid (show packetS.txt 3 = true from by decide)
    obtain ⟨z6, s1, he1⟩ : ∃ z s, rdNum l st1 = (z, s) := ⟨_, _, rfl⟩
    obtain ⟨z7, s2, he2⟩ : ∃ z s, rdNum l s1 = (z, s) := ⟨_, _, rfl⟩
    obtain ⟨z4, s3, he3⟩ : ∃ z s, rdNum l s2 = (z, s) := ⟨_, _, rfl⟩
    have HF := Lib.hid (show rdFold l (packetIdx 3) [3, 0, 0, 0, 0, 0, 0, 0] st1 = ([3, 0, 0, 0, z4, 0, z6, z7], s3) from by rw [HIX.out]; simp only [rdFold_cons, he1, he2, he3]; rfl)
    rw [HF.out] at HOK HGC HGD
    rw [HTX.out] at HOK HGD
    obtain ⟨dv, sd, hed⟩ : ∃ dv sd, rdText l s3 = (dv, sd) := ⟨_, _, rfl⟩
    rw [if_pos rfl, hed] at HOK HGD
    replace HOK : Hid (ok = (doneB l sd && packetS.may [3, 0, 0, 0, z4, 0, z6, z7] dv)) := HOK
    replace HGC : Hid (gc = if ok = true then [3, 0, 0, 0, z4, 0, z6, z7] else [0, 0, 0, 0, 0, 0, 0, 0]) := HGC
    replace HGD : Hid (gd = if ok = true then dv else []) := Lib.hid (HGD.out.trans (by cases ok <;> rfl))
    have HE1 := Lib.hid he1
    have HE2 := Lib.hid he2
    have HE3 := Lib.hid he3
    have HED := Lib.hid hed
    clear HF HIX HTX he1 he2 he3 hed
    have AO := O2
    have AR := RD4
    have AW := Lib.hid (Two.refl (w.heap.size + 1) w1.heap.size (w1.alloc (.cells #[.int .i64 3, .int .i64 0, .int .i64 0, .int .i64 0, .int .i64 0, .int .i64 0, .int .i64 0, .int .i64 0, .string ⟨#[]⟩] 56)))
    have SW := Lib.hid (show (w1.alloc (.cells #[.int .i64 3, .int .i64 0, .int .i64 0, .int .i64 0, .int .i64 0, .int .i64 0, .int .i64 0, .int .i64 0, .string ⟨#[]⟩] 56)).heap.size = w1.heap.size + 1 from by simp)
    clear O2 RD4 S2
    go_wp2_with fail
    have HR4 := R4
    have HB4 := B4
    generalize (w1.alloc (.cells #[.int .i64 3, .int .i64 0, .int .i64 0, .int .i64 0, .int .i64 0, .int .i64 0, .int .i64 0, .int .i64 0, .string ⟨#[]⟩] 56)) = w4 at AO AR AW SW HR4 HB4 ⊢
    clear R4 B4
    have S4 := Lib.hid (show w1.heap.size + 1 ≤ w4.heap.size from by rw [SW.out]; omega)
    clear SW
    have AWW := Lib.hid (Nat.le_refl w4.heap.size)
    refine (RN.out st1 (w.heap.size + 1) _ AR.out).mono ?_
    rintro e u0 ⟨rfl, rd5, on5⟩
    rw [HE1.out] at rd5 ⊢
    simp only at rd5 ⊢
    have o5 := on5.out AO.out (Nat.lt_of_lt_of_le S4.out AWW.out) (Ne.symm HNE.out)
    have f1 := o5.2 6
    have f2 := o5.1.1 6 (by simp)
    replace f2 : u0.cell? ⟨w1.heap.size, 6, none⟩ = some (.int .i64 0) := f2
    have OS := Lib.hid (o5.set 6 (by simp) z6)
    have on6 := Only.setCell (Only.refl w1.heap.size u0) (p := ⟨w1.heap.size, 6, none⟩) rfl (.int .i64 z6)
    have RS := Lib.hid (rd5.only (Nat.lt_of_lt_of_le (Nat.lt_of_lt_of_le (show (w.heap.size + 1) < w4.heap.size from by have := S1.out; have := S4.out; omega) AWW.out) on5.size) HNE.out on6)
    have TS := Lib.hid ((AW.out.left on5).right on6)
    have WS := Lib.hid (Nat.le_trans AWW.out (Nat.le_trans on5.size on6.size))
    clear AO AR AW AWW o5 rd5 on5 on6
    go_wp2_with fail
    generalize u0.setCell ⟨w1.heap.size, 6, none⟩ (.int .i64 z6) = y0 at OS RS TS WS ⊢
    have AR := RS
    have AW := TS
    have AWW := WS
    have AO : Hid (Out y0 w1.heap.size [3, 0, 0, 0, 0, 0, z6, 0] [.string ⟨#[]⟩]) := OS
    clear OS RS TS WS f1 f2
    refine (RN.out s1 (w.heap.size + 1) _ AR.out).mono ?_
    rintro e u1 ⟨rfl, rd5, on5⟩
    rw [HE2.out] at rd5 ⊢
    simp only at rd5 ⊢
    have o5 := on5.out AO.out (Nat.lt_of_lt_of_le S4.out AWW.out) (Ne.symm HNE.out)
    have f1 := o5.2 7
    have f2 := o5.1.1 7 (by simp)
    replace f2 : u1.cell? ⟨w1.heap.size, 7, none⟩ = some (.int .i64 0) := f2
    have OS := Lib.hid (o5.set 7 (by simp) z7)
    have on6 := Only.setCell (Only.refl w1.heap.size u1) (p := ⟨w1.heap.size, 7, none⟩) rfl (.int .i64 z7)
    have RS := Lib.hid (rd5.only (Nat.lt_of_lt_of_le (Nat.lt_of_lt_of_le (show (w.heap.size + 1) < w4.heap.size from by have := S1.out; have := S4.out; omega) AWW.out) on5.size) HNE.out on6)
    have TS := Lib.hid ((AW.out.left on5).right on6)
    have WS := Lib.hid (Nat.le_trans AWW.out (Nat.le_trans on5.size on6.size))
    clear AO AR AW AWW o5 rd5 on5 on6
    go_wp2_with fail
    generalize u1.setCell ⟨w1.heap.size, 7, none⟩ (.int .i64 z7) = y1 at OS RS TS WS ⊢
    have AR := RS
    have AW := TS
    have AWW := WS
    have AO : Hid (Out y1 w1.heap.size [3, 0, 0, 0, 0, 0, z6, z7] [.string ⟨#[]⟩]) := OS
    clear OS RS TS WS f1 f2
    refine (RN.out s2 (w.heap.size + 1) _ AR.out).mono ?_
    rintro e u2 ⟨rfl, rd5, on5⟩
    rw [HE3.out] at rd5 ⊢
    simp only at rd5 ⊢
    have o5 := on5.out AO.out (Nat.lt_of_lt_of_le S4.out AWW.out) (Ne.symm HNE.out)
    have f1 := o5.2 4
    have f2 := o5.1.1 4 (by simp)
    replace f2 : u2.cell? ⟨w1.heap.size, 4, none⟩ = some (.int .i64 0) := f2
    have OS := Lib.hid (o5.set 4 (by simp) z4)
    have on6 := Only.setCell (Only.refl w1.heap.size u2) (p := ⟨w1.heap.size, 4, none⟩) rfl (.int .i64 z4)
    have RS := Lib.hid (rd5.only (Nat.lt_of_lt_of_le (Nat.lt_of_lt_of_le (show (w.heap.size + 1) < w4.heap.size from by have := S1.out; have := S4.out; omega) AWW.out) on5.size) HNE.out on6)
    have TS := Lib.hid ((AW.out.left on5).right on6)
    have WS := Lib.hid (Nat.le_trans AWW.out (Nat.le_trans on5.size on6.size))
    clear AO AR AW AWW o5 rd5 on5 on6
    go_wp2_with fail
    generalize u2.setCell ⟨w1.heap.size, 4, none⟩ (.int .i64 z4) = y2 at OS RS TS WS ⊢
    have AR := RS
    have AW := TS
    have AWW := WS
    have AO : Hid (Out y2 w1.heap.size [3, 0, 0, 0, z4, 0, z6, z7] [.string ⟨#[]⟩]) := OS
    clear OS RS TS WS f1 f2
    refine (RT.out s3 (w.heap.size + 1) _ AR.out).mono ?_
    rintro e ud ⟨rfl, rd5, on5⟩
    rw [HED.out] at rd5 ⊢
    simp only at rd5 ⊢
    have o5 := on5.out AO.out (Nat.lt_of_lt_of_le S4.out AWW.out) (Ne.symm HNE.out)
    have f1 := o5.2 8
    have f2 : ud.cell? ⟨w1.heap.size, 8, none⟩ = some (.string ⟨#[]⟩) := o5.1.2 0 (by simp)
    have OS : Hid (Out (ud.setCell ⟨w1.heap.size, 8, none⟩ (strV dv)) w1.heap.size [3, 0, 0, 0, z4, 0, z6, z7] [strV dv]) := Lib.hid (o5.setT 0 (by simp) (strV dv))
    have on6 := Only.setCell (Only.refl w1.heap.size ud) (p := ⟨w1.heap.size, 8, none⟩) rfl (strV dv)
    have RS := Lib.hid (rd5.only (Nat.lt_of_lt_of_le (Nat.lt_of_lt_of_le (show (w.heap.size + 1) < w4.heap.size from by have := S1.out; have := S4.out; omega) AWW.out) on5.size) HNE.out on6)
    have TS := Lib.hid ((AW.out.left on5).right on6)
    have WS := Lib.hid (Nat.le_trans AWW.out (Nat.le_trans on5.size on6.size))
    clear AO AR AW AWW o5 rd5 on5 on6
    have MY := Lib.hid (fun w => refPacketMay_any 3 0 0 0 z4 0 z6 z7 dv w)
    rw [show strV dv = .string ⟨dv.toArray⟩ from rfl] at OS RS TS WS MY ⊢
    have HVD := Lib.hid (show ∀ g : List UInt8, g = dv → Value.string ⟨dv.toArray⟩ = strV g from fun g h => by rw [h]; rfl)
    generalize (⟨dv.toArray⟩ : ByteArray) = xs at OS RS TS WS MY HVD ⊢
    go_upto_region 23 with (fail)
    generalize ud.setCell ⟨w1.heap.size, 8, none⟩ (.string xs) = yd at OS RS TS WS ⊢
    have AO := OS
    have AR := RS
    have AW := TS
    have AWW := WS
    clear OS RS TS WS f1 f2
    have HBW := Lib.hid (HB4.out.trans (AW.out.below (B := w.heap.size) (by omega) (by have := S1.out; omega) (by have := S1.out; have := S4.out; omega) (by have := S4.out; omega)))
    have HRW := Lib.hid (AW.out.out HR4.out (by have := S1.out; have := S4.out; omega) (by omega) (by have := S1.out; omega))
    have HNX := Lib.hid (show w.heap.size ≠ w1.heap.size from by have := S1.out; omega)
    clear AW
    obtain ⟨_, _, at_, bad, c1, c2, hst⟩ := AR.out
    clear AR
    cases bad
    · have HST := Lib.hid (show sd = some at_ from hst)
      clear hst
      by_cases hat : at_ = (bs.size : Int)
      · have HDN : Hid (doneB l sd = true) := Lib.hid (by rw [HST.out]; exact (doneB_iff l _).2 (by rw [hat, HLEN.out]))
        have hat2 : (at_ != (bs.size : Int)) = false := by simp [hat]
        clear hat
        have x0 : yd.cell? ⟨w1.heap.size, 0, none⟩ = some (.int .i64 3) := AO.out.1.1 0 (by simp)
        have x1 : yd.cell? ⟨w1.heap.size, 1, none⟩ = some (.int .i64 0) := AO.out.1.1 1 (by simp)
        have x2 : yd.cell? ⟨w1.heap.size, 2, none⟩ = some (.int .i64 0) := AO.out.1.1 2 (by simp)
        have x3 : yd.cell? ⟨w1.heap.size, 3, none⟩ = some (.int .i64 0) := AO.out.1.1 3 (by simp)
        have x4 : yd.cell? ⟨w1.heap.size, 4, none⟩ = some (.int .i64 z4) := AO.out.1.1 4 (by simp)
        have x5 : yd.cell? ⟨w1.heap.size, 5, none⟩ = some (.int .i64 0) := AO.out.1.1 5 (by simp)
        have x6 : yd.cell? ⟨w1.heap.size, 6, none⟩ = some (.int .i64 z6) := AO.out.1.1 6 (by simp)
        have x7 : yd.cell? ⟨w1.heap.size, 7, none⟩ = some (.int .i64 z7) := AO.out.1.1 7 (by simp)
        have x8 : yd.cell? ⟨w1.heap.size, 8, none⟩ = some (.string xs) := AO.out.1.2 0 (by simp)
        cases hmay : packetS.may [3, 0, 0, 0, z4, 0, z6, z7] dv
        · have HMY := Lib.hid hmay
          have HOK0 : Hid (ok = false) := Lib.hid (by rw [HOK.out, HDN.out, hmay]; rfl)
          clear hmay
          have HC0 := Lib.hid (show gc = [0, 0, 0, 0, 0, 0, 0, 0] from by rw [HGC.out, HOK0.out]; rfl)
          have HD0 := Lib.hid (show gd = [] from by rw [HGD.out, HOK0.out]; rfl)
          go_wp2_with fail
          refine (show Calls Try.prog 39 #[.agg #[.int .i64 3, .int .i64 0, .int .i64 0, .int .i64 0, .int .i64 z4, .int .i64 0, .int .i64 z6, .int .i64 z7, .string xs]] yd _ from MY.out yd).mono ?_
          rintro e w7 ⟨rfl, b7⟩
          rw [HMY.out]
          have O7 := Lib.hid (AO.out.below (World.block_lt_of_cell? _ _ x0) b7)
          have R7 := Lib.hid (HRW.out.below (World.block_lt_of_cell? _ _ (HRW.out.1.1 0 (by decide))) b7)
          have B7 := Lib.hid (HBW.out.trans (b7.mono HBW.out.size))
          clear b7 x0 x1 x2 x3 x4 x5 x6 x7 x8 c1 c2
          have r0 : w7.cell? ⟨w.heap.size, 0, none⟩ = some (.int .i64 0) := R7.out.1.1 0 (by decide)
          have z_0 := R7.out.2 0
          have r1 : w7.cell? ⟨w.heap.size, 1, none⟩ = some (.int .i64 0) := R7.out.1.1 1 (by decide)
          have z_1 := R7.out.2 1
          have r2 : w7.cell? ⟨w.heap.size, 2, none⟩ = some (.int .i64 0) := R7.out.1.1 2 (by decide)
          have z_2 := R7.out.2 2
          have r3 : w7.cell? ⟨w.heap.size, 3, none⟩ = some (.int .i64 0) := R7.out.1.1 3 (by decide)
          have z_3 := R7.out.2 3
          have r4 : w7.cell? ⟨w.heap.size, 4, none⟩ = some (.int .i64 0) := R7.out.1.1 4 (by decide)
          have z_4 := R7.out.2 4
          have r5 : w7.cell? ⟨w.heap.size, 5, none⟩ = some (.int .i64 0) := R7.out.1.1 5 (by decide)
          have z_5 := R7.out.2 5
          have r6 : w7.cell? ⟨w.heap.size, 6, none⟩ = some (.int .i64 0) := R7.out.1.1 6 (by decide)
          have z_6 := R7.out.2 6
          have r7 : w7.cell? ⟨w.heap.size, 7, none⟩ = some (.int .i64 0) := R7.out.1.1 7 (by decide)
          have z_7 := R7.out.2 7
          have r8 : w7.cell? ⟨w.heap.size, 8, none⟩ = some (.string ⟨#[]⟩) := R7.out.1.2 0 (by simp)
          have z_8 := R7.out.2 8
          go_wp2
          refine bodyPost_ret (v := .tuple #[recV [0, 0, 0, 0, 0, 0, 0, 0] [.string ⟨#[]⟩], .int .i64 400]) (by simp [results, Try.results37, go_sem, recV, recL, r0, r1, r2, r3, r4, r5, r6, r7, r8]) rfl ⟨by rw [HC0.out, HOK0.out, HD0.out]; rfl, ?_⟩
          exact (((((((((B7.out.setCell (Nat.le_refl _) _).setCell (Nat.le_refl _) _).setCell (Nat.le_refl _) _).setCell (Nat.le_refl _) _).setCell (Nat.le_refl _) _).setCell (Nat.le_refl _) _).setCell (Nat.le_refl _) _).setCell (Nat.le_refl _) _).setCell (Nat.le_refl _) _)
        · have HMY := Lib.hid hmay
          have HOK0 : Hid (ok = true) := Lib.hid (by rw [HOK.out, HDN.out, hmay]; rfl)
          clear hmay
          have HC0 := Lib.hid (show gc = [3, 0, 0, 0, z4, 0, z6, z7] from by rw [HGC.out, HOK0.out]; rfl)
          have HD0 := Lib.hid (show gd = dv from by rw [HGD.out, HOK0.out]; rfl)
          go_wp2_with fail
          refine (show Calls Try.prog 39 #[.agg #[.int .i64 3, .int .i64 0, .int .i64 0, .int .i64 0, .int .i64 z4, .int .i64 0, .int .i64 z6, .int .i64 z7, .string xs]] yd _ from MY.out yd).mono ?_
          rintro e w7 ⟨rfl, b7⟩
          rw [HMY.out]
          have O7 := Lib.hid (AO.out.below (World.block_lt_of_cell? _ _ x0) b7)
          have R7 := Lib.hid (HRW.out.below (World.block_lt_of_cell? _ _ (HRW.out.1.1 0 (by decide))) b7)
          have B7 := Lib.hid (HBW.out.trans (b7.mono HBW.out.size))
          clear b7 x0 x1 x2 x3 x4 x5 x6 x7 x8 c1 c2
          have x0 : w7.cell? ⟨w1.heap.size, 0, none⟩ = some (.int .i64 3) := O7.out.1.1 0 (by simp)
          have x1 : w7.cell? ⟨w1.heap.size, 1, none⟩ = some (.int .i64 0) := O7.out.1.1 1 (by simp)
          have x2 : w7.cell? ⟨w1.heap.size, 2, none⟩ = some (.int .i64 0) := O7.out.1.1 2 (by simp)
          have x3 : w7.cell? ⟨w1.heap.size, 3, none⟩ = some (.int .i64 0) := O7.out.1.1 3 (by simp)
          have x4 : w7.cell? ⟨w1.heap.size, 4, none⟩ = some (.int .i64 z4) := O7.out.1.1 4 (by simp)
          have x5 : w7.cell? ⟨w1.heap.size, 5, none⟩ = some (.int .i64 0) := O7.out.1.1 5 (by simp)
          have x6 : w7.cell? ⟨w1.heap.size, 6, none⟩ = some (.int .i64 z6) := O7.out.1.1 6 (by simp)
          have x7 : w7.cell? ⟨w1.heap.size, 7, none⟩ = some (.int .i64 z7) := O7.out.1.1 7 (by simp)
          have x8 : w7.cell? ⟨w1.heap.size, 8, none⟩ = some (.string xs) := O7.out.1.2 0 (by simp)
          have r0 : w7.cell? ⟨w.heap.size, 0, none⟩ = some (.int .i64 0) := R7.out.1.1 0 (by decide)
          have z_0 := R7.out.2 0
          have r1 : w7.cell? ⟨w.heap.size, 1, none⟩ = some (.int .i64 0) := R7.out.1.1 1 (by decide)
          have z_1 := R7.out.2 1
          have r2 : w7.cell? ⟨w.heap.size, 2, none⟩ = some (.int .i64 0) := R7.out.1.1 2 (by decide)
          have z_2 := R7.out.2 2
          have r3 : w7.cell? ⟨w.heap.size, 3, none⟩ = some (.int .i64 0) := R7.out.1.1 3 (by decide)
          have z_3 := R7.out.2 3
          have r4 : w7.cell? ⟨w.heap.size, 4, none⟩ = some (.int .i64 0) := R7.out.1.1 4 (by decide)
          have z_4 := R7.out.2 4
          have r5 : w7.cell? ⟨w.heap.size, 5, none⟩ = some (.int .i64 0) := R7.out.1.1 5 (by decide)
          have z_5 := R7.out.2 5
          have r6 : w7.cell? ⟨w.heap.size, 6, none⟩ = some (.int .i64 0) := R7.out.1.1 6 (by decide)
          have z_6 := R7.out.2 6
          have r7 : w7.cell? ⟨w.heap.size, 7, none⟩ = some (.int .i64 0) := R7.out.1.1 7 (by decide)
          have z_7 := R7.out.2 7
          have r8 : w7.cell? ⟨w.heap.size, 8, none⟩ = some (.string ⟨#[]⟩) := R7.out.1.2 0 (by simp)
          have z_8 := R7.out.2 8
          have hne2 := HNX.out
          go_wp2
          refine bodyPost_ret (v := .tuple #[recV [3, 0, 0, 0, z4, 0, z6, z7] [.string xs], .int .i64 0]) (by simp [results, Try.results37, go_sem, recV, recL, r0, r1, r2, r3, r4, r5, r6, r7, r8]) rfl ⟨by rw [HC0.out, HOK0.out, HVD.out gd HD0.out]; rfl, ?_⟩
          exact (((((((((B7.out.setCell (Nat.le_refl _) _).setCell (Nat.le_refl _) _).setCell (Nat.le_refl _) _).setCell (Nat.le_refl _) _).setCell (Nat.le_refl _) _).setCell (Nat.le_refl _) _).setCell (Nat.le_refl _) _).setCell (Nat.le_refl _) _).setCell (Nat.le_refl _) _)
      · have HDN : Hid (doneB l sd = false) := Lib.hid (by
          rw [HST.out]
          cases e : doneB l (some at_)
          · rfl
          · have h2 := (doneB_iff l (some at_)).1 e
            injection h2 with h2
            exact absurd (h2.trans (by rw [← HLEN.out])) hat)
        have HOK0 : Hid (ok = false) := Lib.hid (by rw [HOK.out, HDN.out]; rfl)
        have hat2 : (at_ != (bs.size : Int)) = true := by simp [hat]
        clear hat
        have HC0 := Lib.hid (show gc = [0, 0, 0, 0, 0, 0, 0, 0] from by rw [HGC.out, HOK0.out]; rfl)
        have HD0 := Lib.hid (show gd = [] from by rw [HGD.out, HOK0.out]; rfl)
        have r0 : yd.cell? ⟨w.heap.size, 0, none⟩ = some (.int .i64 0) := HRW.out.1.1 0 (by decide)
        have z_0 := HRW.out.2 0
        have r1 : yd.cell? ⟨w.heap.size, 1, none⟩ = some (.int .i64 0) := HRW.out.1.1 1 (by decide)
        have z_1 := HRW.out.2 1
        have r2 : yd.cell? ⟨w.heap.size, 2, none⟩ = some (.int .i64 0) := HRW.out.1.1 2 (by decide)
        have z_2 := HRW.out.2 2
        have r3 : yd.cell? ⟨w.heap.size, 3, none⟩ = some (.int .i64 0) := HRW.out.1.1 3 (by decide)
        have z_3 := HRW.out.2 3
        have r4 : yd.cell? ⟨w.heap.size, 4, none⟩ = some (.int .i64 0) := HRW.out.1.1 4 (by decide)
        have z_4 := HRW.out.2 4
        have r5 : yd.cell? ⟨w.heap.size, 5, none⟩ = some (.int .i64 0) := HRW.out.1.1 5 (by decide)
        have z_5 := HRW.out.2 5
        have r6 : yd.cell? ⟨w.heap.size, 6, none⟩ = some (.int .i64 0) := HRW.out.1.1 6 (by decide)
        have z_6 := HRW.out.2 6
        have r7 : yd.cell? ⟨w.heap.size, 7, none⟩ = some (.int .i64 0) := HRW.out.1.1 7 (by decide)
        have z_7 := HRW.out.2 7
        have r8 : yd.cell? ⟨w.heap.size, 8, none⟩ = some (.string ⟨#[]⟩) := HRW.out.1.2 0 (by simp)
        have z_8 := HRW.out.2 8
        go_wp2
        refine bodyPost_ret (v := .tuple #[recV [0, 0, 0, 0, 0, 0, 0, 0] [.string ⟨#[]⟩], .int .i64 400]) (by simp [results, Try.results37, go_sem, recV, recL, r0, r1, r2, r3, r4, r5, r6, r7, r8]) rfl ⟨by rw [HC0.out, HOK0.out, HD0.out]; rfl, ?_⟩
        exact (((((((((HBW.out.setCell (Nat.le_refl _) _).setCell (Nat.le_refl _) _).setCell (Nat.le_refl _) _).setCell (Nat.le_refl _) _).setCell (Nat.le_refl _) _).setCell (Nat.le_refl _) _).setCell (Nat.le_refl _) _).setCell (Nat.le_refl _) _).setCell (Nat.le_refl _) _)
    · have HDN : Hid (doneB l sd = false) := Lib.hid (by rw [show sd = none from hst]; rfl)
      clear hst
      have HOK0 : Hid (ok = false) := Lib.hid (by rw [HOK.out, HDN.out]; rfl)
      have HC0 := Lib.hid (show gc = [0, 0, 0, 0, 0, 0, 0, 0] from by rw [HGC.out, HOK0.out]; rfl)
      have HD0 := Lib.hid (show gd = [] from by rw [HGD.out, HOK0.out]; rfl)
      have r0 : yd.cell? ⟨w.heap.size, 0, none⟩ = some (.int .i64 0) := HRW.out.1.1 0 (by decide)
      have z_0 := HRW.out.2 0
      have r1 : yd.cell? ⟨w.heap.size, 1, none⟩ = some (.int .i64 0) := HRW.out.1.1 1 (by decide)
      have z_1 := HRW.out.2 1
      have r2 : yd.cell? ⟨w.heap.size, 2, none⟩ = some (.int .i64 0) := HRW.out.1.1 2 (by decide)
      have z_2 := HRW.out.2 2
      have r3 : yd.cell? ⟨w.heap.size, 3, none⟩ = some (.int .i64 0) := HRW.out.1.1 3 (by decide)
      have z_3 := HRW.out.2 3
      have r4 : yd.cell? ⟨w.heap.size, 4, none⟩ = some (.int .i64 0) := HRW.out.1.1 4 (by decide)
      have z_4 := HRW.out.2 4
      have r5 : yd.cell? ⟨w.heap.size, 5, none⟩ = some (.int .i64 0) := HRW.out.1.1 5 (by decide)
      have z_5 := HRW.out.2 5
      have r6 : yd.cell? ⟨w.heap.size, 6, none⟩ = some (.int .i64 0) := HRW.out.1.1 6 (by decide)
      have z_6 := HRW.out.2 6
      have r7 : yd.cell? ⟨w.heap.size, 7, none⟩ = some (.int .i64 0) := HRW.out.1.1 7 (by decide)
      have z_7 := HRW.out.2 7
      have r8 : yd.cell? ⟨w.heap.size, 8, none⟩ = some (.string ⟨#[]⟩) := HRW.out.1.2 0 (by simp)
      have z_8 := HRW.out.2 8
      go_wp2
      refine bodyPost_ret (v := .tuple #[recV [0, 0, 0, 0, 0, 0, 0, 0] [.string ⟨#[]⟩], .int .i64 400]) (by simp [results, Try.results37, go_sem, recV, recL, r0, r1, r2, r3, r4, r5, r6, r7, r8]) rfl ⟨by rw [HC0.out, HOK0.out, HD0.out]; rfl, ?_⟩
      exact (((((((((HBW.out.setCell (Nat.le_refl _) _).setCell (Nat.le_refl _) _).setCell (Nat.le_refl _) _).setCell (Nat.le_refl _) _).setCell (Nat.le_refl _) _).setCell (Nat.le_refl _) _).setCell (Nat.le_refl _) _).setCell (Nat.le_refl _) _).setCell (Nat.le_refl _) _)
  · have HIX := Lib.hid (show packetIdx 4 = [6, 4] from rfl)
    have HTX := Lib.hid (show packetS.txt 4 = false from by decide)
    obtain ⟨z6, s1, he1⟩ : ∃ z s, rdNum l st1 = (z, s) := ⟨_, _, rfl⟩
    obtain ⟨z4, s2, he2⟩ : ∃ z s, rdNum l s1 = (z, s) := ⟨_, _, rfl⟩
    have HF := Lib.hid (show rdFold l (packetIdx 4) [4, 0, 0, 0, 0, 0, 0, 0] st1 = ([4, 0, 0, 0, z4, 0, z6, 0], s2) from by rw [HIX.out]; simp only [rdFold_cons, he1, he2]; rfl)
    rw [HF.out] at HOK HGC HGD
    rw [HTX.out] at HOK HGD
    rw [if_neg (by decide)] at HOK
    simp only [Bool.false_eq_true, if_false] at HGD
    replace HOK : Hid (ok = (doneB l s2 && packetS.may [4, 0, 0, 0, z4, 0, z6, 0] [])) := HOK
    replace HGC : Hid (gc = if ok = true then [4, 0, 0, 0, z4, 0, z6, 0] else [0, 0, 0, 0, 0, 0, 0, 0]) := HGC
    replace HGD : Hid (gd = if ok = true then [] else []) := Lib.hid (HGD.out.trans (by cases ok <;> rfl))
    have HE1 := Lib.hid he1
    have HE2 := Lib.hid he2
    clear HF HIX HTX he1 he2
    have AO := O2
    have AR := RD4
    have AW := Lib.hid (Two.refl (w.heap.size + 1) w1.heap.size (w1.alloc (.cells #[.int .i64 4, .int .i64 0, .int .i64 0, .int .i64 0, .int .i64 0, .int .i64 0, .int .i64 0, .int .i64 0, .string ⟨#[]⟩] 56)))
    have SW := Lib.hid (show (w1.alloc (.cells #[.int .i64 4, .int .i64 0, .int .i64 0, .int .i64 0, .int .i64 0, .int .i64 0, .int .i64 0, .int .i64 0, .string ⟨#[]⟩] 56)).heap.size = w1.heap.size + 1 from by simp)
    clear O2 RD4 S2
    go_wp2_with fail
    have HR4 := R4
    have HB4 := B4
    generalize (w1.alloc (.cells #[.int .i64 4, .int .i64 0, .int .i64 0, .int .i64 0, .int .i64 0, .int .i64 0, .int .i64 0, .int .i64 0, .string ⟨#[]⟩] 56)) = w4 at AO AR AW SW HR4 HB4 ⊢
    clear R4 B4
    have S4 := Lib.hid (show w1.heap.size + 1 ≤ w4.heap.size from by rw [SW.out]; omega)
    clear SW
    have AWW := Lib.hid (Nat.le_refl w4.heap.size)
    refine (RN.out st1 (w.heap.size + 1) _ AR.out).mono ?_
    rintro e u0 ⟨rfl, rd5, on5⟩
    rw [HE1.out] at rd5 ⊢
    simp only at rd5 ⊢
    have o5 := on5.out AO.out (Nat.lt_of_lt_of_le S4.out AWW.out) (Ne.symm HNE.out)
    have f1 := o5.2 6
    have f2 := o5.1.1 6 (by simp)
    replace f2 : u0.cell? ⟨w1.heap.size, 6, none⟩ = some (.int .i64 0) := f2
    have OS := Lib.hid (o5.set 6 (by simp) z6)
    have on6 := Only.setCell (Only.refl w1.heap.size u0) (p := ⟨w1.heap.size, 6, none⟩) rfl (.int .i64 z6)
    have RS := Lib.hid (rd5.only (Nat.lt_of_lt_of_le (Nat.lt_of_lt_of_le (show (w.heap.size + 1) < w4.heap.size from by have := S1.out; have := S4.out; omega) AWW.out) on5.size) HNE.out on6)
    have TS := Lib.hid ((AW.out.left on5).right on6)
    have WS := Lib.hid (Nat.le_trans AWW.out (Nat.le_trans on5.size on6.size))
    clear AO AR AW AWW o5 rd5 on5 on6
    go_wp2_with fail
    generalize u0.setCell ⟨w1.heap.size, 6, none⟩ (.int .i64 z6) = y0 at OS RS TS WS ⊢
    have AR := RS
    have AW := TS
    have AWW := WS
    have AO : Hid (Out y0 w1.heap.size [4, 0, 0, 0, 0, 0, z6, 0] [.string ⟨#[]⟩]) := OS
    clear OS RS TS WS f1 f2
    refine (RN.out s1 (w.heap.size + 1) _ AR.out).mono ?_
    rintro e u1 ⟨rfl, rd5, on5⟩
    rw [HE2.out] at rd5 ⊢
    simp only at rd5 ⊢
    have o5 := on5.out AO.out (Nat.lt_of_lt_of_le S4.out AWW.out) (Ne.symm HNE.out)
    have f1 := o5.2 4
    have f2 := o5.1.1 4 (by simp)
    replace f2 : u1.cell? ⟨w1.heap.size, 4, none⟩ = some (.int .i64 0) := f2
    have OS := Lib.hid (o5.set 4 (by simp) z4)
    have on6 := Only.setCell (Only.refl w1.heap.size u1) (p := ⟨w1.heap.size, 4, none⟩) rfl (.int .i64 z4)
    have RS := Lib.hid (rd5.only (Nat.lt_of_lt_of_le (Nat.lt_of_lt_of_le (show (w.heap.size + 1) < w4.heap.size from by have := S1.out; have := S4.out; omega) AWW.out) on5.size) HNE.out on6)
    have TS := Lib.hid ((AW.out.left on5).right on6)
    have WS := Lib.hid (Nat.le_trans AWW.out (Nat.le_trans on5.size on6.size))
    clear AO AR AW AWW o5 rd5 on5 on6
    go_upto_region 23 with (fail)
    generalize u1.setCell ⟨w1.heap.size, 4, none⟩ (.int .i64 z4) = y1 at OS RS TS WS ⊢
    have AR := RS
    have AW := TS
    have AWW := WS
    have AO : Hid (Out y1 w1.heap.size [4, 0, 0, 0, z4, 0, z6, 0] [.string ⟨#[]⟩]) := OS
    clear OS RS TS WS f1 f2
    have MY := Lib.hid (fun w => refPacketMay_any 4 0 0 0 z4 0 z6 0 [] w)
    have HVD := Lib.hid (show ∀ g : List UInt8, g = [] → Value.string ⟨#[]⟩ = strV g from fun g h => by rw [h]; rfl)
    rw [show strV ([] : List UInt8) = .string ⟨#[]⟩ from rfl] at MY
    have HBW := Lib.hid (HB4.out.trans (AW.out.below (B := w.heap.size) (by omega) (by have := S1.out; omega) (by have := S1.out; have := S4.out; omega) (by have := S4.out; omega)))
    have HRW := Lib.hid (AW.out.out HR4.out (by have := S1.out; have := S4.out; omega) (by omega) (by have := S1.out; omega))
    have HNX := Lib.hid (show w.heap.size ≠ w1.heap.size from by have := S1.out; omega)
    clear AW
    obtain ⟨_, _, at_, bad, c1, c2, hst⟩ := AR.out
    clear AR
    cases bad
    · have HST := Lib.hid (show s2 = some at_ from hst)
      clear hst
      by_cases hat : at_ = (bs.size : Int)
      · have HDN : Hid (doneB l s2 = true) := Lib.hid (by rw [HST.out]; exact (doneB_iff l _).2 (by rw [hat, HLEN.out]))
        have hat2 : (at_ != (bs.size : Int)) = false := by simp [hat]
        clear hat
        have x0 : y1.cell? ⟨w1.heap.size, 0, none⟩ = some (.int .i64 4) := AO.out.1.1 0 (by simp)
        have x1 : y1.cell? ⟨w1.heap.size, 1, none⟩ = some (.int .i64 0) := AO.out.1.1 1 (by simp)
        have x2 : y1.cell? ⟨w1.heap.size, 2, none⟩ = some (.int .i64 0) := AO.out.1.1 2 (by simp)
        have x3 : y1.cell? ⟨w1.heap.size, 3, none⟩ = some (.int .i64 0) := AO.out.1.1 3 (by simp)
        have x4 : y1.cell? ⟨w1.heap.size, 4, none⟩ = some (.int .i64 z4) := AO.out.1.1 4 (by simp)
        have x5 : y1.cell? ⟨w1.heap.size, 5, none⟩ = some (.int .i64 0) := AO.out.1.1 5 (by simp)
        have x6 : y1.cell? ⟨w1.heap.size, 6, none⟩ = some (.int .i64 z6) := AO.out.1.1 6 (by simp)
        have x7 : y1.cell? ⟨w1.heap.size, 7, none⟩ = some (.int .i64 0) := AO.out.1.1 7 (by simp)
        have x8 : y1.cell? ⟨w1.heap.size, 8, none⟩ = some (.string ⟨#[]⟩) := AO.out.1.2 0 (by simp)
        cases hmay : packetS.may [4, 0, 0, 0, z4, 0, z6, 0] []
        · have HMY := Lib.hid hmay
          have HOK0 : Hid (ok = false) := Lib.hid (by rw [HOK.out, HDN.out, hmay]; rfl)
          clear hmay
          have HC0 := Lib.hid (show gc = [0, 0, 0, 0, 0, 0, 0, 0] from by rw [HGC.out, HOK0.out]; rfl)
          have HD0 := Lib.hid (show gd = [] from by rw [HGD.out, HOK0.out]; rfl)
          go_wp2_with fail
          refine (show Calls Try.prog 39 #[.agg #[.int .i64 4, .int .i64 0, .int .i64 0, .int .i64 0, .int .i64 z4, .int .i64 0, .int .i64 z6, .int .i64 0, .string ⟨#[]⟩]] y1 _ from MY.out y1).mono ?_
          rintro e w7 ⟨rfl, b7⟩
          rw [HMY.out]
          have O7 := Lib.hid (AO.out.below (World.block_lt_of_cell? _ _ x0) b7)
          have R7 := Lib.hid (HRW.out.below (World.block_lt_of_cell? _ _ (HRW.out.1.1 0 (by decide))) b7)
          have B7 := Lib.hid (HBW.out.trans (b7.mono HBW.out.size))
          clear b7 x0 x1 x2 x3 x4 x5 x6 x7 x8 c1 c2
          have r0 : w7.cell? ⟨w.heap.size, 0, none⟩ = some (.int .i64 0) := R7.out.1.1 0 (by decide)
          have z_0 := R7.out.2 0
          have r1 : w7.cell? ⟨w.heap.size, 1, none⟩ = some (.int .i64 0) := R7.out.1.1 1 (by decide)
          have z_1 := R7.out.2 1
          have r2 : w7.cell? ⟨w.heap.size, 2, none⟩ = some (.int .i64 0) := R7.out.1.1 2 (by decide)
          have z_2 := R7.out.2 2
          have r3 : w7.cell? ⟨w.heap.size, 3, none⟩ = some (.int .i64 0) := R7.out.1.1 3 (by decide)
          have z_3 := R7.out.2 3
          have r4 : w7.cell? ⟨w.heap.size, 4, none⟩ = some (.int .i64 0) := R7.out.1.1 4 (by decide)
          have z_4 := R7.out.2 4
          have r5 : w7.cell? ⟨w.heap.size, 5, none⟩ = some (.int .i64 0) := R7.out.1.1 5 (by decide)
          have z_5 := R7.out.2 5
          have r6 : w7.cell? ⟨w.heap.size, 6, none⟩ = some (.int .i64 0) := R7.out.1.1 6 (by decide)
          have z_6 := R7.out.2 6
          have r7 : w7.cell? ⟨w.heap.size, 7, none⟩ = some (.int .i64 0) := R7.out.1.1 7 (by decide)
          have z_7 := R7.out.2 7
          have r8 : w7.cell? ⟨w.heap.size, 8, none⟩ = some (.string ⟨#[]⟩) := R7.out.1.2 0 (by simp)
          have z_8 := R7.out.2 8
          go_wp2
          refine bodyPost_ret (v := .tuple #[recV [0, 0, 0, 0, 0, 0, 0, 0] [.string ⟨#[]⟩], .int .i64 400]) (by simp [results, Try.results37, go_sem, recV, recL, r0, r1, r2, r3, r4, r5, r6, r7, r8]) rfl ⟨by rw [HC0.out, HOK0.out, HD0.out]; rfl, ?_⟩
          exact (((((((((B7.out.setCell (Nat.le_refl _) _).setCell (Nat.le_refl _) _).setCell (Nat.le_refl _) _).setCell (Nat.le_refl _) _).setCell (Nat.le_refl _) _).setCell (Nat.le_refl _) _).setCell (Nat.le_refl _) _).setCell (Nat.le_refl _) _).setCell (Nat.le_refl _) _)
        · have HMY := Lib.hid hmay
          have HOK0 : Hid (ok = true) := Lib.hid (by rw [HOK.out, HDN.out, hmay]; rfl)
          clear hmay
          have HC0 := Lib.hid (show gc = [4, 0, 0, 0, z4, 0, z6, 0] from by rw [HGC.out, HOK0.out]; rfl)
          have HD0 := Lib.hid (show gd = [] from by rw [HGD.out, HOK0.out]; rfl)
          go_wp2_with fail
          refine (show Calls Try.prog 39 #[.agg #[.int .i64 4, .int .i64 0, .int .i64 0, .int .i64 0, .int .i64 z4, .int .i64 0, .int .i64 z6, .int .i64 0, .string ⟨#[]⟩]] y1 _ from MY.out y1).mono ?_
          rintro e w7 ⟨rfl, b7⟩
          rw [HMY.out]
          have O7 := Lib.hid (AO.out.below (World.block_lt_of_cell? _ _ x0) b7)
          have R7 := Lib.hid (HRW.out.below (World.block_lt_of_cell? _ _ (HRW.out.1.1 0 (by decide))) b7)
          have B7 := Lib.hid (HBW.out.trans (b7.mono HBW.out.size))
          clear b7 x0 x1 x2 x3 x4 x5 x6 x7 x8 c1 c2
          have x0 : w7.cell? ⟨w1.heap.size, 0, none⟩ = some (.int .i64 4) := O7.out.1.1 0 (by simp)
          have x1 : w7.cell? ⟨w1.heap.size, 1, none⟩ = some (.int .i64 0) := O7.out.1.1 1 (by simp)
          have x2 : w7.cell? ⟨w1.heap.size, 2, none⟩ = some (.int .i64 0) := O7.out.1.1 2 (by simp)
          have x3 : w7.cell? ⟨w1.heap.size, 3, none⟩ = some (.int .i64 0) := O7.out.1.1 3 (by simp)
          have x4 : w7.cell? ⟨w1.heap.size, 4, none⟩ = some (.int .i64 z4) := O7.out.1.1 4 (by simp)
          have x5 : w7.cell? ⟨w1.heap.size, 5, none⟩ = some (.int .i64 0) := O7.out.1.1 5 (by simp)
          have x6 : w7.cell? ⟨w1.heap.size, 6, none⟩ = some (.int .i64 z6) := O7.out.1.1 6 (by simp)
          have x7 : w7.cell? ⟨w1.heap.size, 7, none⟩ = some (.int .i64 0) := O7.out.1.1 7 (by simp)
          have x8 : w7.cell? ⟨w1.heap.size, 8, none⟩ = some (.string ⟨#[]⟩) := O7.out.1.2 0 (by simp)
          have r0 : w7.cell? ⟨w.heap.size, 0, none⟩ = some (.int .i64 0) := R7.out.1.1 0 (by decide)
          have z_0 := R7.out.2 0
          have r1 : w7.cell? ⟨w.heap.size, 1, none⟩ = some (.int .i64 0) := R7.out.1.1 1 (by decide)
          have z_1 := R7.out.2 1
          have r2 : w7.cell? ⟨w.heap.size, 2, none⟩ = some (.int .i64 0) := R7.out.1.1 2 (by decide)
          have z_2 := R7.out.2 2
          have r3 : w7.cell? ⟨w.heap.size, 3, none⟩ = some (.int .i64 0) := R7.out.1.1 3 (by decide)
          have z_3 := R7.out.2 3
          have r4 : w7.cell? ⟨w.heap.size, 4, none⟩ = some (.int .i64 0) := R7.out.1.1 4 (by decide)
          have z_4 := R7.out.2 4
          have r5 : w7.cell? ⟨w.heap.size, 5, none⟩ = some (.int .i64 0) := R7.out.1.1 5 (by decide)
          have z_5 := R7.out.2 5
          have r6 : w7.cell? ⟨w.heap.size, 6, none⟩ = some (.int .i64 0) := R7.out.1.1 6 (by decide)
          have z_6 := R7.out.2 6
          have r7 : w7.cell? ⟨w.heap.size, 7, none⟩ = some (.int .i64 0) := R7.out.1.1 7 (by decide)
          have z_7 := R7.out.2 7
          have r8 : w7.cell? ⟨w.heap.size, 8, none⟩ = some (.string ⟨#[]⟩) := R7.out.1.2 0 (by simp)
          have z_8 := R7.out.2 8
          have hne2 := HNX.out
          go_wp2
          refine bodyPost_ret (v := .tuple #[recV [4, 0, 0, 0, z4, 0, z6, 0] [.string ⟨#[]⟩], .int .i64 0]) (by simp [results, Try.results37, go_sem, recV, recL, r0, r1, r2, r3, r4, r5, r6, r7, r8]) rfl ⟨by rw [HC0.out, HOK0.out, HVD.out gd HD0.out]; rfl, ?_⟩
          exact (((((((((B7.out.setCell (Nat.le_refl _) _).setCell (Nat.le_refl _) _).setCell (Nat.le_refl _) _).setCell (Nat.le_refl _) _).setCell (Nat.le_refl _) _).setCell (Nat.le_refl _) _).setCell (Nat.le_refl _) _).setCell (Nat.le_refl _) _).setCell (Nat.le_refl _) _)
      · have HDN : Hid (doneB l s2 = false) := Lib.hid (by
          rw [HST.out]
          cases e : doneB l (some at_)
          · rfl
          · have h2 := (doneB_iff l (some at_)).1 e
            injection h2 with h2
            exact absurd (h2.trans (by rw [← HLEN.out])) hat)
        have HOK0 : Hid (ok = false) := Lib.hid (by rw [HOK.out, HDN.out]; rfl)
        have hat2 : (at_ != (bs.size : Int)) = true := by simp [hat]
        clear hat
        have HC0 := Lib.hid (show gc = [0, 0, 0, 0, 0, 0, 0, 0] from by rw [HGC.out, HOK0.out]; rfl)
        have HD0 := Lib.hid (show gd = [] from by rw [HGD.out, HOK0.out]; rfl)
        have r0 : y1.cell? ⟨w.heap.size, 0, none⟩ = some (.int .i64 0) := HRW.out.1.1 0 (by decide)
        have z_0 := HRW.out.2 0
        have r1 : y1.cell? ⟨w.heap.size, 1, none⟩ = some (.int .i64 0) := HRW.out.1.1 1 (by decide)
        have z_1 := HRW.out.2 1
        have r2 : y1.cell? ⟨w.heap.size, 2, none⟩ = some (.int .i64 0) := HRW.out.1.1 2 (by decide)
        have z_2 := HRW.out.2 2
        have r3 : y1.cell? ⟨w.heap.size, 3, none⟩ = some (.int .i64 0) := HRW.out.1.1 3 (by decide)
        have z_3 := HRW.out.2 3
        have r4 : y1.cell? ⟨w.heap.size, 4, none⟩ = some (.int .i64 0) := HRW.out.1.1 4 (by decide)
        have z_4 := HRW.out.2 4
        have r5 : y1.cell? ⟨w.heap.size, 5, none⟩ = some (.int .i64 0) := HRW.out.1.1 5 (by decide)
        have z_5 := HRW.out.2 5
        have r6 : y1.cell? ⟨w.heap.size, 6, none⟩ = some (.int .i64 0) := HRW.out.1.1 6 (by decide)
        have z_6 := HRW.out.2 6
        have r7 : y1.cell? ⟨w.heap.size, 7, none⟩ = some (.int .i64 0) := HRW.out.1.1 7 (by decide)
        have z_7 := HRW.out.2 7
        have r8 : y1.cell? ⟨w.heap.size, 8, none⟩ = some (.string ⟨#[]⟩) := HRW.out.1.2 0 (by simp)
        have z_8 := HRW.out.2 8
        go_wp2
        refine bodyPost_ret (v := .tuple #[recV [0, 0, 0, 0, 0, 0, 0, 0] [.string ⟨#[]⟩], .int .i64 400]) (by simp [results, Try.results37, go_sem, recV, recL, r0, r1, r2, r3, r4, r5, r6, r7, r8]) rfl ⟨by rw [HC0.out, HOK0.out, HD0.out]; rfl, ?_⟩
        exact (((((((((HBW.out.setCell (Nat.le_refl _) _).setCell (Nat.le_refl _) _).setCell (Nat.le_refl _) _).setCell (Nat.le_refl _) _).setCell (Nat.le_refl _) _).setCell (Nat.le_refl _) _).setCell (Nat.le_refl _) _).setCell (Nat.le_refl _) _).setCell (Nat.le_refl _) _)
    · have HDN : Hid (doneB l s2 = false) := Lib.hid (by rw [show s2 = none from hst]; rfl)
      clear hst
      have HOK0 : Hid (ok = false) := Lib.hid (by rw [HOK.out, HDN.out]; rfl)
      have HC0 := Lib.hid (show gc = [0, 0, 0, 0, 0, 0, 0, 0] from by rw [HGC.out, HOK0.out]; rfl)
      have HD0 := Lib.hid (show gd = [] from by rw [HGD.out, HOK0.out]; rfl)
      have r0 : y1.cell? ⟨w.heap.size, 0, none⟩ = some (.int .i64 0) := HRW.out.1.1 0 (by decide)
      have z_0 := HRW.out.2 0
      have r1 : y1.cell? ⟨w.heap.size, 1, none⟩ = some (.int .i64 0) := HRW.out.1.1 1 (by decide)
      have z_1 := HRW.out.2 1
      have r2 : y1.cell? ⟨w.heap.size, 2, none⟩ = some (.int .i64 0) := HRW.out.1.1 2 (by decide)
      have z_2 := HRW.out.2 2
      have r3 : y1.cell? ⟨w.heap.size, 3, none⟩ = some (.int .i64 0) := HRW.out.1.1 3 (by decide)
      have z_3 := HRW.out.2 3
      have r4 : y1.cell? ⟨w.heap.size, 4, none⟩ = some (.int .i64 0) := HRW.out.1.1 4 (by decide)
      have z_4 := HRW.out.2 4
      have r5 : y1.cell? ⟨w.heap.size, 5, none⟩ = some (.int .i64 0) := HRW.out.1.1 5 (by decide)
      have z_5 := HRW.out.2 5
      have r6 : y1.cell? ⟨w.heap.size, 6, none⟩ = some (.int .i64 0) := HRW.out.1.1 6 (by decide)
      have z_6 := HRW.out.2 6
      have r7 : y1.cell? ⟨w.heap.size, 7, none⟩ = some (.int .i64 0) := HRW.out.1.1 7 (by decide)
      have z_7 := HRW.out.2 7
      have r8 : y1.cell? ⟨w.heap.size, 8, none⟩ = some (.string ⟨#[]⟩) := HRW.out.1.2 0 (by simp)
      have z_8 := HRW.out.2 8
      go_wp2
      refine bodyPost_ret (v := .tuple #[recV [0, 0, 0, 0, 0, 0, 0, 0] [.string ⟨#[]⟩], .int .i64 400]) (by simp [results, Try.results37, go_sem, recV, recL, r0, r1, r2, r3, r4, r5, r6, r7, r8]) rfl ⟨by rw [HC0.out, HOK0.out, HD0.out]; rfl, ?_⟩
      exact (((((((((HBW.out.setCell (Nat.le_refl _) _).setCell (Nat.le_refl _) _).setCell (Nat.le_refl _) _).setCell (Nat.le_refl _) _).setCell (Nat.le_refl _) _).setCell (Nat.le_refl _) _).setCell (Nat.le_refl _) _).setCell (Nat.le_refl _) _).setCell (Nat.le_refl _) _)
  · have HIX := Lib.hid (show packetIdx k = [] from by unfold packetIdx; simp only [if_neg g0, if_neg g1, if_neg g2, if_neg g3, if_neg g4])
    have HTX := Lib.hid (show packetS.txt k = false from decide_eq_false g3)
    have e0 := bne_of k 0 g0; have e1 := bne_of k 1 g1; have e2 := bne_of k 2 g2; have e3 := bne_of k 3 g3; have e4 := bne_of k 4 g4
    clear g0 g1 g2 g3 g4
    have HF := Lib.hid (show rdFold l (packetIdx k) [k, 0, 0, 0, 0, 0, 0, 0] st1 = ([k, 0, 0, 0, 0, 0, 0, 0], st1) from by rw [HIX.out]; rfl)
    rw [HF.out] at HOK HGC HGD
    rw [HTX.out] at HOK HGD
    rw [if_neg (by decide)] at HOK
    simp only [Bool.false_eq_true, if_false] at HGD
    replace HOK : Hid (ok = (doneB l st1 && packetS.may [k, 0, 0, 0, 0, 0, 0, 0] [])) := HOK
    replace HGC : Hid (gc = if ok = true then [k, 0, 0, 0, 0, 0, 0, 0] else [0, 0, 0, 0, 0, 0, 0, 0]) := HGC
    replace HGD : Hid (gd = if ok = true then [] else []) := Lib.hid (HGD.out.trans (by cases ok <;> rfl))
    clear HF HIX HTX
    have AO := O2
    have AR := RD4
    have AW := Lib.hid (Two.refl (w.heap.size + 1) w1.heap.size (w1.alloc (.cells #[.int .i64 k, .int .i64 0, .int .i64 0, .int .i64 0, .int .i64 0, .int .i64 0, .int .i64 0, .int .i64 0, .string ⟨#[]⟩] 56)))
    have SW := Lib.hid (show (w1.alloc (.cells #[.int .i64 k, .int .i64 0, .int .i64 0, .int .i64 0, .int .i64 0, .int .i64 0, .int .i64 0, .int .i64 0, .string ⟨#[]⟩] 56)).heap.size = w1.heap.size + 1 from by simp)
    clear O2 RD4 S2
    go_upto_region 23 with (fail)
    have HR4 := R4
    have HB4 := B4
    generalize (w1.alloc (.cells #[.int .i64 k, .int .i64 0, .int .i64 0, .int .i64 0, .int .i64 0, .int .i64 0, .int .i64 0, .int .i64 0, .string ⟨#[]⟩] 56)) = w4 at AO AR AW SW HR4 HB4 ⊢
    clear R4 B4
    have S4 := Lib.hid (show w1.heap.size + 1 ≤ w4.heap.size from by rw [SW.out]; omega)
    clear SW
    have AWW := Lib.hid (Nat.le_refl w4.heap.size)
    have MY := Lib.hid (fun w => refPacketMay_any k 0 0 0 0 0 0 0 [] w)
    have HVD := Lib.hid (show ∀ g : List UInt8, g = [] → Value.string ⟨#[]⟩ = strV g from fun g h => by rw [h]; rfl)
    rw [show strV ([] : List UInt8) = .string ⟨#[]⟩ from rfl] at MY
    have HBW := Lib.hid (HB4.out.trans (AW.out.below (B := w.heap.size) (by omega) (by have := S1.out; omega) (by have := S1.out; have := S4.out; omega) (by have := S4.out; omega)))
    have HRW := Lib.hid (AW.out.out HR4.out (by have := S1.out; have := S4.out; omega) (by omega) (by have := S1.out; omega))
    have HNX := Lib.hid (show w.heap.size ≠ w1.heap.size from by have := S1.out; omega)
    clear AW
    obtain ⟨_, _, at_, bad, c1, c2, hst⟩ := AR.out
    clear AR
    cases bad
    · have HST := Lib.hid (show st1 = some at_ from hst)
      clear hst
      by_cases hat : at_ = (bs.size : Int)
      · have HDN : Hid (doneB l st1 = true) := Lib.hid (by rw [HST.out]; exact (doneB_iff l _).2 (by rw [hat, HLEN.out]))
        have hat2 : (at_ != (bs.size : Int)) = false := by simp [hat]
        clear hat
        have x0 : w4.cell? ⟨w1.heap.size, 0, none⟩ = some (.int .i64 k) := AO.out.1.1 0 (by simp)
        have x1 : w4.cell? ⟨w1.heap.size, 1, none⟩ = some (.int .i64 0) := AO.out.1.1 1 (by simp)
        have x2 : w4.cell? ⟨w1.heap.size, 2, none⟩ = some (.int .i64 0) := AO.out.1.1 2 (by simp)
        have x3 : w4.cell? ⟨w1.heap.size, 3, none⟩ = some (.int .i64 0) := AO.out.1.1 3 (by simp)
        have x4 : w4.cell? ⟨w1.heap.size, 4, none⟩ = some (.int .i64 0) := AO.out.1.1 4 (by simp)
        have x5 : w4.cell? ⟨w1.heap.size, 5, none⟩ = some (.int .i64 0) := AO.out.1.1 5 (by simp)
        have x6 : w4.cell? ⟨w1.heap.size, 6, none⟩ = some (.int .i64 0) := AO.out.1.1 6 (by simp)
        have x7 : w4.cell? ⟨w1.heap.size, 7, none⟩ = some (.int .i64 0) := AO.out.1.1 7 (by simp)
        have x8 : w4.cell? ⟨w1.heap.size, 8, none⟩ = some (.string ⟨#[]⟩) := AO.out.1.2 0 (by simp)
        cases hmay : packetS.may [k, 0, 0, 0, 0, 0, 0, 0] []
        · have HMY := Lib.hid hmay
          have HOK0 : Hid (ok = false) := Lib.hid (by rw [HOK.out, HDN.out, hmay]; rfl)
          clear hmay
          have HC0 := Lib.hid (show gc = [0, 0, 0, 0, 0, 0, 0, 0] from by rw [HGC.out, HOK0.out]; rfl)
          have HD0 := Lib.hid (show gd = [] from by rw [HGD.out, HOK0.out]; rfl)
          go_wp2_with fail
          refine (show Calls Try.prog 39 #[.agg #[.int .i64 k, .int .i64 0, .int .i64 0, .int .i64 0, .int .i64 0, .int .i64 0, .int .i64 0, .int .i64 0, .string ⟨#[]⟩]] w4 _ from MY.out w4).mono ?_
          rintro e w7 ⟨rfl, b7⟩
          rw [HMY.out]
          have O7 := Lib.hid (AO.out.below (World.block_lt_of_cell? _ _ x0) b7)
          have R7 := Lib.hid (HRW.out.below (World.block_lt_of_cell? _ _ (HRW.out.1.1 0 (by decide))) b7)
          have B7 := Lib.hid (HBW.out.trans (b7.mono HBW.out.size))
          clear b7 x0 x1 x2 x3 x4 x5 x6 x7 x8 c1 c2
          have r0 : w7.cell? ⟨w.heap.size, 0, none⟩ = some (.int .i64 0) := R7.out.1.1 0 (by decide)
          have z_0 := R7.out.2 0
          have r1 : w7.cell? ⟨w.heap.size, 1, none⟩ = some (.int .i64 0) := R7.out.1.1 1 (by decide)
          have z_1 := R7.out.2 1
          have r2 : w7.cell? ⟨w.heap.size, 2, none⟩ = some (.int .i64 0) := R7.out.1.1 2 (by decide)
          have z_2 := R7.out.2 2
          have r3 : w7.cell? ⟨w.heap.size, 3, none⟩ = some (.int .i64 0) := R7.out.1.1 3 (by decide)
          have z_3 := R7.out.2 3
          have r4 : w7.cell? ⟨w.heap.size, 4, none⟩ = some (.int .i64 0) := R7.out.1.1 4 (by decide)
          have z_4 := R7.out.2 4
          have r5 : w7.cell? ⟨w.heap.size, 5, none⟩ = some (.int .i64 0) := R7.out.1.1 5 (by decide)
          have z_5 := R7.out.2 5
          have r6 : w7.cell? ⟨w.heap.size, 6, none⟩ = some (.int .i64 0) := R7.out.1.1 6 (by decide)
          have z_6 := R7.out.2 6
          have r7 : w7.cell? ⟨w.heap.size, 7, none⟩ = some (.int .i64 0) := R7.out.1.1 7 (by decide)
          have z_7 := R7.out.2 7
          have r8 : w7.cell? ⟨w.heap.size, 8, none⟩ = some (.string ⟨#[]⟩) := R7.out.1.2 0 (by simp)
          have z_8 := R7.out.2 8
          go_wp2
          refine bodyPost_ret (v := .tuple #[recV [0, 0, 0, 0, 0, 0, 0, 0] [.string ⟨#[]⟩], .int .i64 400]) (by simp [results, Try.results37, go_sem, recV, recL, r0, r1, r2, r3, r4, r5, r6, r7, r8]) rfl ⟨by rw [HC0.out, HOK0.out, HD0.out]; rfl, ?_⟩
          exact (((((((((B7.out.setCell (Nat.le_refl _) _).setCell (Nat.le_refl _) _).setCell (Nat.le_refl _) _).setCell (Nat.le_refl _) _).setCell (Nat.le_refl _) _).setCell (Nat.le_refl _) _).setCell (Nat.le_refl _) _).setCell (Nat.le_refl _) _).setCell (Nat.le_refl _) _)
        · have HMY := Lib.hid hmay
          have HOK0 : Hid (ok = true) := Lib.hid (by rw [HOK.out, HDN.out, hmay]; rfl)
          clear hmay
          have HC0 := Lib.hid (show gc = [k, 0, 0, 0, 0, 0, 0, 0] from by rw [HGC.out, HOK0.out]; rfl)
          have HD0 := Lib.hid (show gd = [] from by rw [HGD.out, HOK0.out]; rfl)
          go_wp2_with fail
          refine (show Calls Try.prog 39 #[.agg #[.int .i64 k, .int .i64 0, .int .i64 0, .int .i64 0, .int .i64 0, .int .i64 0, .int .i64 0, .int .i64 0, .string ⟨#[]⟩]] w4 _ from MY.out w4).mono ?_
          rintro e w7 ⟨rfl, b7⟩
          rw [HMY.out]
          have O7 := Lib.hid (AO.out.below (World.block_lt_of_cell? _ _ x0) b7)
          have R7 := Lib.hid (HRW.out.below (World.block_lt_of_cell? _ _ (HRW.out.1.1 0 (by decide))) b7)
          have B7 := Lib.hid (HBW.out.trans (b7.mono HBW.out.size))
          clear b7 x0 x1 x2 x3 x4 x5 x6 x7 x8 c1 c2
          have x0 : w7.cell? ⟨w1.heap.size, 0, none⟩ = some (.int .i64 k) := O7.out.1.1 0 (by simp)
          have x1 : w7.cell? ⟨w1.heap.size, 1, none⟩ = some (.int .i64 0) := O7.out.1.1 1 (by simp)
          have x2 : w7.cell? ⟨w1.heap.size, 2, none⟩ = some (.int .i64 0) := O7.out.1.1 2 (by simp)
          have x3 : w7.cell? ⟨w1.heap.size, 3, none⟩ = some (.int .i64 0) := O7.out.1.1 3 (by simp)
          have x4 : w7.cell? ⟨w1.heap.size, 4, none⟩ = some (.int .i64 0) := O7.out.1.1 4 (by simp)
          have x5 : w7.cell? ⟨w1.heap.size, 5, none⟩ = some (.int .i64 0) := O7.out.1.1 5 (by simp)
          have x6 : w7.cell? ⟨w1.heap.size, 6, none⟩ = some (.int .i64 0) := O7.out.1.1 6 (by simp)
          have x7 : w7.cell? ⟨w1.heap.size, 7, none⟩ = some (.int .i64 0) := O7.out.1.1 7 (by simp)
          have x8 : w7.cell? ⟨w1.heap.size, 8, none⟩ = some (.string ⟨#[]⟩) := O7.out.1.2 0 (by simp)
          have r0 : w7.cell? ⟨w.heap.size, 0, none⟩ = some (.int .i64 0) := R7.out.1.1 0 (by decide)
          have z_0 := R7.out.2 0
          have r1 : w7.cell? ⟨w.heap.size, 1, none⟩ = some (.int .i64 0) := R7.out.1.1 1 (by decide)
          have z_1 := R7.out.2 1
          have r2 : w7.cell? ⟨w.heap.size, 2, none⟩ = some (.int .i64 0) := R7.out.1.1 2 (by decide)
          have z_2 := R7.out.2 2
          have r3 : w7.cell? ⟨w.heap.size, 3, none⟩ = some (.int .i64 0) := R7.out.1.1 3 (by decide)
          have z_3 := R7.out.2 3
          have r4 : w7.cell? ⟨w.heap.size, 4, none⟩ = some (.int .i64 0) := R7.out.1.1 4 (by decide)
          have z_4 := R7.out.2 4
          have r5 : w7.cell? ⟨w.heap.size, 5, none⟩ = some (.int .i64 0) := R7.out.1.1 5 (by decide)
          have z_5 := R7.out.2 5
          have r6 : w7.cell? ⟨w.heap.size, 6, none⟩ = some (.int .i64 0) := R7.out.1.1 6 (by decide)
          have z_6 := R7.out.2 6
          have r7 : w7.cell? ⟨w.heap.size, 7, none⟩ = some (.int .i64 0) := R7.out.1.1 7 (by decide)
          have z_7 := R7.out.2 7
          have r8 : w7.cell? ⟨w.heap.size, 8, none⟩ = some (.string ⟨#[]⟩) := R7.out.1.2 0 (by simp)
          have z_8 := R7.out.2 8
          have hne2 := HNX.out
          go_wp2
          refine bodyPost_ret (v := .tuple #[recV [k, 0, 0, 0, 0, 0, 0, 0] [.string ⟨#[]⟩], .int .i64 0]) (by simp [results, Try.results37, go_sem, recV, recL, r0, r1, r2, r3, r4, r5, r6, r7, r8]) rfl ⟨by rw [HC0.out, HOK0.out, HVD.out gd HD0.out]; rfl, ?_⟩
          exact (((((((((B7.out.setCell (Nat.le_refl _) _).setCell (Nat.le_refl _) _).setCell (Nat.le_refl _) _).setCell (Nat.le_refl _) _).setCell (Nat.le_refl _) _).setCell (Nat.le_refl _) _).setCell (Nat.le_refl _) _).setCell (Nat.le_refl _) _).setCell (Nat.le_refl _) _)
      · have HDN : Hid (doneB l st1 = false) := Lib.hid (by
          rw [HST.out]
          cases e : doneB l (some at_)
          · rfl
          · have h2 := (doneB_iff l (some at_)).1 e
            injection h2 with h2
            exact absurd (h2.trans (by rw [← HLEN.out])) hat)
        have HOK0 : Hid (ok = false) := Lib.hid (by rw [HOK.out, HDN.out]; rfl)
        have hat2 : (at_ != (bs.size : Int)) = true := by simp [hat]
        clear hat
        have HC0 := Lib.hid (show gc = [0, 0, 0, 0, 0, 0, 0, 0] from by rw [HGC.out, HOK0.out]; rfl)
        have HD0 := Lib.hid (show gd = [] from by rw [HGD.out, HOK0.out]; rfl)
        have r0 : w4.cell? ⟨w.heap.size, 0, none⟩ = some (.int .i64 0) := HRW.out.1.1 0 (by decide)
        have z_0 := HRW.out.2 0
        have r1 : w4.cell? ⟨w.heap.size, 1, none⟩ = some (.int .i64 0) := HRW.out.1.1 1 (by decide)
        have z_1 := HRW.out.2 1
        have r2 : w4.cell? ⟨w.heap.size, 2, none⟩ = some (.int .i64 0) := HRW.out.1.1 2 (by decide)
        have z_2 := HRW.out.2 2
        have r3 : w4.cell? ⟨w.heap.size, 3, none⟩ = some (.int .i64 0) := HRW.out.1.1 3 (by decide)
        have z_3 := HRW.out.2 3
        have r4 : w4.cell? ⟨w.heap.size, 4, none⟩ = some (.int .i64 0) := HRW.out.1.1 4 (by decide)
        have z_4 := HRW.out.2 4
        have r5 : w4.cell? ⟨w.heap.size, 5, none⟩ = some (.int .i64 0) := HRW.out.1.1 5 (by decide)
        have z_5 := HRW.out.2 5
        have r6 : w4.cell? ⟨w.heap.size, 6, none⟩ = some (.int .i64 0) := HRW.out.1.1 6 (by decide)
        have z_6 := HRW.out.2 6
        have r7 : w4.cell? ⟨w.heap.size, 7, none⟩ = some (.int .i64 0) := HRW.out.1.1 7 (by decide)
        have z_7 := HRW.out.2 7
        have r8 : w4.cell? ⟨w.heap.size, 8, none⟩ = some (.string ⟨#[]⟩) := HRW.out.1.2 0 (by simp)
        have z_8 := HRW.out.2 8
        go_wp2
        refine bodyPost_ret (v := .tuple #[recV [0, 0, 0, 0, 0, 0, 0, 0] [.string ⟨#[]⟩], .int .i64 400]) (by simp [results, Try.results37, go_sem, recV, recL, r0, r1, r2, r3, r4, r5, r6, r7, r8]) rfl ⟨by rw [HC0.out, HOK0.out, HD0.out]; rfl, ?_⟩
        exact (((((((((HBW.out.setCell (Nat.le_refl _) _).setCell (Nat.le_refl _) _).setCell (Nat.le_refl _) _).setCell (Nat.le_refl _) _).setCell (Nat.le_refl _) _).setCell (Nat.le_refl _) _).setCell (Nat.le_refl _) _).setCell (Nat.le_refl _) _).setCell (Nat.le_refl _) _)
    · have HDN : Hid (doneB l st1 = false) := Lib.hid (by rw [show st1 = none from hst]; rfl)
      clear hst
      have HOK0 : Hid (ok = false) := Lib.hid (by rw [HOK.out, HDN.out]; rfl)
      have HC0 := Lib.hid (show gc = [0, 0, 0, 0, 0, 0, 0, 0] from by rw [HGC.out, HOK0.out]; rfl)
      have HD0 := Lib.hid (show gd = [] from by rw [HGD.out, HOK0.out]; rfl)
      have r0 : w4.cell? ⟨w.heap.size, 0, none⟩ = some (.int .i64 0) := HRW.out.1.1 0 (by decide)
      have z_0 := HRW.out.2 0
      have r1 : w4.cell? ⟨w.heap.size, 1, none⟩ = some (.int .i64 0) := HRW.out.1.1 1 (by decide)
      have z_1 := HRW.out.2 1
      have r2 : w4.cell? ⟨w.heap.size, 2, none⟩ = some (.int .i64 0) := HRW.out.1.1 2 (by decide)
      have z_2 := HRW.out.2 2
      have r3 : w4.cell? ⟨w.heap.size, 3, none⟩ = some (.int .i64 0) := HRW.out.1.1 3 (by decide)
      have z_3 := HRW.out.2 3
      have r4 : w4.cell? ⟨w.heap.size, 4, none⟩ = some (.int .i64 0) := HRW.out.1.1 4 (by decide)
      have z_4 := HRW.out.2 4
      have r5 : w4.cell? ⟨w.heap.size, 5, none⟩ = some (.int .i64 0) := HRW.out.1.1 5 (by decide)
      have z_5 := HRW.out.2 5
      have r6 : w4.cell? ⟨w.heap.size, 6, none⟩ = some (.int .i64 0) := HRW.out.1.1 6 (by decide)
      have z_6 := HRW.out.2 6
      have r7 : w4.cell? ⟨w.heap.size, 7, none⟩ = some (.int .i64 0) := HRW.out.1.1 7 (by decide)
      have z_7 := HRW.out.2 7
      have r8 : w4.cell? ⟨w.heap.size, 8, none⟩ = some (.string ⟨#[]⟩) := HRW.out.1.2 0 (by simp)
      have z_8 := HRW.out.2 8
      go_wp2
      refine bodyPost_ret (v := .tuple #[recV [0, 0, 0, 0, 0, 0, 0, 0] [.string ⟨#[]⟩], .int .i64 400]) (by simp [results, Try.results37, go_sem, recV, recL, r0, r1, r2, r3, r4, r5, r6, r7, r8]) rfl ⟨by rw [HC0.out, HOK0.out, HD0.out]; rfl, ?_⟩
      exact (((((((((HBW.out.setCell (Nat.le_refl _) _).setCell (Nat.le_refl _) _).setCell (Nat.le_refl _) _).setCell (Nat.le_refl _) _).setCell (Nat.le_refl _) _).setCell (Nat.le_refl _) _).setCell (Nat.le_refl _) _).setCell (Nat.le_refl _) _).setCell (Nat.le_refl _) _)
end Go.Proofs.Ythkbeigimdgamaa
