/- packet.Get -/
import Derived.Test.YthkbeigimdgamaaPacketD
namespace Go.Proofs.Ythkbeigimdgamaa
open Go Go.RowKit

set_option maxRecDepth 100000 in
set_option maxHeartbeats 12800000 in
theorem packetGet_any (l : List UInt8) (hs : l.length < 4611686018427387904) (w : World) : Calls Try.prog 36 #[strV l] w fun e w' => e = .returned (.tuple #[recV (packetS.getC l) [strV (packetS.getD l)], .int .i64 (formE (packetS.ok l) 400)]) ∧ Below w.heap.size w w' := by
  obtain ⟨k, st1, hkst⟩ : ∃ k st1, rdNum l (some 0) = (k, st1) := ⟨_, _, rfl⟩
  have hok : packetS.ok l = (if packetS.txt k = true then (doneB l (rdText l (rdFold l (packetIdx k) [k, 0, 0, 0, 0, 0, 0, 0] st1).2).2 && packetS.may (rdFold l (packetIdx k) [k, 0, 0, 0, 0, 0, 0, 0] st1).1 (rdText l (rdFold l (packetIdx k) [k, 0, 0, 0, 0, 0, 0, 0] st1).2).1) else (doneB l (rdFold l (packetIdx k) [k, 0, 0, 0, 0, 0, 0, 0] st1).2 && packetS.may (rdFold l (packetIdx k) [k, 0, 0, 0, 0, 0, 0, 0] st1).1 [])) := by
    unfold Sp.ok Sp.body
    rw [hkst]
    show (doneB l (if packetS.txt k = true then rdText l (rdFold l (packetIdx k) [k, 0, 0, 0, 0, 0, 0, 0] st1).2 else ([], (rdFold l (packetIdx k) [k, 0, 0, 0, 0, 0, 0, 0] st1).2)).2 && packetS.may (rdFold l (packetIdx k) [k, 0, 0, 0, 0, 0, 0, 0] st1).1 (if packetS.txt k = true then rdText l (rdFold l (packetIdx k) [k, 0, 0, 0, 0, 0, 0, 0] st1).2 else ([], (rdFold l (packetIdx k) [k, 0, 0, 0, 0, 0, 0, 0] st1).2)).1) = _
    split <;> rfl
  have hgc : packetS.getC l = if packetS.ok l = true then (rdFold l (packetIdx k) [k, 0, 0, 0, 0, 0, 0, 0] st1).1 else [0, 0, 0, 0, 0, 0, 0, 0] := by
    unfold Sp.getC Sp.body
    rw [hkst]
    rfl
  have hgd : packetS.getD l = if packetS.ok l = true then (if packetS.txt k = true then (rdText l (rdFold l (packetIdx k) [k, 0, 0, 0, 0, 0, 0, 0] st1).2).1 else []) else [] := by
    unfold Sp.getD Sp.body
    rw [hkst]
    show (if packetS.ok l = true then (if packetS.txt k = true then rdText l (rdFold l (packetIdx k) [k, 0, 0, 0, 0, 0, 0, 0] st1).2 else ([], (rdFold l (packetIdx k) [k, 0, 0, 0, 0, 0, 0, 0] st1).2)).1 else []) = _
    split
    · split <;> rfl
    · rfl
  generalize packetS.getD l = gd at hgd ⊢
  have HGD := Lib.hid hgd
  generalize packetS.getC l = gc at hgc ⊢
  have HGC := Lib.hid hgc
  generalize packetS.ok l = ok at hok HGC HGD ⊢
  have HOK := Lib.hid hok
  clear hok hgc hgd
  have HS := Lib.hid hs
  have RN := Lib.hid (fun st b w hr => readerNum_any l st b w hs hr)
  have RD := Lib.hid (fun st b w hr => readerDone_any l st b w hr)
  have RT := Lib.hid (fun st b w hr => readerText_any l st b w hs hr)
  have hrd := rd_new (w.alloc (.cells #[.int .i64 0, .int .i64 0, .int .i64 0, .int .i64 0, .int .i64 0, .int .i64 0, .int .i64 0, .int .i64 0, .string ⟨#[]⟩] 56)) l 92
  rw [World.size_alloc] at hrd
  have hres := out_new w [0, 0, 0, 0, 0, 0, 0, 0] [strV []] 56
  rw [show strV l = .string ⟨l.toArray⟩ from rfl] at hrd ⊢
  generalize (⟨l.toArray⟩ : ByteArray) = bs at hrd ⊢
  have HRD : Hid (Rd ((w.alloc (.cells #[.int .i64 0, .int .i64 0, .int .i64 0, .int .i64 0, .int .i64 0, .int .i64 0, .int .i64 0, .int .i64 0, .string ⟨#[]⟩] 56)).alloc (.cells #[.string bs, .int .i64 0, .nilIface] 92)) (w.heap.size + 1) l (some 0)) := Lib.hid hrd
  have HRES : Hid (Out ((w.alloc (.cells #[.int .i64 0, .int .i64 0, .int .i64 0, .int .i64 0, .int .i64 0, .int .i64 0, .int .i64 0, .int .i64 0, .string ⟨#[]⟩] 56)).alloc (.cells #[.string bs, .int .i64 0, .nilIface] 92)) w.heap.size [0, 0, 0, 0, 0, 0, 0, 0] [.string ⟨#[]⟩]) := Lib.hid (hres.below (by simp) ((Below.refl _ _).alloc (Nat.le_refl _) _))
  have BA := Lib.hid (show Below w.heap.size w ((w.alloc (.cells #[.int .i64 0, .int .i64 0, .int .i64 0, .int .i64 0, .int .i64 0, .int .i64 0, .int .i64 0, .int .i64 0, .string ⟨#[]⟩] 56)).alloc (.cells #[.string bs, .int .i64 0, .nilIface] 92)) from ((Below.refl _ _).alloc (Nat.le_refl _) _).alloc (by simp) _)
  have SA := Lib.hid (show ((w.alloc (.cells #[.int .i64 0, .int .i64 0, .int .i64 0, .int .i64 0, .int .i64 0, .int .i64 0, .int .i64 0, .int .i64 0, .string ⟨#[]⟩] 56)).alloc (.cells #[.string bs, .int .i64 0, .nilIface] 92)).heap.size = w.heap.size + 2 from by simp)
  clear hrd hres hs
  go_enter Try.func36, Try.ntmps36
  go_wp2_with fail
  refine (RN.out (some 0) (w.heap.size + 1) _ HRD.out).mono ?_
  rintro e w1 ⟨rfl, rd1, on1⟩
  rw [hkst] at rd1 ⊢
  clear hkst
  simp only at rd1 ⊢
  have S1 := Lib.hid (show w.heap.size + 2 ≤ w1.heap.size from by rw [← SA.out]; exact on1.size)
  have R1 := Lib.hid (on1.out HRES.out (by rw [SA.out]; omega) (by omega))
  have B1 := Lib.hid (BA.out.trans (on1.below (B := w.heap.size) (by omega) (by rw [SA.out]; omega)))
  have RD1 := Lib.hid rd1
  have O2 : Hid (Out (w1.alloc (.cells #[.int .i64 k, .int .i64 0, .int .i64 0, .int .i64 0, .int .i64 0, .int .i64 0, .int .i64 0, .int .i64 0, .string ⟨#[]⟩] 56)) w1.heap.size [k, 0, 0, 0, 0, 0, 0, 0] [.string ⟨#[]⟩]) := Lib.hid (out_new w1 [k, 0, 0, 0, 0, 0, 0, 0] [.string ⟨#[]⟩] 56)
  have BL2 := Lib.hid (show Below w1.heap.size w1 (w1.alloc (.cells #[.int .i64 k, .int .i64 0, .int .i64 0, .int .i64 0, .int .i64 0, .int .i64 0, .int .i64 0, .int .i64 0, .string ⟨#[]⟩] 56)) from (Below.refl _ _).alloc (Nat.le_refl _) _)
  have S2 := Lib.hid (show (w1.alloc (.cells #[.int .i64 k, .int .i64 0, .int .i64 0, .int .i64 0, .int .i64 0, .int .i64 0, .int .i64 0, .int .i64 0, .string ⟨#[]⟩] 56)).heap.size = w1.heap.size + 1 from by simp)
  clear rd1 on1 HRD HRES BA SA
  go_wp2_with fail
  refine (packetParts_any _ k _ (O2.out.1.1 0 (by simp))).mono ?_
  rintro e w4 ⟨v, rfl, P, b4⟩
  obtain ⟨ao, cap, rfl, q⟩ := P
  have O4 := Lib.hid (O2.out.below (by rw [S2.out]; omega) b4)
  have R4 := Lib.hid ((R1.out.below (by have := S1.out; omega) BL2.out).below (by have := S1.out; have := S2.out; omega) b4)
  have RD4 := Lib.hid ((RD1.out.below BL2.out).below b4)
  have B4 := Lib.hid (B1.out.trans ((BL2.out.mono (by have := S1.out; omega)).trans (b4.mono (by have := S1.out; have := S2.out; omega))))
  have S4 := Lib.hid (show w1.heap.size + 1 ≤ w4.heap.size from by rw [← S2.out]; exact b4.size)
  have Q := Lib.hid (fun j hj => show ∃ g, ao = some ⟨g, 0, none⟩ ∧ w1.heap.size + 1 ≤ g ∧ w4.cell? ⟨g, j, none⟩ = _ from (q j hj).imp fun g h => ⟨h.1, (by rw [← S2.out]; exact h.2.1), h.2.2⟩)
  clear q b4 O2 R1 RD1 B1 BL2 S2
  go_wp2_with fail
  obtain ⟨xb, hxb⟩ : ∃ xb, xb = w1.heap.size := ⟨_, rfl⟩
  rw [← hxb] at O4 S4 Q S1 ⊢
  clear hxb
  obtain ⟨rb, hrb⟩ : ∃ rb, rb = w.heap.size + 1 := ⟨_, rfl⟩
  rw [← hrb] at RD4 ⊢
  have HRB := Lib.hid hrb
  clear hrb
  have HI := Lib.hid (packetIdx_lt k)
  have hn := packetIdx_length k
  have H0 := Lib.hid (show 0 ∉ packetIdx k from fun h => absurd (packetIdx_range k 0 h).1 (by omega))
  generalize packetIdx k = is at HI hn Q HOK HGC H0 HGD ⊢
  obtain ⟨n, hnn⟩ : ∃ n, n = is.length := ⟨_, rfl⟩
  have HN := Lib.hid hnn
  rw [← hnn] at hn ⊢
  clear hnn
  go_loopg [7, 16] (n + 1) (fun gg s7 s16 wr => ∃ (j : Nat), j ≤ n ∧ n - j < gg ∧ s16 = .int .i64 j ∧ Aside (Out wr xb (rdFold l (is.take j) [k, 0, 0, 0, 0, 0, 0, 0] st1).1 [.string ⟨#[]⟩]) ∧ Aside (Rd wr rb l (rdFold l (is.take j) [k, 0, 0, 0, 0, 0, 0, 0] st1).2) ∧ Aside (Two rb xb w4 wr))
  case atStart => exact ⟨0, by omega, by omega, rfl, O4.out, RD4.out, Two.refl _ _ _⟩
  case round =>
    obtain ⟨j, hj, hjg, rfl, AO, AR, AW⟩ := hrel
    have hne : rb ≠ xb := by have := HRB.out; have := S1.out; omega
    have hr4 : rb < w4.heap.size := by have := HRB.out; have := S1.out; have := S4.out; omega
    have hx4 : xb < w4.heap.size := by have := S4.out; omega
    by_cases h : j < n
    · have hji : (j : Int) < n := by omega
      obtain ⟨g, rfl, hg1, p1⟩ := Q.out j (by rw [← HN.out]; exact h)
      have hi6 := HI.out j (by rw [← HN.out]; exact h)
      have y1 := AW.out.cell (p := ⟨g, j, none⟩) (show g ≠ rb from by have := HRB.out; have := S1.out; omega) (show g ≠ xb from by omega) p1
      have E := Lib.hid (rdFold_take l is [k, 0, 0, 0, 0, 0, 0, 0] st1 j (by rw [← HN.out]; exact h))
      have hlf := rdFold_length l (is.take j) [k, 0, 0, 0, 0, 0, 0, 0] st1
      have HNE := Lib.hid hne
      have HXR := Lib.hid (show xb < wr.heap.size from Nat.lt_of_lt_of_le hx4 AW.out.size)
      have HRR := Lib.hid (show rb < wr.heap.size from Nat.lt_of_lt_of_le hr4 AW.out.size)
      clear p1 hg1 hne hr4 hx4
      generalize rdFold l (is.take j) [k, 0, 0, 0, 0, 0, 0, 0] st1 = s at AO AR E hlf
      obtain ⟨oj, sj⟩ := s
      simp only at AO AR E hlf
      have hi6' : is[j]! < oj.length := by rw [hlf]; exact hi6
      have HIL := Lib.hid hi6'
      clear hlf hi6 hi6'
      generalize is[j]! = i at y1 E HIL
      go_wp2_with fail
      refine (RN.out sj rb _ AR.out).mono ?_
      rintro e w5 ⟨rfl, rd5, on5⟩
      generalize rdNum l sj = rz at rd5 E ⊢
      obtain ⟨z, s'⟩ := rz
      simp only at rd5 E ⊢
      have o5 := on5.out AO.out HXR.out (Ne.symm HNE.out)
      have f1 := o5.2 i
      have f2 := o5.1.1 i HIL.out
      have OS := Lib.hid (o5.set i HIL.out z)
      have on6 := Only.setCell (Only.refl xb w5) (p := ⟨xb, i, none⟩) rfl (.int .i64 z)
      have RS := Lib.hid (rd5.only (Nat.lt_of_lt_of_le HRR.out on5.size) HNE.out on6)
      have TS := Lib.hid ((AW.out.left on5).right on6)
      clear AO AR AW o5 rd5 on5 on6 RN
      go_wp2
      go_roundg (n - j)
      case measure => omega
      case rel => exact ⟨j + 1, by omega, by omega, by go_num, by rw [E.out]; exact OS.out, by rw [E.out]; exact RS.out, TS.out⟩
    · have hji : ¬ (j : Int) < n := by omega
      have hjn : j = n := by omega
      subst hjn
      have hti : is.take j = is := by rw [List.take_of_length_le]; rw [← HN.out]; omega
      rw [hti] at AO AR
      have hlo := rdFold_length l is [k, 0, 0, 0, 0, 0, 0, 0] st1
      have ho0 := rdFold_other l is [k, 0, 0, 0, 0, 0, 0, 0] st1 0 H0.out
      generalize rdFold l is [k, 0, 0, 0, 0, 0, 0, 0] st1 = s at AO AR HOK HGC HGD ho0 hlo
      obtain ⟨o, st⟩ := s
      simp only at AO AR HOK HGC HGD ho0 hlo
      obtain ⟨o0, o1, o2, o3, o4, o5, o6, o7, rfl⟩ : ∃ o0 o1 o2 o3 o4 o5 o6 o7, o = [o0, o1, o2, o3, o4, o5, o6, o7] := by
        match o, hlo with
        | [o0, o1, o2, o3, o4, o5, o6, o7], _ => exact ⟨o0, o1, o2, o3, o4, o5, o6, o7, rfl⟩
      clear hlo hti
      obtain rfl : o0 = k := by simpa using ho0
      clear ho0
      by_cases hk : o0 = 3
      · have e0 := beq_of o0 3 hk
        have HT : packetS.txt o0 = true := decide_eq_true hk
        simp only [HT, if_true] at HOK HGD
        clear hk HT
        have xk : wr.cell? ⟨xb, 0, none⟩ = some (.int .i64 o0) := AO.out.1.1 0 (by simp)
        go_wp2_with fail
        refine (RT.out st rb _ AR.out).mono ?_
        rintro e w5 ⟨rfl, rd5, on5⟩
        clear xk
        generalize rdText l st = rz at rd5 HOK HGD ⊢
        obtain ⟨dd, s'⟩ := rz
        simp only at rd5 HOK HGD ⊢
        have ow5 := on5.out AO.out (Nat.lt_of_lt_of_le hx4 AW.out.size) (Ne.symm hne)
        have f1 := ow5.2 8
        have f2 : w5.cell? ⟨xb, 8, none⟩ = some (.string ⟨#[]⟩) := ow5.1.2 0 (by simp)
        have OS : Hid (Out (w5.setCell ⟨xb, 8, none⟩ (strV dd)) xb [o0, o1, o2, o3, o4, o5, o6, o7] [strV dd]) := Lib.hid (ow5.setT 0 (by simp) (strV dd))
        have on6 := Only.setCell (Only.refl xb w5) (p := ⟨xb, 8, none⟩) rfl (strV dd)
        have RS := Lib.hid (rd5.only (Nat.lt_of_lt_of_le (Nat.lt_of_lt_of_le hr4 AW.out.size) on5.size) hne on6)
        have TS := Lib.hid ((AW.out.left on5).right on6)
        clear AO AR AW ow5 rd5 on5 on6
        rw [show strV dd = .string ⟨dd.toArray⟩ from rfl] at OS RS TS ⊢
        have MY0 := Lib.hid (fun w => packetMay_any o0 o1 o2 o3 o4 o5 o6 o7 dd w)
        rw [show recV [o0, o1, o2, o3, o4, o5, o6, o7] [strV dd] = recV [o0, o1, o2, o3, o4, o5, o6, o7] [.string ⟨dd.toArray⟩] from rfl] at MY0
        have HVD := Lib.hid (show ∀ g : List UInt8, g = dd → Value.string ⟨dd.toArray⟩ = strV g from fun g h => by rw [h]; rfl)
        generalize (⟨dd.toArray⟩ : ByteArray) = xs at OS RS TS MY0 HVD ⊢
        go_wp2_with fail
        have AO := OS
        have AR := RS
        have AW := TS
        clear OS RS TS f1 f2
        generalize w5.setCell ⟨xb, 8, none⟩ (.string xs) = wr at AO AR AW ⊢
        have HBW := Lib.hid (B4.out.trans (AW.out.below (B := w.heap.size) (by have := HRB.out; omega) (by have := S1.out; omega) hr4 hx4))
        have HRW := Lib.hid (AW.out.out R4.out (by have := S1.out; have := S4.out; omega) (by have := HRB.out; omega) (by have := S1.out; omega))
        have HOW := Lib.hid AO.out
        have HXW := Lib.hid (show xb < wr.heap.size from Nat.lt_of_lt_of_le hx4 AW.out.size)
        have HWW := Lib.hid (show w.heap.size < wr.heap.size from Nat.lt_of_lt_of_le (show w.heap.size < w4.heap.size by have := S1.out; have := S4.out; omega) AW.out.size)
        clear AO AW hne hr4 hx4
        go_wp2_with fail
        refine (RD.out _ rb _ AR.out).mono ?_
        rintro e w6 ⟨rfl, b6⟩
        have O6 := Lib.hid (HOW.out.below HXW.out b6)
        have R6 := Lib.hid (HRW.out.below HWW.out b6)
        have B6 := Lib.hid (HBW.out.trans (b6.mono HBW.out.size))
        clear b6 HOW HRW HBW AR
        cases hdone : doneB l s'
        · have HOK0 : Hid (ok = false) := Lib.hid (by rw [HOK.out, hdone]; rfl)
          clear hdone
          have HC0 := Lib.hid (show gc = [0, 0, 0, 0, 0, 0, 0, 0] from by rw [HGC.out, HOK0.out]; rfl)
          have HD0 := Lib.hid (show gd = [] from by rw [HGD.out, HOK0.out]; rfl)
          have r0 : w6.cell? ⟨w.heap.size, 0, none⟩ = some (.int .i64 0) := R6.out.1.1 0 (by decide)
          have z0 := R6.out.2 0
          have r1 : w6.cell? ⟨w.heap.size, 1, none⟩ = some (.int .i64 0) := R6.out.1.1 1 (by decide)
          have z1 := R6.out.2 1
          have r2 : w6.cell? ⟨w.heap.size, 2, none⟩ = some (.int .i64 0) := R6.out.1.1 2 (by decide)
          have z2 := R6.out.2 2
          have r3 : w6.cell? ⟨w.heap.size, 3, none⟩ = some (.int .i64 0) := R6.out.1.1 3 (by decide)
          have z3 := R6.out.2 3
          have r4 : w6.cell? ⟨w.heap.size, 4, none⟩ = some (.int .i64 0) := R6.out.1.1 4 (by decide)
          have z4 := R6.out.2 4
          have r5 : w6.cell? ⟨w.heap.size, 5, none⟩ = some (.int .i64 0) := R6.out.1.1 5 (by decide)
          have z5 := R6.out.2 5
          have r6 : w6.cell? ⟨w.heap.size, 6, none⟩ = some (.int .i64 0) := R6.out.1.1 6 (by decide)
          have z6 := R6.out.2 6
          have r7 : w6.cell? ⟨w.heap.size, 7, none⟩ = some (.int .i64 0) := R6.out.1.1 7 (by decide)
          have z7 := R6.out.2 7
          have r8 : w6.cell? ⟨w.heap.size, 8, none⟩ = some (.string ⟨#[]⟩) := R6.out.1.2 0 (by simp)
          have z8 := R6.out.2 8
          go_wp2
          refine bodyPost_ret (v := .tuple #[recV [0, 0, 0, 0, 0, 0, 0, 0] [.string ⟨#[]⟩], .int .i64 400]) (by simp [results, Try.results36, go_sem, recV, recL, r0, r1, r2, r3, r4, r5, r6, r7, r8]) rfl ⟨by rw [HC0.out, HOK0.out, HD0.out]; rfl, ?_⟩
          exact (((((((((B6.out.setCell (Nat.le_refl _) _).setCell (Nat.le_refl _) _).setCell (Nat.le_refl _) _).setCell (Nat.le_refl _) _).setCell (Nat.le_refl _) _).setCell (Nat.le_refl _) _).setCell (Nat.le_refl _) _).setCell (Nat.le_refl _) _).setCell (Nat.le_refl _) _)
        · have HDN := Lib.hid hdone
          clear hdone
          have x0 : w6.cell? ⟨xb, 0, none⟩ = some (.int .i64 o0) := O6.out.1.1 0 (by simp)
          have x1 : w6.cell? ⟨xb, 1, none⟩ = some (.int .i64 o1) := O6.out.1.1 1 (by simp)
          have x2 : w6.cell? ⟨xb, 2, none⟩ = some (.int .i64 o2) := O6.out.1.1 2 (by simp)
          have x3 : w6.cell? ⟨xb, 3, none⟩ = some (.int .i64 o3) := O6.out.1.1 3 (by simp)
          have x4 : w6.cell? ⟨xb, 4, none⟩ = some (.int .i64 o4) := O6.out.1.1 4 (by simp)
          have x5 : w6.cell? ⟨xb, 5, none⟩ = some (.int .i64 o5) := O6.out.1.1 5 (by simp)
          have x6 : w6.cell? ⟨xb, 6, none⟩ = some (.int .i64 o6) := O6.out.1.1 6 (by simp)
          have x7 : w6.cell? ⟨xb, 7, none⟩ = some (.int .i64 o7) := O6.out.1.1 7 (by simp)
          have x8 : w6.cell? ⟨xb, 8, none⟩ = some (.string xs) := O6.out.1.2 0 (by simp)
          have MY := MY0
          cases hmay : packetS.may [o0, o1, o2, o3, o4, o5, o6, o7] dd
          · have HMY := Lib.hid hmay
            have HOK0 : Hid (ok = false) := Lib.hid (by rw [HOK.out, HDN.out, hmay]; rfl)
            clear hmay
            have HC0 := Lib.hid (show gc = [0, 0, 0, 0, 0, 0, 0, 0] from by rw [HGC.out, HOK0.out]; rfl)
            have HD0 := Lib.hid (show gd = [] from by rw [HGD.out, HOK0.out]; rfl)
            go_wp2_with fail
            refine (show Calls Try.prog 38 #[.agg #[.int .i64 o0, .int .i64 o1, .int .i64 o2, .int .i64 o3, .int .i64 o4, .int .i64 o5, .int .i64 o6, .int .i64 o7, .string xs]] w6 _ from MY.out w6).mono ?_
            rintro e w7 ⟨rfl, b7⟩
            rw [HMY.out]
            have O7 := Lib.hid (O6.out.below (World.block_lt_of_cell? _ _ x0) b7)
            have R7 := Lib.hid (R6.out.below (World.block_lt_of_cell? _ _ (R6.out.1.1 0 (by decide))) b7)
            have B7 := Lib.hid (B6.out.trans (b7.mono B6.out.size))
            clear b7 O6 R6 B6 x0 x1 x2 x3 x4 x5 x6 x7 x8
            have r0 : w7.cell? ⟨w.heap.size, 0, none⟩ = some (.int .i64 0) := R7.out.1.1 0 (by decide)
            have z0 := R7.out.2 0
            have r1 : w7.cell? ⟨w.heap.size, 1, none⟩ = some (.int .i64 0) := R7.out.1.1 1 (by decide)
            have z1 := R7.out.2 1
            have r2 : w7.cell? ⟨w.heap.size, 2, none⟩ = some (.int .i64 0) := R7.out.1.1 2 (by decide)
            have z2 := R7.out.2 2
            have r3 : w7.cell? ⟨w.heap.size, 3, none⟩ = some (.int .i64 0) := R7.out.1.1 3 (by decide)
            have z3 := R7.out.2 3
            have r4 : w7.cell? ⟨w.heap.size, 4, none⟩ = some (.int .i64 0) := R7.out.1.1 4 (by decide)
            have z4 := R7.out.2 4
            have r5 : w7.cell? ⟨w.heap.size, 5, none⟩ = some (.int .i64 0) := R7.out.1.1 5 (by decide)
            have z5 := R7.out.2 5
            have r6 : w7.cell? ⟨w.heap.size, 6, none⟩ = some (.int .i64 0) := R7.out.1.1 6 (by decide)
            have z6 := R7.out.2 6
            have r7 : w7.cell? ⟨w.heap.size, 7, none⟩ = some (.int .i64 0) := R7.out.1.1 7 (by decide)
            have z7 := R7.out.2 7
            have r8 : w7.cell? ⟨w.heap.size, 8, none⟩ = some (.string ⟨#[]⟩) := R7.out.1.2 0 (by simp)
            have z8 := R7.out.2 8
            go_wp2
            refine bodyPost_ret (v := .tuple #[recV [0, 0, 0, 0, 0, 0, 0, 0] [.string ⟨#[]⟩], .int .i64 400]) (by simp [results, Try.results36, go_sem, recV, recL, r0, r1, r2, r3, r4, r5, r6, r7, r8]) rfl ⟨by rw [HC0.out, HOK0.out, HD0.out]; rfl, ?_⟩
            exact (((((((((B7.out.setCell (Nat.le_refl _) _).setCell (Nat.le_refl _) _).setCell (Nat.le_refl _) _).setCell (Nat.le_refl _) _).setCell (Nat.le_refl _) _).setCell (Nat.le_refl _) _).setCell (Nat.le_refl _) _).setCell (Nat.le_refl _) _).setCell (Nat.le_refl _) _)
          · have HMY := Lib.hid hmay
            have HOK0 : Hid (ok = true) := Lib.hid (by rw [HOK.out, HDN.out, hmay]; rfl)
            clear hmay
            have HC0 := Lib.hid (show gc = [o0, o1, o2, o3, o4, o5, o6, o7] from by rw [HGC.out, HOK0.out]; rfl)
            have HD0 := Lib.hid (show gd = dd from by rw [HGD.out, HOK0.out]; rfl)
            go_wp2_with fail
            refine (show Calls Try.prog 38 #[.agg #[.int .i64 o0, .int .i64 o1, .int .i64 o2, .int .i64 o3, .int .i64 o4, .int .i64 o5, .int .i64 o6, .int .i64 o7, .string xs]] w6 _ from MY.out w6).mono ?_
            rintro e w7 ⟨rfl, b7⟩
            rw [HMY.out]
            have O7 := Lib.hid (O6.out.below (World.block_lt_of_cell? _ _ x0) b7)
            have R7 := Lib.hid (R6.out.below (World.block_lt_of_cell? _ _ (R6.out.1.1 0 (by decide))) b7)
            have B7 := Lib.hid (B6.out.trans (b7.mono B6.out.size))
            clear b7 O6 R6 B6 x0 x1 x2 x3 x4 x5 x6 x7 x8
            have x0 : w7.cell? ⟨xb, 0, none⟩ = some (.int .i64 o0) := O7.out.1.1 0 (by simp)
            have x1 : w7.cell? ⟨xb, 1, none⟩ = some (.int .i64 o1) := O7.out.1.1 1 (by simp)
            have x2 : w7.cell? ⟨xb, 2, none⟩ = some (.int .i64 o2) := O7.out.1.1 2 (by simp)
            have x3 : w7.cell? ⟨xb, 3, none⟩ = some (.int .i64 o3) := O7.out.1.1 3 (by simp)
            have x4 : w7.cell? ⟨xb, 4, none⟩ = some (.int .i64 o4) := O7.out.1.1 4 (by simp)
            have x5 : w7.cell? ⟨xb, 5, none⟩ = some (.int .i64 o5) := O7.out.1.1 5 (by simp)
            have x6 : w7.cell? ⟨xb, 6, none⟩ = some (.int .i64 o6) := O7.out.1.1 6 (by simp)
            have x7 : w7.cell? ⟨xb, 7, none⟩ = some (.int .i64 o7) := O7.out.1.1 7 (by simp)
            have x8 : w7.cell? ⟨xb, 8, none⟩ = some (.string xs) := O7.out.1.2 0 (by simp)
            have r0 : w7.cell? ⟨w.heap.size, 0, none⟩ = some (.int .i64 0) := R7.out.1.1 0 (by decide)
            have z0 := R7.out.2 0
            have r1 : w7.cell? ⟨w.heap.size, 1, none⟩ = some (.int .i64 0) := R7.out.1.1 1 (by decide)
            have z1 := R7.out.2 1
            have r2 : w7.cell? ⟨w.heap.size, 2, none⟩ = some (.int .i64 0) := R7.out.1.1 2 (by decide)
            have z2 := R7.out.2 2
            have r3 : w7.cell? ⟨w.heap.size, 3, none⟩ = some (.int .i64 0) := R7.out.1.1 3 (by decide)
            have z3 := R7.out.2 3
            have r4 : w7.cell? ⟨w.heap.size, 4, none⟩ = some (.int .i64 0) := R7.out.1.1 4 (by decide)
            have z4 := R7.out.2 4
            have r5 : w7.cell? ⟨w.heap.size, 5, none⟩ = some (.int .i64 0) := R7.out.1.1 5 (by decide)
            have z5 := R7.out.2 5
            have r6 : w7.cell? ⟨w.heap.size, 6, none⟩ = some (.int .i64 0) := R7.out.1.1 6 (by decide)
            have z6 := R7.out.2 6
            have r7 : w7.cell? ⟨w.heap.size, 7, none⟩ = some (.int .i64 0) := R7.out.1.1 7 (by decide)
            have z7 := R7.out.2 7
            have r8 : w7.cell? ⟨w.heap.size, 8, none⟩ = some (.string ⟨#[]⟩) := R7.out.1.2 0 (by simp)
            have z8 := R7.out.2 8
            have hne2 : w.heap.size ≠ xb := by have := S1.out; omega
            go_wp2
            refine bodyPost_ret (v := .tuple #[recV [o0, o1, o2, o3, o4, o5, o6, o7] [.string xs], .int .i64 0]) (by simp [results, Try.results36, go_sem, recV, recL, r0, r1, r2, r3, r4, r5, r6, r7, r8]) rfl ⟨by rw [HC0.out, HOK0.out, HVD.out gd HD0.out]; rfl, ?_⟩
            exact (((((((((B7.out.setCell (Nat.le_refl _) _).setCell (Nat.le_refl _) _).setCell (Nat.le_refl _) _).setCell (Nat.le_refl _) _).setCell (Nat.le_refl _) _).setCell (Nat.le_refl _) _).setCell (Nat.le_refl _) _).setCell (Nat.le_refl _) _).setCell (Nat.le_refl _) _)
      · have e0 := bne_of o0 3 hk
        have HT : packetS.txt o0 = false := decide_eq_false hk
        simp only [HT] at HOK HGD
        rw [if_neg (by decide)] at HOK
        simp only [Bool.false_eq_true, if_false] at HGD
        clear hk HT
        have xk : wr.cell? ⟨xb, 0, none⟩ = some (.int .i64 o0) := AO.out.1.1 0 (by simp)
        have MY0 := Lib.hid (fun w => packetMay_any o0 o1 o2 o3 o4 o5 o6 o7 [] w)
        rw [show recV [o0, o1, o2, o3, o4, o5, o6, o7] [strV []] = recV [o0, o1, o2, o3, o4, o5, o6, o7] [.string ⟨#[]⟩] from rfl] at MY0
        have HVD := Lib.hid (show ∀ g : List UInt8, g = [] → Value.string ⟨#[]⟩ = strV g from fun g h => by rw [h]; rfl)
        go_wp2_with fail
        clear xk
        have HBW := Lib.hid (B4.out.trans (AW.out.below (B := w.heap.size) (by have := HRB.out; omega) (by have := S1.out; omega) hr4 hx4))
        have HRW := Lib.hid (AW.out.out R4.out (by have := S1.out; have := S4.out; omega) (by have := HRB.out; omega) (by have := S1.out; omega))
        have HOW := Lib.hid AO.out
        have HXW := Lib.hid (show xb < wr.heap.size from Nat.lt_of_lt_of_le hx4 AW.out.size)
        have HWW := Lib.hid (show w.heap.size < wr.heap.size from Nat.lt_of_lt_of_le (show w.heap.size < w4.heap.size by have := S1.out; have := S4.out; omega) AW.out.size)
        clear AO AW hne hr4 hx4
        go_wp2_with fail
        refine (RD.out _ rb _ AR.out).mono ?_
        rintro e w6 ⟨rfl, b6⟩
        have O6 := Lib.hid (HOW.out.below HXW.out b6)
        have R6 := Lib.hid (HRW.out.below HWW.out b6)
        have B6 := Lib.hid (HBW.out.trans (b6.mono HBW.out.size))
        clear b6 HOW HRW HBW AR
        cases hdone : doneB l st
        · have HOK0 : Hid (ok = false) := Lib.hid (by rw [HOK.out, hdone]; rfl)
          clear hdone
          have HC0 := Lib.hid (show gc = [0, 0, 0, 0, 0, 0, 0, 0] from by rw [HGC.out, HOK0.out]; rfl)
          have HD0 := Lib.hid (show gd = [] from by rw [HGD.out, HOK0.out]; rfl)
          have r0 : w6.cell? ⟨w.heap.size, 0, none⟩ = some (.int .i64 0) := R6.out.1.1 0 (by decide)
          have z0 := R6.out.2 0
          have r1 : w6.cell? ⟨w.heap.size, 1, none⟩ = some (.int .i64 0) := R6.out.1.1 1 (by decide)
          have z1 := R6.out.2 1
          have r2 : w6.cell? ⟨w.heap.size, 2, none⟩ = some (.int .i64 0) := R6.out.1.1 2 (by decide)
          have z2 := R6.out.2 2
          have r3 : w6.cell? ⟨w.heap.size, 3, none⟩ = some (.int .i64 0) := R6.out.1.1 3 (by decide)
          have z3 := R6.out.2 3
          have r4 : w6.cell? ⟨w.heap.size, 4, none⟩ = some (.int .i64 0) := R6.out.1.1 4 (by decide)
          have z4 := R6.out.2 4
          have r5 : w6.cell? ⟨w.heap.size, 5, none⟩ = some (.int .i64 0) := R6.out.1.1 5 (by decide)
          have z5 := R6.out.2 5
          have r6 : w6.cell? ⟨w.heap.size, 6, none⟩ = some (.int .i64 0) := R6.out.1.1 6 (by decide)
          have z6 := R6.out.2 6
          have r7 : w6.cell? ⟨w.heap.size, 7, none⟩ = some (.int .i64 0) := R6.out.1.1 7 (by decide)
          have z7 := R6.out.2 7
          have r8 : w6.cell? ⟨w.heap.size, 8, none⟩ = some (.string ⟨#[]⟩) := R6.out.1.2 0 (by simp)
          have z8 := R6.out.2 8
          go_wp2
          refine bodyPost_ret (v := .tuple #[recV [0, 0, 0, 0, 0, 0, 0, 0] [.string ⟨#[]⟩], .int .i64 400]) (by simp [results, Try.results36, go_sem, recV, recL, r0, r1, r2, r3, r4, r5, r6, r7, r8]) rfl ⟨by rw [HC0.out, HOK0.out, HD0.out]; rfl, ?_⟩
          exact (((((((((B6.out.setCell (Nat.le_refl _) _).setCell (Nat.le_refl _) _).setCell (Nat.le_refl _) _).setCell (Nat.le_refl _) _).setCell (Nat.le_refl _) _).setCell (Nat.le_refl _) _).setCell (Nat.le_refl _) _).setCell (Nat.le_refl _) _).setCell (Nat.le_refl _) _)
        · have HDN := Lib.hid hdone
          clear hdone
          have x0 : w6.cell? ⟨xb, 0, none⟩ = some (.int .i64 o0) := O6.out.1.1 0 (by simp)
          have x1 : w6.cell? ⟨xb, 1, none⟩ = some (.int .i64 o1) := O6.out.1.1 1 (by simp)
          have x2 : w6.cell? ⟨xb, 2, none⟩ = some (.int .i64 o2) := O6.out.1.1 2 (by simp)
          have x3 : w6.cell? ⟨xb, 3, none⟩ = some (.int .i64 o3) := O6.out.1.1 3 (by simp)
          have x4 : w6.cell? ⟨xb, 4, none⟩ = some (.int .i64 o4) := O6.out.1.1 4 (by simp)
          have x5 : w6.cell? ⟨xb, 5, none⟩ = some (.int .i64 o5) := O6.out.1.1 5 (by simp)
          have x6 : w6.cell? ⟨xb, 6, none⟩ = some (.int .i64 o6) := O6.out.1.1 6 (by simp)
          have x7 : w6.cell? ⟨xb, 7, none⟩ = some (.int .i64 o7) := O6.out.1.1 7 (by simp)
          have x8 : w6.cell? ⟨xb, 8, none⟩ = some (.string ⟨#[]⟩) := O6.out.1.2 0 (by simp)
          have MY := MY0
          cases hmay : packetS.may [o0, o1, o2, o3, o4, o5, o6, o7] []
          · have HMY := Lib.hid hmay
            have HOK0 : Hid (ok = false) := Lib.hid (by rw [HOK.out, HDN.out, hmay]; rfl)
            clear hmay
            have HC0 := Lib.hid (show gc = [0, 0, 0, 0, 0, 0, 0, 0] from by rw [HGC.out, HOK0.out]; rfl)
            have HD0 := Lib.hid (show gd = [] from by rw [HGD.out, HOK0.out]; rfl)
            go_wp2_with fail
            refine (show Calls Try.prog 38 #[.agg #[.int .i64 o0, .int .i64 o1, .int .i64 o2, .int .i64 o3, .int .i64 o4, .int .i64 o5, .int .i64 o6, .int .i64 o7, .string ⟨#[]⟩]] w6 _ from MY.out w6).mono ?_
            rintro e w7 ⟨rfl, b7⟩
            rw [HMY.out]
            have O7 := Lib.hid (O6.out.below (World.block_lt_of_cell? _ _ x0) b7)
            have R7 := Lib.hid (R6.out.below (World.block_lt_of_cell? _ _ (R6.out.1.1 0 (by decide))) b7)
            have B7 := Lib.hid (B6.out.trans (b7.mono B6.out.size))
            clear b7 O6 R6 B6 x0 x1 x2 x3 x4 x5 x6 x7 x8
            have r0 : w7.cell? ⟨w.heap.size, 0, none⟩ = some (.int .i64 0) := R7.out.1.1 0 (by decide)
            have z0 := R7.out.2 0
            have r1 : w7.cell? ⟨w.heap.size, 1, none⟩ = some (.int .i64 0) := R7.out.1.1 1 (by decide)
            have z1 := R7.out.2 1
            have r2 : w7.cell? ⟨w.heap.size, 2, none⟩ = some (.int .i64 0) := R7.out.1.1 2 (by decide)
            have z2 := R7.out.2 2
            have r3 : w7.cell? ⟨w.heap.size, 3, none⟩ = some (.int .i64 0) := R7.out.1.1 3 (by decide)
            have z3 := R7.out.2 3
            have r4 : w7.cell? ⟨w.heap.size, 4, none⟩ = some (.int .i64 0) := R7.out.1.1 4 (by decide)
            have z4 := R7.out.2 4
            have r5 : w7.cell? ⟨w.heap.size, 5, none⟩ = some (.int .i64 0) := R7.out.1.1 5 (by decide)
            have z5 := R7.out.2 5
            have r6 : w7.cell? ⟨w.heap.size, 6, none⟩ = some (.int .i64 0) := R7.out.1.1 6 (by decide)
            have z6 := R7.out.2 6
            have r7 : w7.cell? ⟨w.heap.size, 7, none⟩ = some (.int .i64 0) := R7.out.1.1 7 (by decide)
            have z7 := R7.out.2 7
            have r8 : w7.cell? ⟨w.heap.size, 8, none⟩ = some (.string ⟨#[]⟩) := R7.out.1.2 0 (by simp)
            have z8 := R7.out.2 8
            go_wp2
            refine bodyPost_ret (v := .tuple #[recV [0, 0, 0, 0, 0, 0, 0, 0] [.string ⟨#[]⟩], .int .i64 400]) (by simp [results, Try.results36, go_sem, recV, recL, r0, r1, r2, r3, r4, r5, r6, r7, r8]) rfl ⟨by rw [HC0.out, HOK0.out, HD0.out]; rfl, ?_⟩
            exact (((((((((B7.out.setCell (Nat.le_refl _) _).setCell (Nat.le_refl _) _).setCell (Nat.le_refl _) _).setCell (Nat.le_refl _) _).setCell (Nat.le_refl _) _).setCell (Nat.le_refl _) _).setCell (Nat.le_refl _) _).setCell (Nat.le_refl _) _).setCell (Nat.le_refl _) _)
          · have HMY := Lib.hid hmay
            have HOK0 : Hid (ok = true) := Lib.hid (by rw [HOK.out, HDN.out, hmay]; rfl)
            clear hmay
            have HC0 := Lib.hid (show gc = [o0, o1, o2, o3, o4, o5, o6, o7] from by rw [HGC.out, HOK0.out]; rfl)
            have HD0 := Lib.hid (show gd = [] from by rw [HGD.out, HOK0.out]; rfl)
            go_wp2_with fail
            refine (show Calls Try.prog 38 #[.agg #[.int .i64 o0, .int .i64 o1, .int .i64 o2, .int .i64 o3, .int .i64 o4, .int .i64 o5, .int .i64 o6, .int .i64 o7, .string ⟨#[]⟩]] w6 _ from MY.out w6).mono ?_
            rintro e w7 ⟨rfl, b7⟩
            rw [HMY.out]
            have O7 := Lib.hid (O6.out.below (World.block_lt_of_cell? _ _ x0) b7)
            have R7 := Lib.hid (R6.out.below (World.block_lt_of_cell? _ _ (R6.out.1.1 0 (by decide))) b7)
            have B7 := Lib.hid (B6.out.trans (b7.mono B6.out.size))
            clear b7 O6 R6 B6 x0 x1 x2 x3 x4 x5 x6 x7 x8
            have x0 : w7.cell? ⟨xb, 0, none⟩ = some (.int .i64 o0) := O7.out.1.1 0 (by simp)
            have x1 : w7.cell? ⟨xb, 1, none⟩ = some (.int .i64 o1) := O7.out.1.1 1 (by simp)
            have x2 : w7.cell? ⟨xb, 2, none⟩ = some (.int .i64 o2) := O7.out.1.1 2 (by simp)
            have x3 : w7.cell? ⟨xb, 3, none⟩ = some (.int .i64 o3) := O7.out.1.1 3 (by simp)
            have x4 : w7.cell? ⟨xb, 4, none⟩ = some (.int .i64 o4) := O7.out.1.1 4 (by simp)
            have x5 : w7.cell? ⟨xb, 5, none⟩ = some (.int .i64 o5) := O7.out.1.1 5 (by simp)
            have x6 : w7.cell? ⟨xb, 6, none⟩ = some (.int .i64 o6) := O7.out.1.1 6 (by simp)
            have x7 : w7.cell? ⟨xb, 7, none⟩ = some (.int .i64 o7) := O7.out.1.1 7 (by simp)
            have x8 : w7.cell? ⟨xb, 8, none⟩ = some (.string ⟨#[]⟩) := O7.out.1.2 0 (by simp)
            have r0 : w7.cell? ⟨w.heap.size, 0, none⟩ = some (.int .i64 0) := R7.out.1.1 0 (by decide)
            have z0 := R7.out.2 0
            have r1 : w7.cell? ⟨w.heap.size, 1, none⟩ = some (.int .i64 0) := R7.out.1.1 1 (by decide)
            have z1 := R7.out.2 1
            have r2 : w7.cell? ⟨w.heap.size, 2, none⟩ = some (.int .i64 0) := R7.out.1.1 2 (by decide)
            have z2 := R7.out.2 2
            have r3 : w7.cell? ⟨w.heap.size, 3, none⟩ = some (.int .i64 0) := R7.out.1.1 3 (by decide)
            have z3 := R7.out.2 3
            have r4 : w7.cell? ⟨w.heap.size, 4, none⟩ = some (.int .i64 0) := R7.out.1.1 4 (by decide)
            have z4 := R7.out.2 4
            have r5 : w7.cell? ⟨w.heap.size, 5, none⟩ = some (.int .i64 0) := R7.out.1.1 5 (by decide)
            have z5 := R7.out.2 5
            have r6 : w7.cell? ⟨w.heap.size, 6, none⟩ = some (.int .i64 0) := R7.out.1.1 6 (by decide)
            have z6 := R7.out.2 6
            have r7 : w7.cell? ⟨w.heap.size, 7, none⟩ = some (.int .i64 0) := R7.out.1.1 7 (by decide)
            have z7 := R7.out.2 7
            have r8 : w7.cell? ⟨w.heap.size, 8, none⟩ = some (.string ⟨#[]⟩) := R7.out.1.2 0 (by simp)
            have z8 := R7.out.2 8
            have hne2 : w.heap.size ≠ xb := by have := S1.out; omega
            go_wp2
            refine bodyPost_ret (v := .tuple #[recV [o0, o1, o2, o3, o4, o5, o6, o7] [.string ⟨#[]⟩], .int .i64 0]) (by simp [results, Try.results36, go_sem, recV, recL, r0, r1, r2, r3, r4, r5, r6, r7, r8]) rfl ⟨by rw [HC0.out, HOK0.out, HVD.out gd HD0.out]; rfl, ?_⟩
            exact (((((((((B7.out.setCell (Nat.le_refl _) _).setCell (Nat.le_refl _) _).setCell (Nat.le_refl _) _).setCell (Nat.le_refl _) _).setCell (Nat.le_refl _) _).setCell (Nat.le_refl _) _).setCell (Nat.le_refl _) _).setCell (Nat.le_refl _) _).setCell (Nat.le_refl _) _)
end Go.Proofs.Ythkbeigimdgamaa
