/- packet.texts, plain -/
import Derived.Test.YthkbeigimdgamaaPacketA
import Derived.Deep.RegionWith
import Derived.Deep.DeepCutAuto
namespace Go.Proofs.Ythkbeigimdgamaa
open Go Go.RowKit

set_option maxRecDepth 100000 in
theorem packetTexts_any (b : Nat) (k : Int) (bs xs : ByteArray) (w : World) (h0 : w.cell? ⟨b, 0, none⟩ = some (.int .i64 k)) (h8 : w.cell? ⟨b, 8, none⟩ = some (.string bs)) (hx : xs = if k = 3 then bs else ⟨#[]⟩) : Calls Try.prog 74 #[.pointer (some ⟨b, 0, none⟩)] w fun e w' => e = .returned (.string xs) ∧ w = w' := by
  by_cases hk : k = 3
  · rw [if_pos hk] at hx
    subst hx; subst hk
    go_enter Try.func74, Try.ntmps74
    go_wp2
    go_ret
    exact ⟨rfl, rfl⟩
  · rw [if_neg hk] at hx
    subst hx
    have e : (k != 3) = true := by simpa using hk
    go_enter Try.func74, Try.ntmps74
    go_wp2
    go_ret
    exact ⟨rfl, rfl⟩

set_option maxRecDepth 100000 in
set_option maxHeartbeats 6400000 in
theorem packetPlain_any (b : Nat) (c : List Int) (d : List UInt8) (k : Int) (w : World) (hl : c.length = 8) (hk : c[0]! = k) (hc : Rec w b c [strV d]) : Calls Try.prog 65 #[.pointer (some ⟨b, 0, none⟩)] w fun e w' => e = .returned (recV (plainF packetIdx c) [strV (if decide (k = 3) = true then d else [])]) ∧ Below w.heap.size w w' := by
  have c0 := hc.1 0 (by omega)
  rw [hk] at c0
  have hb : b < w.heap.size := World.block_lt_of_cell? _ _ c0
  have c8 : w.cell? ⟨b, 8, none⟩ = some (.string ⟨d.toArray⟩) := by have := hc.2 0 (by simp); rw [hl] at this; exact this
  obtain ⟨xs, hxs⟩ : ∃ xs : ByteArray, xs = if k = 3 then ⟨d.toArray⟩ else ⟨#[]⟩ := ⟨_, rfl⟩
  obtain ⟨dd, hdd⟩ : ∃ dd : List UInt8, dd = if decide (k = 3) = true then d else [] := ⟨_, rfl⟩
  rw [← hdd]
  have HXS : Hid (strV dd = .string xs) := Lib.hid (by
    rw [hxs, hdd]
    by_cases h : k = 3
    · rw [if_pos h, if_pos (decide_eq_true h)]; rfl
    · rw [if_neg h, if_neg (by simp [h])]; rfl)
  have HC := Lib.hid hc
  clear hc
  have TX := Lib.hid (fun w h0 h8 => packetTexts_any b k ⟨d.toArray⟩ xs w h0 h8 hxs)
  generalize (⟨d.toArray⟩ : ByteArray) = bs at c8 TX
  have HK := Lib.hid hk
  clear hk hxs hdd
  have C0 := Lib.hid (show (w.alloc (.cells #[.int .i64 0, .int .i64 0, .int .i64 0, .int .i64 0, .int .i64 0, .int .i64 0, .int .i64 0, .int .i64 0, .string ⟨#[]⟩] 56)).cell? ⟨b, 0, none⟩ = some (.int .i64 k) from keep_cell c0 ((Below.refl _ _).alloc (Nat.le_refl _) _))
  have C8 := Lib.hid (show (w.alloc (.cells #[.int .i64 0, .int .i64 0, .int .i64 0, .int .i64 0, .int .i64 0, .int .i64 0, .int .i64 0, .int .i64 0, .string ⟨#[]⟩] 56)).cell? ⟨b, 8, none⟩ = some (.string bs) from keep_cell c8 ((Below.refl _ _).alloc (Nat.le_refl _) _))
  have BW0 := Lib.hid (show Below w.heap.size w (w.alloc (.cells #[.int .i64 0, .int .i64 0, .int .i64 0, .int .i64 0, .int .i64 0, .int .i64 0, .int .i64 0, .int .i64 0, .string ⟨#[]⟩] 56)) from (Below.refl _ _).alloc (Nat.le_refl _) _)
  have SW0 := Lib.hid (show (w.alloc (.cells #[.int .i64 0, .int .i64 0, .int .i64 0, .int .i64 0, .int .i64 0, .int .i64 0, .int .i64 0, .int .i64 0, .string ⟨#[]⟩] 56)).heap.size = w.heap.size + 1 from by simp)
  have HRES : Hid (Out (w.alloc (.cells #[.int .i64 0, .int .i64 0, .int .i64 0, .int .i64 0, .int .i64 0, .int .i64 0, .int .i64 0, .int .i64 0, .string ⟨#[]⟩] 56)) w.heap.size [0, 0, 0, 0, 0, 0, 0, 0] [.string ⟨#[]⟩]) := Lib.hid (out_new w [0, 0, 0, 0, 0, 0, 0, 0] [.string ⟨#[]⟩] 56)
  go_enter Try.func65, Try.ntmps65
  go_upto_region 1 with (fail)
  generalize (w.alloc (.cells #[.int .i64 0, .int .i64 0, .int .i64 0, .int .i64 0, .int .i64 0, .int .i64 0, .int .i64 0, .int .i64 0, .string ⟨#[]⟩] 56)) = w0 at C0 C8 BW0 SW0 HRES ⊢
  clear c8
  have c00 := C0.out
  have sw0 := SW0.out
  have HOUT : Hid (Out (w0.alloc (.cells #[.int .i64 k, .int .i64 0, .int .i64 0, .int .i64 0, .int .i64 0, .int .i64 0, .int .i64 0, .int .i64 0, .string xs] 56)) w0.heap.size [k, 0, 0, 0, 0, 0, 0, 0] [.string xs]) := Lib.hid (out_new w0 [k, 0, 0, 0, 0, 0, 0, 0] [.string xs] 56)
  rw [sw0] at HOUT
  have HS1 := Lib.hid (show (w0.alloc (.cells #[.int .i64 k, .int .i64 0, .int .i64 0, .int .i64 0, .int .i64 0, .int .i64 0, .int .i64 0, .int .i64 0, .string xs] 56)).heap.size = w0.heap.size + 1 from by simp)
  rw [sw0] at HS1
  have HB1 := Lib.hid (show Below w0.heap.size w0 (w0.alloc (.cells #[.int .i64 k, .int .i64 0, .int .i64 0, .int .i64 0, .int .i64 0, .int .i64 0, .int .i64 0, .int .i64 0, .string xs] 56)) from (Below.refl _ _).alloc (Nat.le_refl _) _)
  go_cut [3] (fun s3 wx => s3 = .pointer (some ⟨w.heap.size + 1, 0, none⟩) ∧ Aside (Out wx (w.heap.size + 1) [k, 0, 0, 0, 0, 0, 0, 0] [.string xs]) ∧ Aside (Below w0.heap.size w0 wx) ∧ Aside (wx.heap.size = w.heap.size + 2))
  case first =>
    first
    | go_region_with (go_at_call 74; refine (TX.out _ (by first | exact C0.out | exact keep_cell (w := w0.drew) C0.out ((Below.refl _ _).alloc (Nat.le_refl _) _)) (by first | exact C8.out | exact keep_cell (w := w0.drew) C8.out ((Below.refl _ _).alloc (Nat.le_refl _) _))).mono ?_; rintro e w' ⟨rfl, rfl⟩)
    | fail "the region"
    all_goals
      go_wp2_with fail
      go_meet
      exact ⟨rfl, HOUT.out, HB1.out.drew, HS1.out⟩
  case rest =>
    obtain ⟨rfl, AO, AB, AS⟩ := hcut
    have hbel : Below w.heap.size w wc := BW0.out.trans (AB.out.mono BW0.out.size)
    have hsz : wc.heap.size = w.heap.size + 2 := AS.out
    have hout := AO.out
    have hres := HRES.out.below (by rw [sw0]; omega) AB.out
    clear AO AB AS HOUT HS1 HB1 HRES SW0 BW0 C0 C8 c00 sw0 TX
    generalize wc = w2 at hbel hsz hout hres ⊢
    go_wp2_with fail
    have hob := hout.1.1 0 (by simp)
    refine (packetParts_any (w.heap.size + 1) k w2 hob).mono ?_
    rintro e w3 ⟨v1, rfl, P1, b1⟩
    have c3 := keep_cell (keep_cell c0 hbel) b1
    obtain ⟨ao1, cap1, rfl, q1⟩ := P1
    go_wp2_with fail
    refine (packetParts_any b k w3 c3).mono ?_
    rintro e w4 ⟨v2, rfl, P2, b2⟩
    obtain ⟨ao2, cap2, rfl, q2⟩ := P2
    have O4 := Lib.hid ((hout.below (by omega) b1).below (by have := b1.size; omega) b2)
    have R4 := Lib.hid ((hres.below (by omega) b1).below (by have := b1.size; omega) b2)
    have B4 := Lib.hid (hbel.trans ((b1.mono (by omega)).trans (b2.mono (by have := b1.size; omega))))
    have Q1 := Lib.hid (fun j hj => show ∃ g, ao1 = some ⟨g, 0, none⟩ ∧ w2.heap.size ≤ g ∧ w4.cell? ⟨g, j, none⟩ = _ from (q1 j hj).imp fun g h => ⟨h.1, h.2.1, keep_cell h.2.2 b2⟩)
    have Q2 := Lib.hid (fun j hj => show ∃ g, ao2 = some ⟨g, 0, none⟩ ∧ w2.heap.size ≤ g ∧ w4.cell? ⟨g, j, none⟩ = _ from (q2 j hj).imp fun g h => ⟨h.1, Nat.le_trans b1.size h.2.1, h.2.2⟩)
    have C4 := Lib.hid (HC.out.below B4.out)
    clear q1 q2 c3 c0 hob hout hres b1 b2 hbel
    go_wp2_with fail
    have HI := Lib.hid (packetIdx_lt k)
    have hn := packetIdx_length k
    have HP : Hid (plainF packetIdx c = copyF c (packetIdx k) [k, 0, 0, 0, 0, 0, 0, 0]) := Lib.hid (by unfold plainF; rw [HK.out, hl]; rfl)
    generalize packetIdx k = is at HI Q1 Q2 HP hn ⊢
    have HO := Lib.hid hsz
    have HB := Lib.hid hb
    obtain ⟨ob, hob⟩ : ∃ ob, ob = w.heap.size + 1 := ⟨_, rfl⟩
    rw [← hob] at O4 Q1 ⊢
    have HOB := Lib.hid hob
    clear hob
    obtain ⟨n, hnn⟩ : ∃ n, n = is.length := ⟨_, rfl⟩
    have HN := Lib.hid hnn
    rw [← hnn] at hn ⊢
    clear hnn
    go_loopg [5, 6, 18] (n + 1) (fun gg s5 s6 s18 wr => ∃ (j : Nat), j ≤ n ∧ n - j < gg ∧ s18 = .int .i64 j ∧ Aside (Out wr ob (copyF c (is.take j) [k, 0, 0, 0, 0, 0, 0, 0]) [.string xs]) ∧ Aside (Only ob w4 wr))
    case atStart => exact ⟨0, by omega, by omega, rfl, O4.out, Only.refl _ _⟩
    case round =>
      obtain ⟨j, hj, hjg, rfl, AO, AW⟩ := hrel
      by_cases h : j < n
      · have hji : (j : Int) < n := by omega
        obtain ⟨g1, rfl, hg1, p1⟩ := Q1.out j (by rw [← HN.out]; exact h)
        obtain ⟨g2, rfl, hg2, p2⟩ := Q2.out j (by rw [← HN.out]; exact h)
        have hi6 := HI.out j (by rw [← HN.out]; exact h)
        have E := Lib.hid (copyF_take c is [k, 0, 0, 0, 0, 0, 0, 0] j (by rw [← HN.out]; exact h))
        have hne1 : g1 ≠ ob := by have := HOB.out; have := HO.out; omega
        have hne2 : g2 ≠ ob := by have := HOB.out; have := HO.out; omega
        have hne3 : b ≠ ob := by have := HOB.out; have := HB.out; omega
        have r1 := AW.out.cell (p := ⟨g1, j, none⟩) hne1 p1
        have r2 := AW.out.cell (p := ⟨g2, j, none⟩) hne2 p2
        have hlc := copyF_length c (is.take j) [k, 0, 0, 0, 0, 0, 0, 0]
        have x1 := AW.out.cell (p := ⟨b, is[j]!, none⟩) hne3 (C4.out.1 is[j]! (by rw [hl]; exact hi6))
        have o1 := AO.out.1.1 is[j]! (by rw [hlc]; exact hi6)
        have f1 := AO.out.2 is[j]!
        have OS := Lib.hid (AO.out.set is[j]! (by rw [hlc]; exact hi6) c[is[j]!]!)
        rw [← E.out] at OS
        have WS := Lib.hid (AW.out.setCell (p := ⟨ob, is[j]!, none⟩) rfl (.int .i64 c[is[j]!]!))
        clear p1 p2 AO AW E hlc hne1 hne2 hne3
        generalize (copyF c (is.take j) [k, 0, 0, 0, 0, 0, 0, 0])[is[j]!]! = z0 at o1
        generalize c[is[j]!]! = z at x1 OS WS
        generalize is[j]! = i at r1 r2 x1 o1 f1 OS WS hi6
        go_wp2
        go_region
        go_wp2
        go_roundg (n - j)
        case measure => omega
        case rel => exact ⟨j + 1, by omega, by omega, by go_num, OS.out, ⟨WS.out.os, WS.out.tape, WS.out.output, WS.out.size, WS.out.block⟩⟩
      · have hji : ¬ (j : Int) < n := by omega
        have hjn : j = n := by omega
        subst hjn
        have ht : is.take j = is := by rw [List.take_of_length_le]; rw [← HN.out]; omega
        have O := AO.out
        rw [ht] at O
        have hlo := copyF_length c is [k, 0, 0, 0, 0, 0, 0, 0]
        generalize copyF c is [k, 0, 0, 0, 0, 0, 0, 0] = o at O hlo HP
        obtain ⟨o0, o1, o2, o3, o4, o5, o6, o7, rfl⟩ : ∃ o0 o1 o2 o3 o4 o5 o6 o7, o = [o0, o1, o2, o3, o4, o5, o6, o7] := by
          match o, hlo with
          | [o0, o1, o2, o3, o4, o5, o6, o7], _ => exact ⟨o0, o1, o2, o3, o4, o5, o6, o7, rfl⟩
        have hne : w.heap.size ≠ ob := by have := HOB.out; omega
        have e0 : wr.cell? ⟨ob, 0, none⟩ = some (.int .i64 o0) := O.1.1 0 (by simp)
        have e1 : wr.cell? ⟨ob, 1, none⟩ = some (.int .i64 o1) := O.1.1 1 (by simp)
        have e2 : wr.cell? ⟨ob, 2, none⟩ = some (.int .i64 o2) := O.1.1 2 (by simp)
        have e3 : wr.cell? ⟨ob, 3, none⟩ = some (.int .i64 o3) := O.1.1 3 (by simp)
        have e4 : wr.cell? ⟨ob, 4, none⟩ = some (.int .i64 o4) := O.1.1 4 (by simp)
        have e5 : wr.cell? ⟨ob, 5, none⟩ = some (.int .i64 o5) := O.1.1 5 (by simp)
        have e6 : wr.cell? ⟨ob, 6, none⟩ = some (.int .i64 o6) := O.1.1 6 (by simp)
        have e7 : wr.cell? ⟨ob, 7, none⟩ = some (.int .i64 o7) := O.1.1 7 (by simp)
        have e8 : wr.cell? ⟨ob, 8, none⟩ = some (.string xs) := O.1.2 0 (by simp)
        have hws : w.heap.size < w4.heap.size := World.block_lt_of_cell? _ _ (R4.out.1.1 0 (by decide))
        have hos : ob < w4.heap.size := World.block_lt_of_cell? _ _ (O4.out.1.1 0 (by simp))
        have hR := AW.out.out R4.out hws hne
        have BW := Lib.hid (B4.out.trans (AW.out.below (B := w.heap.size) (by have := HOB.out; omega) hos))
        have r0 : wr.cell? ⟨w.heap.size, 0, none⟩ = some (.int .i64 0) := hR.1.1 0 (by decide)
        have z0 := hR.2 0
        have r1 : wr.cell? ⟨w.heap.size, 1, none⟩ = some (.int .i64 0) := hR.1.1 1 (by decide)
        have z1 := hR.2 1
        have r2 : wr.cell? ⟨w.heap.size, 2, none⟩ = some (.int .i64 0) := hR.1.1 2 (by decide)
        have z2 := hR.2 2
        have r3 : wr.cell? ⟨w.heap.size, 3, none⟩ = some (.int .i64 0) := hR.1.1 3 (by decide)
        have z3 := hR.2 3
        have r4 : wr.cell? ⟨w.heap.size, 4, none⟩ = some (.int .i64 0) := hR.1.1 4 (by decide)
        have z4 := hR.2 4
        have r5 : wr.cell? ⟨w.heap.size, 5, none⟩ = some (.int .i64 0) := hR.1.1 5 (by decide)
        have z5 := hR.2 5
        have r6 : wr.cell? ⟨w.heap.size, 6, none⟩ = some (.int .i64 0) := hR.1.1 6 (by decide)
        have z6 := hR.2 6
        have r7 : wr.cell? ⟨w.heap.size, 7, none⟩ = some (.int .i64 0) := hR.1.1 7 (by decide)
        have z7 := hR.2 7
        have r8 : wr.cell? ⟨w.heap.size, 8, none⟩ = some (.string ⟨#[]⟩) := hR.1.2 0 (by simp)
        have z8 := hR.2 8
        clear hR AO AW O hlo ht
        go_wp2
        refine bodyPost_ret (v := recV [o0, o1, o2, o3, o4, o5, o6, o7] [.string xs]) (by simp [results, Try.results65, go_sem, recV, recL, r0, r1, r2, r3, r4, r5, r6, r7, r8]) rfl ⟨by rw [HP.out, HXS.out], ?_⟩
        exact (((((((((BW.out.setCell (Nat.le_refl _) _).setCell (Nat.le_refl _) _).setCell (Nat.le_refl _) _).setCell (Nat.le_refl _) _).setCell (Nat.le_refl _) _).setCell (Nat.le_refl _) _).setCell (Nat.le_refl _) _).setCell (Nat.le_refl _) _).setCell (Nat.le_refl _) _)
end Go.Proofs.Ythkbeigimdgamaa
