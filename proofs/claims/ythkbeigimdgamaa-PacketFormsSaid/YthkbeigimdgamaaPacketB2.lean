/- PacketBack -/
import Derived.Test.YthkbeigimdgamaaPacketJ
import Derived.Test.YthkbeigimdgamaaL
import Derived.Deep.RegionWith
import Derived.Deep.DrawnRows
import Derived.Deep.DeepCutAuto
import Derived.Outline
namespace Go.Proofs.Ythkbeigimdgamaa
open Go Go.RowKit

attribute [local go_sem ↓] Go.wp_at_zero Go.wp_at_succ
theorem packetNeqOf (a b : Value) (q : Bool) (w : World) (h : (binOp .eql 56 a b).run Try.prog w = .ok (.bool q) w) (ha : ∃ xs, a = .agg xs) (hb : ∃ ys, b = .agg ys) : (binOp .neq 56 a b).run Try.prog w = .ok (.bool (!q)) w := by
  obtain ⟨xs, rfl⟩ := ha
  obtain ⟨ys, rfl⟩ := hb
  rw [run_eql_struct] at h
  rw [run_neq_struct]
  generalize (Op.equalIn 10000 56 (.agg xs) (.agg ys)) = r at h ⊢
  cases e : r.run Try.prog w with
  | ok v w' =>
    simp only [e] at h ⊢
    injection h with h1 h2
    injection h1 with h1
    subst h1; subst h2
    rfl
  | halt k w' => simp only [e] at h; cases h
theorem packetEnc_le (a0 a1 a2 a3 a4 a5 a6 a7 : Int) (da : List UInt8) (h : packetS.may [a0, a1, a2, a3, a4, a5, a6, a7] da = true) : (packetS.enc [a0, a1, a2, a3, a4, a5, a6, a7] da).length ≤ 65600 := by
  have h1 := numF_length a0
  have h2 := numsF_length ((packetIdx a0).map fun i => [a0, a1, a2, a3, a4, a5, a6, a7][i]!)
  have h3 := packetIdx_length a0
  rw [List.length_map] at h2
  rw [show packetS.enc [a0, a1, a2, a3, a4, a5, a6, a7] da = numF a0 ++ (numsF ((packetIdx a0).map fun i => [a0, a1, a2, a3, a4, a5, a6, a7][i]!) ++ (if packetS.txt a0 = true then putText da else [])) from rfl, List.length_append, List.length_append]
  have h4 : (if packetS.txt a0 = true then putText da else []).length ≤ 65541 := by
    split
    · rename_i ht
      exact putText_length _ (packetS.text [a0, a1, a2, a3, a4, a5, a6, a7] da (Sp.may_parts h).1 ht)
    · simp
  omega

set_option maxRecDepth 100000 in
set_option maxHeartbeats 25600000 in
theorem packetBack_walk (a0 a1 a2 a3 a4 a5 a6 a7 : Int) (da : List UInt8) (l : List UInt8) (cut : Int) (hl : l.length < 4611686018427387904) (w : World) : Calls Try.prog 12 #[recV [a0, a1, a2, a3, a4, a5, a6, a7] [strV da], strV l, .int .i64 cut] w fun e w' => e = .returned (.bool true) ∧ Below w.heap.size w w' := by
  have P1 := fun w => packetPut_any a0 a1 a2 a3 a4 a5 a6 a7 da w
  have M1 := fun w => packetMay_any a0 a1 a2 a3 a4 a5 a6 a7 da w
  have GT := fun w => packetGet_any l hl w
  have RA := rec_new w [a0, a1, a2, a3, a4, a5, a6, a7] [strV da] 56
  unfold Sp.put at P1
  rw [show strV l = .string ⟨l.toArray⟩ from rfl] at GT ⊢
  have hsl : Hid (strV l = .string ⟨l.toArray⟩) := Lib.hid rfl
  generalize (⟨l.toArray⟩ : ByteArray) = sl at GT hsl ⊢
  replace GT := Lib.hid GT
  have HSA : Hid (strV da = .string ⟨da.toArray⟩) := Lib.hid rfl
  rw [show recV [a0, a1, a2, a3, a4, a5, a6, a7] [strV da] = .agg #[.int .i64 a0, .int .i64 a1, .int .i64 a2, .int .i64 a3, .int .i64 a4, .int .i64 a5, .int .i64 a6, .int .i64 a7, .string ⟨da.toArray⟩] from rfl] at P1 M1 ⊢
  rw [show strV da = .string ⟨da.toArray⟩ from rfl] at RA
  generalize (⟨da.toArray⟩ : ByteArray) = sa at P1 M1 RA HSA ⊢
  have RA1 : Hid (Rec (w.alloc (.cells #[.int .i64 a0, .int .i64 a1, .int .i64 a2, .int .i64 a3, .int .i64 a4, .int .i64 a5, .int .i64 a6, .int .i64 a7, .string sa] 56)) w.heap.size [a0, a1, a2, a3, a4, a5, a6, a7] [.string sa]) := Lib.hid RA
  have BX := Lib.hid (show Below w.heap.size w (w.alloc (.cells #[.int .i64 a0, .int .i64 a1, .int .i64 a2, .int .i64 a3, .int .i64 a4, .int .i64 a5, .int .i64 a6, .int .i64 a7, .string sa] 56)) from (Below.refl _ _).alloc (Nat.le_refl _) _)
  have AWK := Lib.hid packetAwake_any
  clear RA hl
  cases hm : packetS.may [a0, a1, a2, a3, a4, a5, a6, a7] da
  · rw [hm, if_neg (by decide), show formE false 400 = 400 from rfl, show strV [] = .string ⟨#[]⟩ from rfl] at P1
    rw [hm] at M1
    replace P1 := Lib.hid P1
    replace M1 := Lib.hid M1
    clear hm
    go_enter Try.func12, Try.ntmps12
    go_wp2_with fail
    refine (AWK.out _).mono ?_
    rintro e w1 ⟨rfl, b⟩
    have RA2 := Lib.hid (RA1.out.below b)
    have B1 := Lib.hid (BX.out.trans (b.mono BX.out.size))
    clear b RA1 BX
    have x0 : w1.cell? ⟨w.heap.size, 0, none⟩ = some (.int .i64 a0) := RA2.out.1 0 (by simp)
    have x1 : w1.cell? ⟨w.heap.size, 1, none⟩ = some (.int .i64 a1) := RA2.out.1 1 (by simp)
    have x2 : w1.cell? ⟨w.heap.size, 2, none⟩ = some (.int .i64 a2) := RA2.out.1 2 (by simp)
    have x3 : w1.cell? ⟨w.heap.size, 3, none⟩ = some (.int .i64 a3) := RA2.out.1 3 (by simp)
    have x4 : w1.cell? ⟨w.heap.size, 4, none⟩ = some (.int .i64 a4) := RA2.out.1 4 (by simp)
    have x5 : w1.cell? ⟨w.heap.size, 5, none⟩ = some (.int .i64 a5) := RA2.out.1 5 (by simp)
    have x6 : w1.cell? ⟨w.heap.size, 6, none⟩ = some (.int .i64 a6) := RA2.out.1 6 (by simp)
    have x7 : w1.cell? ⟨w.heap.size, 7, none⟩ = some (.int .i64 a7) := RA2.out.1 7 (by simp)
    have x8 : w1.cell? ⟨w.heap.size, 8, none⟩ = some (.string sa) := RA2.out.2 0 (by simp)
    go_wp2_with fail
    refine (P1.out _).mono ?_
    rintro e w2 ⟨rfl, b⟩
    have RA3 := Lib.hid (RA2.out.below b)
    have B2 := Lib.hid (B1.out.trans (b.mono B1.out.size))
    clear b RA2 B1 x0 x1 x2 x3 x4 x5 x6 x7 x8
    have x0 : w2.cell? ⟨w.heap.size, 0, none⟩ = some (.int .i64 a0) := RA3.out.1 0 (by simp)
    have x1 : w2.cell? ⟨w.heap.size, 1, none⟩ = some (.int .i64 a1) := RA3.out.1 1 (by simp)
    have x2 : w2.cell? ⟨w.heap.size, 2, none⟩ = some (.int .i64 a2) := RA3.out.1 2 (by simp)
    have x3 : w2.cell? ⟨w.heap.size, 3, none⟩ = some (.int .i64 a3) := RA3.out.1 3 (by simp)
    have x4 : w2.cell? ⟨w.heap.size, 4, none⟩ = some (.int .i64 a4) := RA3.out.1 4 (by simp)
    have x5 : w2.cell? ⟨w.heap.size, 5, none⟩ = some (.int .i64 a5) := RA3.out.1 5 (by simp)
    have x6 : w2.cell? ⟨w.heap.size, 6, none⟩ = some (.int .i64 a6) := RA3.out.1 6 (by simp)
    have x7 : w2.cell? ⟨w.heap.size, 7, none⟩ = some (.int .i64 a7) := RA3.out.1 7 (by simp)
    have x8 : w2.cell? ⟨w.heap.size, 8, none⟩ = some (.string sa) := RA3.out.2 0 (by simp)
    go_upto_region 4 with (fail)
    go_cut [40] (fun s40 wx => s40 = .bool false ∧ Aside (Below w2.heap.size w2 wx))
    case first =>
      first
      | go_region_with (first
            | (go_at_call 23; refine (num_any _ _).mono ?_; rintro e w' ⟨rfl, rfl⟩)
            | (go_at_call 38; refine (M1.out _).mono ?_; rintro e w' ⟨rfl, b⟩))
      | fail "the region"
      all_goals
        go_wp2_with fail
        go_meet
        exact ⟨rfl, (Below.refl w2.heap.size w2).drew.trans (by assumption)⟩
    case rest =>
      obtain ⟨rfl, AB⟩ := hcut
      have B3 := Lib.hid (B2.out.trans (AB.out.mono B2.out.size))
      clear AB x0 x1 x2 x3 x4 x5 x6 x7 x8
      go_wp2_with (first | (go_at_call 23; refine (num_any _ _).mono ?_; rintro e w' ⟨rfl, rfl⟩))
      have GT2 := GT.out
      cases hok : packetS.ok l
      · have hz : packetS.getC l = [0, 0, 0, 0, 0, 0, 0, 0] := by rw [Sp.getC, hok]; rfl
        have hd : packetS.getD l = [] := by rw [Sp.getD, hok]; rfl
        rw [hz, hd, hok] at GT2
        replace GT2 : ∀ w, Calls Try.prog 36 #[.string sl] w fun e w' => e = .returned (.tuple #[.agg #[.int .i64 0, .int .i64 0, .int .i64 0, .int .i64 0, .int .i64 0, .int .i64 0, .int .i64 0, .int .i64 0, .string ⟨#[]⟩], .int .i64 400]) ∧ Below w.heap.size w w' := GT2
        have GT3 := Lib.hid GT2
        have hq : ∀ w, (binOp .eql 56 (.agg #[.int .i64 0, .int .i64 0, .int .i64 0, .int .i64 0, .int .i64 0, .int .i64 0, .int .i64 0, .int .i64 0, .string ⟨#[]⟩]) (.agg #[.int .i64 0, .int .i64 0, .int .i64 0, .int .i64 0, .int .i64 0, .int .i64 0, .int .i64 0, .int .i64 0, .string ⟨#[]⟩])).run Try.prog w = .ok (.bool true) w := fun w => by rw [run_eqlPacket]; rfl
        have hg := guard56
        clear hz hok GT2 GT hd
        refine (GT3.out _).mono ?_
        rintro e wt ⟨rfl, b⟩
        have BT := Lib.hid (B3.out.trans (b.mono B3.out.size))
        clear b
        go_wp2_with (first | (go_at_call 23; refine (num_any _ _).mono ?_; rintro e w' ⟨rfl, rfl⟩))
        go_ret
        exact ⟨rfl, BT.out.alloc BT.out.size _⟩
      · obtain ⟨hcl, hcm, hce⟩ := packetS.ok_bwd l hok
        have hc : packetS.getC l = (packetS.body l).1.1 := by rw [Sp.getC, hok]; rfl
        have hd : packetS.getD l = (packetS.body l).2.1 := by rw [Sp.getD, hok]; rfl
        rw [← hc, ← hd] at hcm hce
        rw [← hc] at hcl
        rw [hok] at GT2
        generalize packetS.getC l = G at hcm hce hcl GT2
        obtain ⟨c0, c1, c2, c3, c4, c5, c6, c7, rfl⟩ : ∃ c0 c1 c2 c3 c4 c5 c6 c7, G = [c0, c1, c2, c3, c4, c5, c6, c7] := by
          match G, hcl with
          | [c0, c1, c2, c3, c4, c5, c6, c7], _ => exact ⟨c0, c1, c2, c3, c4, c5, c6, c7, rfl⟩
        generalize packetS.getD l = gd at hcm hce GT2
        have PT : ∀ w, Calls Try.prog 34 #[recV [c0, c1, c2, c3, c4, c5, c6, c7] [strV gd]] w fun e w' => e = .returned (.tuple #[strV l, .int .i64 0]) ∧ Below w.heap.size w w' := fun w => by
          have h := packetPut_any c0 c1 c2 c3 c4 c5 c6 c7 gd w
          rw [Sp.put, hcm, if_pos rfl, ← hce] at h
          exact h
        rw [hsl.out] at PT
        replace GT2 : ∀ w, Calls Try.prog 36 #[.string sl] w fun e w' => e = .returned (.tuple #[recV [c0, c1, c2, c3, c4, c5, c6, c7] [strV gd], .int .i64 0]) ∧ Below w.heap.size w w' := GT2
        rw [show recV [c0, c1, c2, c3, c4, c5, c6, c7] [strV gd] = .agg #[.int .i64 c0, .int .i64 c1, .int .i64 c2, .int .i64 c3, .int .i64 c4, .int .i64 c5, .int .i64 c6, .int .i64 c7, .string ⟨gd.toArray⟩] from rfl] at PT GT2
        generalize (⟨gd.toArray⟩ : ByteArray) = sc at PT GT2
        have PT3 := Lib.hid PT
        have GT3 := Lib.hid GT2
        clear PT GT2 GT hcm hce hcl hc hd hok
        refine (GT3.out _).mono ?_
        rintro e wt ⟨rfl, b⟩
        have BT := Lib.hid (B3.out.trans (b.mono B3.out.size))
        have BU := Lib.hid (show Below w.heap.size w (wt.alloc (.cells #[.int .i64 c0, .int .i64 c1, .int .i64 c2, .int .i64 c3, .int .i64 c4, .int .i64 c5, .int .i64 c6, .int .i64 c7, .string sc] 56)) from BT.out.alloc BT.out.size _)
        clear b BT
        go_wp2_with (first | (go_at_call 23; refine (num_any _ _).mono ?_; rintro e w' ⟨rfl, rfl⟩))
        refine (PT3.out _).mono ?_
        rintro e wu ⟨rfl, b⟩
        have BV := Lib.hid (BU.out.trans (b.mono BU.out.size))
        clear b BU
        go_wp2_with (first | (go_at_call 23; refine (num_any _ _).mono ?_; rintro e w' ⟨rfl, rfl⟩))
        go_ret
        exact ⟨rfl, BV.out⟩
  · have HLEN := Lib.hid (packetS.enc_pos [a0, a1, a2, a3, a4, a5, a6, a7] da hm)
    have GB := fun w hl => packetGet_any (packetS.enc [a0, a1, a2, a3, a4, a5, a6, a7] da) hl w
    obtain ⟨k1, k2, k3⟩ := packetS.ok_fwd [a0, a1, a2, a3, a4, a5, a6, a7] da rfl hm
    rw [show packetS.getC (packetS.enc [a0, a1, a2, a3, a4, a5, a6, a7] da) = [a0, a1, a2, a3, a4, a5, a6, a7] from by rw [Sp.getC, k1, if_pos rfl, k2], show packetS.getD (packetS.enc [a0, a1, a2, a3, a4, a5, a6, a7] da) = da from by rw [Sp.getD, k1, if_pos rfl, k3], k1] at GB
    have GC_ := fun q w hl => packetGet_any ((packetS.enc [a0, a1, a2, a3, a4, a5, a6, a7] da).take q) hl w
    have hcut_ := fun q hq => packetS.cut [a0, a1, a2, a3, a4, a5, a6, a7] da rfl hm q hq
    have GM := fun w hl => packetGet_any (packetS.enc [a0, a1, a2, a3, a4, a5, a6, a7] da ++ [0]) hl w
    have hmo := packetS.more [a0, a1, a2, a3, a4, a5, a6, a7] da rfl hm [0] (by simp)
    rw [Sp.getC, Sp.getD, hmo] at GM
    rw [hm, if_pos rfl, show formE true 400 = 0 from rfl] at P1
    rw [hm] at M1
    have hub : (packetS.enc [a0, a1, a2, a3, a4, a5, a6, a7] da).length ≤ 65600 := packetEnc_le a0 a1 a2 a3 a4 a5 a6 a7 da hm
    generalize packetS.enc [a0, a1, a2, a3, a4, a5, a6, a7] da = E at GB GC_ GM P1 HLEN hub hcut_
    have GCU := Lib.hid (fun q w (hq : q < E.length) => show Calls Try.prog 36 #[.string ((⟨E.toArray⟩ : ByteArray).extract 0 q)] w fun e w' => e = .returned (.tuple #[.agg #[.int .i64 0, .int .i64 0, .int .i64 0, .int .i64 0, .int .i64 0, .int .i64 0, .int .i64 0, .int .i64 0, .string ⟨#[]⟩], .int .i64 400]) ∧ Below w.heap.size w w' from by
      have h := GC_ q w (by rw [List.length_take]; omega)
      rw [Sp.getC, Sp.getD, hcut_ q hq] at h
      rw [show (⟨E.toArray⟩ : ByteArray).extract 0 q = ⟨(E.take q).toArray⟩ from by rw [ByteArray.extract_mk]; simp]
      exact h)
    have GMO := Lib.hid (fun w => show Calls Try.prog 36 #[.string ((⟨E.toArray⟩ : ByteArray) ++ ⟨#[0]⟩)] w fun e w' => e = .returned (.tuple #[.agg #[.int .i64 0, .int .i64 0, .int .i64 0, .int .i64 0, .int .i64 0, .int .i64 0, .int .i64 0, .int .i64 0, .string ⟨#[]⟩], .int .i64 400]) ∧ Below w.heap.size w w' from by
      have h := GM w (by rw [List.length_append]; simp; omega)
      rw [strV_append] at h
      exact h)
    have GBO : Hid (∀ w, Calls Try.prog 36 #[.string ⟨E.toArray⟩] w fun e w' => e = .returned (.tuple #[.agg #[.int .i64 a0, .int .i64 a1, .int .i64 a2, .int .i64 a3, .int .i64 a4, .int .i64 a5, .int .i64 a6, .int .i64 a7, .string sa], .int .i64 0]) ∧ Below w.heap.size w w') := Lib.hid (fun w => by
      have h := GB w (by omega)
      rw [HSA.out] at h
      exact h)
    rw [show strV E = .string ⟨E.toArray⟩ from rfl] at P1
    have hsz : (⟨E.toArray⟩ : ByteArray).size = E.length := rfl
    have hne : (⟨E.toArray⟩ : ByteArray) ≠ ⟨#[]⟩ := fun e => by
      have := congrArg ByteArray.size e
      have h0 := HLEN.out
      rw [hsz, show (⟨#[]⟩ : ByteArray).size = 0 from rfl] at this
      omega
    have hne1 := strNe hne
    have hpos : 0 < (⟨E.toArray⟩ : ByteArray).size := by rw [hsz]; exact HLEN.out
    rw [← hsz] at hub GCU
    clear GB GC_ GM hcut_ hmo hsz HLEN hm k1 k2 k3
    generalize (⟨E.toArray⟩ : ByteArray) = es at GCU GMO GBO P1 hne hne1 hpos hub
    have hne2 : (es.toList = []) = False := by
      rw [ByteArray.toList_eq]
      exact eq_false (fun h => hne (by obtain ⟨⟨e⟩⟩ := es; simp at h; rw [h]))
    have hne3 : (es.toList.isEmpty) = false := by
      cases e : es.toList with
      | nil => exact absurd e (by rw [hne2]; exact not_false)
      | cons a b => rfl
    clear hne
    obtain ⟨q, hq0, hq1⟩ : ∃ q : Nat, (IntKind.u64.wrap cut).tmod (es.size : Int) = (q : Int) ∧ q < es.size := by
      have h0 : 0 ≤ IntKind.u64.wrap cut := by rw [IntKind.wrap_u64]; omega
      refine ⟨((IntKind.u64.wrap cut).tmod (es.size : Int)).toNat, ?_, ?_⟩
      · rw [Int.tmod_eq_emod_of_nonneg h0]; have := Int.emod_nonneg (IntKind.u64.wrap cut) (show (es.size : Int) ≠ 0 by omega); omega
      · rw [Int.tmod_eq_emod_of_nonneg h0]; have := Int.emod_lt_of_pos (IntKind.u64.wrap cut) (show (0 : Int) < (es.size : Int) by omega); have := Int.emod_nonneg (IntKind.u64.wrap cut) (show (es.size : Int) ≠ 0 by omega); omega
    have HQ := Lib.hid hq0
    clear hq0
    replace P1 := Lib.hid P1
    replace M1 := Lib.hid M1
    go_enter Try.func12, Try.ntmps12
    go_wp2_with fail
    refine (AWK.out _).mono ?_
    rintro e w1 ⟨rfl, b⟩
    have RA2 := Lib.hid (RA1.out.below b)
    have B1 := Lib.hid (BX.out.trans (b.mono BX.out.size))
    clear b RA1 BX
    have x0 : w1.cell? ⟨w.heap.size, 0, none⟩ = some (.int .i64 a0) := RA2.out.1 0 (by simp)
    have x1 : w1.cell? ⟨w.heap.size, 1, none⟩ = some (.int .i64 a1) := RA2.out.1 1 (by simp)
    have x2 : w1.cell? ⟨w.heap.size, 2, none⟩ = some (.int .i64 a2) := RA2.out.1 2 (by simp)
    have x3 : w1.cell? ⟨w.heap.size, 3, none⟩ = some (.int .i64 a3) := RA2.out.1 3 (by simp)
    have x4 : w1.cell? ⟨w.heap.size, 4, none⟩ = some (.int .i64 a4) := RA2.out.1 4 (by simp)
    have x5 : w1.cell? ⟨w.heap.size, 5, none⟩ = some (.int .i64 a5) := RA2.out.1 5 (by simp)
    have x6 : w1.cell? ⟨w.heap.size, 6, none⟩ = some (.int .i64 a6) := RA2.out.1 6 (by simp)
    have x7 : w1.cell? ⟨w.heap.size, 7, none⟩ = some (.int .i64 a7) := RA2.out.1 7 (by simp)
    have x8 : w1.cell? ⟨w.heap.size, 8, none⟩ = some (.string sa) := RA2.out.2 0 (by simp)
    go_wp2_with fail
    refine (P1.out _).mono ?_
    rintro e w2 ⟨rfl, b⟩
    have RA3 := Lib.hid (RA2.out.below b)
    have B2 := Lib.hid (B1.out.trans (b.mono B1.out.size))
    clear b RA2 B1 x0 x1 x2 x3 x4 x5 x6 x7 x8
    have x0 : w2.cell? ⟨w.heap.size, 0, none⟩ = some (.int .i64 a0) := RA3.out.1 0 (by simp)
    have x1 : w2.cell? ⟨w.heap.size, 1, none⟩ = some (.int .i64 a1) := RA3.out.1 1 (by simp)
    have x2 : w2.cell? ⟨w.heap.size, 2, none⟩ = some (.int .i64 a2) := RA3.out.1 2 (by simp)
    have x3 : w2.cell? ⟨w.heap.size, 3, none⟩ = some (.int .i64 a3) := RA3.out.1 3 (by simp)
    have x4 : w2.cell? ⟨w.heap.size, 4, none⟩ = some (.int .i64 a4) := RA3.out.1 4 (by simp)
    have x5 : w2.cell? ⟨w.heap.size, 5, none⟩ = some (.int .i64 a5) := RA3.out.1 5 (by simp)
    have x6 : w2.cell? ⟨w.heap.size, 6, none⟩ = some (.int .i64 a6) := RA3.out.1 6 (by simp)
    have x7 : w2.cell? ⟨w.heap.size, 7, none⟩ = some (.int .i64 a7) := RA3.out.1 7 (by simp)
    have x8 : w2.cell? ⟨w.heap.size, 8, none⟩ = some (.string sa) := RA3.out.2 0 (by simp)
    go_upto_region 4 with (fail)
    go_cut [40] (fun s40 wx => s40 = .bool false ∧ Aside (Below w2.heap.size w2 wx))
    case first =>
      first
      | go_region_with (first
            | (go_at_call 23; refine (num_any _ _).mono ?_; rintro e w' ⟨rfl, rfl⟩)
            | (go_at_call 38; refine (M1.out _).mono ?_; rintro e w' ⟨rfl, b⟩))
      | fail "the region"
      all_goals
        go_wp2_with fail
        go_meet
        exact ⟨rfl, (Below.refl w2.heap.size w2).drew.trans (by assumption)⟩
    case rest =>
      obtain ⟨rfl, AB⟩ := hcut
      have B3 := Lib.hid (B2.out.trans (AB.out.mono B2.out.size))
      have RA4 := Lib.hid (RA3.out.below AB.out)
      clear AB x0 x1 x2 x3 x4 x5 x6 x7 x8 RA3 B2
      go_wp2_with (first | (go_at_call 23; refine (num_any _ _).mono ?_; rintro e w' ⟨rfl, rfl⟩))
      refine (GBO.out _).mono ?_
      rintro e w4 ⟨rfl, b⟩
      have bb := b.trans (show Below wc.heap.size w4 (w4.alloc (.cells #[.int .i64 a0, .int .i64 a1, .int .i64 a2, .int .i64 a3, .int .i64 a4, .int .i64 a5, .int .i64 a6, .int .i64 a7, .string sa] 56)) from (Below.refl _ _).alloc b.size _)
      have RA5 := Lib.hid (RA4.out.below bb)
      have RB5 : Hid (Rec (w4.alloc (.cells #[.int .i64 a0, .int .i64 a1, .int .i64 a2, .int .i64 a3, .int .i64 a4, .int .i64 a5, .int .i64 a6, .int .i64 a7, .string sa] 56)) w4.heap.size [a0, a1, a2, a3, a4, a5, a6, a7] [.string sa]) := Lib.hid (rec_new w4 [a0, a1, a2, a3, a4, a5, a6, a7] [.string sa] 56)
      have B5 := Lib.hid (B3.out.trans (bb.mono B3.out.size))
      clear b bb RA4 B3
      have hq0 := HQ.out
      clear HQ
      go_wp2_with fail
      refine (GCU.out q _ hq1).mono ?_
      rintro e w6 ⟨rfl, b⟩
      have bb := b.trans (show Below (w4.alloc (.cells #[.int .i64 a0, .int .i64 a1, .int .i64 a2, .int .i64 a3, .int .i64 a4, .int .i64 a5, .int .i64 a6, .int .i64 a7, .string sa] 56)).heap.size w6 (w6.alloc (.cells #[.int .i64 0, .int .i64 0, .int .i64 0, .int .i64 0, .int .i64 0, .int .i64 0, .int .i64 0, .int .i64 0, .string ⟨#[]⟩] 56)) from (Below.refl _ _).alloc b.size _)
      have RA6 := Lib.hid (RA5.out.below bb)
      have RB6 := Lib.hid (RB5.out.below bb)
      have B6 := Lib.hid (B5.out.trans (bb.mono B5.out.size))
      clear b bb RA5 RB5 B5
      go_wp2_with fail
      refine (GMO.out _).mono ?_
      rintro e w7 ⟨rfl, b⟩
      have bb := b.trans (show Below (w6.alloc (.cells #[.int .i64 0, .int .i64 0, .int .i64 0, .int .i64 0, .int .i64 0, .int .i64 0, .int .i64 0, .int .i64 0, .string ⟨#[]⟩] 56)).heap.size w7 (w7.alloc (.cells #[.int .i64 0, .int .i64 0, .int .i64 0, .int .i64 0, .int .i64 0, .int .i64 0, .int .i64 0, .int .i64 0, .string ⟨#[]⟩] 56)) from (Below.refl _ _).alloc b.size _)
      have RA7 := Lib.hid (RA6.out.below bb)
      have RB7 := Lib.hid (RB6.out.below bb)
      have B7 := Lib.hid (B6.out.trans (bb.mono B6.out.size))
      clear b bb RA6 RB6 B6 hq0 hpos hub
      have x0 : (w7.alloc (.cells #[.int .i64 0, .int .i64 0, .int .i64 0, .int .i64 0, .int .i64 0, .int .i64 0, .int .i64 0, .int .i64 0, .string ⟨#[]⟩] 56)).cell? ⟨w.heap.size, 0, none⟩ = some (.int .i64 a0) := RA7.out.1 0 (by simp)
      have x1 : (w7.alloc (.cells #[.int .i64 0, .int .i64 0, .int .i64 0, .int .i64 0, .int .i64 0, .int .i64 0, .int .i64 0, .int .i64 0, .string ⟨#[]⟩] 56)).cell? ⟨w.heap.size, 1, none⟩ = some (.int .i64 a1) := RA7.out.1 1 (by simp)
      have x2 : (w7.alloc (.cells #[.int .i64 0, .int .i64 0, .int .i64 0, .int .i64 0, .int .i64 0, .int .i64 0, .int .i64 0, .int .i64 0, .string ⟨#[]⟩] 56)).cell? ⟨w.heap.size, 2, none⟩ = some (.int .i64 a2) := RA7.out.1 2 (by simp)
      have x3 : (w7.alloc (.cells #[.int .i64 0, .int .i64 0, .int .i64 0, .int .i64 0, .int .i64 0, .int .i64 0, .int .i64 0, .int .i64 0, .string ⟨#[]⟩] 56)).cell? ⟨w.heap.size, 3, none⟩ = some (.int .i64 a3) := RA7.out.1 3 (by simp)
      have x4 : (w7.alloc (.cells #[.int .i64 0, .int .i64 0, .int .i64 0, .int .i64 0, .int .i64 0, .int .i64 0, .int .i64 0, .int .i64 0, .string ⟨#[]⟩] 56)).cell? ⟨w.heap.size, 4, none⟩ = some (.int .i64 a4) := RA7.out.1 4 (by simp)
      have x5 : (w7.alloc (.cells #[.int .i64 0, .int .i64 0, .int .i64 0, .int .i64 0, .int .i64 0, .int .i64 0, .int .i64 0, .int .i64 0, .string ⟨#[]⟩] 56)).cell? ⟨w.heap.size, 5, none⟩ = some (.int .i64 a5) := RA7.out.1 5 (by simp)
      have x6 : (w7.alloc (.cells #[.int .i64 0, .int .i64 0, .int .i64 0, .int .i64 0, .int .i64 0, .int .i64 0, .int .i64 0, .int .i64 0, .string ⟨#[]⟩] 56)).cell? ⟨w.heap.size, 6, none⟩ = some (.int .i64 a6) := RA7.out.1 6 (by simp)
      have x7 : (w7.alloc (.cells #[.int .i64 0, .int .i64 0, .int .i64 0, .int .i64 0, .int .i64 0, .int .i64 0, .int .i64 0, .int .i64 0, .string ⟨#[]⟩] 56)).cell? ⟨w.heap.size, 7, none⟩ = some (.int .i64 a7) := RA7.out.1 7 (by simp)
      have x8 : (w7.alloc (.cells #[.int .i64 0, .int .i64 0, .int .i64 0, .int .i64 0, .int .i64 0, .int .i64 0, .int .i64 0, .int .i64 0, .string ⟨#[]⟩] 56)).cell? ⟨w.heap.size, 8, none⟩ = some (.string sa) := RA7.out.2 0 (by simp)
      have y0 : (w7.alloc (.cells #[.int .i64 0, .int .i64 0, .int .i64 0, .int .i64 0, .int .i64 0, .int .i64 0, .int .i64 0, .int .i64 0, .string ⟨#[]⟩] 56)).cell? ⟨w4.heap.size, 0, none⟩ = some (.int .i64 a0) := RB7.out.1 0 (by simp)
      have y1 : (w7.alloc (.cells #[.int .i64 0, .int .i64 0, .int .i64 0, .int .i64 0, .int .i64 0, .int .i64 0, .int .i64 0, .int .i64 0, .string ⟨#[]⟩] 56)).cell? ⟨w4.heap.size, 1, none⟩ = some (.int .i64 a1) := RB7.out.1 1 (by simp)
      have y2 : (w7.alloc (.cells #[.int .i64 0, .int .i64 0, .int .i64 0, .int .i64 0, .int .i64 0, .int .i64 0, .int .i64 0, .int .i64 0, .string ⟨#[]⟩] 56)).cell? ⟨w4.heap.size, 2, none⟩ = some (.int .i64 a2) := RB7.out.1 2 (by simp)
      have y3 : (w7.alloc (.cells #[.int .i64 0, .int .i64 0, .int .i64 0, .int .i64 0, .int .i64 0, .int .i64 0, .int .i64 0, .int .i64 0, .string ⟨#[]⟩] 56)).cell? ⟨w4.heap.size, 3, none⟩ = some (.int .i64 a3) := RB7.out.1 3 (by simp)
      have y4 : (w7.alloc (.cells #[.int .i64 0, .int .i64 0, .int .i64 0, .int .i64 0, .int .i64 0, .int .i64 0, .int .i64 0, .int .i64 0, .string ⟨#[]⟩] 56)).cell? ⟨w4.heap.size, 4, none⟩ = some (.int .i64 a4) := RB7.out.1 4 (by simp)
      have y5 : (w7.alloc (.cells #[.int .i64 0, .int .i64 0, .int .i64 0, .int .i64 0, .int .i64 0, .int .i64 0, .int .i64 0, .int .i64 0, .string ⟨#[]⟩] 56)).cell? ⟨w4.heap.size, 5, none⟩ = some (.int .i64 a5) := RB7.out.1 5 (by simp)
      have y6 : (w7.alloc (.cells #[.int .i64 0, .int .i64 0, .int .i64 0, .int .i64 0, .int .i64 0, .int .i64 0, .int .i64 0, .int .i64 0, .string ⟨#[]⟩] 56)).cell? ⟨w4.heap.size, 6, none⟩ = some (.int .i64 a6) := RB7.out.1 6 (by simp)
      have y7 : (w7.alloc (.cells #[.int .i64 0, .int .i64 0, .int .i64 0, .int .i64 0, .int .i64 0, .int .i64 0, .int .i64 0, .int .i64 0, .string ⟨#[]⟩] 56)).cell? ⟨w4.heap.size, 7, none⟩ = some (.int .i64 a7) := RB7.out.1 7 (by simp)
      have y8 : (w7.alloc (.cells #[.int .i64 0, .int .i64 0, .int .i64 0, .int .i64 0, .int .i64 0, .int .i64 0, .int .i64 0, .int .i64 0, .string ⟨#[]⟩] 56)).cell? ⟨w4.heap.size, 8, none⟩ = some (.string sa) := RB7.out.2 0 (by simp)
      have hneq : ∀ w, (binOp .neq 56 (.agg #[.int .i64 a0, .int .i64 a1, .int .i64 a2, .int .i64 a3, .int .i64 a4, .int .i64 a5, .int .i64 a6, .int .i64 a7, .string sa]) (.agg #[.int .i64 a0, .int .i64 a1, .int .i64 a2, .int .i64 a3, .int .i64 a4, .int .i64 a5, .int .i64 a6, .int .i64 a7, .string sa])).run Try.prog w = .ok (.bool false) w := fun w => packetNeqOf _ _ true w (by rw [run_eqlPacket, decide_eq_true (rfl : [a0, a1, a2, a3, a4, a5, a6, a7] = [a0, a1, a2, a3, a4, a5, a6, a7]), decide_eq_true (rfl : sa = sa)]; rfl) ⟨_, rfl⟩ ⟨_, rfl⟩
      have hg := guard56
      go_upto_region 10 with (fail)
      generalize w7.alloc (.cells #[.int .i64 0, .int .i64 0, .int .i64 0, .int .i64 0, .int .i64 0, .int .i64 0, .int .i64 0, .int .i64 0, .string ⟨#[]⟩] 56) = w8 at B7 x0 x1 x2 x3 x4 x5 x6 x7 x8 y0 y1 y2 y3 y4 y5 y6 y7 y8 ⊢
      go_wp2_with (first | (go_at_call 23; refine (num_any _ _).mono ?_; rintro e w' ⟨rfl, rfl⟩))
      clear RA7 RB7 x0 x1 x2 x3 x4 x5 x6 x7 x8 y0 y1 y2 y3 y4 y5 y6 y7 y8 hneq hg
      have GT2 := GT.out
      cases hok : packetS.ok l
      · have hz : packetS.getC l = [0, 0, 0, 0, 0, 0, 0, 0] := by rw [Sp.getC, hok]; rfl
        have hd : packetS.getD l = [] := by rw [Sp.getD, hok]; rfl
        rw [hz, hd, hok] at GT2
        replace GT2 : ∀ w, Calls Try.prog 36 #[.string sl] w fun e w' => e = .returned (.tuple #[.agg #[.int .i64 0, .int .i64 0, .int .i64 0, .int .i64 0, .int .i64 0, .int .i64 0, .int .i64 0, .int .i64 0, .string ⟨#[]⟩], .int .i64 400]) ∧ Below w.heap.size w w' := GT2
        have GT3 := Lib.hid GT2
        have hq : ∀ w, (binOp .eql 56 (.agg #[.int .i64 0, .int .i64 0, .int .i64 0, .int .i64 0, .int .i64 0, .int .i64 0, .int .i64 0, .int .i64 0, .string ⟨#[]⟩]) (.agg #[.int .i64 0, .int .i64 0, .int .i64 0, .int .i64 0, .int .i64 0, .int .i64 0, .int .i64 0, .int .i64 0, .string ⟨#[]⟩])).run Try.prog w = .ok (.bool true) w := fun w => by rw [run_eqlPacket]; rfl
        have hg := guard56
        clear hz hok GT2 GT hd
        refine (GT3.out _).mono ?_
        rintro e wt ⟨rfl, b⟩
        have BT := Lib.hid (B7.out.trans (b.mono B7.out.size))
        clear b
        go_wp2_with (first | (go_at_call 23; refine (num_any _ _).mono ?_; rintro e w' ⟨rfl, rfl⟩))
        go_ret
        exact ⟨rfl, BT.out.alloc BT.out.size _⟩
      · obtain ⟨hcl, hcm, hce⟩ := packetS.ok_bwd l hok
        have hc : packetS.getC l = (packetS.body l).1.1 := by rw [Sp.getC, hok]; rfl
        have hd : packetS.getD l = (packetS.body l).2.1 := by rw [Sp.getD, hok]; rfl
        rw [← hc, ← hd] at hcm hce
        rw [← hc] at hcl
        rw [hok] at GT2
        generalize packetS.getC l = G at hcm hce hcl GT2
        obtain ⟨c0, c1, c2, c3, c4, c5, c6, c7, rfl⟩ : ∃ c0 c1 c2 c3 c4 c5 c6 c7, G = [c0, c1, c2, c3, c4, c5, c6, c7] := by
          match G, hcl with
          | [c0, c1, c2, c3, c4, c5, c6, c7], _ => exact ⟨c0, c1, c2, c3, c4, c5, c6, c7, rfl⟩
        generalize packetS.getD l = gd at hcm hce GT2
        have PT : ∀ w, Calls Try.prog 34 #[recV [c0, c1, c2, c3, c4, c5, c6, c7] [strV gd]] w fun e w' => e = .returned (.tuple #[strV l, .int .i64 0]) ∧ Below w.heap.size w w' := fun w => by
          have h := packetPut_any c0 c1 c2 c3 c4 c5 c6 c7 gd w
          rw [Sp.put, hcm, if_pos rfl, ← hce] at h
          exact h
        rw [hsl.out] at PT
        replace GT2 : ∀ w, Calls Try.prog 36 #[.string sl] w fun e w' => e = .returned (.tuple #[recV [c0, c1, c2, c3, c4, c5, c6, c7] [strV gd], .int .i64 0]) ∧ Below w.heap.size w w' := GT2
        rw [show recV [c0, c1, c2, c3, c4, c5, c6, c7] [strV gd] = .agg #[.int .i64 c0, .int .i64 c1, .int .i64 c2, .int .i64 c3, .int .i64 c4, .int .i64 c5, .int .i64 c6, .int .i64 c7, .string ⟨gd.toArray⟩] from rfl] at PT GT2
        generalize (⟨gd.toArray⟩ : ByteArray) = sc at PT GT2
        have PT3 := Lib.hid PT
        have GT3 := Lib.hid GT2
        clear PT GT2 GT hcm hce hcl hc hd hok
        refine (GT3.out _).mono ?_
        rintro e wt ⟨rfl, b⟩
        have BT := Lib.hid (B7.out.trans (b.mono B7.out.size))
        have BU := Lib.hid (show Below w.heap.size w (wt.alloc (.cells #[.int .i64 c0, .int .i64 c1, .int .i64 c2, .int .i64 c3, .int .i64 c4, .int .i64 c5, .int .i64 c6, .int .i64 c7, .string sc] 56)) from BT.out.alloc BT.out.size _)
        clear b BT
        go_wp2_with (first | (go_at_call 23; refine (num_any _ _).mono ?_; rintro e w' ⟨rfl, rfl⟩))
        refine (PT3.out _).mono ?_
        rintro e wu ⟨rfl, b⟩
        have BV := Lib.hid (BU.out.trans (b.mono BU.out.size))
        clear b BU
        go_wp2_with (first | (go_at_call 23; refine (num_any _ _).mono ?_; rintro e w' ⟨rfl, rfl⟩))
        go_ret
        exact ⟨rfl, BV.out⟩
end Go.Proofs.Ythkbeigimdgamaa
