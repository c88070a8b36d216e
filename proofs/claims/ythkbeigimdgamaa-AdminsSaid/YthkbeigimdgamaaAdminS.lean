/- Admins -/
import Derived.Test.YthkbeigimdgamaaAdminJ
import Derived.Test.YthkbeigimdgamaaAdminI
import Derived.Test.YthkbeigimdgamaaL
import Derived.Deep.RegionHeld3
import Derived.Deep.RegionWith
import Derived.Deep.DrawnRows
import Derived.Outline
namespace Go.Proofs.Ythkbeigimdgamaa
open Go Go.RowKit

attribute [local go_sem ↓] Go.wp_at_zero Go.wp_at_succ
set_option maxRecDepth 100000 in
set_option maxHeartbeats 25600000 in
theorem admins_walk (a0 a1 a2 a3 a4 a5 : Int) (l : List UInt8) (hl : l.length < 4611686018427387904) (w : World) : Calls Try.prog 3 #[recV [a0, a1, a2, a3, a4, a5] [], strV l] w fun e w' => e = .returned (.bool true) ∧ Below w.heap.size w w' := by
  have P1 := fun w => adminPut_any a0 a1 a2 a3 a4 a5 w
  have P2 := fun w => refAdminPut_any a0 a1 a2 a3 a4 a5 w
  have M1 := fun w => adminMay_any a0 a1 a2 a3 a4 a5 w
  have M2 := fun w => refAdminMay_any a0 a1 a2 a3 a4 a5 w
  have G1 := fun w => adminGet_any l hl w
  have G2 := fun w => refAdminGet_any l hl w
  have hgl := adminS.getC_length l
  generalize adminS.getC l = C at hgl G1 G2
  obtain ⟨c0, c1, c2, c3, c4, c5, rfl⟩ : ∃ c0 c1 c2 c3 c4 c5, C = [c0, c1, c2, c3, c4, c5] := by
    match C, hgl with
    | [c0, c1, c2, c3, c4, c5], _ => exact ⟨c0, c1, c2, c3, c4, c5, rfl⟩
  clear hgl
  have RA := rec_new w [a0, a1, a2, a3, a4, a5] [] 23
  generalize adminS.may [a0, a1, a2, a3, a4, a5] [] = M at P1 P2 M1 M2
  generalize formE M 600 = eI at P1 P2
  generalize formE (adminS.ok l) 600 = fI at G1 G2
  rw [show strV (adminS.put [a0, a1, a2, a3, a4, a5] []) = .string ⟨(adminS.put [a0, a1, a2, a3, a4, a5] []).toArray⟩ from rfl] at P1 P2
  generalize (⟨(adminS.put [a0, a1, a2, a3, a4, a5] []).toArray⟩ : ByteArray) = s1 at P1 P2
  rw [show recV [a0, a1, a2, a3, a4, a5] [] = .agg #[.int .i64 a0, .int .i64 a1, .int .i64 a2, .int .i64 a3, .int .i64 a4, .int .i64 a5] from rfl] at P1 P2 M1 M2 ⊢
  rw [show recV [c0, c1, c2, c3, c4, c5] [] = .agg #[.int .i64 c0, .int .i64 c1, .int .i64 c2, .int .i64 c3, .int .i64 c4, .int .i64 c5] from rfl] at G1 G2
  rw [show strV l = .string ⟨l.toArray⟩ from rfl] at G1 G2 ⊢
  generalize (⟨l.toArray⟩ : ByteArray) = sl at G1 G2 ⊢
  have hq : ∀ w, (binOp .eql 23 (.agg #[.int .i64 c0, .int .i64 c1, .int .i64 c2, .int .i64 c3, .int .i64 c4, .int .i64 c5]) (.agg #[.int .i64 c0, .int .i64 c1, .int .i64 c2, .int .i64 c3, .int .i64 c4, .int .i64 c5])).run Try.prog w = .ok (.bool true) w := fun w => by
    rw [run_eqlAdmin c0 c1 c2 c3 c4 c5 c0 c1 c2 c3 c4 c5 w, decide_eq_true (rfl : [c0, c1, c2, c3, c4, c5] = [c0, c1, c2, c3, c4, c5])]
  have hg := guard23
  have RA1 : Hid (Rec (w.alloc (.cells #[.int .i64 a0, .int .i64 a1, .int .i64 a2, .int .i64 a3, .int .i64 a4, .int .i64 a5] 23)) w.heap.size [a0, a1, a2, a3, a4, a5] []) := Lib.hid RA
  have BX := Lib.hid (show Below w.heap.size w (w.alloc (.cells #[.int .i64 a0, .int .i64 a1, .int .i64 a2, .int .i64 a3, .int .i64 a4, .int .i64 a5] 23)) from (Below.refl _ _).alloc (Nat.le_refl _) _)
  replace P1 := Lib.hid P1
  replace P2 := Lib.hid P2
  replace M1 := Lib.hid M1
  replace M2 := Lib.hid M2
  replace G1 := Lib.hid G1
  replace G2 := Lib.hid G2
  have AWK := Lib.hid adminAwake_any
  clear RA hl
  go_enter Try.func3, Try.ntmps3
  go_wp2_with fail
  refine (P1.out _).mono ?_
  rintro e w1 ⟨rfl, b⟩
  have RA2 := Lib.hid (RA1.out.below b)
  have B1 := Lib.hid (BX.out.trans (b.mono BX.out.size))
  clear b RA1 BX
  have x0 : w1.cell? ⟨w.heap.size, 0, none⟩ = some (.int .i64 a0) := RA2.out.1 0 (by simp)
  have x1 : w1.cell? ⟨w.heap.size, 1, none⟩ = some (.int .i64 a1) := RA2.out.1 1 (by simp)
  have x2 : w1.cell? ⟨w.heap.size, 2, none⟩ = some (.int .i64 a2) := RA2.out.1 2 (by simp)
  have x3 : w1.cell? ⟨w.heap.size, 3, none⟩ = some (.int .i64 a3) := RA2.out.1 3 (by simp)
  have x4 : w1.cell? ⟨w.heap.size, 4, none⟩ = some (.int .i64 a4) := RA2.out.1 4 (by simp)
  have x5 : w1.cell? ⟨w.heap.size, 5, none⟩ = some (.int .i64 a5) := RA2.out.1 5 (by simp)
  go_wp2_with fail
  refine (P2.out _).mono ?_
  rintro e w2 ⟨rfl, b⟩
  have RA3 := Lib.hid (RA2.out.below b)
  have B2 := Lib.hid (B1.out.trans (b.mono B1.out.size))
  clear b RA2 B1 x0 x1 x2 x3 x4 x5
  go_wp2_with fail
  refine (G1.out _).mono ?_
  rintro e w3 ⟨rfl, b⟩
  have bb := b.trans (show Below w2.heap.size w3 (w3.alloc (.cells #[.int .i64 c0, .int .i64 c1, .int .i64 c2, .int .i64 c3, .int .i64 c4, .int .i64 c5] 23)) from (Below.refl _ _).alloc b.size _)
  have RA4 := Lib.hid (RA3.out.below bb)
  have B3 := Lib.hid (B2.out.trans (bb.mono B2.out.size))
  have RC3 : Hid (Rec (w3.alloc (.cells #[.int .i64 c0, .int .i64 c1, .int .i64 c2, .int .i64 c3, .int .i64 c4, .int .i64 c5] 23)) w3.heap.size [c0, c1, c2, c3, c4, c5] []) := Lib.hid (rec_new w3 [c0, c1, c2, c3, c4, c5] [] 23)
  clear b bb RA3 B2
  go_wp2_with fail
  refine (G2.out _).mono ?_
  rintro e w4 ⟨rfl, b⟩
  have bb := b.trans (show Below (w3.alloc (.cells #[.int .i64 c0, .int .i64 c1, .int .i64 c2, .int .i64 c3, .int .i64 c4, .int .i64 c5] 23)).heap.size w4 (w4.alloc (.cells #[.int .i64 c0, .int .i64 c1, .int .i64 c2, .int .i64 c3, .int .i64 c4, .int .i64 c5] 23)) from (Below.refl _ _).alloc b.size _)
  have RA5 := Lib.hid (RA4.out.below bb)
  have RC5 := Lib.hid (RC3.out.below bb)
  have RD5 : Hid (Rec (w4.alloc (.cells #[.int .i64 c0, .int .i64 c1, .int .i64 c2, .int .i64 c3, .int .i64 c4, .int .i64 c5] 23)) w4.heap.size [c0, c1, c2, c3, c4, c5] []) := Lib.hid (rec_new w4 [c0, c1, c2, c3, c4, c5] [] 23)
  have B5 := Lib.hid (B3.out.trans (bb.mono B3.out.size))
  clear b bb RA4 RC3 B3
  go_wp2_with fail
  generalize w4.alloc (.cells #[.int .i64 c0, .int .i64 c1, .int .i64 c2, .int .i64 c3, .int .i64 c4, .int .i64 c5] 23) = w5 at RA5 RC5 RD5 B5 ⊢
  generalize w4.heap.size = bd at RD5 ⊢
  generalize w3.heap.size = bc at RC5 ⊢
  have x0 : w5.cell? ⟨w.heap.size, 0, none⟩ = some (.int .i64 a0) := RA5.out.1 0 (by simp)
  have x1 : w5.cell? ⟨w.heap.size, 1, none⟩ = some (.int .i64 a1) := RA5.out.1 1 (by simp)
  have x2 : w5.cell? ⟨w.heap.size, 2, none⟩ = some (.int .i64 a2) := RA5.out.1 2 (by simp)
  have x3 : w5.cell? ⟨w.heap.size, 3, none⟩ = some (.int .i64 a3) := RA5.out.1 3 (by simp)
  have x4 : w5.cell? ⟨w.heap.size, 4, none⟩ = some (.int .i64 a4) := RA5.out.1 4 (by simp)
  have x5 : w5.cell? ⟨w.heap.size, 5, none⟩ = some (.int .i64 a5) := RA5.out.1 5 (by simp)
  have y0 : w5.cell? ⟨bc, 0, none⟩ = some (.int .i64 c0) := RC5.out.1 0 (by simp)
  have y1 : w5.cell? ⟨bc, 1, none⟩ = some (.int .i64 c1) := RC5.out.1 1 (by simp)
  have y2 : w5.cell? ⟨bc, 2, none⟩ = some (.int .i64 c2) := RC5.out.1 2 (by simp)
  have y3 : w5.cell? ⟨bc, 3, none⟩ = some (.int .i64 c3) := RC5.out.1 3 (by simp)
  have y4 : w5.cell? ⟨bc, 4, none⟩ = some (.int .i64 c4) := RC5.out.1 4 (by simp)
  have y5 : w5.cell? ⟨bc, 5, none⟩ = some (.int .i64 c5) := RC5.out.1 5 (by simp)
  have z0 : w5.cell? ⟨bd, 0, none⟩ = some (.int .i64 c0) := RD5.out.1 0 (by simp)
  have z1 : w5.cell? ⟨bd, 1, none⟩ = some (.int .i64 c1) := RD5.out.1 1 (by simp)
  have z2 : w5.cell? ⟨bd, 2, none⟩ = some (.int .i64 c2) := RD5.out.1 2 (by simp)
  have z3 : w5.cell? ⟨bd, 3, none⟩ = some (.int .i64 c3) := RD5.out.1 3 (by simp)
  have z4 : w5.cell? ⟨bd, 4, none⟩ = some (.int .i64 c4) := RD5.out.1 4 (by simp)
  have z5 : w5.cell? ⟨bd, 5, none⟩ = some (.int .i64 c5) := RD5.out.1 5 (by simp)
  have NM := Lib.hid num_any
  have BB := B5.out
  clear RA5 RC5 RD5 B5 P1 P2 G1 G2
  go_region_with (first
      | (go_at_call 23; refine (NM.out _ _).mono ?_; rintro e w' ⟨rfl, rfl⟩)
      | (go_at_call 24; refine (M1.out _).mono ?_; rintro e w' ⟨rfl, b⟩; (have x0 := keep_b b x0); (have x1 := keep_b b x1); (have x2 := keep_b b x2); (have x3 := keep_b b x3); (have x4 := keep_b b x4); (have x5 := keep_b b x5))
      | (go_at_call 25; refine (M2.out _).mono ?_; rintro e w' ⟨rfl, b⟩; (have x0 := keep_b b x0); (have x1 := keep_b b x1); (have x2 := keep_b b x2); (have x3 := keep_b b x3); (have x4 := keep_b b x4); (have x5 := keep_b b x5))
      | (go_at_call 26; refine (AWK.out _).mono ?_; rintro e w' ⟨rfl, b⟩))
  all_goals
    go_wp2
    go_ret
    exact ⟨rfl, bel_next (bel_next (bel_next BB.drew (by assumption)) (by assumption)) (by assumption)⟩
end Go.Proofs.Ythkbeigimdgamaa
