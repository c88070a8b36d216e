/- Packets -/
import Derived.Test.YthkbeigimdgamaaPacketJ
import Derived.Test.YthkbeigimdgamaaPacketI
import Derived.Test.YthkbeigimdgamaaL
import Derived.Deep.RegionHeld3
import Derived.Deep.RegionWith
import Derived.Deep.DrawnRows
import Derived.Outline
namespace Go.Proofs.Ythkbeigimdgamaa
open Go Go.RowKit

attribute [local go_sem ↓] Go.wp_at_zero Go.wp_at_succ
set_option maxRecDepth 100000 in
set_option maxHeartbeats 25600000 in
theorem packets_walk (a0 a1 a2 a3 a4 a5 a6 a7 : Int) (da : List UInt8) (l : List UInt8) (hl : l.length < 4611686018427387904) (w : World) : Calls Try.prog 11 #[recV [a0, a1, a2, a3, a4, a5, a6, a7] [strV da], strV l] w fun e w' => e = .returned (.bool true) ∧ Below w.heap.size w w' := by
  have P1 := fun w => packetPut_any a0 a1 a2 a3 a4 a5 a6 a7 da w
  have P2 := fun w => refPacketPut_any a0 a1 a2 a3 a4 a5 a6 a7 da w
  have M1 := fun w => packetMay_any a0 a1 a2 a3 a4 a5 a6 a7 da w
  have M2 := fun w => refPacketMay_any a0 a1 a2 a3 a4 a5 a6 a7 da w
  have G1 := fun w => packetGet_any l hl w
  have G2 := fun w => refPacketGet_any l hl w
  have hgl := packetS.getC_length l
  generalize packetS.getC l = C at hgl G1 G2
  obtain ⟨c0, c1, c2, c3, c4, c5, c6, c7, rfl⟩ : ∃ c0 c1 c2 c3 c4 c5 c6 c7, C = [c0, c1, c2, c3, c4, c5, c6, c7] := by
    match C, hgl with
    | [c0, c1, c2, c3, c4, c5, c6, c7], _ => exact ⟨c0, c1, c2, c3, c4, c5, c6, c7, rfl⟩
  clear hgl
  have RA := rec_new w [a0, a1, a2, a3, a4, a5, a6, a7] [strV da] 56
  generalize packetS.may [a0, a1, a2, a3, a4, a5, a6, a7] da = M at P1 P2 M1 M2
  generalize formE M 400 = eI at P1 P2
  generalize formE (packetS.ok l) 400 = fI at G1 G2
  rw [show strV (packetS.put [a0, a1, a2, a3, a4, a5, a6, a7] da) = .string ⟨(packetS.put [a0, a1, a2, a3, a4, a5, a6, a7] da).toArray⟩ from rfl] at P1 P2
  generalize (⟨(packetS.put [a0, a1, a2, a3, a4, a5, a6, a7] da).toArray⟩ : ByteArray) = s1 at P1 P2
  rw [show recV [a0, a1, a2, a3, a4, a5, a6, a7] [strV da] = .agg #[.int .i64 a0, .int .i64 a1, .int .i64 a2, .int .i64 a3, .int .i64 a4, .int .i64 a5, .int .i64 a6, .int .i64 a7, .string ⟨da.toArray⟩] from rfl] at P1 P2 M1 M2 ⊢
  rw [show strV da = .string ⟨da.toArray⟩ from rfl] at RA
  generalize (⟨da.toArray⟩ : ByteArray) = sa at P1 P2 M1 M2 RA ⊢
  rw [show recV [c0, c1, c2, c3, c4, c5, c6, c7] [strV (packetS.getD l)] = .agg #[.int .i64 c0, .int .i64 c1, .int .i64 c2, .int .i64 c3, .int .i64 c4, .int .i64 c5, .int .i64 c6, .int .i64 c7, .string ⟨(packetS.getD l).toArray⟩] from rfl] at G1 G2
  generalize (⟨(packetS.getD l).toArray⟩ : ByteArray) = sc at G1 G2
  rw [show strV l = .string ⟨l.toArray⟩ from rfl] at G1 G2 ⊢
  generalize (⟨l.toArray⟩ : ByteArray) = sl at G1 G2 ⊢
  have hq : ∀ w, (binOp .eql 56 (.agg #[.int .i64 c0, .int .i64 c1, .int .i64 c2, .int .i64 c3, .int .i64 c4, .int .i64 c5, .int .i64 c6, .int .i64 c7, .string sc]) (.agg #[.int .i64 c0, .int .i64 c1, .int .i64 c2, .int .i64 c3, .int .i64 c4, .int .i64 c5, .int .i64 c6, .int .i64 c7, .string sc])).run Try.prog w = .ok (.bool true) w := fun w => by
    rw [run_eqlPacket c0 c1 c2 c3 c4 c5 c6 c7 c0 c1 c2 c3 c4 c5 c6 c7 sc sc w, decide_eq_true (rfl : [c0, c1, c2, c3, c4, c5, c6, c7] = [c0, c1, c2, c3, c4, c5, c6, c7]), decide_eq_true (rfl : sc = sc)]; rfl
  have hg := guard56
  have RA1 : Hid (Rec (w.alloc (.cells #[.int .i64 a0, .int .i64 a1, .int .i64 a2, .int .i64 a3, .int .i64 a4, .int .i64 a5, .int .i64 a6, .int .i64 a7, .string sa] 56)) w.heap.size [a0, a1, a2, a3, a4, a5, a6, a7] [.string sa]) := Lib.hid RA
  have BX := Lib.hid (show Below w.heap.size w (w.alloc (.cells #[.int .i64 a0, .int .i64 a1, .int .i64 a2, .int .i64 a3, .int .i64 a4, .int .i64 a5, .int .i64 a6, .int .i64 a7, .string sa] 56)) from (Below.refl _ _).alloc (Nat.le_refl _) _)
  replace P1 := Lib.hid P1
  replace P2 := Lib.hid P2
  replace M1 := Lib.hid M1
  replace M2 := Lib.hid M2
  replace G1 := Lib.hid G1
  replace G2 := Lib.hid G2
  have AWK := Lib.hid packetAwake_any
  clear RA hl
  go_enter Try.func11, Try.ntmps11
  go_wp2_with fail
  refine (P1.out _).mono ?_
  rintro e w1 ⟨rfl, b⟩
  have RA2 := Lib.hid (RA1.out.below b)
  have B1 := Lib.hid (BX.out.trans (b.mono BX.out.size))
  clear b RA1 BX
  have x0 : w1.cell? ⟨w.heap.size, 0, none⟩ = some (.int .i64 a0) := RA2.out.1 0 (by simp)
  have x1 : w1.cell? ⟨w.heap.size, 1, none⟩ = some (.int .i64 a1) := RA2.out.1 1 (by simp)
  have x2 : w1.cell? ⟨w.heap.size, 2, none⟩ = some (.int .i64 a2) := RA2.out.1 2 (by simp)
  have x3 : w1.cell? ⟨w.heap.size, 3, none⟩ = some (.int .i64 a3) := RA2.out.1 3 (by simp)
  have x4 : w1.cell? ⟨w.heap.size, 4, none⟩ = some (.int .i64 a4) := RA2.out.1 4 (by simp)
  have x5 : w1.cell? ⟨w.heap.size, 5, none⟩ = some (.int .i64 a5) := RA2.out.1 5 (by simp)
  have x6 : w1.cell? ⟨w.heap.size, 6, none⟩ = some (.int .i64 a6) := RA2.out.1 6 (by simp)
  have x7 : w1.cell? ⟨w.heap.size, 7, none⟩ = some (.int .i64 a7) := RA2.out.1 7 (by simp)
  have x8 : w1.cell? ⟨w.heap.size, 8, none⟩ = some (.string sa) := RA2.out.2 0 (by simp)
  go_wp2_with fail
  refine (P2.out _).mono ?_
  rintro e w2 ⟨rfl, b⟩
  have RA3 := Lib.hid (RA2.out.below b)
  have B2 := Lib.hid (B1.out.trans (b.mono B1.out.size))
  clear b RA2 B1 x0 x1 x2 x3 x4 x5 x6 x7 x8
  go_wp2_with fail
  refine (G1.out _).mono ?_
  rintro e w3 ⟨rfl, b⟩
  have bb := b.trans (show Below w2.heap.size w3 (w3.alloc (.cells #[.int .i64 c0, .int .i64 c1, .int .i64 c2, .int .i64 c3, .int .i64 c4, .int .i64 c5, .int .i64 c6, .int .i64 c7, .string sc] 56)) from (Below.refl _ _).alloc b.size _)
  have RA4 := Lib.hid (RA3.out.below bb)
  have B3 := Lib.hid (B2.out.trans (bb.mono B2.out.size))
  have RC3 : Hid (Rec (w3.alloc (.cells #[.int .i64 c0, .int .i64 c1, .int .i64 c2, .int .i64 c3, .int .i64 c4, .int .i64 c5, .int .i64 c6, .int .i64 c7, .string sc] 56)) w3.heap.size [c0, c1, c2, c3, c4, c5, c6, c7] [.string sc]) := Lib.hid (rec_new w3 [c0, c1, c2, c3, c4, c5, c6, c7] [.string sc] 56)
  clear b bb RA3 B2
  go_wp2_with fail
  refine (G2.out _).mono ?_
  rintro e w4 ⟨rfl, b⟩
  have bb := b.trans (show Below (w3.alloc (.cells #[.int .i64 c0, .int .i64 c1, .int .i64 c2, .int .i64 c3, .int .i64 c4, .int .i64 c5, .int .i64 c6, .int .i64 c7, .string sc] 56)).heap.size w4 (w4.alloc (.cells #[.int .i64 c0, .int .i64 c1, .int .i64 c2, .int .i64 c3, .int .i64 c4, .int .i64 c5, .int .i64 c6, .int .i64 c7, .string sc] 56)) from (Below.refl _ _).alloc b.size _)
  have RA5 := Lib.hid (RA4.out.below bb)
  have RC5 := Lib.hid (RC3.out.below bb)
  have RD5 : Hid (Rec (w4.alloc (.cells #[.int .i64 c0, .int .i64 c1, .int .i64 c2, .int .i64 c3, .int .i64 c4, .int .i64 c5, .int .i64 c6, .int .i64 c7, .string sc] 56)) w4.heap.size [c0, c1, c2, c3, c4, c5, c6, c7] [.string sc]) := Lib.hid (rec_new w4 [c0, c1, c2, c3, c4, c5, c6, c7] [.string sc] 56)
  have B5 := Lib.hid (B3.out.trans (bb.mono B3.out.size))
  clear b bb RA4 RC3 B3
  go_wp2_with fail
  generalize w4.alloc (.cells #[.int .i64 c0, .int .i64 c1, .int .i64 c2, .int .i64 c3, .int .i64 c4, .int .i64 c5, .int .i64 c6, .int .i64 c7, .string sc] 56) = w5 at RA5 RC5 RD5 B5 ⊢
  generalize w4.heap.size = bd at RD5 ⊢
  generalize w3.heap.size = bc at RC5 ⊢
  have x0 : w5.cell? ⟨w.heap.size, 0, none⟩ = some (.int .i64 a0) := RA5.out.1 0 (by simp)
  have x1 : w5.cell? ⟨w.heap.size, 1, none⟩ = some (.int .i64 a1) := RA5.out.1 1 (by simp)
  have x2 : w5.cell? ⟨w.heap.size, 2, none⟩ = some (.int .i64 a2) := RA5.out.1 2 (by simp)
  have x3 : w5.cell? ⟨w.heap.size, 3, none⟩ = some (.int .i64 a3) := RA5.out.1 3 (by simp)
  have x4 : w5.cell? ⟨w.heap.size, 4, none⟩ = some (.int .i64 a4) := RA5.out.1 4 (by simp)
  have x5 : w5.cell? ⟨w.heap.size, 5, none⟩ = some (.int .i64 a5) := RA5.out.1 5 (by simp)
  have x6 : w5.cell? ⟨w.heap.size, 6, none⟩ = some (.int .i64 a6) := RA5.out.1 6 (by simp)
  have x7 : w5.cell? ⟨w.heap.size, 7, none⟩ = some (.int .i64 a7) := RA5.out.1 7 (by simp)
  have x8 : w5.cell? ⟨w.heap.size, 8, none⟩ = some (.string sa) := RA5.out.2 0 (by simp)
  have y0 : w5.cell? ⟨bc, 0, none⟩ = some (.int .i64 c0) := RC5.out.1 0 (by simp)
  have y1 : w5.cell? ⟨bc, 1, none⟩ = some (.int .i64 c1) := RC5.out.1 1 (by simp)
  have y2 : w5.cell? ⟨bc, 2, none⟩ = some (.int .i64 c2) := RC5.out.1 2 (by simp)
  have y3 : w5.cell? ⟨bc, 3, none⟩ = some (.int .i64 c3) := RC5.out.1 3 (by simp)
  have y4 : w5.cell? ⟨bc, 4, none⟩ = some (.int .i64 c4) := RC5.out.1 4 (by simp)
  have y5 : w5.cell? ⟨bc, 5, none⟩ = some (.int .i64 c5) := RC5.out.1 5 (by simp)
  have y6 : w5.cell? ⟨bc, 6, none⟩ = some (.int .i64 c6) := RC5.out.1 6 (by simp)
  have y7 : w5.cell? ⟨bc, 7, none⟩ = some (.int .i64 c7) := RC5.out.1 7 (by simp)
  have y8 : w5.cell? ⟨bc, 8, none⟩ = some (.string sc) := RC5.out.2 0 (by simp)
  have z0 : w5.cell? ⟨bd, 0, none⟩ = some (.int .i64 c0) := RD5.out.1 0 (by simp)
  have z1 : w5.cell? ⟨bd, 1, none⟩ = some (.int .i64 c1) := RD5.out.1 1 (by simp)
  have z2 : w5.cell? ⟨bd, 2, none⟩ = some (.int .i64 c2) := RD5.out.1 2 (by simp)
  have z3 : w5.cell? ⟨bd, 3, none⟩ = some (.int .i64 c3) := RD5.out.1 3 (by simp)
  have z4 : w5.cell? ⟨bd, 4, none⟩ = some (.int .i64 c4) := RD5.out.1 4 (by simp)
  have z5 : w5.cell? ⟨bd, 5, none⟩ = some (.int .i64 c5) := RD5.out.1 5 (by simp)
  have z6 : w5.cell? ⟨bd, 6, none⟩ = some (.int .i64 c6) := RD5.out.1 6 (by simp)
  have z7 : w5.cell? ⟨bd, 7, none⟩ = some (.int .i64 c7) := RD5.out.1 7 (by simp)
  have z8 : w5.cell? ⟨bd, 8, none⟩ = some (.string sc) := RD5.out.2 0 (by simp)
  have NM := Lib.hid num_any
  have BB := B5.out
  clear RA5 RC5 RD5 B5 P1 P2 G1 G2
  go_region_with (first
      | (go_at_call 23; refine (NM.out _ _).mono ?_; rintro e w' ⟨rfl, rfl⟩)
      | (go_at_call 38; refine (M1.out _).mono ?_; rintro e w' ⟨rfl, b⟩; (have x0 := keep_b b x0); (have x1 := keep_b b x1); (have x2 := keep_b b x2); (have x3 := keep_b b x3); (have x4 := keep_b b x4); (have x5 := keep_b b x5); (have x6 := keep_b b x6); (have x7 := keep_b b x7); (have x8 := keep_b b x8))
      | (go_at_call 39; refine (M2.out _).mono ?_; rintro e w' ⟨rfl, b⟩; (have x0 := keep_b b x0); (have x1 := keep_b b x1); (have x2 := keep_b b x2); (have x3 := keep_b b x3); (have x4 := keep_b b x4); (have x5 := keep_b b x5); (have x6 := keep_b b x6); (have x7 := keep_b b x7); (have x8 := keep_b b x8))
      | (go_at_call 40; refine (AWK.out _).mono ?_; rintro e w' ⟨rfl, b⟩))
  all_goals
    go_wp2
    go_ret
    exact ⟨rfl, bel_next (bel_next (bel_next BB.drew (by assumption)) (by assumption)) (by assumption)⟩
end Go.Proofs.Ythkbeigimdgamaa
