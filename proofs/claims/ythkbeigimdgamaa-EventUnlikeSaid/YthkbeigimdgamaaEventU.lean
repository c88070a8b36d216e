/- EventUnlike -/
import Derived.Test.YthkbeigimdgamaaEventJ
import Derived.Test.YthkbeigimdgamaaL
namespace Go.Proofs.Ythkbeigimdgamaa
open Go Go.RowKit

set_option maxRecDepth 100000 in
set_option maxHeartbeats 6400000 in
theorem eventUnlike_walk (a0 a1 a2 a3 a4 a5 a6 a7 b0 b1 b2 b3 b4 b5 b6 b7 : Int) (w : World) : Calls Try.prog 9 #[recV [a0, a1, a2, a3, a4, a5, a6, a7] [], recV [b0, b1, b2, b3, b4, b5, b6, b7] []] w fun e w' => e = .returned (.bool true) ∧ Below w.heap.size w w' := by
  have P1 := fun w => eventPut_any a0 a1 a2 a3 a4 a5 a6 a7 w
  have P2 := fun w => eventPut_any b0 b1 b2 b3 b4 b5 b6 b7 w
  have HI := Lib.hid (eventS.enc_inj [a0, a1, a2, a3, a4, a5, a6, a7] [b0, b1, b2, b3, b4, b5, b6, b7] [] [] rfl rfl)
  have RA := rec_new w [a0, a1, a2, a3, a4, a5, a6, a7] [] 43
  have hq := run_eqlEvent a0 a1 a2 a3 a4 a5 a6 a7 b0 b1 b2 b3 b4 b5 b6 b7
  rw [show recV [a0, a1, a2, a3, a4, a5, a6, a7] [] = .agg #[.int .i64 a0, .int .i64 a1, .int .i64 a2, .int .i64 a3, .int .i64 a4, .int .i64 a5, .int .i64 a6, .int .i64 a7] from rfl] at P1 ⊢
  rw [show recV [b0, b1, b2, b3, b4, b5, b6, b7] [] = .agg #[.int .i64 b0, .int .i64 b1, .int .i64 b2, .int .i64 b3, .int .i64 b4, .int .i64 b5, .int .i64 b6, .int .i64 b7] from rfl] at P2 ⊢
  have RB := rec_new (w.alloc (.cells #[.int .i64 a0, .int .i64 a1, .int .i64 a2, .int .i64 a3, .int .i64 a4, .int .i64 a5, .int .i64 a6, .int .i64 a7] 43)) [b0, b1, b2, b3, b4, b5, b6, b7] [] 43
  replace RA : Rec (w.alloc (.cells #[.int .i64 a0, .int .i64 a1, .int .i64 a2, .int .i64 a3, .int .i64 a4, .int .i64 a5, .int .i64 a6, .int .i64 a7] 43)) w.heap.size [a0, a1, a2, a3, a4, a5, a6, a7] [] := RA
  replace RB : Rec ((w.alloc (.cells #[.int .i64 a0, .int .i64 a1, .int .i64 a2, .int .i64 a3, .int .i64 a4, .int .i64 a5, .int .i64 a6, .int .i64 a7] 43)).alloc (.cells #[.int .i64 b0, .int .i64 b1, .int .i64 b2, .int .i64 b3, .int .i64 b4, .int .i64 b5, .int .i64 b6, .int .i64 b7] 43)) (w.heap.size + 1) [b0, b1, b2, b3, b4, b5, b6, b7] [] := by rw [World.size_alloc] at RB; exact RB
  have RA1 := Lib.hid (RA.below (show Below (w.alloc (.cells #[.int .i64 a0, .int .i64 a1, .int .i64 a2, .int .i64 a3, .int .i64 a4, .int .i64 a5, .int .i64 a6, .int .i64 a7] 43)).heap.size (w.alloc (.cells #[.int .i64 a0, .int .i64 a1, .int .i64 a2, .int .i64 a3, .int .i64 a4, .int .i64 a5, .int .i64 a6, .int .i64 a7] 43)) ((w.alloc (.cells #[.int .i64 a0, .int .i64 a1, .int .i64 a2, .int .i64 a3, .int .i64 a4, .int .i64 a5, .int .i64 a6, .int .i64 a7] 43)).alloc (.cells #[.int .i64 b0, .int .i64 b1, .int .i64 b2, .int .i64 b3, .int .i64 b4, .int .i64 b5, .int .i64 b6, .int .i64 b7] 43)) from (Below.refl _ _).alloc (Nat.le_refl _) _))
  have RB1 := Lib.hid RB
  have BX := Lib.hid (show Below w.heap.size w ((w.alloc (.cells #[.int .i64 a0, .int .i64 a1, .int .i64 a2, .int .i64 a3, .int .i64 a4, .int .i64 a5, .int .i64 a6, .int .i64 a7] 43)).alloc (.cells #[.int .i64 b0, .int .i64 b1, .int .i64 b2, .int .i64 b3, .int .i64 b4, .int .i64 b5, .int .i64 b6, .int .i64 b7] 43)) from ((Below.refl _ _).alloc (Nat.le_refl _) _).alloc (by simp) _)
  clear RA RB
  unfold Sp.put at P1 P2
  cases hm1 : eventS.may [a0, a1, a2, a3, a4, a5, a6, a7] [] <;> cases hm2 : eventS.may [b0, b1, b2, b3, b4, b5, b6, b7] []
  · rw [hm1, if_neg (by decide), show formE false 700 = 700 from rfl, show strV [] = .string ⟨#[]⟩ from rfl] at P1
    rw [hm2, if_neg (by decide), show formE false 700 = 700 from rfl, show strV [] = .string ⟨#[]⟩ from rfl] at P2
    clear hm1 hm2 HI hq
    replace P1 := Lib.hid P1
    replace P2 := Lib.hid P2
    go_enter Try.func9, Try.ntmps9
    go_wp2_with fail
    refine (eventAwake_any _).mono ?_
    rintro e w1 ⟨rfl, b⟩
    have RA2 := Lib.hid (RA1.out.below b)
    have RB2 := Lib.hid (RB1.out.below b)
    have BY := Lib.hid (BX.out.trans (b.mono BX.out.size))
    clear b RA1 RB1 BX
    have x0 : w1.cell? ⟨w.heap.size, 0, none⟩ = some (.int .i64 a0) := RA2.out.1 0 (by simp)
    have x1 : w1.cell? ⟨w.heap.size, 1, none⟩ = some (.int .i64 a1) := RA2.out.1 1 (by simp)
    have x2 : w1.cell? ⟨w.heap.size, 2, none⟩ = some (.int .i64 a2) := RA2.out.1 2 (by simp)
    have x3 : w1.cell? ⟨w.heap.size, 3, none⟩ = some (.int .i64 a3) := RA2.out.1 3 (by simp)
    have x4 : w1.cell? ⟨w.heap.size, 4, none⟩ = some (.int .i64 a4) := RA2.out.1 4 (by simp)
    have x5 : w1.cell? ⟨w.heap.size, 5, none⟩ = some (.int .i64 a5) := RA2.out.1 5 (by simp)
    have x6 : w1.cell? ⟨w.heap.size, 6, none⟩ = some (.int .i64 a6) := RA2.out.1 6 (by simp)
    have x7 : w1.cell? ⟨w.heap.size, 7, none⟩ = some (.int .i64 a7) := RA2.out.1 7 (by simp)
    go_wp2_with fail
    refine (P1.out _).mono ?_
    rintro e w2 ⟨rfl, b⟩
    have RA3 := Lib.hid (RA2.out.below b)
    have RB3 := Lib.hid (RB2.out.below b)
    have BZ := Lib.hid (BY.out.trans (b.mono BY.out.size))
    clear b RA2 RB2 BY x0 x1 x2 x3 x4 x5 x6 x7
    have y0 : w2.cell? ⟨w.heap.size + 1, 0, none⟩ = some (.int .i64 b0) := RB3.out.1 0 (by simp)
    have y1 : w2.cell? ⟨w.heap.size + 1, 1, none⟩ = some (.int .i64 b1) := RB3.out.1 1 (by simp)
    have y2 : w2.cell? ⟨w.heap.size + 1, 2, none⟩ = some (.int .i64 b2) := RB3.out.1 2 (by simp)
    have y3 : w2.cell? ⟨w.heap.size + 1, 3, none⟩ = some (.int .i64 b3) := RB3.out.1 3 (by simp)
    have y4 : w2.cell? ⟨w.heap.size + 1, 4, none⟩ = some (.int .i64 b4) := RB3.out.1 4 (by simp)
    have y5 : w2.cell? ⟨w.heap.size + 1, 5, none⟩ = some (.int .i64 b5) := RB3.out.1 5 (by simp)
    have y6 : w2.cell? ⟨w.heap.size + 1, 6, none⟩ = some (.int .i64 b6) := RB3.out.1 6 (by simp)
    have y7 : w2.cell? ⟨w.heap.size + 1, 7, none⟩ = some (.int .i64 b7) := RB3.out.1 7 (by simp)
    go_wp2_with fail
    refine (P2.out _).mono ?_
    rintro e w3 ⟨rfl, b⟩
    have RA4 := Lib.hid (RA3.out.below b)
    have RB4 := Lib.hid (RB3.out.below b)
    have BW := Lib.hid (BZ.out.trans (b.mono BZ.out.size))
    clear b RA3 RB3 BZ y0 y1 y2 y3 y4 y5 y6 y7
    have x0 : w3.cell? ⟨w.heap.size, 0, none⟩ = some (.int .i64 a0) := RA4.out.1 0 (by simp)
    have x1 : w3.cell? ⟨w.heap.size, 1, none⟩ = some (.int .i64 a1) := RA4.out.1 1 (by simp)
    have x2 : w3.cell? ⟨w.heap.size, 2, none⟩ = some (.int .i64 a2) := RA4.out.1 2 (by simp)
    have x3 : w3.cell? ⟨w.heap.size, 3, none⟩ = some (.int .i64 a3) := RA4.out.1 3 (by simp)
    have x4 : w3.cell? ⟨w.heap.size, 4, none⟩ = some (.int .i64 a4) := RA4.out.1 4 (by simp)
    have x5 : w3.cell? ⟨w.heap.size, 5, none⟩ = some (.int .i64 a5) := RA4.out.1 5 (by simp)
    have x6 : w3.cell? ⟨w.heap.size, 6, none⟩ = some (.int .i64 a6) := RA4.out.1 6 (by simp)
    have x7 : w3.cell? ⟨w.heap.size, 7, none⟩ = some (.int .i64 a7) := RA4.out.1 7 (by simp)
    have y0 : w3.cell? ⟨w.heap.size + 1, 0, none⟩ = some (.int .i64 b0) := RB4.out.1 0 (by simp)
    have y1 : w3.cell? ⟨w.heap.size + 1, 1, none⟩ = some (.int .i64 b1) := RB4.out.1 1 (by simp)
    have y2 : w3.cell? ⟨w.heap.size + 1, 2, none⟩ = some (.int .i64 b2) := RB4.out.1 2 (by simp)
    have y3 : w3.cell? ⟨w.heap.size + 1, 3, none⟩ = some (.int .i64 b3) := RB4.out.1 3 (by simp)
    have y4 : w3.cell? ⟨w.heap.size + 1, 4, none⟩ = some (.int .i64 b4) := RB4.out.1 4 (by simp)
    have y5 : w3.cell? ⟨w.heap.size + 1, 5, none⟩ = some (.int .i64 b5) := RB4.out.1 5 (by simp)
    have y6 : w3.cell? ⟨w.heap.size + 1, 6, none⟩ = some (.int .i64 b6) := RB4.out.1 6 (by simp)
    have y7 : w3.cell? ⟨w.heap.size + 1, 7, none⟩ = some (.int .i64 b7) := RB4.out.1 7 (by simp)
    have hg := guard43
    go_wp2_with (first | (go_at_call 23; refine (num_any _ _).mono ?_; rintro e w' ⟨rfl, rfl⟩))
    go_ret
    exact ⟨rfl, BW.out⟩
  · rw [hm1, if_neg (by decide), show formE false 700 = 700 from rfl, show strV [] = .string ⟨#[]⟩ from rfl] at P1
    rw [hm2, if_pos rfl, show formE true 700 = 0 from rfl, show strV (eventS.enc [b0, b1, b2, b3, b4, b5, b6, b7] []) = .string ⟨(eventS.enc [b0, b1, b2, b3, b4, b5, b6, b7] []).toArray⟩ from rfl] at P2
    clear hm1 hm2 HI hq
    generalize (⟨(eventS.enc [b0, b1, b2, b3, b4, b5, b6, b7] []).toArray⟩ : ByteArray) = s2 at P2
    replace P1 := Lib.hid P1
    replace P2 := Lib.hid P2
    go_enter Try.func9, Try.ntmps9
    go_wp2_with fail
    refine (eventAwake_any _).mono ?_
    rintro e w1 ⟨rfl, b⟩
    have RA2 := Lib.hid (RA1.out.below b)
    have RB2 := Lib.hid (RB1.out.below b)
    have BY := Lib.hid (BX.out.trans (b.mono BX.out.size))
    clear b RA1 RB1 BX
    have x0 : w1.cell? ⟨w.heap.size, 0, none⟩ = some (.int .i64 a0) := RA2.out.1 0 (by simp)
    have x1 : w1.cell? ⟨w.heap.size, 1, none⟩ = some (.int .i64 a1) := RA2.out.1 1 (by simp)
    have x2 : w1.cell? ⟨w.heap.size, 2, none⟩ = some (.int .i64 a2) := RA2.out.1 2 (by simp)
    have x3 : w1.cell? ⟨w.heap.size, 3, none⟩ = some (.int .i64 a3) := RA2.out.1 3 (by simp)
    have x4 : w1.cell? ⟨w.heap.size, 4, none⟩ = some (.int .i64 a4) := RA2.out.1 4 (by simp)
    have x5 : w1.cell? ⟨w.heap.size, 5, none⟩ = some (.int .i64 a5) := RA2.out.1 5 (by simp)
    have x6 : w1.cell? ⟨w.heap.size, 6, none⟩ = some (.int .i64 a6) := RA2.out.1 6 (by simp)
    have x7 : w1.cell? ⟨w.heap.size, 7, none⟩ = some (.int .i64 a7) := RA2.out.1 7 (by simp)
    go_wp2_with fail
    refine (P1.out _).mono ?_
    rintro e w2 ⟨rfl, b⟩
    have RA3 := Lib.hid (RA2.out.below b)
    have RB3 := Lib.hid (RB2.out.below b)
    have BZ := Lib.hid (BY.out.trans (b.mono BY.out.size))
    clear b RA2 RB2 BY x0 x1 x2 x3 x4 x5 x6 x7
    have y0 : w2.cell? ⟨w.heap.size + 1, 0, none⟩ = some (.int .i64 b0) := RB3.out.1 0 (by simp)
    have y1 : w2.cell? ⟨w.heap.size + 1, 1, none⟩ = some (.int .i64 b1) := RB3.out.1 1 (by simp)
    have y2 : w2.cell? ⟨w.heap.size + 1, 2, none⟩ = some (.int .i64 b2) := RB3.out.1 2 (by simp)
    have y3 : w2.cell? ⟨w.heap.size + 1, 3, none⟩ = some (.int .i64 b3) := RB3.out.1 3 (by simp)
    have y4 : w2.cell? ⟨w.heap.size + 1, 4, none⟩ = some (.int .i64 b4) := RB3.out.1 4 (by simp)
    have y5 : w2.cell? ⟨w.heap.size + 1, 5, none⟩ = some (.int .i64 b5) := RB3.out.1 5 (by simp)
    have y6 : w2.cell? ⟨w.heap.size + 1, 6, none⟩ = some (.int .i64 b6) := RB3.out.1 6 (by simp)
    have y7 : w2.cell? ⟨w.heap.size + 1, 7, none⟩ = some (.int .i64 b7) := RB3.out.1 7 (by simp)
    go_wp2_with fail
    refine (P2.out _).mono ?_
    rintro e w3 ⟨rfl, b⟩
    have RA4 := Lib.hid (RA3.out.below b)
    have RB4 := Lib.hid (RB3.out.below b)
    have BW := Lib.hid (BZ.out.trans (b.mono BZ.out.size))
    clear b RA3 RB3 BZ y0 y1 y2 y3 y4 y5 y6 y7
    have x0 : w3.cell? ⟨w.heap.size, 0, none⟩ = some (.int .i64 a0) := RA4.out.1 0 (by simp)
    have x1 : w3.cell? ⟨w.heap.size, 1, none⟩ = some (.int .i64 a1) := RA4.out.1 1 (by simp)
    have x2 : w3.cell? ⟨w.heap.size, 2, none⟩ = some (.int .i64 a2) := RA4.out.1 2 (by simp)
    have x3 : w3.cell? ⟨w.heap.size, 3, none⟩ = some (.int .i64 a3) := RA4.out.1 3 (by simp)
    have x4 : w3.cell? ⟨w.heap.size, 4, none⟩ = some (.int .i64 a4) := RA4.out.1 4 (by simp)
    have x5 : w3.cell? ⟨w.heap.size, 5, none⟩ = some (.int .i64 a5) := RA4.out.1 5 (by simp)
    have x6 : w3.cell? ⟨w.heap.size, 6, none⟩ = some (.int .i64 a6) := RA4.out.1 6 (by simp)
    have x7 : w3.cell? ⟨w.heap.size, 7, none⟩ = some (.int .i64 a7) := RA4.out.1 7 (by simp)
    have y0 : w3.cell? ⟨w.heap.size + 1, 0, none⟩ = some (.int .i64 b0) := RB4.out.1 0 (by simp)
    have y1 : w3.cell? ⟨w.heap.size + 1, 1, none⟩ = some (.int .i64 b1) := RB4.out.1 1 (by simp)
    have y2 : w3.cell? ⟨w.heap.size + 1, 2, none⟩ = some (.int .i64 b2) := RB4.out.1 2 (by simp)
    have y3 : w3.cell? ⟨w.heap.size + 1, 3, none⟩ = some (.int .i64 b3) := RB4.out.1 3 (by simp)
    have y4 : w3.cell? ⟨w.heap.size + 1, 4, none⟩ = some (.int .i64 b4) := RB4.out.1 4 (by simp)
    have y5 : w3.cell? ⟨w.heap.size + 1, 5, none⟩ = some (.int .i64 b5) := RB4.out.1 5 (by simp)
    have y6 : w3.cell? ⟨w.heap.size + 1, 6, none⟩ = some (.int .i64 b6) := RB4.out.1 6 (by simp)
    have y7 : w3.cell? ⟨w.heap.size + 1, 7, none⟩ = some (.int .i64 b7) := RB4.out.1 7 (by simp)
    have hg := guard43
    go_wp2_with (first | (go_at_call 23; refine (num_any _ _).mono ?_; rintro e w' ⟨rfl, rfl⟩))
    go_ret
    exact ⟨rfl, BW.out⟩
  · rw [hm1, if_pos rfl, show formE true 700 = 0 from rfl, show strV (eventS.enc [a0, a1, a2, a3, a4, a5, a6, a7] []) = .string ⟨(eventS.enc [a0, a1, a2, a3, a4, a5, a6, a7] []).toArray⟩ from rfl] at P1
    rw [hm2, if_neg (by decide), show formE false 700 = 700 from rfl, show strV [] = .string ⟨#[]⟩ from rfl] at P2
    clear hm1 hm2 HI hq
    generalize (⟨(eventS.enc [a0, a1, a2, a3, a4, a5, a6, a7] []).toArray⟩ : ByteArray) = s1 at P1
    replace P1 := Lib.hid P1
    replace P2 := Lib.hid P2
    go_enter Try.func9, Try.ntmps9
    go_wp2_with fail
    refine (eventAwake_any _).mono ?_
    rintro e w1 ⟨rfl, b⟩
    have RA2 := Lib.hid (RA1.out.below b)
    have RB2 := Lib.hid (RB1.out.below b)
    have BY := Lib.hid (BX.out.trans (b.mono BX.out.size))
    clear b RA1 RB1 BX
    have x0 : w1.cell? ⟨w.heap.size, 0, none⟩ = some (.int .i64 a0) := RA2.out.1 0 (by simp)
    have x1 : w1.cell? ⟨w.heap.size, 1, none⟩ = some (.int .i64 a1) := RA2.out.1 1 (by simp)
    have x2 : w1.cell? ⟨w.heap.size, 2, none⟩ = some (.int .i64 a2) := RA2.out.1 2 (by simp)
    have x3 : w1.cell? ⟨w.heap.size, 3, none⟩ = some (.int .i64 a3) := RA2.out.1 3 (by simp)
    have x4 : w1.cell? ⟨w.heap.size, 4, none⟩ = some (.int .i64 a4) := RA2.out.1 4 (by simp)
    have x5 : w1.cell? ⟨w.heap.size, 5, none⟩ = some (.int .i64 a5) := RA2.out.1 5 (by simp)
    have x6 : w1.cell? ⟨w.heap.size, 6, none⟩ = some (.int .i64 a6) := RA2.out.1 6 (by simp)
    have x7 : w1.cell? ⟨w.heap.size, 7, none⟩ = some (.int .i64 a7) := RA2.out.1 7 (by simp)
    go_wp2_with fail
    refine (P1.out _).mono ?_
    rintro e w2 ⟨rfl, b⟩
    have RA3 := Lib.hid (RA2.out.below b)
    have RB3 := Lib.hid (RB2.out.below b)
    have BZ := Lib.hid (BY.out.trans (b.mono BY.out.size))
    clear b RA2 RB2 BY x0 x1 x2 x3 x4 x5 x6 x7
    have y0 : w2.cell? ⟨w.heap.size + 1, 0, none⟩ = some (.int .i64 b0) := RB3.out.1 0 (by simp)
    have y1 : w2.cell? ⟨w.heap.size + 1, 1, none⟩ = some (.int .i64 b1) := RB3.out.1 1 (by simp)
    have y2 : w2.cell? ⟨w.heap.size + 1, 2, none⟩ = some (.int .i64 b2) := RB3.out.1 2 (by simp)
    have y3 : w2.cell? ⟨w.heap.size + 1, 3, none⟩ = some (.int .i64 b3) := RB3.out.1 3 (by simp)
    have y4 : w2.cell? ⟨w.heap.size + 1, 4, none⟩ = some (.int .i64 b4) := RB3.out.1 4 (by simp)
    have y5 : w2.cell? ⟨w.heap.size + 1, 5, none⟩ = some (.int .i64 b5) := RB3.out.1 5 (by simp)
    have y6 : w2.cell? ⟨w.heap.size + 1, 6, none⟩ = some (.int .i64 b6) := RB3.out.1 6 (by simp)
    have y7 : w2.cell? ⟨w.heap.size + 1, 7, none⟩ = some (.int .i64 b7) := RB3.out.1 7 (by simp)
    go_wp2_with fail
    refine (P2.out _).mono ?_
    rintro e w3 ⟨rfl, b⟩
    have RA4 := Lib.hid (RA3.out.below b)
    have RB4 := Lib.hid (RB3.out.below b)
    have BW := Lib.hid (BZ.out.trans (b.mono BZ.out.size))
    clear b RA3 RB3 BZ y0 y1 y2 y3 y4 y5 y6 y7
    have x0 : w3.cell? ⟨w.heap.size, 0, none⟩ = some (.int .i64 a0) := RA4.out.1 0 (by simp)
    have x1 : w3.cell? ⟨w.heap.size, 1, none⟩ = some (.int .i64 a1) := RA4.out.1 1 (by simp)
    have x2 : w3.cell? ⟨w.heap.size, 2, none⟩ = some (.int .i64 a2) := RA4.out.1 2 (by simp)
    have x3 : w3.cell? ⟨w.heap.size, 3, none⟩ = some (.int .i64 a3) := RA4.out.1 3 (by simp)
    have x4 : w3.cell? ⟨w.heap.size, 4, none⟩ = some (.int .i64 a4) := RA4.out.1 4 (by simp)
    have x5 : w3.cell? ⟨w.heap.size, 5, none⟩ = some (.int .i64 a5) := RA4.out.1 5 (by simp)
    have x6 : w3.cell? ⟨w.heap.size, 6, none⟩ = some (.int .i64 a6) := RA4.out.1 6 (by simp)
    have x7 : w3.cell? ⟨w.heap.size, 7, none⟩ = some (.int .i64 a7) := RA4.out.1 7 (by simp)
    have y0 : w3.cell? ⟨w.heap.size + 1, 0, none⟩ = some (.int .i64 b0) := RB4.out.1 0 (by simp)
    have y1 : w3.cell? ⟨w.heap.size + 1, 1, none⟩ = some (.int .i64 b1) := RB4.out.1 1 (by simp)
    have y2 : w3.cell? ⟨w.heap.size + 1, 2, none⟩ = some (.int .i64 b2) := RB4.out.1 2 (by simp)
    have y3 : w3.cell? ⟨w.heap.size + 1, 3, none⟩ = some (.int .i64 b3) := RB4.out.1 3 (by simp)
    have y4 : w3.cell? ⟨w.heap.size + 1, 4, none⟩ = some (.int .i64 b4) := RB4.out.1 4 (by simp)
    have y5 : w3.cell? ⟨w.heap.size + 1, 5, none⟩ = some (.int .i64 b5) := RB4.out.1 5 (by simp)
    have y6 : w3.cell? ⟨w.heap.size + 1, 6, none⟩ = some (.int .i64 b6) := RB4.out.1 6 (by simp)
    have y7 : w3.cell? ⟨w.heap.size + 1, 7, none⟩ = some (.int .i64 b7) := RB4.out.1 7 (by simp)
    have hg := guard43
    go_wp2_with (first | (go_at_call 23; refine (num_any _ _).mono ?_; rintro e w' ⟨rfl, rfl⟩))
    go_ret
    exact ⟨rfl, BW.out⟩
  · rw [hm1, if_pos rfl, show formE true 700 = 0 from rfl, show strV (eventS.enc [a0, a1, a2, a3, a4, a5, a6, a7] []) = .string ⟨(eventS.enc [a0, a1, a2, a3, a4, a5, a6, a7] []).toArray⟩ from rfl] at P1
    rw [hm2, if_pos rfl, show formE true 700 = 0 from rfl, show strV (eventS.enc [b0, b1, b2, b3, b4, b5, b6, b7] []) = .string ⟨(eventS.enc [b0, b1, b2, b3, b4, b5, b6, b7] []).toArray⟩ from rfl] at P2
    have HJ := Lib.hid (HI.out hm1 hm2)
    clear hm1 hm2 HI
    generalize eventS.enc [a0, a1, a2, a3, a4, a5, a6, a7] [] = E1 at P1 HJ
    generalize eventS.enc [b0, b1, b2, b3, b4, b5, b6, b7] [] = E2 at P2 HJ
    by_cases he : [a0, a1, a2, a3, a4, a5, a6, a7] = [b0, b1, b2, b3, b4, b5, b6, b7] ∧ ([] : List UInt8) = []
    · have e := HJ.out.2 he
      subst e
      have hq2 := Lib.hid (show decide ([a0, a1, a2, a3, a4, a5, a6, a7] = [b0, b1, b2, b3, b4, b5, b6, b7]) = true from decide_eq_true he.1)
      rw [hq2.out] at hq
      clear he HJ hq2
      generalize (⟨E1.toArray⟩ : ByteArray) = s1 at P1 P2
      replace P1 := Lib.hid P1
      replace P2 := Lib.hid P2
      go_enter Try.func9, Try.ntmps9
      go_wp2_with fail
      refine (eventAwake_any _).mono ?_
      rintro e w1 ⟨rfl, b⟩
      have RA2 := Lib.hid (RA1.out.below b)
      have RB2 := Lib.hid (RB1.out.below b)
      have BY := Lib.hid (BX.out.trans (b.mono BX.out.size))
      clear b RA1 RB1 BX
      have x0 : w1.cell? ⟨w.heap.size, 0, none⟩ = some (.int .i64 a0) := RA2.out.1 0 (by simp)
      have x1 : w1.cell? ⟨w.heap.size, 1, none⟩ = some (.int .i64 a1) := RA2.out.1 1 (by simp)
      have x2 : w1.cell? ⟨w.heap.size, 2, none⟩ = some (.int .i64 a2) := RA2.out.1 2 (by simp)
      have x3 : w1.cell? ⟨w.heap.size, 3, none⟩ = some (.int .i64 a3) := RA2.out.1 3 (by simp)
      have x4 : w1.cell? ⟨w.heap.size, 4, none⟩ = some (.int .i64 a4) := RA2.out.1 4 (by simp)
      have x5 : w1.cell? ⟨w.heap.size, 5, none⟩ = some (.int .i64 a5) := RA2.out.1 5 (by simp)
      have x6 : w1.cell? ⟨w.heap.size, 6, none⟩ = some (.int .i64 a6) := RA2.out.1 6 (by simp)
      have x7 : w1.cell? ⟨w.heap.size, 7, none⟩ = some (.int .i64 a7) := RA2.out.1 7 (by simp)
      go_wp2_with fail
      refine (P1.out _).mono ?_
      rintro e w2 ⟨rfl, b⟩
      have RA3 := Lib.hid (RA2.out.below b)
      have RB3 := Lib.hid (RB2.out.below b)
      have BZ := Lib.hid (BY.out.trans (b.mono BY.out.size))
      clear b RA2 RB2 BY x0 x1 x2 x3 x4 x5 x6 x7
      have y0 : w2.cell? ⟨w.heap.size + 1, 0, none⟩ = some (.int .i64 b0) := RB3.out.1 0 (by simp)
      have y1 : w2.cell? ⟨w.heap.size + 1, 1, none⟩ = some (.int .i64 b1) := RB3.out.1 1 (by simp)
      have y2 : w2.cell? ⟨w.heap.size + 1, 2, none⟩ = some (.int .i64 b2) := RB3.out.1 2 (by simp)
      have y3 : w2.cell? ⟨w.heap.size + 1, 3, none⟩ = some (.int .i64 b3) := RB3.out.1 3 (by simp)
      have y4 : w2.cell? ⟨w.heap.size + 1, 4, none⟩ = some (.int .i64 b4) := RB3.out.1 4 (by simp)
      have y5 : w2.cell? ⟨w.heap.size + 1, 5, none⟩ = some (.int .i64 b5) := RB3.out.1 5 (by simp)
      have y6 : w2.cell? ⟨w.heap.size + 1, 6, none⟩ = some (.int .i64 b6) := RB3.out.1 6 (by simp)
      have y7 : w2.cell? ⟨w.heap.size + 1, 7, none⟩ = some (.int .i64 b7) := RB3.out.1 7 (by simp)
      go_wp2_with fail
      refine (P2.out _).mono ?_
      rintro e w3 ⟨rfl, b⟩
      have RA4 := Lib.hid (RA3.out.below b)
      have RB4 := Lib.hid (RB3.out.below b)
      have BW := Lib.hid (BZ.out.trans (b.mono BZ.out.size))
      clear b RA3 RB3 BZ y0 y1 y2 y3 y4 y5 y6 y7
      have x0 : w3.cell? ⟨w.heap.size, 0, none⟩ = some (.int .i64 a0) := RA4.out.1 0 (by simp)
      have x1 : w3.cell? ⟨w.heap.size, 1, none⟩ = some (.int .i64 a1) := RA4.out.1 1 (by simp)
      have x2 : w3.cell? ⟨w.heap.size, 2, none⟩ = some (.int .i64 a2) := RA4.out.1 2 (by simp)
      have x3 : w3.cell? ⟨w.heap.size, 3, none⟩ = some (.int .i64 a3) := RA4.out.1 3 (by simp)
      have x4 : w3.cell? ⟨w.heap.size, 4, none⟩ = some (.int .i64 a4) := RA4.out.1 4 (by simp)
      have x5 : w3.cell? ⟨w.heap.size, 5, none⟩ = some (.int .i64 a5) := RA4.out.1 5 (by simp)
      have x6 : w3.cell? ⟨w.heap.size, 6, none⟩ = some (.int .i64 a6) := RA4.out.1 6 (by simp)
      have x7 : w3.cell? ⟨w.heap.size, 7, none⟩ = some (.int .i64 a7) := RA4.out.1 7 (by simp)
      have y0 : w3.cell? ⟨w.heap.size + 1, 0, none⟩ = some (.int .i64 b0) := RB4.out.1 0 (by simp)
      have y1 : w3.cell? ⟨w.heap.size + 1, 1, none⟩ = some (.int .i64 b1) := RB4.out.1 1 (by simp)
      have y2 : w3.cell? ⟨w.heap.size + 1, 2, none⟩ = some (.int .i64 b2) := RB4.out.1 2 (by simp)
      have y3 : w3.cell? ⟨w.heap.size + 1, 3, none⟩ = some (.int .i64 b3) := RB4.out.1 3 (by simp)
      have y4 : w3.cell? ⟨w.heap.size + 1, 4, none⟩ = some (.int .i64 b4) := RB4.out.1 4 (by simp)
      have y5 : w3.cell? ⟨w.heap.size + 1, 5, none⟩ = some (.int .i64 b5) := RB4.out.1 5 (by simp)
      have y6 : w3.cell? ⟨w.heap.size + 1, 6, none⟩ = some (.int .i64 b6) := RB4.out.1 6 (by simp)
      have y7 : w3.cell? ⟨w.heap.size + 1, 7, none⟩ = some (.int .i64 b7) := RB4.out.1 7 (by simp)
      have hg := guard43
      go_wp2_with (first | (go_at_call 23; refine (num_any _ _).mono ?_; rintro e w' ⟨rfl, rfl⟩))
      go_ret
      exact ⟨rfl, BW.out⟩
    · have e : (⟨E1.toArray⟩ : ByteArray) ≠ ⟨E2.toArray⟩ := fun e => he (HJ.out.1 (by injection e with e; injection e))
      have hq2 := Lib.hid (show decide ([a0, a1, a2, a3, a4, a5, a6, a7] = [b0, b1, b2, b3, b4, b5, b6, b7]) = false from decide_eq_false (fun h => he ⟨h, rfl⟩))
      rw [hq2.out] at hq
      clear he HJ hq2
      generalize (⟨E1.toArray⟩ : ByteArray) = s1 at P1 e
      generalize (⟨E2.toArray⟩ : ByteArray) = s2 at P2 e
      have e1 := strNe e
      clear e
      replace P1 := Lib.hid P1
      replace P2 := Lib.hid P2
      go_enter Try.func9, Try.ntmps9
      go_wp2_with fail
      refine (eventAwake_any _).mono ?_
      rintro e w1 ⟨rfl, b⟩
      have RA2 := Lib.hid (RA1.out.below b)
      have RB2 := Lib.hid (RB1.out.below b)
      have BY := Lib.hid (BX.out.trans (b.mono BX.out.size))
      clear b RA1 RB1 BX
      have x0 : w1.cell? ⟨w.heap.size, 0, none⟩ = some (.int .i64 a0) := RA2.out.1 0 (by simp)
      have x1 : w1.cell? ⟨w.heap.size, 1, none⟩ = some (.int .i64 a1) := RA2.out.1 1 (by simp)
      have x2 : w1.cell? ⟨w.heap.size, 2, none⟩ = some (.int .i64 a2) := RA2.out.1 2 (by simp)
      have x3 : w1.cell? ⟨w.heap.size, 3, none⟩ = some (.int .i64 a3) := RA2.out.1 3 (by simp)
      have x4 : w1.cell? ⟨w.heap.size, 4, none⟩ = some (.int .i64 a4) := RA2.out.1 4 (by simp)
      have x5 : w1.cell? ⟨w.heap.size, 5, none⟩ = some (.int .i64 a5) := RA2.out.1 5 (by simp)
      have x6 : w1.cell? ⟨w.heap.size, 6, none⟩ = some (.int .i64 a6) := RA2.out.1 6 (by simp)
      have x7 : w1.cell? ⟨w.heap.size, 7, none⟩ = some (.int .i64 a7) := RA2.out.1 7 (by simp)
      go_wp2_with fail
      refine (P1.out _).mono ?_
      rintro e w2 ⟨rfl, b⟩
      have RA3 := Lib.hid (RA2.out.below b)
      have RB3 := Lib.hid (RB2.out.below b)
      have BZ := Lib.hid (BY.out.trans (b.mono BY.out.size))
      clear b RA2 RB2 BY x0 x1 x2 x3 x4 x5 x6 x7
      have y0 : w2.cell? ⟨w.heap.size + 1, 0, none⟩ = some (.int .i64 b0) := RB3.out.1 0 (by simp)
      have y1 : w2.cell? ⟨w.heap.size + 1, 1, none⟩ = some (.int .i64 b1) := RB3.out.1 1 (by simp)
      have y2 : w2.cell? ⟨w.heap.size + 1, 2, none⟩ = some (.int .i64 b2) := RB3.out.1 2 (by simp)
      have y3 : w2.cell? ⟨w.heap.size + 1, 3, none⟩ = some (.int .i64 b3) := RB3.out.1 3 (by simp)
      have y4 : w2.cell? ⟨w.heap.size + 1, 4, none⟩ = some (.int .i64 b4) := RB3.out.1 4 (by simp)
      have y5 : w2.cell? ⟨w.heap.size + 1, 5, none⟩ = some (.int .i64 b5) := RB3.out.1 5 (by simp)
      have y6 : w2.cell? ⟨w.heap.size + 1, 6, none⟩ = some (.int .i64 b6) := RB3.out.1 6 (by simp)
      have y7 : w2.cell? ⟨w.heap.size + 1, 7, none⟩ = some (.int .i64 b7) := RB3.out.1 7 (by simp)
      go_wp2_with fail
      refine (P2.out _).mono ?_
      rintro e w3 ⟨rfl, b⟩
      have RA4 := Lib.hid (RA3.out.below b)
      have RB4 := Lib.hid (RB3.out.below b)
      have BW := Lib.hid (BZ.out.trans (b.mono BZ.out.size))
      clear b RA3 RB3 BZ y0 y1 y2 y3 y4 y5 y6 y7
      have x0 : w3.cell? ⟨w.heap.size, 0, none⟩ = some (.int .i64 a0) := RA4.out.1 0 (by simp)
      have x1 : w3.cell? ⟨w.heap.size, 1, none⟩ = some (.int .i64 a1) := RA4.out.1 1 (by simp)
      have x2 : w3.cell? ⟨w.heap.size, 2, none⟩ = some (.int .i64 a2) := RA4.out.1 2 (by simp)
      have x3 : w3.cell? ⟨w.heap.size, 3, none⟩ = some (.int .i64 a3) := RA4.out.1 3 (by simp)
      have x4 : w3.cell? ⟨w.heap.size, 4, none⟩ = some (.int .i64 a4) := RA4.out.1 4 (by simp)
      have x5 : w3.cell? ⟨w.heap.size, 5, none⟩ = some (.int .i64 a5) := RA4.out.1 5 (by simp)
      have x6 : w3.cell? ⟨w.heap.size, 6, none⟩ = some (.int .i64 a6) := RA4.out.1 6 (by simp)
      have x7 : w3.cell? ⟨w.heap.size, 7, none⟩ = some (.int .i64 a7) := RA4.out.1 7 (by simp)
      have y0 : w3.cell? ⟨w.heap.size + 1, 0, none⟩ = some (.int .i64 b0) := RB4.out.1 0 (by simp)
      have y1 : w3.cell? ⟨w.heap.size + 1, 1, none⟩ = some (.int .i64 b1) := RB4.out.1 1 (by simp)
      have y2 : w3.cell? ⟨w.heap.size + 1, 2, none⟩ = some (.int .i64 b2) := RB4.out.1 2 (by simp)
      have y3 : w3.cell? ⟨w.heap.size + 1, 3, none⟩ = some (.int .i64 b3) := RB4.out.1 3 (by simp)
      have y4 : w3.cell? ⟨w.heap.size + 1, 4, none⟩ = some (.int .i64 b4) := RB4.out.1 4 (by simp)
      have y5 : w3.cell? ⟨w.heap.size + 1, 5, none⟩ = some (.int .i64 b5) := RB4.out.1 5 (by simp)
      have y6 : w3.cell? ⟨w.heap.size + 1, 6, none⟩ = some (.int .i64 b6) := RB4.out.1 6 (by simp)
      have y7 : w3.cell? ⟨w.heap.size + 1, 7, none⟩ = some (.int .i64 b7) := RB4.out.1 7 (by simp)
      have hg := guard43
      go_wp2_with (first | (go_at_call 23; refine (num_any _ _).mono ?_; rintro e w' ⟨rfl, rfl⟩))
      go_ret
      exact ⟨rfl, BW.out⟩
end Go.Proofs.Ythkbeigimdgamaa
