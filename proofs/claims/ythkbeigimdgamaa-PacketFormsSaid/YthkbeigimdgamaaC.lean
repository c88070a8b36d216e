/- A number's bytes: field.Num. -/
import Derived.Test.YthkbeigimdgamaaB
namespace Go.Proofs.Ythkbeigimdgamaa
open Go Go.RowKit

theorem own_lit (w : World) (b : UInt8) (v : Int) (hv : v = (b.toNat : Int)) : OwnB (w.alloc (.cells #[.int .u8 v] 5)) w.heap.size (.slice (some ⟨w.heap.size, 0, none⟩) 1 1) [b] := by
  subst hv
  have := World.ownsRow_lit (base := w.heap.size) (e := 5) (size := 1) w #[.int .u8 (b.toNat : Int)] 1 (Nat.le_refl _) (by unfold maxLen; omega) rfl
  exact this

theorem hcell_new (w : World) (g : Nat) (hg : g = w.heap.size) (v : Int) (b : UInt8) (hv : v = (b.toNat : Int)) : (w.alloc (.cells #[.int .u8 v] 5)).cell? ⟨g, 0, none⟩ = some (.int .u8 (b.toNat : Int)) := by
  subst hv; subst hg
  exact World.cell?_alloc_mark w _ _ _ 0

set_option maxRecDepth 100000 in
set_option maxHeartbeats 1600000 in
theorem fieldNum_may (x : Nat) (hx : x ≤ 1073741823) (w : World) : Calls Try.prog 48 #[.int .i64 x] w fun e w' => e = .returned (.tuple #[strV (numL x), .int .i64 0]) ∧ Below w.heap.size w w' := by
  have hw := widthN_le 4 x (by omega)
  have hmay : numMayB (x : Int) = true := by simp [numMayB]; omega
  have h4 := Lib.hid (show (x : Int) / 16777216 = ((UInt8.ofNat (x / 256 ^ 3)).toNat : Int) from by simp; omega)
  have h3 := Lib.hid (show (x : Int) / 65536 % 256 = ((UInt8.ofNat (x / 256 ^ 2)).toNat : Int) from by simp)
  have h2 := Lib.hid (show (x : Int) / 256 % 256 = ((UInt8.ofNat (x / 256 ^ 1)).toNat : Int) from by simp)
  have h1 := Lib.hid (show (x : Int) % 256 = ((UInt8.ofNat (x / 256 ^ 0)).toNat : Int) from by simp)
  go_enter Try.func48, Try.ntmps48
  have hm4 : widthN x = 0 ∨ widthN x = 1 ∨ widthN x = 2 ∨ widthN x = 3 ∨ widthN x = 4 := by omega
  rcases hm4 with hm | hm | hm | hm | hm
  · -- 0
    go_wp2_with (first
      | (go_at_call 54; refine (numMay_any _ _).mono ?_; rintro e w' ⟨rfl, rfl⟩)
      | (go_at_call 68; refine (width_any _ (by omega) _).mono ?_; rintro e w' ⟨rfl, rfl⟩; rw [hm]))
    rw [(own_lit w 0 0 (by decide)).str (by simp), show [0] = numL x from by rw [numL, hm]; rfl]
    go_wp2
    go_ret2
    exact ⟨rfl, ((Below.refl _ _).alloc (Nat.le_refl _) _)⟩
  · -- 1
    go_wp2_with (first
      | (go_at_call 54; refine (numMay_any _ _).mono ?_; rintro e w' ⟨rfl, rfl⟩)
      | (go_at_call 68; refine (width_any _ (by omega) _).mono ?_; rintro e w' ⟨rfl, rfl⟩; rw [hm])
      | (at_builtin; refine wpList_appB rfl (.tmp 41) (.tmp 44) rfl w.heap.size _ [1] (UInt8.ofNat (x / 256 ^ 0)) rfl ((own_lit w 1 1 (by decide)).alloc _) ⟨_, 0, none⟩ 1 rfl (hcell_new _ _ (by simp) _ _ h1.out) (by simp) (by simp; omega) ?_; intro v1 w1 own1 bel1))
    rw [own1.str (by simp), show ([1] ++ [UInt8.ofNat (x / 256 ^ 0)]) = numL x from by rw [numL, hm]; rfl]
    go_wp2
    go_ret2
    exact ⟨rfl, ((((Below.refl _ _).alloc (Nat.le_refl _) _).alloc (by simp) _).trans bel1)⟩
  · -- 2
    go_wp2_with (first
      | (go_at_call 54; refine (numMay_any _ _).mono ?_; rintro e w' ⟨rfl, rfl⟩)
      | (go_at_call 68; refine (width_any _ (by omega) _).mono ?_; rintro e w' ⟨rfl, rfl⟩; rw [hm])
      | (at_builtin; refine wpList_appB rfl (.tmp 35) (.tmp 39) rfl w.heap.size _ [2] (UInt8.ofNat (x / 256 ^ 1)) rfl ((own_lit w 2 2 (by decide)).alloc _) ⟨_, 0, none⟩ 1 rfl (hcell_new _ _ (by simp) _ _ h2.out) (by simp) (by simp; omega) ?_; intro v1 w1 own1 bel1)
      | (at_builtin; refine wpList_appB rfl (.tmp 41) (.tmp 44) rfl w.heap.size _ ([2] ++ [(UInt8.ofNat (x / 256 ^ 1))]) (UInt8.ofNat (x / 256 ^ 0)) rfl (own1.alloc _) ⟨_, 0, none⟩ 1 rfl (hcell_new _ _ (by simp) _ _ h1.out) (by simp) (by have q1 := bel1.size; simp at q1 ⊢; omega) ?_; intro v2 w2 own2 bel2))
    rw [own2.str (by simp), show (([2] ++ [UInt8.ofNat (x / 256 ^ 1)]) ++ [UInt8.ofNat (x / 256 ^ 0)]) = numL x from by rw [numL, hm]; rfl]
    go_wp2
    go_ret2
    exact ⟨rfl, ((((((Below.refl _ _).alloc (Nat.le_refl _) _).alloc (by simp) _).trans bel1).alloc (by have q1 := bel1.size; simp at q1; omega) _).trans bel2)⟩
  · -- 3
    go_wp2_with (first
      | (go_at_call 54; refine (numMay_any _ _).mono ?_; rintro e w' ⟨rfl, rfl⟩)
      | (go_at_call 68; refine (width_any _ (by omega) _).mono ?_; rintro e w' ⟨rfl, rfl⟩; rw [hm])
      | (at_builtin; refine wpList_appB rfl (.tmp 29) (.tmp 33) rfl w.heap.size _ [3] (UInt8.ofNat (x / 256 ^ 2)) rfl ((own_lit w 3 3 (by decide)).alloc _) ⟨_, 0, none⟩ 1 rfl (hcell_new _ _ (by simp) _ _ h3.out) (by simp) (by simp; omega) ?_; intro v1 w1 own1 bel1)
      | (at_builtin; refine wpList_appB rfl (.tmp 35) (.tmp 39) rfl w.heap.size _ ([3] ++ [(UInt8.ofNat (x / 256 ^ 2))]) (UInt8.ofNat (x / 256 ^ 1)) rfl (own1.alloc _) ⟨_, 0, none⟩ 1 rfl (hcell_new _ _ (by simp) _ _ h2.out) (by simp) (by have q1 := bel1.size; simp at q1 ⊢; omega) ?_; intro v2 w2 own2 bel2)
      | (at_builtin; refine wpList_appB rfl (.tmp 41) (.tmp 44) rfl w.heap.size _ (([3] ++ [(UInt8.ofNat (x / 256 ^ 2))]) ++ [(UInt8.ofNat (x / 256 ^ 1))]) (UInt8.ofNat (x / 256 ^ 0)) rfl (own2.alloc _) ⟨_, 0, none⟩ 1 rfl (hcell_new _ _ (by simp) _ _ h1.out) (by simp) (by have q1 := bel1.size; have q2 := bel2.size; simp at q1 q2 ⊢; omega) ?_; intro v3 w3 own3 bel3))
    rw [own3.str (by simp), show ((([3] ++ [UInt8.ofNat (x / 256 ^ 2)]) ++ [UInt8.ofNat (x / 256 ^ 1)]) ++ [UInt8.ofNat (x / 256 ^ 0)]) = numL x from by rw [numL, hm]; rfl]
    go_wp2
    go_ret2
    exact ⟨rfl, ((((((((Below.refl _ _).alloc (Nat.le_refl _) _).alloc (by simp) _).trans bel1).alloc (by have q1 := bel1.size; simp at q1; omega) _).trans bel2).alloc (by have q1 := bel1.size; have q2 := bel2.size; simp at q1 q2; omega) _).trans bel3)⟩
  · -- 4
    go_wp2_with (first
      | (go_at_call 54; refine (numMay_any _ _).mono ?_; rintro e w' ⟨rfl, rfl⟩)
      | (go_at_call 68; refine (width_any _ (by omega) _).mono ?_; rintro e w' ⟨rfl, rfl⟩; rw [hm])
      | (at_builtin; refine wpList_appB rfl (.tmp 23) (.tmp 27) rfl w.heap.size _ [4] (UInt8.ofNat (x / 256 ^ 3)) rfl ((own_lit w 4 4 (by decide)).alloc _) ⟨_, 0, none⟩ 1 rfl (hcell_new _ _ (by simp) _ _ h4.out) (by simp) (by simp; omega) ?_; intro v1 w1 own1 bel1)
      | (at_builtin; refine wpList_appB rfl (.tmp 29) (.tmp 33) rfl w.heap.size _ ([4] ++ [(UInt8.ofNat (x / 256 ^ 3))]) (UInt8.ofNat (x / 256 ^ 2)) rfl (own1.alloc _) ⟨_, 0, none⟩ 1 rfl (hcell_new _ _ (by simp) _ _ h3.out) (by simp) (by have q1 := bel1.size; simp at q1 ⊢; omega) ?_; intro v2 w2 own2 bel2)
      | (at_builtin; refine wpList_appB rfl (.tmp 35) (.tmp 39) rfl w.heap.size _ (([4] ++ [(UInt8.ofNat (x / 256 ^ 3))]) ++ [(UInt8.ofNat (x / 256 ^ 2))]) (UInt8.ofNat (x / 256 ^ 1)) rfl (own2.alloc _) ⟨_, 0, none⟩ 1 rfl (hcell_new _ _ (by simp) _ _ h2.out) (by simp) (by have q1 := bel1.size; have q2 := bel2.size; simp at q1 q2 ⊢; omega) ?_; intro v3 w3 own3 bel3)
      | (at_builtin; refine wpList_appB rfl (.tmp 41) (.tmp 44) rfl w.heap.size _ ((([4] ++ [(UInt8.ofNat (x / 256 ^ 3))]) ++ [(UInt8.ofNat (x / 256 ^ 2))]) ++ [(UInt8.ofNat (x / 256 ^ 1))]) (UInt8.ofNat (x / 256 ^ 0)) rfl (own3.alloc _) ⟨_, 0, none⟩ 1 rfl (hcell_new _ _ (by simp) _ _ h1.out) (by simp) (by have q1 := bel1.size; have q2 := bel2.size; have q3 := bel3.size; simp at q1 q2 q3 ⊢; omega) ?_; intro v4 w4 own4 bel4))
    rw [own4.str (by simp), show (((([4] ++ [UInt8.ofNat (x / 256 ^ 3)]) ++ [UInt8.ofNat (x / 256 ^ 2)]) ++ [UInt8.ofNat (x / 256 ^ 1)]) ++ [UInt8.ofNat (x / 256 ^ 0)]) = numL x from by rw [numL, hm]; rfl]
    go_wp2
    go_ret2
    exact ⟨rfl, ((((((((((Below.refl _ _).alloc (Nat.le_refl _) _).alloc (by simp) _).trans bel1).alloc (by have q1 := bel1.size; simp at q1; omega) _).trans bel2).alloc (by have q1 := bel1.size; have q2 := bel2.size; simp at q1 q2; omega) _).trans bel3).alloc (by have q1 := bel1.size; have q2 := bel2.size; have q3 := bel3.size; simp at q1 q2 q3; omega) _).trans bel4)⟩

theorem fieldNum_any (x : Int) (w : World) : Calls Try.prog 48 #[.int .i64 x] w fun e w' => e = .returned (.tuple #[strV (numF x), .int .i64 (formE (numMayB x) 100)]) ∧ Below w.heap.size w w' := by
  cases h : numMayB x
  · go_enter Try.func48, Try.ntmps48
    go_wp2_with (first
      | (go_at_call 54; refine (numMay_any _ _).mono ?_; rintro e w' ⟨rfl, rfl⟩; rw [h]))
    go_ret2
    exact ⟨by rw [numF, h]; rfl, Below.refl _ _⟩
  · have hx : 0 ≤ x ∧ x ≤ 1073741823 := by simpa [numMayB] using h
    obtain ⟨n, rfl⟩ : ∃ n : Nat, x = n := ⟨x.toNat, by omega⟩
    refine (fieldNum_may n (by omega) w).mono ?_
    rintro e w' ⟨rfl, hb⟩
    exact ⟨by rw [numF, h]; rfl, hb⟩
end Go.Proofs.Ythkbeigimdgamaa
