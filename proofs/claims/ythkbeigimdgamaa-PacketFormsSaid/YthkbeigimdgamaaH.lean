/- Texts and rows of numbers written: field.Text, bastionref1.Text, Nums. -/
import Derived.Test.YthkbeigimdgamaaG
namespace Go.Proofs.Ythkbeigimdgamaa
open Go Go.RowKit

def putText (l : List UInt8) : List UInt8 := if 65536 < l.length then [] else numL l.length ++ l

set_option maxRecDepth 100000 in
set_option maxHeartbeats 1600000 in
theorem fieldText_any (l : List UInt8) (hs : l.length < 4611686018427387904) (w : World) : Calls Try.prog 61 #[strV l] w fun e w' => e = .returned (.tuple #[strV (putText l), .int .i64 (if 65536 < l.length then 100 else 0)]) ∧ Below w.heap.size w w' := by
  have hsz : (⟨l.toArray⟩ : ByteArray).size = l.length := rfl
  by_cases h : 65536 < l.length
  · have HQ := Lib.hid (show putText l = [] from by unfold putText; rw [if_pos h])
    rw [HQ.out, if_pos h]
    have h2 : (65536 : Int) < l.length := by omega
    unfold strV
    go_enter Try.func61, Try.ntmps61
    go_wp2
    go_ret2
    exact ⟨rfl, Below.refl _ _⟩
  · have HQ := Lib.hid (show strV (putText l) = .string (⟨(numL l.length).toArray⟩ ++ ⟨l.toArray⟩) from by unfold putText; rw [if_neg h, strV_append])
    rw [HQ.out, if_neg h]
    have h2 : ¬ (65536 : Int) < l.length := by omega
    have hc := Lib.hid (fieldNum_may l.length (by omega))
    have hl : (numL l.length).length ≤ 5 := by unfold numL; rw [List.length_cons, beN_length]; have := widthN_le 4 l.length (by omega); omega
    have hsn : (⟨(numL l.length).toArray⟩ : ByteArray).size = (numL l.length).length := rfl
    unfold strV at hc ⊢
    have HS := Lib.hid hsz
    generalize (⟨(numL l.length).toArray⟩ : ByteArray) = ns at hc hsn ⊢
    generalize (⟨l.toArray⟩ : ByteArray) = bs at hsz ⊢
    go_enter Try.func61, Try.ntmps61
    go_wp2_with (first | (go_at_call 48; refine (hc.out _).mono ?_; rintro e w1 ⟨rfl, hb⟩))
    go_ret2
    exact ⟨rfl, hb⟩

/-- A slice value that reads as these numbers. -/
def Ints (w : World) (v : Value) (zs : List Int) : Prop :=
  ∃ ao cap, v = .slice ao zs.length cap ∧ ∀ j, j < zs.length → ∃ b off, ao = some ⟨b, off, none⟩ ∧ w.cell? ⟨b, off + j, none⟩ = some (.int .i64 zs[j]!)

theorem Ints.below {w w' : World} {v : Value} {zs : List Int} (h : Ints w v zs) (hb : Below w.heap.size w w') : Ints w' v zs := by
  obtain ⟨ao, cap, rfl, h⟩ := h
  refine ⟨ao, cap, rfl, fun j hj => ?_⟩
  obtain ⟨b, off, e, hc⟩ := h j hj
  exact ⟨b, off, e, keep_cell hc hb⟩

theorem ints_new (w : World) (zs : List Int) : Ints (w.alloc (.cells (zs.map (Value.int .i64)).toArray 3)) (.slice (some ⟨w.heap.size, 0, none⟩) zs.length zs.length) zs :=
  ⟨_, _, rfl, fun j hj => ⟨w.heap.size, 0, rfl, by
    rw [Nat.zero_add]
    refine (World.cell?_alloc_mark w _ _ _ j).trans ?_
    simp [hj]⟩⟩

def numsF (zs : List Int) : List UInt8 := zs.flatMap numF

theorem numL_length (x : Nat) (hx : x ≤ 1073741823) : (numL x).length ≤ 5 := by
  unfold numL; rw [List.length_cons, beN_length]; have := widthN_le 4 x (by omega); omega

theorem numF_length (x : Int) : (numF x).length ≤ 5 := by
  unfold numF
  split
  · rename_i h
    simp [numMayB] at h
    exact numL_length _ (by omega)
  · simp

theorem numsF_length (zs : List Int) : (numsF zs).length ≤ 5 * zs.length := by
  induction zs with
  | nil => simp [numsF]
  | cons z zs ih =>
    have := numF_length z
    simp [numsF] at ih ⊢
    omega

theorem numsF_take (zs : List Int) (j : Nat) (hj : j < zs.length) : numsF (zs.take (j + 1)) = numsF (zs.take j) ++ numF zs[j]! := by
  rw [numsF, List.take_add_one, List.getElem?_eq_getElem hj, Option.toList_some, List.flatMap_append, List.flatMap_singleton, getElem!_pos zs j hj]
  rfl

set_option maxRecDepth 100000 in
set_option maxHeartbeats 1600000 in
theorem nums_any (v : Value) (zs : List Int) (w : World) (hv : Ints w v zs) (hz : zs.length ≤ 8) : Calls Try.prog 50 #[v] w fun e w' => e = .returned (strV (numsF zs)) ∧ Below w.heap.size w w' := by
  have hnum := refNum_any
  obtain ⟨ao, cap, rfl, hc⟩ := hv
  have HC := Lib.hid hc
  clear hc
  obtain ⟨n, hn⟩ : ∃ n, n = zs.length := ⟨_, rfl⟩
  rw [← hn] at hz ⊢
  have HN := Lib.hid hn
  clear hn
  have HNUM := Lib.hid hnum
  clear hnum
  go_enter Try.func50, Try.ntmps50
  go_wp2_with fail
  go_loopg [3, 4, 5, 6] (n + 1) (fun gg s3 s4 s5 s6 wr => ∃ (j : Nat), j ≤ n ∧ n - j < gg ∧ s4 = .int .i64 j ∧ s3 = strV (numsF (zs.take j)) ∧ Aside (Below w.heap.size w wr))
  case atStart => exact ⟨0, by omega, by omega, rfl, rfl, Below.refl _ _⟩
  case round =>
    obtain ⟨j, hj, hjg, rfl, rfl, AB⟩ := hrel
    by_cases h : j < n
    · have hji : (j : Int) < n := by omega
      obtain ⟨b, off, rfl, hc⟩ := HC.out j (by rw [← HN.out]; exact h)
      have hc1 := (AB.out.cell (World.block_lt_of_cell? _ _ hc)).trans hc
      have e := Lib.hid (numsF_take zs j (by rw [← HN.out]; exact h))
      have hl := numsF_length (zs.take j)
      have hl2 : (numsF (zs.take j)).length ≤ 40 := by rw [List.length_take] at hl; omega
      have hm2 := numF_length zs[j]!
      have ea := Lib.hid (strV_append (numsF (zs.take j)) (numF zs[j]!))
      have hs1 : (⟨(numsF (zs.take j)).toArray⟩ : ByteArray).size = (numsF (zs.take j)).length := rfl
      have hs2 : (⟨(numF zs[j]!).toArray⟩ : ByteArray).size = (numF zs[j]!).length := rfl
      have hcall := HNUM.out zs[j]!
      rw [show strV (numsF (zs.take j)) = .string ⟨(numsF (zs.take j)).toArray⟩ from rfl]
      rw [show strV (numF zs[j]!) = .string ⟨(numF zs[j]!).toArray⟩ from rfl] at hcall
      have HCALL := Lib.hid hcall
      clear hcall hc hl
      generalize (⟨(numsF (zs.take j)).toArray⟩ : ByteArray) = b1 at ea hs1 ⊢
      generalize (⟨(numF zs[j]!).toArray⟩ : ByteArray) = b2 at ea hs2 HCALL
      generalize (numsF (zs.take j)).length = q1 at hl2 hs1
      generalize (numF zs[j]!).length = q2 at hm2 hs2
      rw [← e.out] at ea
      clear e
      generalize zs[j]! = z at hc1 HCALL
      go_wp2_with (first | (go_at_call 69; refine (HCALL.out _).mono ?_; rintro e w1 ⟨rfl, hb⟩))
      go_roundg (n - j)
      case measure => omega
      case rel => exact ⟨j + 1, by omega, by omega, by go_num, ea.out.symm, AB.out.trans (hb.mono AB.out.size)⟩
    · have hji : ¬ (j : Int) < n := by omega
      have hjn : j = n := by omega
      subst hjn
      rw [show zs.take j = zs from by rw [List.take_of_length_le]; rw [← HN.out]; omega]
      go_wp2
      go_ret
      exact ⟨rfl, AB.out⟩

set_option maxRecDepth 100000 in
set_option maxHeartbeats 1600000 in
theorem refText_any (l : List UInt8) (hs : l.length < 4611686018427387904) (w : World) : Calls Try.prog 62 #[strV l] w fun e w' => e = .returned (.tuple #[strV (putText l), .int .i64 (if 65536 < l.length then 100 else 0)]) ∧ Below w.heap.size w w' := by
  have hsz : (⟨l.toArray⟩ : ByteArray).size = l.length := rfl
  by_cases h : 65536 < l.length
  · have HQ := Lib.hid (show putText l = [] from by unfold putText; rw [if_pos h])
    rw [HQ.out, if_pos h]
    have h2 : (65536 : Int) < l.length := by omega
    unfold strV
    go_enter Try.func62, Try.ntmps62
    go_wp2
    go_ret2
    exact ⟨rfl, Below.refl _ _⟩
  · have HQ := Lib.hid (show strV (putText l) = .string (⟨(numL l.length).toArray⟩ ++ ⟨l.toArray⟩) from by unfold putText; rw [if_neg h, strV_append])
    rw [HQ.out, if_neg h]
    have h2 : ¬ (65536 : Int) < l.length := by omega
    have hnl : numsF [(l.length : Int)] = numL l.length := by
      simp [numsF, numF, numMayB]
      omega
    have hc := Lib.hid (fun v w hv => nums_any v [(l.length : Int)] w hv (by simp))
    rw [hnl] at hc
    have hl := numL_length l.length (by omega)
    have hsn : (⟨(numL l.length).toArray⟩ : ByteArray).size = (numL l.length).length := rfl
    unfold strV at hc ⊢
    generalize (⟨(numL l.length).toArray⟩ : ByteArray) = ns at hc hsn ⊢
    generalize (⟨l.toArray⟩ : ByteArray) = bs at hsz ⊢
    clear hnl
    go_enter Try.func62, Try.ntmps62
    go_wp2_with (first | (go_at_call 50; refine (hc.out _ _ (ints_new w [(l.length : Int)])).mono ?_; rintro e w1 ⟨rfl, hb⟩))
    go_ret2
    exact ⟨rfl, ((Below.refl _ _).alloc (Nat.le_refl _) _).trans (hb.mono (by simp))⟩
end Go.Proofs.Ythkbeigimdgamaa
