/- A number's bytes by the document: bastionref1.Num. -/
import Derived.Test.YthkbeigimdgamaaC
namespace Go.Proofs.Ythkbeigimdgamaa
open Go Go.RowKit

theorem widthN_gt : ∀ (k : Nat) (x : Nat), 256 ^ k ≤ x → k < widthN x := by
  intro k
  induction k with
  | zero => intro x h; have : 1 ≤ x := by simpa using h
            rw [widthN_pos (by omega)]; omega
  | succ k ih =>
    intro x h
    have hp : 0 < 256 ^ (k + 1) := Nat.pow_pos (by omega)
    rw [widthN_pos (by omega)]
    have := ih (x / 256) (by rw [Nat.pow_succ] at h; omega)
    omega

theorem own_nil (w : World) (B : Nat) : OwnB w B (.slice none 0 0) [] := World.ownsRow_nil w B 5 1

theorem strV_append (a b : List UInt8) : strV (a ++ b) = .string (⟨a.toArray⟩ ++ ⟨b.toArray⟩) := by
  rw [ByteArray.mk_append_mk]; rfl

theorem OwnB.alloc {w : World} {B : Nat} {v : Value} {l : List UInt8} (h : OwnB w B v l) (o : Obj) : OwnB (w.alloc o) B v l := World.ownsRow.alloc h o

theorem str_nil (w : World) : (convert 67 9 (.slice none 0 0)).run Try.prog w = .ok (.string ⟨#[]⟩) w := by
  rw [run_convert_bytes_string w 67 9 5 none 0 0 Try.underlying67 Try.underlying5 Try.underlying9]
  simp [Conv.bytesToString]
  rfl

theorem beN_length : ∀ (k x : Nat), (beN k x).length = k
  | 0, _ => rfl
  | k + 1, x => by simp [beN, beN_length k x]

theorem beN_succ : ∀ (k x : Nat), beN (k + 1) x = beN k (x / 256) ++ [UInt8.ofNat x]
  | 0, x => by simp [beN]
  | k + 1, x => by
    rw [beN, beN_succ k x, beN, List.cons_append]
    congr 2
    rw [Nat.pow_succ, Nat.mul_comm, ← Nat.div_div_eq_div_mul]

def bytesN (x : Nat) : List UInt8 := beN (widthN x) x
theorem bytesN_length (x : Nat) : (bytesN x).length = widthN x := beN_length _ _
theorem bytesN_zero : bytesN 0 = [] := by rw [bytesN, widthN_zero]; rfl
theorem bytesN_pos {x : Nat} (h : 0 < x) : bytesN x = bytesN (x / 256) ++ [UInt8.ofNat x] := by rw [bytesN, widthN_pos h, beN_succ]; rfl
theorem numL_eq (x : Nat) : numL x = [UInt8.ofNat (bytesN x).length] ++ bytesN x := by rw [bytesN_length]; rfl

set_option maxRecDepth 100000 in
set_option maxHeartbeats 3200000 in
theorem refNum_may (x : Nat) (hx : x ≤ 1073741823) (w : World) : Calls Try.prog 69 #[.int .i64 x] w fun e w' => e = .returned (.tuple #[strV (numL x), .int .i64 0]) ∧ Below w.heap.size w w' := by
  have hmay : numMayB (x : Int) = true := by simp [numMayB]; omega
  have h4 := Lib.hid (show (x : Int) / 16777216 = ((UInt8.ofNat (x / 256 ^ 3)).toNat : Int) from by simp; omega)
  have h3 := Lib.hid (show (x : Int) / 65536 % 256 = ((UInt8.ofNat (x / 256 ^ 2)).toNat : Int) from by simp)
  have h2 := Lib.hid (show (x : Int) / 256 % 256 = ((UInt8.ofNat (x / 256 ^ 1)).toNat : Int) from by simp)
  have h1 := Lib.hid (show (x : Int) % 256 = ((UInt8.ofNat (x / 256 ^ 0)).toNat : Int) from by simp)
  have hX := Lib.hid hx
  go_enter Try.func69, Try.ntmps69
  go_wp2_with (first | (go_at_call 56; refine (refNumMay_any _ _).mono ?_; rintro e w' ⟨rfl, rfl⟩))
  go_loopg [4, 5, 6] 5 (fun gg s4 s5 s6 wr => ∃ (m : Nat), m ≤ 4 ∧ m < gg ∧ s5 = .int .i64 ((m : Int) - 1) ∧ Aside (OwnB wr w.heap.size s4 (bytesN (x / 256 ^ m)) ∧ (bytesN (x / 256 ^ m) = [] → s4 = .slice none 0 0)) ∧ Aside (Below w.heap.size w wr))
  case atStart => exact ⟨4, by omega, by omega, rfl, by rw [show x / 256 ^ 4 = 0 from by omega, bytesN_zero]; exact ⟨own_nil _ _, fun _ => rfl⟩, Below.refl _ _⟩
  case round =>
    obtain ⟨m, hm, hmg, rfl, AO, AB⟩ := hrel
    have hm4 : m = 0 ∨ m = 1 ∨ m = 2 ∨ m = 3 ∨ m = 4 := by omega
    clear hm
    rcases hm4 with rfl | rfl | rfl | rfl | rfl
    · have own := AO.out.1
      have bel := AB.out
      have hnz := AO.out.2
      have hE := Lib.hid (numL_eq x)
      have hmx : (bytesN (x / 256 ^ 0)).length ≤ 4 := by rw [bytesN_length]; exact widthN_le 4 _ (by have := Nat.div_le_self x (256 ^ 0); omega)
      rw [Nat.pow_zero, Nat.div_one] at own hnz hmx
      clear AO AB
      generalize bytesN x = L at own hnz hmx hE
      have hsz := bel.size
      have hb1 : (L.length : Int) = ((UInt8.ofNat L.length).toNat : Int) := by simp; omega
      have HB := Lib.hid hb1
      clear hb1
      by_cases hL : L = []
      · have hv := hnz hL
        subst hv; subst hL
        clear own hnz
        go_wp2_with fail
        rw [(own_lit wr (UInt8.ofNat 0) 0 (by decide)).str (by simp)]
        unfold strV
        go_wp2_with fail
        rw [str_nil]
        go_wp2
        go_ret2
        exact ⟨by rw [hE.out]; rfl, bel.alloc hsz _⟩
      · have hl0 : 0 < L.length := List.length_pos_iff.2 hL
        obtain ⟨g, cp, rfl, _, _⟩ := own.form hl0
        have OW := Lib.hid own
        clear own hnz hL
        go_wp2_with fail
        rw [(own_lit wr (UInt8.ofNat L.length) _ HB.out).str (by simp)]
        unfold strV
        go_wp2_with fail
        rw [(OW.out.alloc _).str hl0]
        unfold strV
        generalize hg1 : UInt8.ofNat L.length = c1 at *
        go_wp2
        go_ret2
        exact ⟨by rw [hE.out, strV_append]; rfl, bel.alloc hsz _⟩
    · have E := Lib.hid (show x / 256 ^ 1 = x / 256 ^ 0 / 256 from by omega)
      by_cases hy : (x : Int) = 0
      · have hd : (x : Int) % 256 = 0 := by omega
        have e0 : x / 256 ^ 1 = 0 := by omega
        have e1 := Lib.hid (show x / 256 ^ 0 = 0 from by omega)
        have hv := AO.out.2 (by rw [e0, bytesN_zero])
        clear e0 hy
        subst hv
        go_wp2
        go_roundg 1
        case measure => omega
        case rel => exact ⟨0, by omega, by omega, rfl, by rw [e1.out, bytesN_zero]; exact ⟨own_nil _ _, fun _ => rfl⟩, AB.out⟩
      · have e1 := Lib.hid (show bytesN (x / 256 ^ 0) = bytesN (x / 256 ^ 1) ++ [UInt8.ofNat (x / 256 ^ 0)] from by rw [E.out]; exact bytesN_pos (by omega))
        have hdl : (x : Int) % 256 = 0 ∨ ((x : Int) % 256 != 0) = true := by
          by_cases h : (x : Int) % 256 = 0
          · exact .inl h
          · exact .inr (by simpa using h)
        have hlen : (x : Int) % 256 = 0 → 0 < (bytesN (x / 256 ^ 1)).length := fun h => by rw [bytesN_length, widthN_pos (by omega)]; omega
        have hmx : (bytesN (x / 256 ^ 1)).length < 1000 := by rw [bytesN_length]; have := widthN_le 4 (x / 256 ^ 1) (by have := Nat.div_le_self x (256 ^ 1); omega); omega
        have own := AO.out.1
        have bel := AB.out
        have hnz := AO.out.2
        clear hy AO E AB
        generalize bytesN (x / 256 ^ 1) = L at own hlen hmx hnz e1
        have hsz := bel.size
        rcases hdl with hd | hd
        · have hl0 := hlen hd
          obtain ⟨g, cp, rfl, _, _⟩ := own.form hl0
          have hli : 0 < (L.length : Int) := by omega
          have OW := Lib.hid own
          have HL := Lib.hid hmx
          clear own hlen hnz hl0
          go_wp2_with (first | (at_builtin; refine wpList_appB rfl (.tmp 27) (.tmp 29) rfl w.heap.size _ L (UInt8.ofNat (x / 256 ^ 0)) rfl (OW.out.alloc _) ⟨_, 0, none⟩ 1 rfl (hcell_new _ _ (by simp) _ _ (by have := h1.out; rw [hd] at this; exact this)) HL.out (by simp; omega) ?_; intro v1 w1 own1 bel1))
          go_roundg 1
          case measure => omega
          case rel => exact ⟨0, by omega, by omega, rfl, by rw [e1.out]; exact ⟨own1, fun h => by simp at h⟩, (bel.alloc (by omega) _).trans bel1⟩
        · have OW := Lib.hid own
          have HL := Lib.hid hmx
          clear own hlen hnz
          go_wp2_with (first | (at_builtin; refine wpList_appB rfl (.tmp 27) (.tmp 29) rfl w.heap.size _ L (UInt8.ofNat (x / 256 ^ 0)) rfl (OW.out.alloc _) ⟨_, 0, none⟩ 1 rfl (hcell_new _ _ (by simp) _ _ h1.out) HL.out (by simp; omega) ?_; intro v1 w1 own1 bel1))
          go_roundg 1
          case measure => omega
          case rel => exact ⟨0, by omega, by omega, rfl, by rw [e1.out]; exact ⟨own1, fun h => by simp at h⟩, (bel.alloc (by omega) _).trans bel1⟩
    · have E := Lib.hid (show x / 256 ^ 2 = x / 256 ^ 1 / 256 from by omega)
      by_cases hy : (x : Int) / 256 = 0
      · have hd : (x : Int) / 256 % 256 = 0 := by omega
        have e0 : x / 256 ^ 2 = 0 := by omega
        have e1 := Lib.hid (show x / 256 ^ 1 = 0 from by omega)
        have hv := AO.out.2 (by rw [e0, bytesN_zero])
        clear e0 hy
        subst hv
        go_wp2
        go_roundg 2
        case measure => omega
        case rel => exact ⟨1, by omega, by omega, rfl, by rw [e1.out, bytesN_zero]; exact ⟨own_nil _ _, fun _ => rfl⟩, AB.out⟩
      · have e1 := Lib.hid (show bytesN (x / 256 ^ 1) = bytesN (x / 256 ^ 2) ++ [UInt8.ofNat (x / 256 ^ 1)] from by rw [E.out]; exact bytesN_pos (by omega))
        have hdl : (x : Int) / 256 % 256 = 0 ∨ ((x : Int) / 256 % 256 != 0) = true := by
          by_cases h : (x : Int) / 256 % 256 = 0
          · exact .inl h
          · exact .inr (by simpa using h)
        have hlen : (x : Int) / 256 % 256 = 0 → 0 < (bytesN (x / 256 ^ 2)).length := fun h => by rw [bytesN_length, widthN_pos (by omega)]; omega
        have hmx : (bytesN (x / 256 ^ 2)).length < 1000 := by rw [bytesN_length]; have := widthN_le 4 (x / 256 ^ 2) (by have := Nat.div_le_self x (256 ^ 2); omega); omega
        have own := AO.out.1
        have bel := AB.out
        have hnz := AO.out.2
        clear hy AO E AB
        generalize bytesN (x / 256 ^ 2) = L at own hlen hmx hnz e1
        have hsz := bel.size
        rcases hdl with hd | hd
        · have hl0 := hlen hd
          obtain ⟨g, cp, rfl, _, _⟩ := own.form hl0
          have hli : 0 < (L.length : Int) := by omega
          have OW := Lib.hid own
          have HL := Lib.hid hmx
          clear own hlen hnz hl0
          go_wp2_with (first | (at_builtin; refine wpList_appB rfl (.tmp 27) (.tmp 29) rfl w.heap.size _ L (UInt8.ofNat (x / 256 ^ 1)) rfl (OW.out.alloc _) ⟨_, 0, none⟩ 1 rfl (hcell_new _ _ (by simp) _ _ (by have := h2.out; rw [hd] at this; exact this)) HL.out (by simp; omega) ?_; intro v1 w1 own1 bel1))
          go_roundg 2
          case measure => omega
          case rel => exact ⟨1, by omega, by omega, rfl, by rw [e1.out]; exact ⟨own1, fun h => by simp at h⟩, (bel.alloc (by omega) _).trans bel1⟩
        · have OW := Lib.hid own
          have HL := Lib.hid hmx
          clear own hlen hnz
          go_wp2_with (first | (at_builtin; refine wpList_appB rfl (.tmp 27) (.tmp 29) rfl w.heap.size _ L (UInt8.ofNat (x / 256 ^ 1)) rfl (OW.out.alloc _) ⟨_, 0, none⟩ 1 rfl (hcell_new _ _ (by simp) _ _ h2.out) HL.out (by simp; omega) ?_; intro v1 w1 own1 bel1))
          go_roundg 2
          case measure => omega
          case rel => exact ⟨1, by omega, by omega, rfl, by rw [e1.out]; exact ⟨own1, fun h => by simp at h⟩, (bel.alloc (by omega) _).trans bel1⟩
    · have E := Lib.hid (show x / 256 ^ 3 = x / 256 ^ 2 / 256 from by omega)
      by_cases hy : (x : Int) / 65536 = 0
      · have hd : (x : Int) / 65536 % 256 = 0 := by omega
        have e0 : x / 256 ^ 3 = 0 := by omega
        have e1 := Lib.hid (show x / 256 ^ 2 = 0 from by omega)
        have hv := AO.out.2 (by rw [e0, bytesN_zero])
        clear e0 hy
        subst hv
        go_wp2
        go_roundg 3
        case measure => omega
        case rel => exact ⟨2, by omega, by omega, rfl, by rw [e1.out, bytesN_zero]; exact ⟨own_nil _ _, fun _ => rfl⟩, AB.out⟩
      · have e1 := Lib.hid (show bytesN (x / 256 ^ 2) = bytesN (x / 256 ^ 3) ++ [UInt8.ofNat (x / 256 ^ 2)] from by rw [E.out]; exact bytesN_pos (by omega))
        have hdl : (x : Int) / 65536 % 256 = 0 ∨ ((x : Int) / 65536 % 256 != 0) = true := by
          by_cases h : (x : Int) / 65536 % 256 = 0
          · exact .inl h
          · exact .inr (by simpa using h)
        have hlen : (x : Int) / 65536 % 256 = 0 → 0 < (bytesN (x / 256 ^ 3)).length := fun h => by rw [bytesN_length, widthN_pos (by omega)]; omega
        have hmx : (bytesN (x / 256 ^ 3)).length < 1000 := by rw [bytesN_length]; have := widthN_le 4 (x / 256 ^ 3) (by have := Nat.div_le_self x (256 ^ 3); omega); omega
        have own := AO.out.1
        have bel := AB.out
        have hnz := AO.out.2
        clear hy AO E AB
        generalize bytesN (x / 256 ^ 3) = L at own hlen hmx hnz e1
        have hsz := bel.size
        rcases hdl with hd | hd
        · have hl0 := hlen hd
          obtain ⟨g, cp, rfl, _, _⟩ := own.form hl0
          have hli : 0 < (L.length : Int) := by omega
          have OW := Lib.hid own
          have HL := Lib.hid hmx
          clear own hlen hnz hl0
          go_wp2_with (first | (at_builtin; refine wpList_appB rfl (.tmp 27) (.tmp 29) rfl w.heap.size _ L (UInt8.ofNat (x / 256 ^ 2)) rfl (OW.out.alloc _) ⟨_, 0, none⟩ 1 rfl (hcell_new _ _ (by simp) _ _ (by have := h3.out; rw [hd] at this; exact this)) HL.out (by simp; omega) ?_; intro v1 w1 own1 bel1))
          go_roundg 3
          case measure => omega
          case rel => exact ⟨2, by omega, by omega, rfl, by rw [e1.out]; exact ⟨own1, fun h => by simp at h⟩, (bel.alloc (by omega) _).trans bel1⟩
        · have OW := Lib.hid own
          have HL := Lib.hid hmx
          clear own hlen hnz
          go_wp2_with (first | (at_builtin; refine wpList_appB rfl (.tmp 27) (.tmp 29) rfl w.heap.size _ L (UInt8.ofNat (x / 256 ^ 2)) rfl (OW.out.alloc _) ⟨_, 0, none⟩ 1 rfl (hcell_new _ _ (by simp) _ _ h3.out) HL.out (by simp; omega) ?_; intro v1 w1 own1 bel1))
          go_roundg 3
          case measure => omega
          case rel => exact ⟨2, by omega, by omega, rfl, by rw [e1.out]; exact ⟨own1, fun h => by simp at h⟩, (bel.alloc (by omega) _).trans bel1⟩
    · have E := Lib.hid (show x / 256 ^ 4 = x / 256 ^ 3 / 256 from by omega)
      by_cases hy : (x : Int) / 16777216 = 0
      · have hd : (x : Int) / 16777216 = 0 := by omega
        have e0 : x / 256 ^ 4 = 0 := by omega
        have e1 := Lib.hid (show x / 256 ^ 3 = 0 from by omega)
        have hv := AO.out.2 (by rw [e0, bytesN_zero])
        clear e0 hy
        subst hv
        go_wp2
        go_roundg 4
        case measure => omega
        case rel => exact ⟨3, by omega, by omega, rfl, by rw [e1.out, bytesN_zero]; exact ⟨own_nil _ _, fun _ => rfl⟩, AB.out⟩
      · have e1 := Lib.hid (show bytesN (x / 256 ^ 3) = bytesN (x / 256 ^ 4) ++ [UInt8.ofNat (x / 256 ^ 3)] from by rw [E.out]; exact bytesN_pos (by omega))
        have hdl : (x : Int) / 16777216 = 0 ∨ ((x : Int) / 16777216 != 0) = true := by
          by_cases h : (x : Int) / 16777216 = 0
          · exact .inl h
          · exact .inr (by simpa using h)
        have hlen : (x : Int) / 16777216 = 0 → 0 < (bytesN (x / 256 ^ 4)).length := fun h => by rw [bytesN_length, widthN_pos (by omega)]; omega
        have hmx : (bytesN (x / 256 ^ 4)).length < 1000 := by rw [bytesN_length]; have := widthN_le 4 (x / 256 ^ 4) (by have := Nat.div_le_self x (256 ^ 4); omega); omega
        have own := AO.out.1
        have bel := AB.out
        have hnz := AO.out.2
        clear hy AO E AB
        generalize bytesN (x / 256 ^ 4) = L at own hlen hmx hnz e1
        have hsz := bel.size
        rcases hdl with hd | hd
        · have hl0 := hlen hd
          obtain ⟨g, cp, rfl, _, _⟩ := own.form hl0
          have hli : 0 < (L.length : Int) := by omega
          have OW := Lib.hid own
          have HL := Lib.hid hmx
          clear own hlen hnz hl0
          go_wp2_with (first | (at_builtin; refine wpList_appB rfl (.tmp 27) (.tmp 29) rfl w.heap.size _ L (UInt8.ofNat (x / 256 ^ 3)) rfl (OW.out.alloc _) ⟨_, 0, none⟩ 1 rfl (hcell_new _ _ (by simp) _ _ (by have := h4.out; rw [hd] at this; exact this)) HL.out (by simp; omega) ?_; intro v1 w1 own1 bel1))
          go_roundg 4
          case measure => omega
          case rel => exact ⟨3, by omega, by omega, rfl, by rw [e1.out]; exact ⟨own1, fun h => by simp at h⟩, (bel.alloc (by omega) _).trans bel1⟩
        · have OW := Lib.hid own
          have HL := Lib.hid hmx
          clear own hlen hnz
          go_wp2_with (first | (at_builtin; refine wpList_appB rfl (.tmp 27) (.tmp 29) rfl w.heap.size _ L (UInt8.ofNat (x / 256 ^ 3)) rfl (OW.out.alloc _) ⟨_, 0, none⟩ 1 rfl (hcell_new _ _ (by simp) _ _ h4.out) HL.out (by simp; omega) ?_; intro v1 w1 own1 bel1))
          go_roundg 4
          case measure => omega
          case rel => exact ⟨3, by omega, by omega, rfl, by rw [e1.out]; exact ⟨own1, fun h => by simp at h⟩, (bel.alloc (by omega) _).trans bel1⟩

theorem refNum_any (x : Int) (w : World) : Calls Try.prog 69 #[.int .i64 x] w fun e w' => e = .returned (.tuple #[strV (numF x), .int .i64 (formE (numMayB x) 100)]) ∧ Below w.heap.size w w' := by
  cases h : numMayB x
  · go_enter Try.func69, Try.ntmps69
    go_wp2_with (first
      | (go_at_call 56; refine (refNumMay_any _ _).mono ?_; rintro e w' ⟨rfl, rfl⟩; rw [h]))
    go_ret2
    exact ⟨by rw [numF, h]; rfl, Below.refl _ _⟩
  · have hx : 0 ≤ x ∧ x ≤ 1073741823 := by simpa [numMayB] using h
    obtain ⟨n, rfl⟩ : ∃ n : Nat, x = n := ⟨x.toNat, by omega⟩
    refine (refNum_may n (by omega) w).mono ?_
    rintro e w' ⟨rfl, hb⟩
    exact ⟨by rw [numF, h]; rfl, hb⟩
end Go.Proofs.Ythkbeigimdgamaa
