/- A number out of bytes: field.num. -/
import Derived.Test.YthkbeigimdgamaaD
namespace Go.Proofs.Ythkbeigimdgamaa
open Go Go.RowKit

def valN (l : List UInt8) : Nat := l.foldl (fun x b => x * 256 + b.toNat) 0

/-- Reads a number: its value, where it ends, the error. -/
def getF (s : List UInt8) (a : Int) : Int × Int × Int :=
  if a < 0 ∨ s.length < a then (0, 0, 100)
  else if a = s.length then (0, 0, 101)
  else if 4 < s[a.toNat]!.toNat then (0, 0, 100)
  else if s.length < a.toNat + 1 + s[a.toNat]!.toNat then (0, 0, 101)
  else if widthN (valN ((s.drop (a.toNat + 1)).take s[a.toNat]!.toNat)) ≠ s[a.toNat]!.toNat ∨ 1073741823 < valN ((s.drop (a.toNat + 1)).take s[a.toNat]!.toNat) then (0, 0, 100)
  else ((valN ((s.drop (a.toNat + 1)).take s[a.toNat]!.toNat) : Int), a + 1 + s[a.toNat]!.toNat, 0)

/-- An error value that bears the number c. -/
theorem valN_go : ∀ (l : List UInt8) (x : Nat), l.foldl (fun x b => x * 256 + b.toNat) x < (x + 1) * 256 ^ l.length
  | [], x => by simp
  | b :: l, x => by
    simp only [List.foldl_cons, List.length_cons]
    have h1 := valN_go l (x * 256 + b.toNat)
    have h2 : b.toNat < 256 := UInt8.toNat_lt _
    refine Nat.lt_of_lt_of_le h1 ?_
    rw [Nat.pow_succ, Nat.mul_comm (256 ^ l.length) 256, ← Nat.mul_assoc]
    exact Nat.mul_le_mul_right _ (by omega)

theorem valN_lt (l : List UInt8) : valN l < 256 ^ l.length := by
  have := valN_go l 0
  simpa [valN] using this

theorem valN_snoc (l : List UInt8) (b : UInt8) : valN (l ++ [b]) = valN l * 256 + b.toNat := by simp [valN]

theorem valN_take (l : List UInt8) (j : Nat) (hj : j < l.length) : valN (l.take (j + 1)) = valN (l.take j) * 256 + l[j]!.toNat := by
  rw [List.take_add_one, List.getElem?_eq_getElem hj, Option.toList_some, valN_snoc]
  simp [hj]

theorem or_byte (x y : Nat) (hx : x < 16777216) (hy : y < 256) : bits .or .i64 ((x : Int) * 256) (y : Int) = ((x * 256 + y : Nat) : Int) := by
  show IntKind.i64.wrap ((BitVec.ofInt 64 ((x : Int) * 256) ||| BitVec.ofInt 64 (y : Int)).toNat : Int) = _
  have h1 : (BitVec.ofInt 64 ((x : Int) * 256)).toNat = x * 256 := by
    rw [show ((x : Int) * 256) = ((x * 256 : Nat) : Int) from by omega, BitVec.ofInt_natCast, BitVec.toNat_ofNat]
    exact Nat.mod_eq_of_lt (by omega)
  have h2 : (BitVec.ofInt 64 (y : Int)).toNat = y := by
    rw [BitVec.ofInt_natCast, BitVec.toNat_ofNat]
    exact Nat.mod_eq_of_lt (by omega)
  rw [BitVec.toNat_or, h1, h2, IntKind.wrap_i64]
  have h3 := Nat.shiftLeft_add_eq_or_of_lt (b := y) (i := 8) hy x
  rw [Nat.shiftLeft_eq] at h3
  rw [show x * 256 = x * 2 ^ 8 from rfl, ← h3]
  omega

inductive Err (w : World) : Value → Int → Prop
  | num (c : Int) (h : c ≠ 0) : Err w (.iface 24 (.int .i64 c)) c
  | fault (b : Nat) (a : Int) (v : Value) (c : Int) (h0 : w.cell? ⟨b, 0, none⟩ = some (.int .i64 a)) (h1 : w.cell? ⟨b, 1, none⟩ = some v) (h : Err w v c) : Err w (.iface 126 (.pointer (some ⟨b, 0, none⟩))) c

def IsErr (w : World) (v : Value) (c : Int) : Prop := (c = 0 ∧ v = .nilIface) ∨ (c ≠ 0 ∧ ∃ b, v = .iface 126 (.pointer (some ⟨b, 0, none⟩)) ∧ Err w v c)

theorem Err.ne {w : World} {v : Value} {c : Int} (h : Err w v c) : c ≠ 0 := by
  induction h with
  | num c h => exact h
  | fault _ _ _ _ _ _ _ ih => exact ih

theorem keep_cell {w w' : World} {p : Addr} {v : Value} (h : w.cell? p = some v) (hb : Below w.heap.size w w') : w'.cell? p = some v :=
  (hb.cell (World.block_lt_of_cell? _ _ h)).trans h

theorem Err.keep {w w' : World} {v : Value} {c : Int} (h : Err w v c) (hb : Below w.heap.size w w') : Err w' v c := by
  induction h with
  | num c h => exact .num c h
  | fault b a v c h0 h1 _ ih => exact .fault b a v c (keep_cell h0 hb) (keep_cell h1 hb) ih

theorem isErr_new (w : World) (a c : Int) (hc : c ≠ 0) : IsErr (w.alloc (.cells #[.int .i64 a, .iface 24 (.int .i64 c)] 128)) (.iface 126 (.pointer (some ⟨w.heap.size, 0, none⟩))) c :=
  .inr ⟨hc, _, rfl, .fault w.heap.size a _ c (World.cell?_alloc_mark w _ _ _ 0) (World.cell?_alloc_mark w _ _ _ 1) (.num c hc)⟩

theorem isErr_nil (w : World) : IsErr w .nilIface 0 := .inl ⟨rfl, rfl⟩

section
variable {l : List UInt8} {p k : Nat} (hp : p < l.length) (hk : l[p]!.toNat = k)
include hp hk
theorem getF_form (h4 : 4 < k) : getF l p = (0, 0, 100) := by
  subst hk
  unfold getF
  simp only [Int.toNat_natCast]
  rw [if_neg (by omega), if_neg (by omega), if_pos (by simpa using h4)]
theorem getF_cut (h4 : ¬ 4 < k) (h5 : l.length < p + 1 + k) : getF l p = (0, 0, 101) := by
  subst hk
  unfold getF
  simp only [Int.toNat_natCast]
  rw [if_neg (by omega), if_neg (by omega), if_neg (by simpa using h4), if_pos (by simpa using h5)]
theorem getF_bad (h4 : ¬ 4 < k) (h5 : ¬ l.length < p + 1 + k) {x : Nat} (hx : x = valN ((l.drop (p + 1)).take k)) (hb : widthN x ≠ k ∨ 1073741823 < x) : getF l p = (0, 0, 100) := by
  subst hk; subst hx
  unfold getF
  simp only [Int.toNat_natCast]
  rw [if_neg (by omega), if_neg (by omega), if_neg (by simpa using h4), if_neg (by simpa using h5), if_pos hb]
theorem getF_ok (h4 : ¬ 4 < k) (h5 : ¬ l.length < p + 1 + k) {x : Nat} (hx : x = valN ((l.drop (p + 1)).take k)) (hb : ¬ (widthN x ≠ k ∨ 1073741823 < x)) : getF l p = ((x : Int), (p : Int) + 1 + (k : Int), 0) := by
  subst hk; subst hx
  unfold getF
  simp only [Int.toNat_natCast]
  rw [if_neg (by omega), if_neg (by omega), if_neg (by simpa using h4), if_neg (by simpa using h5), if_neg hb]
end

set_option maxRecDepth 100000 in
set_option maxHeartbeats 3200000 in
theorem fieldnum_pos (bs : ByteArray) (p : Nat) (hp : p < bs.size) (hs : bs.size < 4611686018427387904) (w : World) : Calls Try.prog 70 #[.string bs, .int .i64 p] w fun e w' => ∃ v, e = .returned (.tuple #[.int .i64 (getF bs.data.toList p).1, .int .i64 (getF bs.data.toList p).2.1, v]) ∧ IsErr w' v (getF bs.data.toList p).2.2 ∧ Below w.heap.size w w' := by
  go_enter Try.func70, Try.ntmps70
  have h1 : (p : Int) < bs.size := by omega
  have hb : bs[p].toNat < 256 := UInt8.toNat_lt _
  have hbw : wrap64 (bs[p].toNat : Int) = (bs[p].toNat : Int) := by unfold wrap64; omega
  go_wp2
  go_quiet (fail)
  have hkl : bs.data.toList[p]!.toNat = bs[p].toNat := by
    simp [hp]
    rfl
  generalize hk : bs[p].toNat = k at *
  have hpl : p < bs.data.toList.length := hp
  have HP := Lib.hid (show bs.data.toList[p]!.toNat = k from hkl)
  have HPL := Lib.hid hpl
  clear hkl hpl
  have hbd : Below w.heap.size w (w.drewN nq) := ⟨rfl, rfl, rfl, Nat.le_refl _, fun _ _ => rfl⟩
  generalize w.drewN nq = w1 at hbd ⊢
  have hes : (bs.extract (p + 1) bs.size).size = bs.size - (p + 1) := by simp [ByteArray.size_extract]
  by_cases h4 : 4 < k
  · have HG := Lib.hid (getF_form HPL.out HP.out h4)
    go_wp2
    go_ret3
    rw [HG.out]
    exact ⟨_, rfl, isErr_new _ _ _ (by decide), hbd.alloc hbd.size _⟩
  · by_cases h5 : bs.size < p + 1 + k
    · have HG := Lib.hid (getF_cut HPL.out HP.out h4 h5)
      go_wp2
      go_ret3
      rw [HG.out]
      exact ⟨_, rfl, isErr_new _ _ _ (by decide), hbd.alloc hbd.size _⟩
    · have hD : ((bs.extract (p + 1) bs.size).extract 0 k).data.toList = (bs.data.toList.drop (p + 1)).take k := by
        simp [ByteArray.data_extract]
        omega
      have hDs : ((bs.extract (p + 1) bs.size).extract 0 k).size = k := by
        simp [ByteArray.size_extract]
        omega
      go_wp2
      generalize (bs.extract (p + 1) bs.size).extract 0 k = D at hD hDs ⊢
      rw [run_bytes_of_string w1 9 67 5 D Try.underlying9 Try.underlying67 Try.underlying5]
      have hm : D.data.toList.length = k := hDs
      have hcl : ∀ j, j < k → (w1.drew.alloc (.cells (bytesRow D (grownCap w1 D.size 0 5)) 5 ((bytesRow D (grownCap w1 D.size 0 5)).size, (bytesRow D (grownCap w1 D.size 0 5)).size + 1))).cell? ⟨w1.heap.size, j, none⟩ = some (.int .u8 (D.data.toList[j]!.toNat : Int)) := fun j hj => by
        have := World.cell?_alloc_mark w1.drew (bytesRow D (grownCap w1 D.size 0 5)) 5 ((bytesRow D (grownCap w1 D.size 0 5)).size, (bytesRow D (grownCap w1 D.size 0 5)).size + 1) j
        refine this.trans ?_
        unfold bytesRow
        rw [Array.getElem?_append_left (by simp; omega)]
        simp at hm
        simp [hm, hj]
      have hbel : Below w1.heap.size w1 (w1.drew.alloc (.cells (bytesRow D (grownCap w1 D.size 0 5)) 5 ((bytesRow D (grownCap w1 D.size 0 5)).size, (bytesRow D (grownCap w1 D.size 0 5)).size + 1))) := (Below.refl _ _).drew.alloc (Nat.le_refl _) _
      generalize grownCap w1 D.size 0 5 = cap at hcl hbel ⊢
      generalize w1.drew.alloc _ = w2 at hcl hbel ⊢
      have hbel2 := Lib.hid (hbd.trans (hbel.mono hbd.size))
      rw [hDs]
      generalize D.data.toList = m at hD hcl hm
      have HD := Lib.hid hD
      have HM := Lib.hid hm
      clear hbel hbd hDs hD hm
      go_wp2_with fail
      go_loopg [9, 11, 68] (k + 1) (fun gg s9 s11 s68 wr => ∃ (j : Nat), j ≤ k ∧ k - j < gg ∧ s68 = .int .i64 j ∧ s9 = .int .i64 (valN (m.take j)) ∧ Aside (w2 = wr))
      case atStart => exact ⟨0, by omega, by omega, rfl, rfl, rfl⟩
      case round =>
        obtain ⟨j, hj, hjg, rfl, rfl, AW⟩ := hrel
        obtain rfl := AW.out
        by_cases hjk : j < k
        · have hji : (j : Int) < k := by omega
          have hc := hcl j hjk
          have hx := valN_lt (m.take j)
          have hx2 : valN (m.take j) < 16777216 := by
            refine Nat.lt_of_lt_of_le hx ?_
            rw [List.length_take]
            exact Nat.pow_le_pow_right (n := 256) (by omega) (show _ ≤ 3 by omega)
          have e := Lib.hid (valN_take m j (by rw [HM.out]; exact hjk))
          clear hx
          generalize valN (m.take j) = x at hx2 e
          have hy : m[j]!.toNat < 256 := UInt8.toNat_lt _
          have HC := Lib.hid hcl
          clear hcl
          generalize m[j]!.toNat = y at hy hc e
          go_wp2
          go_roundg (k - j)
          case measure => omega
          case rel => exact ⟨j + 1, by omega, by omega, by go_num, by rw [or_byte x y hx2 hy, e.out], rfl⟩
        · have hjk2 : j = k := by omega
          subst hjk2
          have hx := valN_lt (m.take j)
          have hmt := Lib.hid (show m.take j = m from by rw [List.take_of_length_le]; rw [HM.out]; omega)
          rw [hmt.out] at hx ⊢
          rw [HM.out] at hx
          have hx2 : valN m < 4294967296 := Nat.lt_of_lt_of_le hx (Nat.pow_le_pow_right (n := 256) (by omega) (show _ ≤ 4 by omega))
          have HV := Lib.hid (show valN m = valN ((bs.data.toList.drop (p + 1)).take j) from by rw [HD.out])
          clear hx hcl hj
          generalize valN m = x at hx2 HV ⊢
          by_cases hb : widthN x ≠ j ∨ 1073741823 < x
          · have HG := Lib.hid (getF_bad HPL.out HP.out h4 h5 HV.out hb)
            have hb2 : ((widthN x : Int) != (j : Int)) = true ∨ ((widthN x : Int) != (j : Int)) = false ∧ (1073741823 : Int) < x := by
              by_cases e : widthN x = j
              · exact .inr ⟨by simp [e], by omega⟩
              · exact .inl (by simp; omega)
            clear hb
            rcases hb2 with g1 | ⟨g1, g2⟩
            all_goals
              go_wp2_with (first | (go_at_call 68; refine (width_any _ hx2 _).mono ?_; rintro e w' ⟨rfl, rfl⟩))
              go_ret3
              rw [HG.out]
              exact ⟨_, rfl, isErr_new _ _ _ (by decide), hbel2.out.alloc hbel2.out.size _⟩
          · have HG := Lib.hid (getF_ok HPL.out HP.out h4 h5 HV.out hb)
            have g1 : ((widthN x : Int) != (j : Int)) = false := by simp; omega
            have g2 : ¬ (1073741823 : Int) < x := by omega
            clear hb
            go_wp2_with (first | (go_at_call 68; refine (width_any _ hx2 _).mono ?_; rintro e w' ⟨rfl, rfl⟩))
            go_ret3
            rw [HG.out]
            exact ⟨_, rfl, isErr_nil _, hbel2.out⟩

/-- What reading gives: two results and an error. -/
def Read (w' : World) (e : Ending) (r : Int × Int × Int) : Prop := ∃ v, e = .returned (.tuple #[.int .i64 r.1, .int .i64 r.2.1, v]) ∧ IsErr w' v r.2.2

set_option maxRecDepth 100000 in
theorem fieldnum_any (l : List UInt8) (a : Int) (hs : l.length < 4611686018427387904) (w : World) : Calls Try.prog 70 #[strV l, .int .i64 a] w fun e w' => Read w' e (getF l a) ∧ Below w.heap.size w w' := by
  have hsz : (⟨l.toArray⟩ : ByteArray).size = l.length := rfl
  by_cases h0 : a < 0
  · have HG := Lib.hid (show getF l a = (0, 0, 100) from by unfold getF; rw [if_pos (.inl h0)])
    unfold strV
    go_enter Try.func70, Try.ntmps70
    go_wp2
    go_ret3
    unfold Read
    rw [HG.out]
    exact ⟨⟨_, rfl, isErr_new _ _ _ (by decide)⟩, (Below.refl _ _).alloc (Nat.le_refl _) _⟩
  · by_cases h1 : (l.length : Int) < a
    · have HG := Lib.hid (show getF l a = (0, 0, 100) from by unfold getF; rw [if_pos (.inr h1)])
      unfold strV
      go_enter Try.func70, Try.ntmps70
      go_wp2
      go_ret3
      unfold Read
      rw [HG.out]
      exact ⟨⟨_, rfl, isErr_new _ _ _ (by decide)⟩, (Below.refl _ _).alloc (Nat.le_refl _) _⟩
    · by_cases h2 : a = l.length
      · subst h2
        have HG := Lib.hid (show getF l l.length = (0, 0, 101) from by unfold getF; rw [if_neg (by omega), if_pos rfl])
        unfold strV
        go_enter Try.func70, Try.ntmps70
        go_wp2
        go_ret3
        unfold Read
        rw [HG.out]
        exact ⟨⟨_, rfl, isErr_new _ _ _ (by decide)⟩, (Below.refl _ _).alloc (Nat.le_refl _) _⟩
      · obtain ⟨p, rfl⟩ : ∃ p : Nat, a = p := ⟨a.toNat, by omega⟩
        refine (fieldnum_pos ⟨l.toArray⟩ p (by rw [hsz]; omega) (by rw [hsz]; omega) w).mono ?_
        rintro e w' ⟨v, rfl, h, hb⟩
        exact ⟨⟨v, rfl, h⟩, hb⟩
end Go.Proofs.Ythkbeigimdgamaa
