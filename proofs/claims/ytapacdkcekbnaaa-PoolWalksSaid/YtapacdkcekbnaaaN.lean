/- Copying, lending, keeping, spoiling addresses; the reference's NewPool. -/
import Derived.Test.YtapacdkcekbnaaaM
namespace Go.Proofs.Ytapacdkcekbnaaa
open Go Go.RowKit

theorem copy_any (v : Value) (l : List Ad) (w : World) (hv : Sl w v l) (hr : l.length * 24 ≤ 140737488355328) :
    Calls Try.prog 22 #[v] w fun e w' => ∃ v', e = .returned v' ∧ Own w' w.heap.size v' l ∧ Below w.heap.size w w' := by
  have hs : Sl (w.alloc (.cells #[] 46)) v l := hv.below ((Below.refl _ _).alloc (Nat.le_refl _) _)
  clear hv
  go_enter Try.func22, Try.ntmps22
  go_wp2_with (at_builtin; refine wpList_app rfl _ _ rfl w.heap.size _ _ [] l rfl (own_empty w) rfl hs (by simpa using hr) (by simp) ?_; intro v' w' hown hgrow)
  go_ret
  exact ⟨v', rfl, by simpa using hown, ((Below.refl _ _).alloc (Nat.le_refl _) _).trans hgrow⟩

def markAd : Ad := ⟨false, 0, 77777⟩

theorem sl_new2 (w : World) (x y : Ad) : Sl (w.alloc (.cells #[.bool x.busy, .int .i64 x.last, .int .i64 x.til, .bool y.busy, .int .i64 y.last, .int .i64 y.til] 46)) (.slice (some ⟨w.heap.size, 0, none⟩) 2 2) [x, y] := by
  refine ⟨by simp, .inr ⟨w.heap.size, 0, 2, rfl, by simp, fun i hi => ?_⟩⟩
  have : i = 0 ∨ i = 1 := by have : i < 2 := hi; omega
  rcases this with rfl | rfl
  · exact ⟨by simp, by simp, by simp⟩
  · exact ⟨by simp, by simp, by simp⟩

theorem sl_new1 (w : World) (x : Ad) : Sl (w.alloc (.cells #[.bool x.busy, .int .i64 x.last, .int .i64 x.til] 46)) (.slice (some ⟨w.heap.size, 0, none⟩) 1 1) [x] := by
  refine ⟨by simp, .inr ⟨w.heap.size, 0, 1, rfl, by simp, fun i hi => ?_⟩⟩
  have : i = 0 := by have : i < 1 := hi; omega
  subst this
  exact ⟨by simp, by simp, by simp⟩

set_option maxHeartbeats 1000000 in
theorem lend_any (v : Value) (l : List Ad) (w : World) (hv : Sl w v l) (hr : l.length * 24 ≤ 140737488351232) :
    Calls Try.prog 8 #[v] w fun e w' => ∃ g cap, e = .returned (.slice (some ⟨g, 0, none⟩) l.length cap) ∧ l.length + 2 ≤ cap ∧ cap ≤ 9223372036854775807 ∧ Own w' w.heap.size (.slice (some ⟨g, 0, none⟩) (l.length + 2) cap) (l ++ [markAd, markAd]) ∧ Below w.heap.size w w' := by
  have hc := copy_any v l w hv (by omega)
  have hbig := hv.1
  obtain ⟨ao, c, hf⟩ := hv.form
  clear hv
  subst hf
  go_enter Try.func8, Try.ntmps8
  go_wp2_with (first | (go_at_call 22; refine hc.mono ?_; rintro e w1 ⟨v1, rfl, hown, hb⟩) | (at_builtin; refine wpList_app rfl _ _ rfl w.heap.size v1 (.slice (some ⟨w1.heap.size, 0, none⟩) 2 2) l [markAd, markAd] rfl (hown.below ((Below.refl w1.heap.size _).alloc (Nat.le_refl _) _) (Nat.le_refl _)) rfl (sl_new2 w1 markAd markAd) (by simp; omega) (by have := hb.size; simp; omega) ?_; intro v2 w2 hown2 hb2; obtain ⟨g, cap, rfl, hg, hgs, hcap⟩ := hown2.form (by simp); have hcb : cap ≤ 9223372036854775807 := (hown2.2.elim (fun h => by cases h.1) (fun ⟨g', cap', cur, h1, _, _, _, h5, _⟩ => by unfold maxLen at h5; injection h1 with _ _ h1; omega)); simp only [List.length_append, List.length_cons, List.length_nil, Nat.zero_add, Nat.reduceAdd] at hcap))
  go_ret
  have h2 : Own w2 w.heap.size (.slice (some ⟨g, 0, none⟩) (l.length + 2) cap) (l ++ [markAd, markAd]) := by simpa using hown2
  exact ⟨g, cap, rfl, hcap, hcb, h2, (hb.alloc hb.size _).trans hb2⟩

theorem lent_sl {w : World} {B g cap : Nat} {l : List Ad} (h : Own w B (.slice (some ⟨g, 0, none⟩) (l.length + 2) cap) (l ++ [markAd, markAd])) (c : Nat) : Sl w (.slice (some ⟨g, 0, none⟩) l.length c) l := by
  have h' : Own w B (.slice (some ⟨g, 0, none⟩) (l ++ [markAd, markAd]).length cap) (l ++ [markAd, markAd]) := by simpa using h
  have hs := h'.sl
  have hlen : l.length + 2 ≤ 9223372036854775807 := by have := hs.1; simpa using this
  refine ⟨by omega, .inr ⟨g, 0, c, rfl, (World.ownsRow.lt h' g rfl).2, fun i hi => ?_⟩⟩
  have := (h'.elem i (by simp; omega)).1
  rw [Nat.zero_add]
  simpa [List.getElem!_eq_getElem?_getD, List.getElem?_append, hi] using this

set_option maxHeartbeats 2000000 in
theorem kept_any (g cap : Nat) (v : Value) (l : List Ad) (B : Nat) (w : World) (hown : Own w B (.slice (some ⟨g, 0, none⟩) (l.length + 2) cap) (l ++ [markAd, markAd])) (hcap : l.length + 2 ≤ cap) (_hcb : cap ≤ 9223372036854775807) (hv : Sl w v l) (hr : l.length * 24 ≤ 140737488351232) :
    Calls Try.prog 20 #[.slice (some ⟨g, 0, none⟩) l.length cap, v] w fun e w' => e = .returned (.bool true) ∧ Below w.heap.size w w' := by
  have hc := same_any _ v l l w (lent_sl hown cap) hv
  rw [show decide (l = l) = true from by simp] at hc
  have hg : g < w.heap.size := (World.ownsRow.lt hown g rfl).2
  have hown' : Own w B (.slice (some ⟨g, 0, none⟩) (l ++ [markAd, markAd]).length cap) (l ++ [markAd, markAd]) := by simpa using hown
  have p := (hown'.elem l.length (by simp)).1
  have q := (hown'.elem (l.length + 1) (by simp)).1
  have el : (l ++ [markAd, markAd])[l.length]! = markAd := by simp
  have el2 : (l ++ [markAd, markAd])[l.length + 1]! = markAd := by simp
  rw [el] at p
  rw [el2] at q
  simp only [markAd] at p q
  have hr' : l.length ≤ 9000000000000 := by omega
  have P0 := Lib.hid p
  have Q0 := Lib.hid q
  obtain ⟨ao, c, hf⟩ := hv.form
  subst hf
  have heq : ∀ w, (binOp .eql 46 (.agg #[.bool false, .int .i64 0, .int .i64 77777]) (.agg #[.bool false, .int .i64 0, .int .i64 77777])).run Try.prog w = .ok (.bool true) w := fun w => by
    have := run_eqlAd markAd markAd w
    simpa [Ad.val, markAd] using this
  have hguard := guard46
  have hbound : (l.length : Int) + 2 ≤ (cap : Int) := by omega
  clear hown hown' hv p q el el2 hr _hcb
  go_enter Try.func20, Try.ntmps20
  go_wp2_with (go_at_call 18; refine hc.mono ?_; rintro e w1 ⟨rfl, hb⟩; have p0 := keep_cell P0.out.1 hb; have p1 := keep_cell P0.out.2.1 hb; have p2 := keep_cell P0.out.2.2 hb; have q0 := keep_cell Q0.out.1 hb; have q1 := keep_cell Q0.out.2.1 hb; have q2 := keep_cell Q0.out.2.2 hb)
  go_ret
  exact ⟨rfl, hb⟩

theorem Own.set_til {w : World} {B g cap : Nat} {l : List Ad} (h : Own w B (.slice (some ⟨g, 0, none⟩) l.length cap) l) (k : Nat) (hk : k < l.length) (u : Int) :
    ∃ l' : List Ad, l'.length = l.length ∧ Own (w.setCell ⟨g, k * 3 + 2, none⟩ (.int .i64 u)) B (.slice (some ⟨g, 0, none⟩) l.length cap) l' := by
  have h1 := (World.ownsRow.stored h (k * 3 + 2) (.int .i64 u)).1
  have e : (cellsOf l).set (k * 3 + 2) (.int .i64 u) = cellsOf (l.set k ⟨l[k]!.busy, l[k]!.last, u⟩) := by
    clear h h1
    induction l generalizing k with
    | nil => simp at hk
    | cons y r ih =>
      cases k with
      | zero => simp [cellsOf]
      | succ k =>
        have := ih k (by simpa using hk)
        have e : (k + 1) * 3 + 2 = (k * 3 + 2) + 3 := by omega
        rw [e]
        simp only [List.set_cons_succ, cellsOf]
        rw [this]
        simp
  refine ⟨l.set k ⟨l[k]!.busy, l[k]!.last, u⟩, by simp, ?_⟩
  unfold Own
  rw [← e, List.length_set]
  exact h1

theorem grown_trans {a b c : World} {row : Option Nat} (h : a.grownBy b row) (k : b.grownBy c row) : a.grownBy c row :=
  ⟨k.os.trans h.os, k.tape.trans h.tape, k.output.trans h.output, Nat.le_trans h.size k.size, fun i hi hne => (k.block i (Nat.lt_of_lt_of_le hi h.size) hne).trans (h.block i hi hne)⟩

theorem grown_setCell (w : World) (g o : Nat) (u : Value) : w.grownBy (w.setCell ⟨g, o, none⟩ u) (some g) :=
  ⟨rfl, rfl, rfl, by simp [World.setCell], fun k _ hk => Below.heap_setCell _ _ _ _ (fun e => hk (by simp [e]))⟩

set_option maxHeartbeats 2000000 in
theorem spoil_any (v : Value) (l : List Ad) (B : Nat) (w : World) (hown : Own w B v l) :
    Calls Try.prog 19 #[v] w fun e w' => e = .returned (.tuple #[]) ∧ w.grownBy w' v.ownBlock := by
  have hbig := hown.sl.1
  have hform : (∃ ao c, v = .slice ao l.length c ∧ l.length = 0) ∨ ∃ g cap, v = .slice (some ⟨g, 0, none⟩) l.length cap := by
    rcases hown.2 with ⟨rfl, h0⟩ | ⟨g, cap, cur, rfl, _⟩
    · exact .inl ⟨none, 0, by rw [h0], h0⟩
    · exact .inr ⟨g, cap, rfl⟩
  rcases hform with ⟨ao, c, rfl, h0⟩ | ⟨g, cap, rfl⟩
  · clear hown
    rw [h0]
    clear h0 hbig
    go_enter Try.func19, Try.ntmps19
    go_wp2
    refine wp_loop_rounds 1 ?_; rw [rounds_succ]
    go_wp2
    go_end0
    exact ⟨rfl, World.grownBy.refl _ _⟩
  · have HO := Lib.hid hown
    clear hown
    obtain ⟨n, hn⟩ : ∃ n, n = l.length := ⟨_, rfl⟩
    have HN := Lib.hid hn
    rw [← hn] at hbig ⊢
    clear hn
    go_enter Try.func19, Try.ntmps19
    go_wp2
    go_loopg [2] (n + 1) (fun gg s2 wr => ∃ k : Nat, k ≤ n ∧ n - k < gg ∧ s2 = .int .i64 k ∧ Aside (∃ l' : List Ad, l'.length = n ∧ Own wr B (.slice (some ⟨g, 0, none⟩) l'.length cap) l') ∧ Aside (w.grownBy wr (some g)))
    case atStart => exact ⟨0, Nat.zero_le _, by omega, rfl, ⟨l, HN.out.symm, HO.out⟩, World.grownBy.refl _ _⟩
    case round =>
      obtain ⟨k, hk, hgg, rfl, AO, AB⟩ := hrel
      by_cases hlt : k < n
      · have hki : (k : Int) < (n : Int) := by omega
        obtain ⟨l', hl', ho⟩ := AO.out
        obtain ⟨⟨c0, c1, c2⟩, hf⟩ := ho.elem k (by omega)
        have f2 := hf (k * 3 + 2)
        have hset := fun u => ho.set_til k (by omega) u
        generalize l'[k]! = y at c0 c1 c2
        obtain ⟨yb, yl, yt⟩ := y
        have HS := Lib.hid hset
        have HL := Lib.hid hl'
        clear hf hset ho hl' AO
        go_wp2
        go_roundg (n - k)
        case measure => omega
        case rel =>
          refine ⟨k + 1, by omega, by omega, by go_num, ?_, grown_trans AB.out (grown_setCell _ _ _ _)⟩
          obtain ⟨l2, h1, h2⟩ := HS.out _
          exact ⟨l2, h1.trans HL.out, by rw [h1]; exact h2⟩
      · have hki : ¬ (k : Int) < (n : Int) := by omega
        have : k = n := by omega
        subst this
        go_wp2
        go_end0
        exact ⟨rfl, AB.out⟩

set_option maxHeartbeats 2000000 in
theorem refNew_any (n : Int) (w : World) : Calls Try.prog 16 #[.int .i64 n] w (Gives w.heap.size (newF n) w) := by
  by_cases h1 : n < 1
  · have hr : newF n = none := by unfold newF; rw [if_pos (.inl h1)]
    rw [hr]
    go_enter Try.func16, Try.ntmps16
    go_wp2_with fail
    go_ret2
    exact Gives.none (Below.refl _ _)
  · by_cases h2 : 16 < n
    · have hr : newF n = none := by unfold newF; rw [if_pos (.inr h2)]
      rw [hr]
      go_enter Try.func16, Try.ntmps16
      go_wp2_with fail
      go_ret2
      exact Gives.none (Below.refl _ _)
    · have hr : newF n = some (List.replicate n.toNat fresh) := by unfold newF; rw [if_neg (by omega)]
      rw [hr]
      clear hr
      obtain ⟨k, rfl⟩ := Int.eq_ofNat_of_zero_le (show 0 ≤ n by omega)
      rw [Int.toNat_natCast]
      generalize hB : w.heap.size = B
      have HB := Lib.hid hB
      clear hB
      go_enter Try.func16, Try.ntmps16
      go_wp2_with fail
      go_loopg [4, 5] (k + 1) (fun gg s4 s5 wr => ∃ i : Nat, i ≤ k ∧ k - i < gg ∧ s5 = .int .i64 i ∧ Aside (Own wr B s4 (List.replicate i fresh)) ∧ Aside (Below B w wr))
      case atStart => exact ⟨0, Nat.zero_le _, by omega, rfl, World.ownsRow_nil _ _ _ _, Below.refl _ _⟩
      case round =>
        obtain ⟨i, hi, hgg, rfl, AO, AB⟩ := hrel
        by_cases hlt : i < k
        · have hki : (i : Int) < (k : Int) := by omega
          have ho := AO.out
          have hsz : B ≤ wr.heap.size := by rw [← HB.out]; exact AB.out.size
          have ho2 : Own (wr.alloc (.cells #[.bool false, .int .i64 (-1), .int .i64 0] 46)) B u4 (List.replicate i fresh) := ho.below ((Below.refl wr.heap.size _).alloc (Nat.le_refl _) _) (Nat.le_refl _)
          have hs2 := sl_new1 wr fresh
          have HO := Lib.hid ho2
          have HS := Lib.hid hs2
          clear ho ho2 hs2 AO
          go_wp2_with (at_builtin; refine wpList_app rfl _ _ rfl B u4 (.slice (some ⟨wr.heap.size, 0, none⟩) 1 1) (List.replicate i fresh) [fresh] rfl HO.out rfl HS.out (by simp; omega) (by simp; omega) ?_; intro v2 w2 hown2 hb2)
          have HO2 : Hid (Own w2 B v2 (List.replicate (i + 1) fresh)) := by
            have e : List.replicate (i + 1) fresh = List.replicate i fresh ++ [fresh] := by rw [List.replicate_succ']
            rw [e]; exact hown2
          have HB2 := Lib.hid ((AB.out.alloc hsz _).trans hb2)
          clear hown2 hb2
          go_roundg (k - i)
          case measure => omega
          case rel => exact ⟨i + 1, by omega, by omega, by go_num, HO2.out, HB2.out⟩
        · have hki : ¬ (i : Int) < (k : Int) := by omega
          have : i = k := by omega
          subst this
          go_wp2
          go_ret2
          exact ⟨_, rfl, AO.out, AB.out⟩
end Go.Proofs.Ytapacdkcekbnaaa
