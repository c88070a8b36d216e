/- The walk of PoolRanks, its first loop: a pool that may be is made. -/
import Derived.Test.YtapacdkcekbnaaaS
import Derived.Deep.RegionLaw
namespace Go.Proofs.Ytapacdkcekbnaaa
open Go Go.RowKit

/-- append(v, v2...) as one step of a region that draws its order. -/
theorem step_app {w : World} {ops : Array Oper} {o : Oper} {a : Act} {K : Act → World → Prop} {Q : Exit → Act → World → Prop} {E : Prop} (hgd : o.guard = none) (s x : Operand)
    (ho : o.op = .call { callee := .builtin .append, args := #[s, x], argTypes := #[22, 22] })
    (B : Nat) (v v2 : Value) (l m : List Ad) (hs : a.eval s = v) (hown : Own w B v l) (hx : a.eval x = v2) (ad : Addr) (c : Nat) (hv2 : v2 = .slice (some ad) m.length c)
    (hcells : ∀ j u, (cellsOf m)[j]? = some u → w.cell? (ad.add j) = some u)
    (hbytes : (l.length + m.length) * 24 ≤ 140737488355328) (hbase : B ≤ w.heap.size)
    (h : ∀ v' w', Own w' B v' (l ++ m) → Below B w w' → K (a.put o.dst v') w') :
    if Region.wanted o (yielded ops a.tmps) = true then Oper.wp Try.prog o a w K Q else E := by
  obtain ⟨i0, hi, hz0, hz1, hz2⟩ := info_parts Try.info46
  have h63 : l.length + m.length ≤ maxLen := by unfold maxLen; omega
  have hw : Region.wanted o (yielded ops a.tmps) = true := by simp [Region.wanted, hgd]
  rw [if_pos hw]
  exact wp_append_own w s x 22 ho B 46 i0 (.agg #[.bool false, .int .i64 0, .int .i64 0]) 3 24 Try.underlying22 hi hz0 hz1 hz2 rfl (by decide) v l.length (cellsOf l) hs hown ad m.length c (cellsOf m) (hx.trans hv2) (cellsOf_length m) hcells (cellsOf_oneCell m) h63 hbytes hbase
      fun v' w' h1 h2 _ => h v' w' (by unfold Own; rw [cellsOf_append, List.length_append]; exact h1) (hown.grown h2 hbase)

/-- An address that may be. -/
def okAd (a : Ad) : Prop := -1 ≤ a.last ∧ a.last ≤ 7 ∧ 0 ≤ a.til

theorem mayB_of {l : List Ad} (h1 : 1 ≤ l.length) (h2 : l.length ≤ 16) (h : ∀ a ∈ l, okAd a) : mayB l = true := by
  unfold mayB
  simp only [Bool.and_eq_true, decide_eq_true_eq, Bool.not_eq_true', List.any_eq_false]
  refine ⟨⟨h1, h2⟩, fun a ha => ?_⟩
  obtain ⟨g1, g2, g3⟩ := h a ha
  rw [notB_eq]
  simp
  omega

theorem rem9 (x : Int) : ∃ q : Nat, (IntKind.u64.wrap x).tmod 9 = (q : Int) ∧ q < 9 := by
  have h0 : 0 ≤ IntKind.u64.wrap x := by rw [IntKind.wrap_u64]; omega
  refine ⟨((IntKind.u64.wrap x).tmod 9).toNat, ?_, ?_⟩
  · rw [Int.tmod_eq_emod_of_nonneg h0]; omega
  · rw [Int.tmod_eq_emod_of_nonneg h0]; omega

theorem mask31 (x : Int) : ∃ m : Nat, bits .and .i64 x 31 = (m : Int) ∧ m ≤ 31 := by
  obtain ⟨m, h, h'⟩ := and_mask x 5 (by omega)
  exact ⟨m, h, h'⟩

theorem mask7 (x : Int) : ∃ m : Nat, bits .and .i64 x 7 = (m : Int) ∧ m ≤ 7 := by
  obtain ⟨m, h, h'⟩ := and_mask x 3 (by omega)
  exact ⟨m, h, h'⟩

theorem ranks_step {bs : List Ad} {k q m : Nat} {yb : Bool} (h : bs.length = k ∧ ∀ a ∈ bs, okAd a) (hq : q < 9) (_hm : m ≤ 31) :
    (bs ++ [(⟨yb, (q : Int) - 1, (m : Int)⟩ : Ad)]).length = k + 1 ∧ ∀ a ∈ bs ++ [(⟨yb, (q : Int) - 1, (m : Int)⟩ : Ad)], okAd a := by
  refine ⟨by simp [h.1], fun a ha => ?_⟩
  rcases List.mem_append.1 ha with ha | ha
  · exact h.2 a ha
  · have : a = ⟨yb, (q : Int) - 1, (m : Int)⟩ := by simpa using ha
    subst this
    exact ⟨by simp; omega, by simp; omega, by simp⟩

/-- The first place from k on at which p holds, or -1. -/
def FirstGe (p : Ad → Bool) (l : List Ad) (k : Nat) (b : Int) : Prop :=
  (b = -1 ∧ ∀ j, k ≤ j → j < l.length → p l[j]! = false) ∨ ∃ m : Nat, b = m ∧ k ≤ m ∧ m < l.length ∧ p l[m]! = true ∧ ∀ j, k ≤ j → j < m → p l[j]! = false

theorem FirstGe.start (p : Ad → Bool) (l : List Ad) : FirstGe p l l.length (-1) := .inl ⟨rfl, fun j h1 h2 => by omega⟩

theorem FirstGe.hit {p : Ad → Bool} {l : List Ad} {k : Nat} (hk : k < l.length) (h : p l[k]! = true) : FirstGe p l k k := .inr ⟨k, rfl, Nat.le_refl _, hk, h, fun j h1 h2 => by omega⟩

theorem FirstGe.miss {p : Ad → Bool} {l : List Ad} {k : Nat} {b : Int} (hb : FirstGe p l (k + 1) b) (h : p l[k]! = false) : FirstGe p l k b := by
  have key : ∀ j, k ≤ j → (k + 1 ≤ j → p l[j]! = false) → p l[j]! = false := fun j h1 h2 => by
    by_cases e : j = k
    · subst e; exact h
    · exact h2 (by omega)
  rcases hb with ⟨rfl, hb⟩ | ⟨m, rfl, h1, h2, h3, h4⟩
  · exact .inl ⟨rfl, fun j g1 g2 => key j g1 (fun g => hb j g g2)⟩
  · exact .inr ⟨m, rfl, by omega, h2, h3, fun j g1 g2 => key j g1 (fun g => h4 j g g2)⟩

theorem FirstGe.idx {p : Ad → Bool} {l : List Ad} {b : Int} (h : FirstGe p l 0 b) : idx p l = b := by
  rcases h with ⟨rfl, h⟩ | ⟨m, rfl, _, h2, h3, h4⟩
  · exact idx_miss fun j hj => h j (by omega) hj
  · exact idx_hit h2 h3 fun j hj => h4 j (by omega) hj

theorem FirstGe.low {p : Ad → Bool} {l : List Ad} {k : Nat} {b : Int} (h : FirstGe p l k b) : -1 ≤ b := by
  rcases h with ⟨rfl, _⟩ | ⟨m, rfl, _⟩ <;> omega

set_option linter.unusedSimpArgs false in
set_option maxRecDepth 100000 in
set_option maxHeartbeats 4000000 in
theorem ranks_walk (v : Value) (l : List Ad) (user tick : Int) (w : World) (hv : Sl w v l) :
    Calls Try.prog 6 #[v, .int .i64 user, .int .i64 tick] w fun e w' => e = .returned (.bool true) ∧ Below w.heap.size w w' := by
  have hnum := num_any
  have hbig := hv.1
  obtain ⟨ao, c, hf⟩ := hv.form
  subst hf
  have HV := Lib.hid hv
  clear hv
  obtain ⟨n, hn⟩ : ∃ n, n = l.length := ⟨_, rfl⟩
  have HN := Lib.hid hn
  rw [← hn] at hbig ⊢
  clear hn
  go_enter Try.func6, Try.ntmps6
  go_wp2_with fail
  refine (awake_any _).mono ?_
  rintro e w1 ⟨rfl, b⟩
  have CH := Lib.hid b
  replace HV := Lib.hid (HV.out.below b)
  clear b
  go_wp2_with fail
  go_loopg [7, 8] (n + 1) (fun gg s7 s8 wr => ∃ (k : Nat) (bs : List Ad), k ≤ n ∧ k ≤ 16 ∧ n - k < gg ∧ s8 = .int .i64 k ∧ Aside (bs.length = k ∧ ∀ a ∈ bs, okAd a) ∧ Aside (Own wr w1.heap.size s7 bs) ∧ Aside (Below w1.heap.size w1 wr))
  case atStart => exact ⟨0, [], Nat.zero_le _, by omega, by omega, rfl, ⟨rfl, by simp⟩, World.ownsRow_nil _ _ _ _, Below.refl _ _⟩
  case round =>
    obtain ⟨k, bs, hk, hk16, hg, rfl, AL, AO, AB⟩ := hrel
    by_cases hgo : k < n ∧ k < 16
    · obtain ⟨h1, h2⟩ := hgo
      have hki : (k : Int) < (n : Int) := by omega
      have hki2 : (k : Int) < 16 := by omega
      obtain ⟨b, off, rfl, c0, c1, c2⟩ := HV.out.cellsAt k (by rw [← HN.out]; exact h1)
      replace c0 := keep_cell c0 AB.out
      replace c1 := keep_cell c1 AB.out
      replace c2 := keep_cell c2 AB.out
      generalize l[k]! = y at c0 c1 c2
      obtain ⟨yb, yl, yt⟩ := y
      obtain ⟨q, hq, hq9⟩ := rem9 yl
      obtain ⟨m, hm, hm31⟩ := mask31 yt
      have hw1 : IntKind.i64.wrap ((q : Int) - 1) = (q : Int) - 1 := by rw [IntKind.wrap_i64]; omega
      have hw2 : IntKind.i64.wrap (q : Int) = (q : Int) := by rw [IntKind.wrap_i64]; omega
      have hsz : w1.heap.size ≤ wr.heap.size := AB.out.size
      have hO : ∀ W : World, W.heap = (wr.alloc (.cells #[.bool yb, .int .i64 ((q : Int) - 1), .int .i64 (m : Int)] 46)).heap → Own W w1.heap.size u7 bs := fun W hW => by
        have h : Own (wr.alloc (.cells #[.bool yb, .int .i64 ((q : Int) - 1), .int .i64 (m : Int)] 46)) w1.heap.size u7 bs := AO.out.below ((Below.refl wr.heap.size _).alloc (Nat.le_refl _) _) (Nat.le_refl _)
        unfold Own World.ownsRow at h ⊢
        rw [hW]
        exact h
      have hC : ∀ W : World, W.heap = (wr.alloc (.cells #[.bool yb, .int .i64 ((q : Int) - 1), .int .i64 (m : Int)] 46)).heap → ∀ j u, (cellsOf [(⟨yb, (q : Int) - 1, (m : Int)⟩ : Ad)])[j]? = some u → W.cell? ((⟨wr.heap.size, 0, none⟩ : Addr).add j) = some u := fun W hW j u hu => by
        obtain ⟨_, ⟨h, _⟩ | ⟨b', o', c', hv', _, hh⟩⟩ := sl_new1 wr ⟨yb, (q : Int) - 1, (m : Int)⟩
        · cases h
        · injection hv' with h1
          injection h1 with h1
          injection h1 with h1 h2
          subst h1; subst h2
          have := hh.cells j u hu
          unfold World.cell? at this ⊢
          rw [hW]
          exact this
      have hlen : (bs.length + 1) * 24 ≤ 140737488355328 := by have := AL.out.1; omega
      have HO := Lib.hid hO
      have HC := Lib.hid hC
      have HLEN := Lib.hid hlen
      have HSZ := Lib.hid hsz
      have HQ9 := Lib.hid hq9
      have HM := Lib.hid hm31
      clear hO hC hlen hsz AO
      go_wp2
      go_region_law (refine step_app rfl (.tmp 30) (.tmp 52) rfl w1.heap.size u7 (.slice (some ⟨wr.heap.size, 0, none⟩) 1 1) bs [⟨yb, (q : Int) - 1, (m : Int)⟩] (by simp [Act.eval, Act.put]) (HO.out _ rfl) (by simp [Act.eval, Act.put]) ⟨wr.heap.size, 0, none⟩ 1 rfl (HC.out _ rfl) HLEN.out (by simp; have := HSZ.out; omega) ?_; intro v2 w2 hown2 hb2)
      have HW1 := Lib.hid hw1
      clear hw1 hw2 hq hm c0 c1 c2
      all_goals
        go_wp2
        go_roundg (n - k)
        case measure => omega
        case rel => exact ⟨k + 1, _, by omega, by omega, by omega, by go_num, ranks_step AL.out HQ9.out HM.out, hown2, (AB.out.alloc HSZ.out _).trans ⟨hb2.os, hb2.tape, hb2.output, hb2.size, hb2.block⟩⟩
    · have HL := Lib.hid AL.out
      have S := Lib.hid AO.out.sl
      have CH2 := Lib.hid (Below.next CH.out AB.out)
      clear AL AO AB HV CH
      obtain ⟨mu, hmu, hmu7⟩ := mask7 user
      obtain ⟨mt, hmt, hmt31⟩ := mask31 tick
      have hform : ∃ ao c', u7 = .slice ao k c' := by
        obtain ⟨ao, c', h⟩ := S.out.form
        rw [HL.out.1] at h
        exact ⟨ao, c', h⟩
      obtain ⟨ao2, cc, rfl⟩ := hform
      have hgo1 : (k : Int) < (n : Int) ∧ ¬ (k : Int) < 16 ∨ ¬ (k : Int) < (n : Int) := by omega
      have hU : userMayB (mu : Int) = true := by simp [userMayB]; omega
      have hT : tickMayB (mt : Int) = true := by simp [tickMayB]; omega
      have hlease := lease_any _ bs (mu : Int) (mt : Int) wr S.out
      have HLEASE := Lib.hid hlease
      have HU := Lib.hid hU
      have HT := Lib.hid hT
      clear hlease hU hT hgo
      by_cases h0 : k = 0
      · subst h0
        have hb : bs = [] := List.eq_nil_of_length_eq_zero HL.out.1
        have he : leaseF bs (mu : Int) (mt : Int) = (0, 1600) := by rw [hb]; unfold leaseF; rw [if_pos]; simp [mayB]
        have HE := Lib.hid he
        clear hb he
        rcases hgo1 with ⟨q1, q2⟩ | q1
        · omega
        · go_wp2_with fail
          refine HLEASE.out.mono ?_
          rintro e w2 ⟨rfl, b⟩
          rw [HE.out]
          go_wp2_with (go_at_call 17; refine (hnum _ _).mono ?_; rintro e w' ⟨rfl, rfl⟩)
          go_ret
          exact ⟨rfl, Below.next CH2.out b⟩
      · have hmay : mayB bs = true := mayB_of (by rw [HL.out.1]; omega) (by rw [HL.out.1]; omega) HL.out.2
        have he : leaseF bs (mu : Int) (mt : Int) = if 0 ≤ idx (ownP (mt : Int) (mu : Int)) bs then (idx (ownP (mt : Int) (mu : Int)) bs, 0) else if 0 ≤ idx (ownP (mt : Int) (-1)) bs then (idx (ownP (mt : Int) (-1)) bs, 0) else if 0 ≤ idx (freeB (mt : Int)) bs then (idx (freeB (mt : Int)) bs, 0) else (0, 1601) := by
          unfold leaseF
          rw [hmay, HU.out, HT.out]
          simp
        have HE := Lib.hid he
        have hk1 : (1 : Int) ≤ (k : Int) := by omega
        have hk0 : ((k : Int) == 0) = false := by simp; omega
        clear he hmay
        rcases hgo1 with ⟨q1, q2⟩ | q1
        all_goals
          go_wp2_with fail
          refine HLEASE.out.mono ?_
          rintro e w2 ⟨rfl, b⟩
          replace S := Lib.hid (S.out.below b)
          replace CH2 := Lib.hid (Below.next CH2.out b)
          clear b
          generalize hr1 : (leaseF bs (mu : Int) (mt : Int)).1 = r1
          generalize hr2 : (leaseF bs (mu : Int) (mt : Int)).2 = r2
          have HR : Hid (leaseF bs (mu : Int) (mt : Int) = (r1, r2)) := by rw [← hr1, ← hr2]; exact rfl
          clear hr1 hr2
          go_wp2_with (go_at_call 17; refine (hnum _ _).mono ?_; rintro e w' ⟨rfl, rfl⟩)
          go_loopg [13, 14, 15, 16] (k + 1) (fun gg s13 s14 s15 s16 wr2 => ∃ (i : Nat) (o f s : Int), i ≤ k ∧ i < gg ∧ s16 = .int .i64 ((i : Int) - 1) ∧ s13 = .int .i64 o ∧ s14 = .int .i64 f ∧ s15 = .int .i64 s ∧ Aside (FirstGe (ownP (mt : Int) (mu : Int)) bs i o ∧ FirstGe (ownP (mt : Int) (-1)) bs i f ∧ FirstGe (freeB (mt : Int)) bs i s) ∧ Aside (w2 = wr2))
          case atStart =>
            have hs : ∀ p, FirstGe p bs k (-1) := fun p => by rw [← HL.out.1]; exact FirstGe.start p bs
            exact ⟨k, -1, -1, -1, Nat.le_refl _, by omega, by go_num, rfl, rfl, rfl, ⟨hs _, hs _, hs _⟩, rfl⟩
          case round =>
            obtain ⟨i, o, f, s, hik, hig, rfl, rfl, rfl, rfl, AF, EW⟩ := hrel
            obtain rfl := EW.out
            rcases Nat.eq_zero_or_pos i with rfl | hpos
            · have hneg : ¬ (0 : Int) ≤ ((0 : Nat) : Int) - 1 := by omega
              obtain ⟨F1, F2, F3⟩ := AF.out
              have l1 := F1.low
              have l2 := F2.low
              have l3 := F3.low
              have he : leaseF bs (mu : Int) (mt : Int) = if 0 ≤ o then (o, 0) else if 0 ≤ f then (f, 0) else if 0 ≤ s then (s, 0) else (0, 1601) := by
                rw [HE.out, F1.idx, F2.idx, F3.idx]
              rw [HR.out] at he
              have HE2 := Lib.hid he
              clear F1 F2 F3 AF he
              by_cases p1 : 0 ≤ o
              · have e2 := HE2.out
                rw [if_pos p1] at e2
                injection e2 with e2 e3
                subst e2; subst e3
                clear HE HE2 HR
                go_wp2_with (go_at_call 17; refine (hnum _ _).mono ?_; rintro e w' ⟨rfl, rfl⟩)
                all_goals
                  go_ret
                  exact ⟨by simp, CH2.out⟩
              · by_cases p2 : 0 ≤ f
                · have e2 := HE2.out
                  rw [if_neg p1, if_pos p2] at e2
                  injection e2 with e2 e3
                  subst e2; subst e3
                  clear HE HE2 HR
                  go_wp2_with (go_at_call 17; refine (hnum _ _).mono ?_; rintro e w' ⟨rfl, rfl⟩)
                  all_goals
                    go_ret
                    exact ⟨by simp, CH2.out⟩
                · by_cases p3 : 0 ≤ s
                  · have e2 := HE2.out
                    rw [if_neg p1, if_neg p2, if_pos p3] at e2
                    injection e2 with e2 e3
                    subst e2; subst e3
                    clear HE HE2 HR
                    go_wp2_with (go_at_call 17; refine (hnum _ _).mono ?_; rintro e w' ⟨rfl, rfl⟩)
                    all_goals
                      go_ret
                      exact ⟨by simp, CH2.out⟩
                  · have e2 := HE2.out
                    rw [if_neg p1, if_neg p2, if_neg p3] at e2
                    injection e2 with e2 e3
                    subst e2; subst e3
                    clear HE HE2 HR
                    go_wp2_with (go_at_call 17; refine (hnum _ _).mono ?_; rintro e w' ⟨rfl, rfl⟩)
                    all_goals
                      go_ret
                      exact ⟨by simp, CH2.out⟩
            · obtain ⟨j, rfl⟩ : ∃ j, i = j + 1 := ⟨i - 1, by omega⟩
              have ej : ((j + 1 : Nat) : Int) - 1 = (j : Int) := by omega
              rw [ej]
              clear ej
              have hjk : (j : Int) < (k : Int) := by omega
              have hjn : j < bs.length := by rw [HL.out.1]; omega
              obtain ⟨b2, off2, rfl, c0, c1, c2⟩ := S.out.cellsAt j hjn
              have K1 := Lib.hid (fun h => AF.out.1.miss h)
              have K2 := Lib.hid (fun h => AF.out.2.1.miss h)
              have K3 := Lib.hid (fun h => AF.out.2.2.miss h)
              have J1 := Lib.hid (fun h => FirstGe.hit (p := ownP (mt : Int) (mu : Int)) hjn h)
              have J2 := Lib.hid (fun h => FirstGe.hit (p := ownP (mt : Int) (-1)) hjn h)
              have J3 := Lib.hid (fun h => FirstGe.hit (p := freeB (mt : Int)) hjn h)
              generalize bs[j]! = y at c0 c1 c2 K1 K2 K3 J1 J2 J3
              obtain ⟨yb, yl, yt⟩ := y
              clear AF hjn
              cases yb
              · by_cases p1 : (mt : Int) < yt
                · have hf : freeB (mt : Int) ⟨false, yl, yt⟩ = false := by simp [freeB]; omega
                  have R1 := Lib.hid (K1.out (by unfold ownP; rw [hf]; rfl))
                  have R2 := Lib.hid (K2.out (by unfold ownP; rw [hf]; rfl))
                  have R3 := Lib.hid (K3.out hf)
                  clear hf K1 K2 K3 J1 J2 J3
                  go_wp2
                  go_roundg (j + 1)
                  case measure => omega
                  case rel => exact ⟨j, o, f, s, by omega, by omega, by go_num, rfl, rfl, rfl, ⟨R1.out, R2.out, R3.out⟩, rfl⟩
                · have hf : freeB (mt : Int) ⟨false, yl, yt⟩ = true := by simp [freeB]; omega
                  have R3 := Lib.hid (J3.out hf)
                  have HF := Lib.hid hf
                  clear hf K3 J3
                  by_cases p2 : yl = (mu : Int)
                  · have q2 : (yl == (mu : Int)) = true := by simpa using p2
                    have R1 := Lib.hid (J1.out (by unfold ownP; rw [HF.out]; simp [p2]))
                    have q3 : (yl == -1) = false := by simp; omega
                    have R2 := Lib.hid (K2.out (by unfold ownP; rw [HF.out]; simp; omega))
                    clear K1 K2 J1 J2 p2
                    go_wp2
                    go_roundg (j + 1)
                    case measure => omega
                    case rel => exact ⟨j, j, f, j, by omega, by omega, by go_num, rfl, rfl, rfl, ⟨R1.out, R2.out, R3.out⟩, rfl⟩
                  · have q2 : (yl == (mu : Int)) = false := by simpa using p2
                    have R1 := Lib.hid (K1.out (by unfold ownP; rw [HF.out]; simpa using p2))
                    by_cases p3 : yl = -1
                    · have q3 : (yl == -1) = true := by simpa using p3
                      have R2 := Lib.hid (J2.out (by unfold ownP; rw [HF.out]; simp [p3]))
                      clear K1 K2 J1 J2 p2 p3
                      go_wp2
                      go_roundg (j + 1)
                      case measure => omega
                      case rel => exact ⟨j, o, j, j, by omega, by omega, by go_num, rfl, rfl, rfl, ⟨R1.out, R2.out, R3.out⟩, rfl⟩
                    · have q3 : (yl == -1) = false := by simpa using p3
                      have R2 := Lib.hid (K2.out (by unfold ownP; rw [HF.out]; simpa using p3))
                      clear K1 K2 J1 J2 p2 p3
                      go_wp2
                      go_roundg (j + 1)
                      case measure => omega
                      case rel => exact ⟨j, o, f, j, by omega, by omega, by go_num, rfl, rfl, rfl, ⟨R1.out, R2.out, R3.out⟩, rfl⟩
              · have hf : freeB (mt : Int) ⟨true, yl, yt⟩ = false := by simp [freeB]
                have R1 := Lib.hid (K1.out (by unfold ownP; rw [hf]; rfl))
                have R2 := Lib.hid (K2.out (by unfold ownP; rw [hf]; rfl))
                have R3 := Lib.hid (K3.out hf)
                clear hf K1 K2 K3 J1 J2 J3
                go_wp2
                go_roundg (j + 1)
                case measure => omega
                case rel => exact ⟨j, o, f, s, by omega, by omega, by go_num, rfl, rfl, rfl, ⟨R1.out, R2.out, R3.out⟩, rfl⟩
end Go.Proofs.Ytapacdkcekbnaaa
