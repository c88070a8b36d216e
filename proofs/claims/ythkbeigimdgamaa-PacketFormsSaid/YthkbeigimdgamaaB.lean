/- Bytes in rows; a number's bytes: field.Num. -/
import Derived.Test.YthkbeigimdgamaaA
import Derived.Laws.AppendOwnNone
import Derived.Laws.IdiomStrings
import Derived.OwnWalk
import Derived.Deep.AppendLies
import Derived.Deep.RegionLaw
namespace Go.Proofs.Ythkbeigimdgamaa
open Go Go.RowKit

/-- A string's value. -/
def strV (l : List UInt8) : Value := .string ⟨l.toArray⟩

def beN : Nat → Nat → List UInt8
  | 0, _ => []
  | k + 1, x => UInt8.ofNat (x / 256 ^ k) :: beN k x

/-- A number's bytes. -/
def numL (x : Nat) : List UInt8 := UInt8.ofNat (widthN x) :: beN (widthN x) x
def numF (x : Int) : List UInt8 := if numMayB x then numL x.toNat else []
def formE (b : Bool) (e : Int) : Int := if b then 0 else e

def bcells (l : List UInt8) : List Value := l.map fun b => .int .u8 (b.toNat : Int)
def OwnB (w : World) (B : Nat) (v : Value) (l : List UInt8) : Prop := w.ownsRow B 5 1 v l.length (bcells l)

theorem Try.info5 : (Try.prog.info? 5).map (fun i => (i.zero, i.size, i.bytes)) = some (some (.int .u8 0), 1, 1) := by kernel_rfl

theorem OwnB.grown {w w' : World} {B : Nat} {v : Value} {l : List UInt8} (h : OwnB w B v l) (hg : w.grownBy w' v.ownBlock) (hB : B ≤ w.heap.size) : Below B w w' :=
  (Below.refl _ _).grown hg hB fun k hk => (World.ownsRow.lt h k hk).1

theorem wpList_appB {w : World} {ops : Array Oper} {rest : List Oper} {o : Oper} {a : Act} {Q : Exit → Act → World → Prop} (hgd : o.guard = none) (s x : Operand)
    (ho : o.op = .call { callee := .builtin .append, args := #[s, x], argTypes := #[67, 67] })
    (B : Nat) (v : Value) (l : List UInt8) (b : UInt8) (hs : a.eval s = v) (hown : OwnB w B v l) (ad : Addr) (c : Nat) (hx : a.eval x = .slice (some ad) 1 c)
    (hcell : w.cell? ad = some (.int .u8 (b.toNat : Int))) (hlen : l.length < 1000) (hbase : B ≤ w.heap.size)
    (h : ∀ v' w', OwnB w' B v' (l ++ [b]) → Below B w w' → wpList Try.prog ops Q rest (a.put o.dst v') w') : wpList Try.prog ops Q (o :: rest) a w := by
  obtain ⟨i0, hi, hz0, hz1, hz2⟩ := info_parts Try.info5
  have h63 : l.length + 1 ≤ maxLen := by unfold maxLen; omega
  exact wpList_append_own w hgd s x 67 ho B 5 i0 (.int .u8 0) 1 1 Try.underlying67 hi hz0 hz1 hz2 rfl (by decide) v l.length (bcells l) hs hown ad 1 c [.int .u8 (b.toNat : Int)] hx rfl
    (fun j u hj => by
      match j, hj with
      | 0, hj => simp at hj; subst hj; simpa [Addr.add] using hcell)
    (fun u hu => by simp at hu; subst hu; rfl) h63 (by omega) hbase
    fun v' w' h1 h2 _ => h v' w' (by unfold OwnB; rw [List.length_append]; simpa [bcells] using h1) (hown.grown h2 hbase)

theorem OwnB.form {w : World} {B : Nat} {v : Value} {l : List UInt8} (h : OwnB w B v l) (hl : 0 < l.length) : ∃ g cap, v = .slice (some ⟨g, 0, none⟩) l.length cap ∧ B ≤ g ∧ ∀ j (hj : j < l.length), w.cell? ((⟨g, 0, none⟩ : Addr).add j) = some (.int .u8 (l[j].toNat : Int)) := by
  obtain ⟨g, cap, hv, hB, _⟩ := World.ownsRow.form h hl
  subst hv
  refine ⟨g, cap, rfl, hB, fun j hj => ?_⟩
  have := h.cells rfl j (.int .u8 (l[j].toNat : Int)) (by simp [bcells, hj])
  exact this

/-- string(out). -/
theorem OwnB.str {w : World} {B : Nat} {v : Value} {l : List UInt8} (h : OwnB w B v l) (hl : 0 < l.length) : (convert 67 9 v).run Try.prog w = .ok (strV l) w := by
  obtain ⟨g, cap, rfl, _, hc⟩ := h.form hl
  exact run_convert_bytes_back w 67 9 5 ⟨g, 0, none⟩ cap l Try.underlying67 Try.underlying5 Try.underlying9 hc

theorem byte_eq (x k : Nat) : IntKind.u8.wrap ((x / 256 ^ k : Nat) : Int) = ((UInt8.ofNat (x / 256 ^ k)).toNat : Int) := by
  rw [IntKind.wrap_u8]
  simp
end Go.Proofs.Ythkbeigimdgamaa
