/- Small words of this session for contracts that are walked by hand: a block of bytes whose first numbers are known. -/
import Derived.Test.YtpmhebdaphjinaaDoorWMore
import Derived.WalkKit
import Derived.Laws.IdiomStrings
import Derived.Laws.BytesArg
import Derived.Lib.Hide
set_option linter.unusedVariables false
namespace Go.Proofs.YtpmhebdaphjinaaDoor.Aid
open Go.RowKit Go.Proofs.YtpmhebdaphjinaaDoorW.PrintWords Go.Proofs.YtpmhebdaphjinaaDoorW.PrintMore

/-- The block B is one of bytes, made since base; its first bytes are l, and may be written. -/
def Bts (w : World) (base B e : Nat) (l : List Int) : Prop :=
  base ≤ B ∧ ∃ cur fz, w.heap[B]? = some (.cells cur e fz) ∧ l.length ≤ fz.1 ∧ l.length ≤ cur.size ∧ ∀ j, j < l.length → cur[j]? = some (.int .u8 (l.getD j 0))

theorem Bts.lt {w : World} {base B e : Nat} {l : List Int} (h : Bts w base B e l) : B < w.heap.size := by
  obtain ⟨_, cur, fz, hb, _⟩ := h
  exact (Array.getElem?_eq_some_iff.1 hb).1
theorem Bts.cell {w : World} {base B e : Nat} {l : List Int} (h : Bts w base B e l) (j : Nat) (hj : j < l.length) : w.cell? ⟨B, j, none⟩ = some (.int .u8 (l.getD j 0)) := by
  obtain ⟨_, cur, fz, hb, _, _, hc⟩ := h
  unfold World.cell?
  rw [hb]
  simpa using hc j hj
theorem Bts.free {w : World} {base B e : Nat} {l : List Int} (h : Bts w base B e l) (j : Nat) (hj : j < l.length) : w.frozen? ⟨B, j, none⟩ = false := by
  obtain ⟨_, cur, fz, hb, hf, _, hc⟩ := h
  unfold World.frozen?
  rw [hb]
  obtain ⟨lo, hi⟩ := fz
  simp only at hf ⊢
  have : ¬ lo ≤ j := by omega
  simp [this]
theorem Bts.set {w : World} {base B e : Nat} {l : List Int} (h : Bts w base B e l) (j : Nat) (v : Int) : Bts (w.setCell ⟨B, j, none⟩ (.int .u8 v)) base B e (l.set j v) := by
  obtain ⟨h0, cur, fz, hb, hf, hs, hc⟩ := h
  have hlt := (Array.getElem?_eq_some_iff.1 hb).1
  have he := (Array.getElem?_eq_some_iff.1 hb).2
  refine ⟨h0, cur.setIfInBounds j (.int .u8 v), fz, ?_, by simpa using hf, by simpa using hs, ?_⟩
  · unfold World.setCell
    simp only [Array.getElem?_modify]
    simp [hb]
  · intro i hi
    simp only [List.length_set] at hi
    rw [Array.getElem?_setIfInBounds]
    by_cases e1 : j = i
    · subst e1
      simp [show j < cur.size by omega, List.getD_eq_getElem?_getD, hi]
    · simp only [if_neg e1]
      rw [hc i hi]
      simp [List.getD_eq_getElem?_getD, e1]
theorem Bts.drew {w : World} {base B e : Nat} {l : List Int} (h : Bts w base B e l) : Bts w.drew base B e l := h
theorem Bts.below {w w1 : World} {base B e : Nat} {l : List Int} (h : Bts w base B e l) (hb : Below w.heap.size w w1) : Bts w1 base B e l := by
  have hl := h.lt
  obtain ⟨h0, cur, fz, hh, r⟩ := h
  exact ⟨h0, cur, fz, (hb.block B hl).trans hh, r⟩

/-- A text's bytes as numbers. -/
def nums8 (s : ByteArray) : List Int := s.data.toList.map fun c => (c.toNat : Int)
theorem nums8_length (s : ByteArray) : (nums8 s).length = s.size := by simp [nums8]
theorem strOf_nums8 (s : ByteArray) : strOfNums (nums8 s) = s := by
  obtain ⟨⟨l⟩⟩ := s
  simp [strOfNums, nums8, Function.comp_def]

/-- What '[]byte(s)' makes. -/
theorem Bts.made (w : World) (e : Nat) (s : ByteArray) (cap : Nat) : Bts (w.drew.alloc (.cells (bytesRow s cap) e ((bytesRow s cap).size, (bytesRow s cap).size + 1))) w.heap.size w.heap.size e (nums8 s) := by
  refine ⟨Nat.le_refl _, bytesRow s cap, _, heap_alloc_new w.drew _, ?_, ?_, ?_⟩
  · rw [nums8_length]; simp [bytesRow]
  · rw [nums8_length]; simp [bytesRow]
  · intro j hj
    have hj' : j < s.data.toList.length := by simpa [nums8] using hj
    have hj2 : j < s.data.size := by simpa using hj'
    unfold bytesRow
    rw [Array.getElem?_append_left (by simpa using hj2)]
    simp [nums8, List.getD_eq_getElem?_getD, Array.getElem?_eq_getElem hj2]
theorem bne_nil (l : List UInt8) : (!l.isEmpty) = (l != []) := by cases l <;> rfl
theorem eq_nil (l : List UInt8) : l.isEmpty = (l == []) := by cases l <;> rfl
theorem empty_of {l : List UInt8} {b : Bool} (h : (l == []) = b) : l.isEmpty = b := (eq_nil l).trans h
theorem R_set_drew {α : Type} {d : Kd α} {e base n : Nat} {w : World} {a : Addr} {v u : Value} {ok : Nat → Prop} {xs : List α} (h : d.R e (w.setCell a v) base ok u xs) : d.R e ((w.drewN n).setCell a v) base ok u xs := Kd.R_drewN h n
theorem V_nil' {k : IntKind} {e base : Nat} {w : World} {ok : Nat → Prop} {v : Value} (h : v = .slice none 0 0) : Kd.V (Kd.int k) e w base ok v [] := h ▸ Kd.V_nil _ _ _ _ _
theorem R_nil' {k : IntKind} {e base : Nat} {w : World} {ok : Nat → Prop} {v : Value} (h : v = .slice none 0 0) : Kd.R (Kd.int k) e w base ok v [] := h ▸ Kd.R_nil _ _ _ _ _
/-- A text of one byte. -/
theorem one_byte (s : ByteArray) (h : s.size = 1) : ∃ c : UInt8, s = ⟨#[c]⟩ ∧ bt s 0 = (c.toNat : Int) := by
  obtain ⟨⟨l⟩⟩ := s
  obtain ⟨c, rfl⟩ := List.length_eq_one_iff.1 h
  exact ⟨c, rfl, rfl⟩
end Go.Proofs.YtpmhebdaphjinaaDoor.Aid
