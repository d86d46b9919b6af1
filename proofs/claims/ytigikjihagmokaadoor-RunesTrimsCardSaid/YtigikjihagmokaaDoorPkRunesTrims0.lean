/- Part 1 of 2 of the proof of the law RunesTrims: it is true at every input. Conditions: those of the given row, no others. -/
import Derived.Test.YtigikjihagmokaaDoorWMore
import Derived.WalkKit
import Derived.Laws.IdiomStrings
import Derived.Laws.BytesArg
import Derived.Lib.Hide
import Derived.Test.YtigikjihagmokaaDoorProg
import Derived.Below
import Derived.Deep.Draws
import Derived.Deep.AppendLies
import Derived.Maps.AppendAt
import Derived.OwnWalk
import Derived.Laws.MakeOwn
import Derived.Laws.OwnMore
import Derived.Deep.OwnRows
import Derived.Tactics
import Derived.Lib.ConvBytes
import Derived.Laws.Slices
import Derived.KernelRfl
import Derived.RowKit3
import Derived.Deep.LoopGhost
import Derived.Deep.QuietTactic
import Derived.BigQuiet
import Derived.WideLaws
import Derived.Deep.DeepCutAuto
import Derived.Deep.CutBlock
import Derived.Deep.RegionHeld3
import Derived.Laws.Rows
import Derived.Lib.AppendStr
import Derived.ArgAppend
import Derived.Laws.IdiomCopy
import Derived.OrdersHeld
import Derived.Laws.BitsLemmas
import Derived.RowKit
import Derived.Test.YtigikjihagmokaaDoorWWords
import Derived.Test.YtigikjihagmokaaDoorWLast
import Derived.Laws.StructEq
import Derived.Test.YtigikjihagmokaaDoorWRepsOne
import Derived.Shelf.Strings.Builder1
import Derived.Shelf.Small.Utf8
import Derived.Shelf.Small.Strs
import Derived.Shelf.Strings.BuilderF
import Derived.Shelf.Strings.BuilderK
import Derived.Shelf.Strings.BuilderRune
import Derived.Shelf.Strconv.Itoa0
import Derived.Shelf.Strconv.Itoa1
import Derived.Shelf.LaysM
import Derived.Shelf.Strconv.Itoa2
import Derived.Shelf.Strconv.Itoa3
import Derived.Shelf.Strings.Search1
import Derived.Shelf.Unicode.Decode
import Derived.Shelf.Unicode.DecodeSlow
import Derived.Shelf.Unicode.DecodeAny
import Derived.Shelf.Strings.BuilderCap
import Derived.BigCall
import Derived.Lib.OthersKept
import Derived.Lib.FrozenHead2
import Derived.Lib.TrimUEq
import Derived.Lib.LaidU8
import Derived.Lib.MapLaws
import Derived.Lib.Small
set_option linter.unusedVariables false
namespace Go.Proofs.YtigikjihagmokaaDoor.Aid
open Go.RowKit Go.Proofs.YtigikjihagmokaaDoorW.PrintWords Go.Proofs.YtigikjihagmokaaDoorW.PrintMore

/-- The block B is one of bytes, made since base; its first bytes are l, and may be written. -/
def Bts (w : World) (base B e : Nat) (l : List Int) : Prop :=
  base ≤ B ∧ ∃ cur fz, w.heap[B]? = some (.cells cur e fz) ∧ l.length ≤ fz.1 ∧ l.length ≤ cur.size ∧ ∀ j, j < l.length → cur[j]? = some (.int .u8 (l.getD j 0))

theorem Bts.lt {w : World} {base B e : Nat} {l : List Int} (h : Bts w base B e l) : B < w.heap.size := by
  obtain ⟨_, cur, fz, hb, _⟩ := h
  exact (Array.getElem?_eq_some_iff.1 hb).1
theorem Bts.cell {w : World} {base B e : Nat} {l : List Int} (h : Bts w base B e l) (j : Nat) (hj : j < l.length) : w.cell? ⟨B, j, none⟩ = some (.int .u8 (l.getD j 0)) := by
  obtain ⟨_, cur, fz, hb, _, _, hc⟩ := h
  unfold World.cell?
  rw [hb]
  simpa using hc j hj
theorem Bts.free {w : World} {base B e : Nat} {l : List Int} (h : Bts w base B e l) (j : Nat) (hj : j < l.length) : w.frozen? ⟨B, j, none⟩ = false := by
  obtain ⟨_, cur, fz, hb, hf, _, hc⟩ := h
  unfold World.frozen?
  rw [hb]
  obtain ⟨lo, hi⟩ := fz
  simp only at hf ⊢
  have : ¬ lo ≤ j := by omega
  simp [this]
theorem Bts.set {w : World} {base B e : Nat} {l : List Int} (h : Bts w base B e l) (j : Nat) (v : Int) : Bts (w.setCell ⟨B, j, none⟩ (.int .u8 v)) base B e (l.set j v) := by
  obtain ⟨h0, cur, fz, hb, hf, hs, hc⟩ := h
  have hlt := (Array.getElem?_eq_some_iff.1 hb).1
  have he := (Array.getElem?_eq_some_iff.1 hb).2
  refine ⟨h0, cur.setIfInBounds j (.int .u8 v), fz, ?_, by simpa using hf, by simpa using hs, ?_⟩
  · unfold World.setCell
    simp only [Array.getElem?_modify]
    simp [hb]
  · intro i hi
    simp only [List.length_set] at hi
    rw [Array.getElem?_setIfInBounds]
    by_cases e1 : j = i
    · subst e1
      simp [show j < cur.size by omega, List.getD_eq_getElem?_getD, hi]
    · simp only [if_neg e1]
      rw [hc i hi]
      simp [List.getD_eq_getElem?_getD, e1]
theorem Bts.drew {w : World} {base B e : Nat} {l : List Int} (h : Bts w base B e l) : Bts w.drew base B e l := h
theorem Bts.below {w w1 : World} {base B e : Nat} {l : List Int} (h : Bts w base B e l) (hb : Below w.heap.size w w1) : Bts w1 base B e l := by
  have hl := h.lt
  obtain ⟨h0, cur, fz, hh, r⟩ := h
  exact ⟨h0, cur, fz, (hb.block B hl).trans hh, r⟩

/-- A text's bytes as numbers. -/
def nums8 (s : ByteArray) : List Int := s.data.toList.map fun c => (c.toNat : Int)
theorem nums8_length (s : ByteArray) : (nums8 s).length = s.size := by simp [nums8]
theorem strOf_nums8 (s : ByteArray) : strOfNums (nums8 s) = s := by
  obtain ⟨⟨l⟩⟩ := s
  simp [strOfNums, nums8, Function.comp_def]

/-- What '[]byte(s)' makes. -/
theorem Bts.made (w : World) (e : Nat) (s : ByteArray) (cap : Nat) : Bts (w.drew.alloc (.cells (bytesRow s cap) e ((bytesRow s cap).size, (bytesRow s cap).size + 1))) w.heap.size w.heap.size e (nums8 s) := by
  refine ⟨Nat.le_refl _, bytesRow s cap, _, heap_alloc_new w.drew _, ?_, ?_, ?_⟩
  · rw [nums8_length]; simp [bytesRow]
  · rw [nums8_length]; simp [bytesRow]
  · intro j hj
    have hj' : j < s.data.toList.length := by simpa [nums8] using hj
    have hj2 : j < s.data.size := by simpa using hj'
    unfold bytesRow
    rw [Array.getElem?_append_left (by simpa using hj2)]
    simp [nums8, List.getD_eq_getElem?_getD, Array.getElem?_eq_getElem hj2]
theorem bne_nil (l : List UInt8) : (!l.isEmpty) = (l != []) := by cases l <;> rfl
theorem eq_nil (l : List UInt8) : l.isEmpty = (l == []) := by cases l <;> rfl
theorem empty_of {l : List UInt8} {b : Bool} (h : (l == []) = b) : l.isEmpty = b := (eq_nil l).trans h
theorem R_set_drew {α : Type} {d : Kd α} {e base n : Nat} {w : World} {a : Addr} {v u : Value} {ok : Nat → Prop} {xs : List α} (h : d.R e (w.setCell a v) base ok u xs) : d.R e ((w.drewN n).setCell a v) base ok u xs := Kd.R_drewN h n
theorem V_nil' {k : IntKind} {e base : Nat} {w : World} {ok : Nat → Prop} {v : Value} (h : v = .slice none 0 0) : Kd.V (Kd.int k) e w base ok v [] := h ▸ Kd.V_nil _ _ _ _ _
theorem R_nil' {k : IntKind} {e base : Nat} {w : World} {ok : Nat → Prop} {v : Value} (h : v = .slice none 0 0) : Kd.R (Kd.int k) e w base ok v [] := h ▸ Kd.R_nil _ _ _ _ _
/-- A text of one byte. -/
theorem one_byte (s : ByteArray) (h : s.size = 1) : ∃ c : UInt8, s = ⟨#[c]⟩ ∧ bt s 0 = (c.toNat : Int) := by
  obtain ⟨⟨l⟩⟩ := s
  obtain ⟨c, rfl⟩ := List.length_eq_one_iff.1 h
  exact ⟨c, rfl, rfl⟩
end Go.Proofs.YtigikjihagmokaaDoor.Aid
namespace Go.Proofs.YtigikjihagmokaaDoor.F
open Go.RowKit Go.Proofs.YtigikjihagmokaaDoorW.PrintWords Go.Proofs.YtigikjihagmokaaDoorW.PrintLast Go.Proofs.YtigikjihagmokaaDoorW.PrintMore
attribute [local go_sem] max2_int min2_int max_two min_two max_three min_three max_four min_four   -- for this text's walks alone
set_option linter.unusedVariables false
set_option linter.unusedSimpArgs false



def errW : Option Int → Value
 | none => .nilIface
 | some c => .iface 0 (.int .i64 c)
theorem errW_none : errW none = .nilIface := rfl
theorem errW_some (c : Int) : errW (some c) = .iface 0 (.int .i64 c) := rfl

theorem info5 : (Tryd.prog.info? 5).map (fun i => (i.zero, i.size, i.bytes)) = some (some (.int .u8 0), 1, 1) := by kernel_rfl
theorem info9 : (Tryd.prog.info? 9).map (fun i => (i.zero, i.size, i.bytes)) = some (some (.string ⟨#[]⟩), 1, 16) := by kernel_rfl
theorem info21 : (Tryd.prog.info? 21).map (fun i => (i.zero, i.size, i.bytes)) = some (some (.int .i32 0), 1, 4) := by kernel_rfl
end Go.Proofs.YtigikjihagmokaaDoor.F
namespace Go.Proofs.YtigikjihagmokaaDoor.F
open Go.RowKit Go.Proofs.YtigikjihagmokaaDoorW.PrintWords Go.Proofs.YtigikjihagmokaaDoorW.PrintLast Go.Proofs.YtigikjihagmokaaDoorW.PrintMore
attribute [local go_sem] max2_int min2_int max_two min_two max_three min_three max_four min_four   -- for this text's walks alone
set_option linter.unusedVariables false
set_option linter.unusedSimpArgs false

def idiomref01_Space.f (a0 : Int) : Option (Bool) := if a0 ≥ 9 then (if a0 ≤ 13 then (some true) else (if a0 = 32 then (some true) else (if a0 = 133 then (some true) else (if a0 = 8206 then (some true) else (if a0 = 8207 then (some true) else (if a0 = 8232 then (some true) else (some (a0 == 8233)))))))) else (if a0 = 32 then (some true) else (if a0 = 133 then (some true) else (if a0 = 8206 then (some true) else (if a0 = 8207 then (some true) else (if a0 = 8232 then (some true) else (some (a0 == 8233)))))))
set_option maxHeartbeats 8000000 in
set_option maxRecDepth 100000 in
theorem idiomref01_Space.calls (a0 : Int) (r : Bool) (w : World) (h : idiomref01_Space.f a0 = some r) :
 Calls Tryd.prog 13 #[.int .i32 a0] w fun e w' => e = .returned (.bool r) ∧ Drawn0 w w' := by
 have H : (if a0 ≥ 9 then (if a0 ≤ 13 then (some true) else (if a0 = 32 then (some true) else (if a0 = 133 then (some true) else (if a0 = 8206 then (some true) else (if a0 = 8207 then (some true) else (if a0 = 8232 then (some true) else (some (a0 == 8233)))))))) else (if a0 = 32 then (some true) else (if a0 = 133 then (some true) else (if a0 = 8206 then (some true) else (if a0 = 8207 then (some true) else (if a0 = 8232 then (some true) else (some (a0 == 8233)))))))) = some r := h
 clear h
 by_cases c2 : a0 ≥ 9
 · rw [if_pos c2] at H
   have c2b0 : decide (9 ≤ a0) = true := decide_eq_true c2
   clear c2
   by_cases c3 : a0 ≤ 13
   · rw [if_pos c3] at H
     have c3b0 : decide (a0 ≤ 13) = true := decide_eq_true c3
     clear c3
     obtain rfl := Option.some.inj H
     go_enter Tryd.func13, Tryd.ntmps13
     go_wp2
     go_ret
     exact ⟨by first | rfl | (simp; done) | (simp [*]; done), by repeat (first | exact Drawn0.refl _ | apply Drawn0.step)⟩
   · rw [if_neg c3] at H
     have c3b0 : decide (a0 ≤ 13) = false := decide_eq_false c3
     clear c3
     by_cases c4 : a0 = 32
     · rw [if_pos c4] at H
       have c4b0 : (a0 == 32) = true := beq_iff_eq.mpr c4
       have c4b1 : (a0 != 32) = false := bne_eq_false_iff_eq.mpr c4
       try have c4b1z := c4b1
       (try simp only [bne] at c4b1z)
       clear c4
       obtain rfl := Option.some.inj H
       go_enter Tryd.func13, Tryd.ntmps13
       go_wp2
       go_ret
       exact ⟨by first | rfl | (simp; done) | (simp [*]; done), by repeat (first | exact Drawn0.refl _ | apply Drawn0.step)⟩
     · rw [if_neg c4] at H
       have c4b0 : (a0 == 32) = false := beq_eq_false_iff_ne.mpr c4
       have c4b1 : (a0 != 32) = true := bne_iff_ne.mpr c4
       try have c4b1z := c4b1
       (try simp only [bne] at c4b1z)
       by_cases c5 : a0 = 133
       · rw [if_pos c5] at H
         have c5b0 : (a0 == 133) = true := beq_iff_eq.mpr c5
         have c5b1 : (a0 != 133) = false := bne_eq_false_iff_eq.mpr c5
         try have c5b1z := c5b1
         (try simp only [bne] at c5b1z)
         clear c5
         obtain rfl := Option.some.inj H
         go_enter Tryd.func13, Tryd.ntmps13
         go_wp2
         go_ret
         exact ⟨by first | rfl | (simp; done) | (simp [*]; done), by repeat (first | exact Drawn0.refl _ | apply Drawn0.step)⟩
       · rw [if_neg c5] at H
         have c5b0 : (a0 == 133) = false := beq_eq_false_iff_ne.mpr c5
         have c5b1 : (a0 != 133) = true := bne_iff_ne.mpr c5
         try have c5b1z := c5b1
         (try simp only [bne] at c5b1z)
         by_cases c6 : a0 = 8206
         · rw [if_pos c6] at H
           have c6b0 : (a0 == 8206) = true := beq_iff_eq.mpr c6
           have c6b1 : (a0 != 8206) = false := bne_eq_false_iff_eq.mpr c6
           try have c6b1z := c6b1
           (try simp only [bne] at c6b1z)
           clear c6
           obtain rfl := Option.some.inj H
           go_enter Tryd.func13, Tryd.ntmps13
           go_wp2
           go_ret
           exact ⟨by first | rfl | (simp; done) | (simp [*]; done), by repeat (first | exact Drawn0.refl _ | apply Drawn0.step)⟩
         · rw [if_neg c6] at H
           have c6b0 : (a0 == 8206) = false := beq_eq_false_iff_ne.mpr c6
           have c6b1 : (a0 != 8206) = true := bne_iff_ne.mpr c6
           try have c6b1z := c6b1
           (try simp only [bne] at c6b1z)
           by_cases c7 : a0 = 8207
           · rw [if_pos c7] at H
             have c7b0 : (a0 == 8207) = true := beq_iff_eq.mpr c7
             have c7b1 : (a0 != 8207) = false := bne_eq_false_iff_eq.mpr c7
             try have c7b1z := c7b1
             (try simp only [bne] at c7b1z)
             clear c7
             obtain rfl := Option.some.inj H
             go_enter Tryd.func13, Tryd.ntmps13
             go_wp2
             go_ret
             exact ⟨by first | rfl | (simp; done) | (simp [*]; done), by repeat (first | exact Drawn0.refl _ | apply Drawn0.step)⟩
           · rw [if_neg c7] at H
             have c7b0 : (a0 == 8207) = false := beq_eq_false_iff_ne.mpr c7
             have c7b1 : (a0 != 8207) = true := bne_iff_ne.mpr c7
             try have c7b1z := c7b1
             (try simp only [bne] at c7b1z)
             by_cases c8 : a0 = 8232
             · rw [if_pos c8] at H
               have c8b0 : (a0 == 8232) = true := beq_iff_eq.mpr c8
               have c8b1 : (a0 != 8232) = false := bne_eq_false_iff_eq.mpr c8
               try have c8b1z := c8b1
               (try simp only [bne] at c8b1z)
               clear c8
               obtain rfl := Option.some.inj H
               go_enter Tryd.func13, Tryd.ntmps13
               go_wp2
               go_ret
               exact ⟨by first | rfl | (simp; done) | (simp [*]; done), by repeat (first | exact Drawn0.refl _ | apply Drawn0.step)⟩
             · rw [if_neg c8] at H
               have c8b0 : (a0 == 8232) = false := beq_eq_false_iff_ne.mpr c8
               have c8b1 : (a0 != 8232) = true := bne_iff_ne.mpr c8
               try have c8b1z := c8b1
               (try simp only [bne] at c8b1z)
               obtain rfl := Option.some.inj H
               go_enter Tryd.func13, Tryd.ntmps13
               go_wp2
               go_ret
               exact ⟨by first | rfl | (simp; done) | (simp [*]; done), by repeat (first | exact Drawn0.refl _ | apply Drawn0.step)⟩
 · rw [if_neg c2] at H
   have c2b0 : decide (9 ≤ a0) = false := decide_eq_false c2
   clear c2
   by_cases c9 : a0 = 32
   · rw [if_pos c9] at H
     have c9b0 : (a0 == 32) = true := beq_iff_eq.mpr c9
     have c9b1 : (a0 != 32) = false := bne_eq_false_iff_eq.mpr c9
     try have c9b1z := c9b1
     (try simp only [bne] at c9b1z)
     clear c9
     obtain rfl := Option.some.inj H
     go_enter Tryd.func13, Tryd.ntmps13
     go_wp2
     go_ret
     exact ⟨by first | rfl | (simp; done) | (simp [*]; done), by repeat (first | exact Drawn0.refl _ | apply Drawn0.step)⟩
   · rw [if_neg c9] at H
     have c9b0 : (a0 == 32) = false := beq_eq_false_iff_ne.mpr c9
     have c9b1 : (a0 != 32) = true := bne_iff_ne.mpr c9
     try have c9b1z := c9b1
     (try simp only [bne] at c9b1z)
     by_cases c10 : a0 = 133
     · rw [if_pos c10] at H
       have c10b0 : (a0 == 133) = true := beq_iff_eq.mpr c10
       have c10b1 : (a0 != 133) = false := bne_eq_false_iff_eq.mpr c10
       try have c10b1z := c10b1
       (try simp only [bne] at c10b1z)
       clear c10
       obtain rfl := Option.some.inj H
       go_enter Tryd.func13, Tryd.ntmps13
       go_wp2
       go_ret
       exact ⟨by first | rfl | (simp; done) | (simp [*]; done), by repeat (first | exact Drawn0.refl _ | apply Drawn0.step)⟩
     · rw [if_neg c10] at H
       have c10b0 : (a0 == 133) = false := beq_eq_false_iff_ne.mpr c10
       have c10b1 : (a0 != 133) = true := bne_iff_ne.mpr c10
       try have c10b1z := c10b1
       (try simp only [bne] at c10b1z)
       by_cases c11 : a0 = 8206
       · rw [if_pos c11] at H
         have c11b0 : (a0 == 8206) = true := beq_iff_eq.mpr c11
         have c11b1 : (a0 != 8206) = false := bne_eq_false_iff_eq.mpr c11
         try have c11b1z := c11b1
         (try simp only [bne] at c11b1z)
         clear c11
         obtain rfl := Option.some.inj H
         go_enter Tryd.func13, Tryd.ntmps13
         go_wp2
         go_ret
         exact ⟨by first | rfl | (simp; done) | (simp [*]; done), by repeat (first | exact Drawn0.refl _ | apply Drawn0.step)⟩
       · rw [if_neg c11] at H
         have c11b0 : (a0 == 8206) = false := beq_eq_false_iff_ne.mpr c11
         have c11b1 : (a0 != 8206) = true := bne_iff_ne.mpr c11
         try have c11b1z := c11b1
         (try simp only [bne] at c11b1z)
         by_cases c12 : a0 = 8207
         · rw [if_pos c12] at H
           have c12b0 : (a0 == 8207) = true := beq_iff_eq.mpr c12
           have c12b1 : (a0 != 8207) = false := bne_eq_false_iff_eq.mpr c12
           try have c12b1z := c12b1
           (try simp only [bne] at c12b1z)
           clear c12
           obtain rfl := Option.some.inj H
           go_enter Tryd.func13, Tryd.ntmps13
           go_wp2
           go_ret
           exact ⟨by first | rfl | (simp; done) | (simp [*]; done), by repeat (first | exact Drawn0.refl _ | apply Drawn0.step)⟩
         · rw [if_neg c12] at H
           have c12b0 : (a0 == 8207) = false := beq_eq_false_iff_ne.mpr c12
           have c12b1 : (a0 != 8207) = true := bne_iff_ne.mpr c12
           try have c12b1z := c12b1
           (try simp only [bne] at c12b1z)
           by_cases c13 : a0 = 8232
           · rw [if_pos c13] at H
             have c13b0 : (a0 == 8232) = true := beq_iff_eq.mpr c13
             have c13b1 : (a0 != 8232) = false := bne_eq_false_iff_eq.mpr c13
             try have c13b1z := c13b1
             (try simp only [bne] at c13b1z)
             clear c13
             obtain rfl := Option.some.inj H
             go_enter Tryd.func13, Tryd.ntmps13
             go_wp2
             go_ret
             exact ⟨by first | rfl | (simp; done) | (simp [*]; done), by repeat (first | exact Drawn0.refl _ | apply Drawn0.step)⟩
           · rw [if_neg c13] at H
             have c13b0 : (a0 == 8232) = false := beq_eq_false_iff_ne.mpr c13
             have c13b1 : (a0 != 8232) = true := bne_iff_ne.mpr c13
             try have c13b1z := c13b1
             (try simp only [bne] at c13b1z)
             obtain rfl := Option.some.inj H
             go_enter Tryd.func13, Tryd.ntmps13
             go_wp2
             go_ret
             exact ⟨by first | rfl | (simp; done) | (simp [*]; done), by repeat (first | exact Drawn0.refl _ | apply Drawn0.step)⟩

end Go.Proofs.YtigikjihagmokaaDoor.F
set_option linter.unusedVariables false
namespace Go.Proofs.YtigikjihagmokaaDoor.Q
open Go.RowKit Go.Proofs.YtigikjihagmokaaDoorW.PrintWords Go.Proofs.YtigikjihagmokaaDoorW.PrintLast Go.Proofs.YtigikjihagmokaaDoorW.PrintMore
theorem ql {p : Prop} (h : p := by (try simp only [List.map_toArray, List.map_cons, List.map_nil]); first | done | rfl | (simp only [List.length_drop, List.length_take]; rfl)) : p := h
theorem qh {b : Nat} {w w1 w2 : World} (B : Aside0 (Below b w w1)) (h : Below b w w1 → Below b w w2 := by intro h_; repeat (first | (with_reducible first | exact h_ | apply below_alloc | apply pw_below_drewN | apply below_drew1 | refine below_set ?_ (Aside0.out (by with_reducible assumption))) | exact h_)) : Below b w w2 := h B.out
theorem qn {w w1 w2 w3 : World} (B : Aside0 (Below w.heap.size w w1)) (hb : Below w2.heap.size w2 w3) (h : Below w.heap.size w w1 → Below w.heap.size w w2 := by intro h_; repeat (first | (with_reducible first | exact h_ | apply below_alloc | apply pw_below_drewN | apply below_drew1 | refine below_set ?_ (Aside0.out (by with_reducible assumption))) | exact h_)) : Aside0 (Below w.heap.size w w3) := ⟨below_step (h B.out) hb⟩
theorem qe {p : Prop} (h : p := by first | rfl | (exact congrArg (fun b => Ending.returned (.bool b)) (Aid.bne_nil _)) | (exact congrArg (fun b => Ending.returned (.bool b)) (Aid.eq_nil _)) | (simp [errW_none, errW_some] <;> rfl) | (simp [*, errW_none, errW_some] <;> rfl)) : p := h
theorem qa {p : Prop} (h : p := by first | (with_reducible assumption) | assumption) : p := h
section
variable {P : Program} {ops : Array Oper} {rest : List Oper} {o : Oper} {a : Act} {Q : Exit → Act → World → Prop} {md : Region.Mode} {S : World → Prop} {ds : List Nat} {T : Bool × List (List Nat × List Nat)} {B : List Nat}
end
end Go.Proofs.YtigikjihagmokaaDoor.Q
namespace Go.Proofs
open Go.Shelf
def Tryd.lays170_ren : Go.Shelf.Ren := ⟨fun | 170 => 37 | n => n, fun | 70 => 40 | 3 => 3 | 0 => 0 | 72 => 43 | 37 => 41 | 5 => 5 | n => n, fun | n => n⟩
theorem Tryd.lays170 : Go.Proofs.Lays.n170 Tryd.prog Tryd.lays170_ren := {
  mixed := by kernel_rfl
  f170 := Tryd.func37.trans (congrArg some (by kernel_rfl))
  t0 := Tryd.underlying0
  a0 := Tryd.isAgg0
  z0 := Tryd.sizeOf0
  v0 := Tryd.zeroValue0
  t3 := Tryd.underlying3
  a3 := Tryd.isAgg3
  z3 := Tryd.sizeOf3
  v3 := Tryd.zeroValue3
  t37 := Tryd.underlying41
  a37 := Tryd.isAgg41
  z37 := Tryd.sizeOf41
  v37 := Tryd.zeroValue41
  t70 := Tryd.underlying40
  a70 := Tryd.isAgg40
  z70 := Tryd.sizeOf40
  v70 := Tryd.zeroValue40
  t72 := Tryd.underlying43
  a72 := Tryd.isAgg43
  z72 := Tryd.sizeOf43
  v72 := Tryd.zeroValue43 }
def Tryd.lays169_ren : Go.Shelf.Ren := ⟨fun | 169 => 39 | n => n, fun | 70 => 40 | 9 => 9 | 0 => 0 | 72 => 43 | 37 => 41 | 127 => 65 | 3 => 3 | 5 => 5 | n => n, fun | n => n⟩
theorem Tryd.lays169 : Go.Proofs.Lays.n169 Tryd.prog Tryd.lays169_ren := {
  mixed := by kernel_rfl
  f169 := Tryd.func39.trans (congrArg some (by kernel_rfl))
  t0 := Tryd.underlying0
  a0 := Tryd.isAgg0
  z0 := Tryd.sizeOf0
  v0 := Tryd.zeroValue0
  t3 := Tryd.underlying3
  a3 := Tryd.isAgg3
  z3 := Tryd.sizeOf3
  v3 := Tryd.zeroValue3
  t9 := Tryd.underlying9
  a9 := Tryd.isAgg9
  z9 := Tryd.sizeOf9
  v9 := Tryd.zeroValue9
  t37 := Tryd.underlying41
  a37 := Tryd.isAgg41
  z37 := Tryd.sizeOf41
  v37 := Tryd.zeroValue41
  t70 := Tryd.underlying40
  a70 := Tryd.isAgg40
  z70 := Tryd.sizeOf40
  v70 := Tryd.zeroValue40
  t72 := Tryd.underlying43
  a72 := Tryd.isAgg43
  z72 := Tryd.sizeOf43
  v72 := Tryd.zeroValue43
  t127 := Tryd.underlying65
  a127 := Tryd.isAgg65
  z127 := Tryd.sizeOf65
  v127 := Tryd.zeroValue65 }
theorem Tryd.Builder_Extra_169 : Builder.Extra Tryd.prog Tryd.lays169_ren := {
  sizeBuilder := by kernel_rfl
  liesBuilder := by kernel_rfl
  t5 := Tryd.underlying5
  a5 := Tryd.isAgg5
  z5 := Tryd.sizeOf5
  v5 := Tryd.zeroValue5
  infoByte := by kernel_rfl
  cellsByte := by kernel_rfl
  sizeByte := by kernel_rfl
  neB5 := by decide }
def Tryd.lays118_ren : Go.Shelf.Ren := ⟨fun | 118 => 42 | n => n, fun | 21 => 21 | 3 => 3 | 4 => 4 | n => n, fun | n => n⟩
theorem Tryd.lays118 : Go.Proofs.Lays.n118 Tryd.prog Tryd.lays118_ren := {
  mixed := by kernel_rfl
  f118 := Tryd.func42.trans (congrArg some (by kernel_rfl))
  t3 := Tryd.underlying3
  a3 := Tryd.isAgg3
  z3 := Tryd.sizeOf3
  v3 := Tryd.zeroValue3
  t4 := Tryd.underlying4
  a4 := Tryd.isAgg4
  z4 := Tryd.sizeOf4
  v4 := Tryd.zeroValue4
  t21 := Tryd.underlying21
  a21 := Tryd.isAgg21
  z21 := Tryd.sizeOf21
  v21 := Tryd.zeroValue21 }
theorem Tryd.utf8_RuneLen (r : Int) (w : World) :
    Calls Tryd.prog 42 #[.int .i32 r] w fun e w' => e = .returned (.int .i64 (Lib.runeLen r)) ∧ w' = w := Any.utf8_RuneLen Tryd.lays118 r w
open Go.RowKit in
theorem Tryd.Builder_Len_f (B b : Nat) (bs : List Value) (w : World) (h : Lib.IsBuilderF 43 5 B b bs w) :
    Calls Tryd.prog 37 #[.pointer (some ⟨b, 0, none⟩)] w fun e w' => e = .returned (.int .i64 bs.length) ∧ w' = w := Any.Builder_Len_f Tryd.lays170 B b bs w h
open Go.RowKit in
theorem Tryd.Builder_String_any_k (B b : Nat) (l : List UInt8) (w : World) (h : Lib.IsBuilderF 43 5 B b (Lib.byteCells l) w) (hBw : B ≤ w.heap.size) :
    Calls Tryd.prog 39 #[.pointer (some ⟨b, 0, none⟩)] w fun e w' => e = .returned (.string ⟨l.toArray⟩) ∧ (Lib.IsBuilderF 43 5 B b (Lib.byteCells l) w' ∧ Below B w w' ∧ Lib.OthersKept 5 (some b) w w') := Any.Builder_String_any_k Tryd.lays169 Tryd.Builder_Extra_169 B b l w h hBw
def Tryd.lays197_ren : Go.Shelf.Ren := ⟨fun | 197 => 49 | 260 => 59 | n => n, fun | 9 => 9 | 21 => 21 | 3 => 3 | 4 => 4 | 5 => 5 | 105 => 63 | 119 => 88 | 0 => 0 | 46 => 75 | 139 => 91 | 138 => 90 | n => n, fun | 3 => 0 | 4 => 1 | n => n⟩
theorem Tryd.lays197 : Go.Proofs.Lays.n197 Tryd.prog Tryd.lays197_ren := {
  mixed := by kernel_rfl
  f197 := Tryd.func49.trans (congrArg some (by kernel_rfl))
  f260 := Tryd.func59.trans (congrArg some (by kernel_rfl))
  t0 := Tryd.underlying0
  a0 := Tryd.isAgg0
  z0 := Tryd.sizeOf0
  v0 := Tryd.zeroValue0
  t3 := Tryd.underlying3
  a3 := Tryd.isAgg3
  z3 := Tryd.sizeOf3
  v3 := Tryd.zeroValue3
  t4 := Tryd.underlying4
  a4 := Tryd.isAgg4
  z4 := Tryd.sizeOf4
  v4 := Tryd.zeroValue4
  t5 := Tryd.underlying5
  a5 := Tryd.isAgg5
  z5 := Tryd.sizeOf5
  v5 := Tryd.zeroValue5
  t9 := Tryd.underlying9
  a9 := Tryd.isAgg9
  z9 := Tryd.sizeOf9
  v9 := Tryd.zeroValue9
  t21 := Tryd.underlying21
  a21 := Tryd.isAgg21
  z21 := Tryd.sizeOf21
  v21 := Tryd.zeroValue21
  t46 := Tryd.underlying75
  a46 := Tryd.isAgg75
  z46 := Tryd.sizeOf75
  v46 := Tryd.zeroValue75
  t105 := Tryd.underlying63
  a105 := Tryd.isAgg63
  z105 := Tryd.sizeOf63
  v105 := Tryd.zeroValue63
  t119 := Tryd.underlying88
  a119 := Tryd.isAgg88
  z119 := Tryd.sizeOf88
  t138 := Tryd.underlying90
  a138 := Tryd.isAgg90
  z138 := Tryd.sizeOf90
  v138 := Tryd.zeroValue90
  t139 := Tryd.underlying91
  a139 := Tryd.isAgg91
  z139 := Tryd.sizeOf91
  v139 := Tryd.zeroValue91
  g3 := by kernel_rfl
  g4 := by kernel_rfl }
def Tryd.lays260_ren : Go.Shelf.Ren := ⟨fun | 260 => 59 | n => n, fun | 9 => 9 | 21 => 21 | 3 => 3 | 4 => 4 | 5 => 5 | 119 => 88 | 0 => 0 | 46 => 75 | 139 => 91 | 138 => 90 | n => n, fun | 3 => 0 | 4 => 1 | n => n⟩
theorem Tryd.lays260 : Go.Proofs.Lays.n260 Tryd.prog Tryd.lays260_ren := {
  mixed := by kernel_rfl
  f260 := Tryd.func59.trans (congrArg some (by kernel_rfl))
  t0 := Tryd.underlying0
  a0 := Tryd.isAgg0
  z0 := Tryd.sizeOf0
  v0 := Tryd.zeroValue0
  t3 := Tryd.underlying3
  a3 := Tryd.isAgg3
  z3 := Tryd.sizeOf3
  v3 := Tryd.zeroValue3
  t4 := Tryd.underlying4
  a4 := Tryd.isAgg4
  z4 := Tryd.sizeOf4
  v4 := Tryd.zeroValue4
  t5 := Tryd.underlying5
  a5 := Tryd.isAgg5
  z5 := Tryd.sizeOf5
  v5 := Tryd.zeroValue5
  t9 := Tryd.underlying9
  a9 := Tryd.isAgg9
  z9 := Tryd.sizeOf9
  v9 := Tryd.zeroValue9
  t21 := Tryd.underlying21
  a21 := Tryd.isAgg21
  z21 := Tryd.sizeOf21
  v21 := Tryd.zeroValue21
  t46 := Tryd.underlying75
  a46 := Tryd.isAgg75
  z46 := Tryd.sizeOf75
  v46 := Tryd.zeroValue75
  t119 := Tryd.underlying88
  a119 := Tryd.isAgg88
  z119 := Tryd.sizeOf88
  t138 := Tryd.underlying90
  a138 := Tryd.isAgg90
  z138 := Tryd.sizeOf90
  v138 := Tryd.zeroValue90
  t139 := Tryd.underlying91
  a139 := Tryd.isAgg91
  z139 := Tryd.sizeOf91
  v139 := Tryd.zeroValue91
  g3 := by kernel_rfl
  g4 := by kernel_rfl }
open Go.RowKit Go.Lib in
theorem Tryd.utf8_DecodeRuneInString (s : ByteArray) (w : World) (hT : Lib.Utf8Tabs 0 1 w) :
    Calls Tryd.prog 49 #[.string s] w fun e w' => e = .returned (.tuple #[.int .i32 (Lib.decodeGo s).1, .int .i64 (Lib.decodeGo s).2]) ∧ Below w.heap.size w w' := Any.utf8_DecodeRuneInString Tryd.lays197 s w hT
end Go.Proofs
set_option linter.unusedVariables false
set_option linter.unusedSimpArgs false
namespace Go.Proofs.YtigikjihagmokaaDoor.Bld
open Go.RowKit

set_option maxHeartbeats 1000000 in
set_option maxRecDepth 100000 in
theorem check_fresh (B b : Nat) (bs : List Value) (w : World) (h : Lib.BuilderAtF 43 5 B b (.pointer none) bs w) :
    Calls Tryd.prog 50 #[.pointer (some ⟨b, 0, none⟩)] w fun e w' => e = .returned (.tuple #[]) ∧ w' = w.setCell ⟨b, 0, none⟩ (.pointer (some ⟨b, 0, none⟩)) := by
  have X := Tryd.Builder_Extra_169
  obtain ⟨j, hj, hjs⟩ := Option.map_eq_some_iff.1 X.sizeBuilder
  have h0 := h.cell0
  have hsh := h.shape
  have hfz := h.frozen0
  go_enter Tryd.func50, Tryd.ntmps50
  go_wp2
  rw [Lib.run_to_unsafe w ⟨b, 0, none⟩ Tryd.underlying40 Tryd.underlying72 hj (by rw [hjs]; decide) hsh (Nat.zero_lt_succ 1)]
  simp only [Result.andThen]
  rw [Oper.upon_value]
  go_wp2
  rw [run_callFunc_extern Tryd.func60 (by kernel_rfl) (by kernel_rfl) (by kernel_rfl) (e := Extern.AbiNoEscape.same) (by kernel_rfl)]
  rw [Lib.run_noEscape]
  simp only [Result.andThen]
  rw [Oper.upon_value]
  go_wp2
  rw [Lib.run_from_unsafe w ⟨b, 0, none⟩ Tryd.underlying72 Tryd.underlying40 hj hsh X.liesBuilder]
  simp only [Result.andThen]
  rw [Oper.upon_value]
  go_wp2
  go_end0
  exact ⟨rfl, rfl⟩
set_option maxHeartbeats 1000000 in
set_option maxRecDepth 100000 in
theorem check_used (B b : Nat) (bs : List Value) (w : World) (h : Lib.BuilderAtF 43 5 B b (.pointer (some ⟨b, 0, none⟩)) bs w) :
    Calls Tryd.prog 50 #[.pointer (some ⟨b, 0, none⟩)] w fun e w' => e = .returned (.tuple #[]) ∧ w' = w := by
  obtain ⟨j, hj, _⟩ := Option.map_eq_some_iff.1 (Tryd.Builder_Extra_169).sizeBuilder
  have h0 := h.cell0
  go_enter Tryd.func50, Tryd.ntmps50
  go_wp2
  rw [Lib.run_neq_ptr_same w _ Tryd.underlying40 hj]
  go_wp2
  go_end0
  exact ⟨rfl, rfl⟩
theorem check (B b : Nat) (bs : List Value) (w : World) (h : Lib.IsBuilderF 43 5 B b bs w) :
    Calls Tryd.prog 50 #[.pointer (some ⟨b, 0, none⟩)] w fun e w' => e = .returned (.tuple #[]) ∧ (Lib.BuilderAtF 43 5 B b (.pointer (some ⟨b, 0, none⟩)) bs w' ∧ Below B w w' ∧ Lib.OthersKept 5 (some b) w w') := by
  rcases h with h | h
  · refine (check_fresh B b bs w h).mono ?_
    rintro e w' ⟨rfl, rfl⟩
    exact ⟨rfl, h.used _, (Below.refl B w).setCell (p := ⟨b, 0, none⟩) h.1 _, (Lib.OthersKept.refl _ _ w).setCell ⟨b, 0, none⟩ rfl _⟩
  · refine (check_used B b bs w h).mono ?_
    rintro e w' ⟨rfl, rfl⟩
    exact ⟨rfl, h, Below.refl B _, Lib.OthersKept.refl _ _ _⟩

set_option maxHeartbeats 2000000 in
set_option maxRecDepth 100000 in
theorem writeString (B b : Nat) (bs : List Value) (s : ByteArray) (w : World) (h : Lib.IsBuilderF 43 5 B b bs w) (hlen : bs.length + s.size ≤ 140737488355328) (hBw : B ≤ w.heap.size) :
    Calls Tryd.prog 38 #[.pointer (some ⟨b, 0, none⟩), .string s] w fun e w' => e = .returned (.tuple #[.int .i64 s.size, .nilIface]) ∧ (Lib.BuilderAtF 43 5 B b (.pointer (some ⟨b, 0, none⟩)) (bs ++ Lib.strCells s) w' ∧ Below B w w' ∧ Lib.OthersKept 5 (some b) w w') := by
  have X := Tryd.Builder_Extra_169
  obtain ⟨i0, hi, hz0, hz1, hz2⟩ := info_parts X.infoByte
  go_enter Tryd.func38, Tryd.ntmps38
  go_wp2_with (go_at_call 50; refine (check B b bs _ h).mono ?_)
  rintro e w1 ⟨rfl, h1, hb1, hk1⟩
  obtain ⟨hB, v, hbk, hown, hne⟩ := h1
  have c0 : w1.cell? ⟨b, 0, none⟩ = some (.pointer (some ⟨b, 0, none⟩)) := by rw [Lib.cell_of_heap hbk]; rfl
  have c1 : w1.cell? ⟨b, 1, none⟩ = some v := by rw [Lib.cell_of_heap hbk]; rfl
  go_wp2_with (at_builtin; refine Lib.wpList_append_own_stringF _ rfl _ _ 41 9 rfl B 5 i0 Tryd.underlying41 Tryd.underlying9 hi hz0 hz1 hz2 _ _ _ rfl hown s rfl ?c3 ?c4 ?c5 ?_)
  case c3 => unfold maxLen; omega
  case c4 => omega
  case c5 => have := hb1.size; omega
  intro v' w2 hown' hgrow _
  have hlt : b < w1.heap.size := by
    rcases Nat.lt_or_ge b w1.heap.size with h' | h'
    · exact h'
    · simp [Array.getElem?_eq_none h'] at hbk
  have hb2 : w2.heap[b]? = some (.cells #[.pointer (some ⟨b, 0, none⟩), v] 43 (0, 0)) := by
    rw [hgrow.block b hlt (fun e => hne e.symm)]
    exact hbk
  have d0 : w2.cell? ⟨b, 0, none⟩ = some (.pointer (some ⟨b, 0, none⟩)) := by rw [Lib.cell_of_heap hb2]; rfl
  have d1 : w2.cell? ⟨b, 1, none⟩ = some v := by rw [Lib.cell_of_heap hb2]; rfl
  have f1 : w2.frozen? ⟨b, 1, none⟩ = false := Lib.frozen_of_heap hb2 1
  obtain ⟨ao, n', cap, rfl⟩ : ∃ ao n' cap, v' = .slice ao n' cap := by
    rcases hown'.2 with ⟨hv, _⟩ | ⟨g, cap, cur, fz, hv, _⟩
    · exact ⟨_, _, _, hv⟩
    · exact ⟨_, _, _, hv⟩
  go_wp2
  go_ret2
  refine ⟨rfl, ?_, ?_, (hk1.grown hgrow (Lib.ownsRowF_kind hown)).setCell ⟨b, 1, none⟩ rfl _⟩
  · exact Lib.BuilderAtF.put (T := 43) (e := 5) hB hb2 (bs' := bs ++ Lib.strCells s) (by simpa [Lib.strCells_length] using hown') (by decide)
  · exact (hb1.grown hgrow (by have := hb1.size; omega) (fun k hk => (hown.lt k hk).1)).setCell (p := ⟨b, 1, none⟩) hB _
end Go.Proofs.YtigikjihagmokaaDoor.Bld
namespace Go.Proofs.YtigikjihagmokaaDoor.Fill
open Go.RowKit Go.Proofs.YtigikjihagmokaaDoorW.PrintWords Go.Proofs.YtigikjihagmokaaDoorW.PrintLast Go.Proofs.YtigikjihagmokaaDoorW.PrintMore Go.Proofs.YtigikjihagmokaaDoor.Aid
set_option linter.unusedVariables false
set_option linter.unusedSimpArgs false
/-- What stands at a place: none: no piece; a piece, and the place behind it. -/
def piece (s : ByteArray) (l : List ByteArray) (x : Int) : Option (ByteArray × Int) :=
  if (s.extract x.toNat (x + 1).toNat).toList = ([123] : List UInt8) then
    if (s.size : Int) < x + 3 then none
    else if bt s (x + 2) ≠ 125 then none
    else if bt s (x + 1) < 48 then none
    else if 57 < bt s (x + 1) then none
    else if (l.length : Int) ≤ bt s (x + 1) - 48 then none
    else some (rdOf ByteArray.empty l (bt s (x + 1) - 48), x + 3)
  else some (s.extract x.toNat (x + 1).toNat, x + 1)
def go (s : ByteArray) (l : List ByteArray) : Nat → Int → List UInt8 → ByteArray × Int
  | 0, _, _ => (⟨#[]⟩, 11)
  | k + 1, x, acc => if x < (s.size : Int) then (match piece s l x with
      | none => (⟨#[]⟩, 11)
      | some (p, y) => if 1048576 - (acc.length : Int) < (p.size : Int) then (⟨#[]⟩, 2) else go s l k y (acc ++ p.data.toList)) else (⟨acc.toArray⟩, 0)
def f (s : ByteArray) (l : List ByteArray) : ByteArray × Int := if (s.size : Int) > 65536 then (⟨#[]⟩, 2) else go s l (s.size + 1) 0 []

theorem bytes_cells (s : ByteArray) : Lib.byteCells s.data.toList = Lib.strCells s := by
  simp [Lib.byteCells, Lib.strCells]
theorem w64' {x : Int} (h0 : -9223372036854775808 ≤ x) (h1 : x ≤ 9223372036854775807) : wrap64 x = x := by unfold wrap64; omega
set_option maxHeartbeats 4000000 in
set_option maxRecDepth 100000 in
theorem calls (a0 : ByteArray) (A1 : Option Addr) (c1 : Nat) (l1 : List ByteArray) (w : World) (hr1 : Kd.C Kd.string w A1 l1.length l1) (hc1 : l1.length ≤ c1) :
    Calls Tryd.prog 19 #[.string a0, .slice A1 l1.length c1] w fun e w' => e = .returned (.tuple #[.string (f a0 l1).1, .int .i64 (f a0 l1).2]) ∧ Below w.heap.size w w' := by
  have HR1 := Aside0.mk hr1
  have HC1 := Aside0.mk hc1
  clear hr1 hc1
  go_enter Tryd.func19, Tryd.ntmps19
  by_cases c : (a0.size : Int) > 65536
  · have cb : decide (65536 < (a0.size : Int)) = true := decide_eq_true c
    have e : f a0 l1 = (⟨#[]⟩, 2) := by unfold f; rw [if_pos c]
    clear c
    rw [e]
    go_wp2
    go_ret2
    exact ⟨rfl, Below.refl _ _⟩
  · have cb : decide (65536 < (a0.size : Int)) = false := decide_eq_false c
    have e : f a0 l1 = go a0 l1 (a0.size + 1) 0 [] := by unfold f; rw [if_neg c]
    have hsz : a0.size ≤ 65536 := by omega
    clear c
    go_wp2
    go_loopw [7] (fun i wr => ∃ (x : Int) (fuel : Nat) (acc : List UInt8), i = .int .i64 x ∧ Aside0 (Lib.IsBuilderF 43 5 w.heap.size w.heap.size (Lib.byteCells acc) wr) ∧ Aside0 (Below w.heap.size w wr) ∧ Aside0 (go a0 l1 fuel x acc = f a0 l1) ∧ Aside0 ((a0.size : Int) + 1 ≤ x + fuel) ∧ Aside0 (0 ≤ x ∧ x ≤ a0.size) ∧ Aside0 (acc.length ≤ 1048576)) (fun i _ => a0.size - (intOf i).toNat)
    case atStart =>
      refine ⟨0, a0.size + 1, [], rfl, ⟨?_⟩, ⟨?_⟩, ⟨e.symm⟩, ⟨by omega⟩, ⟨by omega⟩, ⟨by simp⟩⟩
      · have h1 := Lib.IsBuilderF.of (Lib.fresh_isBuilder 43 5 w)
        exact h1
      · exact (Below.refl _ w).alloc (Nat.le_refl _) _
    case round =>
      obtain ⟨x, fuel, acc, rfl, HI, HB, HG, HF, HJ, HL⟩ := hrel
      clear e
      by_cases hx : x < (a0.size : Int)
      · have b0 : decide (x < (a0.size : Int)) = true := decide_eq_true hx
        have HX := Aside0.mk hx
        obtain ⟨x1, hx1⟩ : ∃ x1 : Int, x + 1 = x1 := ⟨_, rfl⟩
        obtain ⟨x2, hx2⟩ : ∃ x2 : Int, x + 2 = x2 := ⟨_, rfl⟩
        obtain ⟨x3, hx3⟩ : ∃ x3 : Int, x + 3 = x3 := ⟨_, rfl⟩
        have HX1 : Aside0 (x1 = x + 1 ∧ x3 = x + 3 ∧ x < (a0.size : Int)) := ⟨hx1.symm, hx3.symm, hx⟩
        have hj := HJ.out
        have W1 : Aside0 (IntKind.i64.wrap (x + 1) = x1) := ⟨by rw [i64_w, w64' (by omega) (by omega)]; exact hx1⟩
        have W2 : Aside0 (IntKind.i64.wrap (x + 2) = x2) := ⟨by rw [i64_w, w64' (by omega) (by omega)]; exact hx2⟩
        have W3 : Aside0 (IntKind.i64.wrap (x + 3) = x3) := ⟨by rw [i64_w, w64' (by omega) (by omega)]; exact hx3⟩
        have W4 : Aside0 (IntKind.i64.wrap (x2 + 1) = x3) := ⟨by rw [i64_w, w64' (by omega) (by omega)]; omega⟩
        have c0 := eq_true hj.1
        have c1' : (x ≤ x1) = True := eq_true (by omega)
        have c2' : (x1 ≤ (a0.size : Int)) = True := eq_true (by omega)
        have d0 : decide (0 ≤ x) = true := decide_eq_true hj.1
        have d1 : decide (x ≤ x1) = true := decide_eq_true (by omega)
        have d2 : decide (x1 ≤ (a0.size : Int)) = true := decide_eq_true (by omega)
        by_cases h1 : (a0.extract x.toNat x1.toNat).toList = ([123] : List UInt8)
        · have e1 : ((a0.extract x.toNat x1.toNat).toList == ([123] : List UInt8)) = true := beq_iff_eq.mpr h1
          by_cases h2 : (a0.size : Int) < x3
          · have e2 : decide ((a0.size : Int) < x3) = true := decide_eq_true h2
            have HPc : Aside0 (piece a0 l1 x = none) := ⟨by unfold piece; rw [hx1, if_pos h1, hx3, if_pos h2]⟩
            clear h2
            have HR : Aside0 (f a0 l1 = (⟨#[]⟩, 11)) := ⟨by
              rw [← HG.out]
              obtain ⟨k, rfl⟩ : ∃ k, fuel = k + 1 := ⟨fuel - 1, by have := HF.out; have := HJ.out; omega⟩
              simp only [go]; rw [if_pos HX.out, HPc.out]⟩
            clear h1 hx hj hx1 hx2 hx3
            have w1 := W1.out; have w2 := W2.out; have w3 := W3.out; have w4 := W4.out
            go_wp2
            go_ret2
            exact ⟨by rw [HR.out]; rfl, HB.out⟩
          · have e2 : decide ((a0.size : Int) < x3) = false := decide_eq_false h2
            have p2 : (0 ≤ x2) = True := eq_true (by omega)
            have q2 : (x2 < (a0.size : Int)) = True := eq_true (by omega)
            have p1 : (0 ≤ x1) = True := eq_true (by omega)
            have q1 : (x1 < (a0.size : Int)) = True := eq_true (by omega)
            have b2 := bt_at a0 x2
            have b1 := bt_at a0 x1
            have r1 := bt_range a0 x1
            by_cases h3 : bt a0 x2 ≠ 125
            · have e3 : (bt a0 x2 != 125) = true := bne_iff_ne.mpr h3
              have HPc : Aside0 (piece a0 l1 x = none) := ⟨by unfold piece; rw [hx1, if_pos h1, hx3, if_neg h2, hx2, if_pos h3]⟩
              clear h2 h3
              have HR : Aside0 (f a0 l1 = (⟨#[]⟩, 11)) := ⟨by
                rw [← HG.out]
                obtain ⟨k, rfl⟩ : ∃ k, fuel = k + 1 := ⟨fuel - 1, by have := HF.out; have := HJ.out; omega⟩
                simp only [go]; rw [if_pos HX.out, HPc.out]⟩
              clear h1 hx hj hx1 hx2 hx3
              have w1 := W1.out; have w2 := W2.out; have w3 := W3.out; have w4 := W4.out
              go_wp2
              go_ret2
              exact ⟨by rw [HR.out]; rfl, HB.out⟩
            · have e3 : (bt a0 x2 != 125) = false := bne_eq_false_iff_eq.mpr (Classical.not_not.1 h3)
              by_cases h4 : bt a0 x1 < 48
              · have e4 : decide (bt a0 x1 < 48) = true := decide_eq_true h4
                have HPc : Aside0 (piece a0 l1 x = none) := ⟨by unfold piece; rw [hx1, if_pos h1, hx3, if_neg h2, hx2, if_neg h3, if_pos h4]⟩
                clear h2 h3 h4 r1
                have HR : Aside0 (f a0 l1 = (⟨#[]⟩, 11)) := ⟨by
                  rw [← HG.out]
                  obtain ⟨k, rfl⟩ : ∃ k, fuel = k + 1 := ⟨fuel - 1, by have := HF.out; have := HJ.out; omega⟩
                  simp only [go]; rw [if_pos HX.out, HPc.out]⟩
                clear h1 hx hj hx1 hx2 hx3
                have w1 := W1.out; have w2 := W2.out; have w3 := W3.out; have w4 := W4.out
                go_wp2
                go_ret2
                exact ⟨by rw [HR.out]; rfl, HB.out⟩
              · have e4 : decide (bt a0 x1 < 48) = false := decide_eq_false h4
                by_cases h5 : 57 < bt a0 x1
                · have e5 : decide (57 < bt a0 x1) = true := decide_eq_true h5
                  have HPc : Aside0 (piece a0 l1 x = none) := ⟨by unfold piece; rw [hx1, if_pos h1, hx3, if_neg h2, hx2, if_neg h3, if_neg h4, if_pos h5]⟩
                  clear h2 h3 h4 h5 r1
                  have HR : Aside0 (f a0 l1 = (⟨#[]⟩, 11)) := ⟨by
                    rw [← HG.out]
                    obtain ⟨k, rfl⟩ : ∃ k, fuel = k + 1 := ⟨fuel - 1, by have := HF.out; have := HJ.out; omega⟩
                    simp only [go]; rw [if_pos HX.out, HPc.out]⟩
                  clear h1 hx hj hx1 hx2 hx3
                  have w1 := W1.out; have w2 := W2.out; have w3 := W3.out; have w4 := W4.out
                  go_wp2
                  go_ret2
                  exact ⟨by rw [HR.out]; rfl, HB.out⟩
                · have e5 : decide (57 < bt a0 x1) = false := decide_eq_false h5
                  obtain ⟨n, hn⟩ : ∃ n : Int, (bt a0 x1 - 48) % 256 = n := ⟨_, rfl⟩
                  have hn2 : bt a0 x1 - 48 = n := by omega
                  by_cases h6 : (l1.length : Int) ≤ n
                  · have e6 : decide ((l1.length : Int) ≤ n) = true := decide_eq_true h6
                    have HPc : Aside0 (piece a0 l1 x = none) := ⟨by unfold piece; rw [hx1, if_pos h1, hx3, if_neg h2, hx2, if_neg h3, if_neg h4, if_neg h5, hn2, if_pos h6]⟩
                    clear h2 h3 h4 h5 h6 r1 hn2
                    have HR : Aside0 (f a0 l1 = (⟨#[]⟩, 11)) := ⟨by
                      rw [← HG.out]
                      obtain ⟨k, rfl⟩ : ∃ k, fuel = k + 1 := ⟨fuel - 1, by have := HF.out; have := HJ.out; omega⟩
                      simp only [go]; rw [if_pos HX.out, HPc.out]⟩
                    clear h1 hx hj hx1 hx2 hx3
                    have w1 := W1.out; have w2 := W2.out; have w3 := W3.out; have w4 := W4.out
                    go_wp2
                    go_ret2
                    exact ⟨by rw [HR.out]; rfl, HB.out⟩
                  · have e6 : decide ((l1.length : Int) ≤ n) = false := decide_eq_false h6
                    obtain ⟨ad, ead, had⟩ := Kd.at_string HR1.out n (by omega) (by omega)
                    cases ead
                    replace had := (HB.out.cell (World.block_lt_of_cell? w _ had)).trans had
                    have p3 : (0 ≤ n) = True := eq_true (by omega)
                    have q3 : (n < (l1.length : Int)) = True := eq_true (by omega)
                    have HPc : Aside0 (piece a0 l1 x = some (rdOf ByteArray.empty l1 n, x3)) := ⟨by unfold piece; rw [hx1, if_pos h1, hx3, if_neg h2, hx2, if_neg h3, if_neg h4, if_neg h5, hn2, if_neg h6]⟩
                    have HY : Aside0 (x3 ≤ (a0.size : Int)) := ⟨by omega⟩
                    clear h2 h3 h4 h5 h6 r1 hn2
                    obtain ⟨m, Hm⟩ : ∃ m : Int, Aside0 (m = 1048576 - (acc.length : Int)) := ⟨_, ⟨rfl⟩⟩
                    have HM : Aside0 (IntKind.i64.wrap (1048576 - ((Lib.byteCells acc).length : Int)) = m) := ⟨by rw [i64_w, Lib.byteCells_length, w64' (by have := HL.out; omega) (by omega)]; exact Hm.out.symm⟩
                    have hI := HI.out
                    have hsize : w.heap.size ≤ wr.heap.size := HB.out.size
                    clear h1 hx hj hx1 hx2 hx3
                    by_cases h7 : m < ((rdOf ByteArray.empty l1 n).size : Int)
                    · have e7 : decide (m < ((rdOf ByteArray.empty l1 n).size : Int)) = true := decide_eq_true h7
                      have HR : Aside0 (f a0 l1 = (⟨#[]⟩, 2)) := ⟨by
                        rw [← HG.out]
                        obtain ⟨k, rfl⟩ : ∃ k, fuel = k + 1 := ⟨fuel - 1, by have := HF.out; have := HJ.out; omega⟩
                        simp only [go]; rw [if_pos HX.out, HPc.out]; simp only []; rw [if_pos (by have := Hm.out; omega)]⟩
                      clear h7
                      have w1 := W1.out; have w2 := W2.out; have w3 := W3.out; have w4 := W4.out; have hm := HM.out
                      go_wp2_with (go_at_call 37; refine (Tryd.Builder_Len_f w.heap.size w.heap.size _ _ hI).mono ?_)
                      rintro e W1 ⟨rfl, rfl⟩
                      go_wp2
                      go_ret2
                      exact ⟨by rw [HR.out]; rfl, HB.out⟩
                    · have e7 : decide (m < ((rdOf ByteArray.empty l1 n).size : Int)) = false := decide_eq_false h7
                      have HS : Aside0 (acc.length + (rdOf ByteArray.empty l1 n).size ≤ 1048576) := ⟨by have := Hm.out; omega⟩
                      have HSl : Aside0 ((Lib.byteCells acc).length + (rdOf ByteArray.empty l1 n).size ≤ 140737488355328) := ⟨by rw [Lib.byteCells_length]; have := HS.out; omega⟩
                      clear h7
                      have w1 := W1.out; have w2 := W2.out; have w3 := W3.out; have w4 := W4.out; have hm := HM.out
                      go_wp2_with (go_at_call 37; refine (Tryd.Builder_Len_f w.heap.size w.heap.size _ _ hI).mono ?_)
                      rintro e W1 ⟨rfl, rfl⟩
                      go_wp2_with (go_at_call 38; refine (Bld.writeString w.heap.size w.heap.size _ (rdOf ByteArray.empty l1 n) _ hI HSl.out hsize).mono ?_)
                      rintro e W1 ⟨rfl, g1, g2, _⟩
                      go_wp2
                      go_roundw
                      case rel =>
                        clear w1 w2 w3 w4 hm
                        obtain ⟨k, rfl⟩ : ∃ k, fuel = k + 1 := ⟨fuel - 1, by have := HF.out; have := HJ.out; omega⟩
                        refine ⟨x3, k, acc ++ (rdOf ByteArray.empty l1 n).data.toList, rfl, ⟨.inr ?_⟩, ⟨HB.out.trans g2⟩, ⟨?_⟩, ⟨by have := HF.out; have := HX1.out; omega⟩, ⟨by have := HX1.out; have := HJ.out; have := HY.out; omega⟩, ⟨by have := HS.out; simp only [List.length_append, Array.length_toList]; exact this⟩⟩
                        · rw [Lib.byteCells_append, bytes_cells]; exact g1
                        · have := HG.out
                          simp only [go] at this
                          rw [if_pos HX.out, HPc.out] at this
                          simp only [] at this
                          rw [if_neg (by have := HS.out; omega)] at this
                          exact this
                      case measure => clear w1 w2 w3 w4 hm; have := HX1.out; have := HJ.out; simp only [intOf]; omega
        · have e1 : ((a0.extract x.toNat x1.toNat).toList == ([123] : List UInt8)) = false := beq_eq_false_iff_ne.mpr h1
          have HPc : Aside0 (piece a0 l1 x = some (a0.extract x.toNat x1.toNat, x1)) := ⟨by unfold piece; rw [hx1, if_neg h1]⟩
          have HY : Aside0 (x1 ≤ (a0.size : Int)) := ⟨by omega⟩
          have HZ : Aside0 ((a0.extract x.toNat x1.toNat).size = x1.toNat - x.toNat) := ⟨by rw [ByteArray.size_extract]; omega⟩
          obtain ⟨m, Hm⟩ : ∃ m : Int, Aside0 (m = 1048576 - (acc.length : Int)) := ⟨_, ⟨rfl⟩⟩
          have HM : Aside0 (IntKind.i64.wrap (1048576 - ((Lib.byteCells acc).length : Int)) = m) := ⟨by rw [i64_w, Lib.byteCells_length, w64' (by have := HL.out; omega) (by omega)]; exact Hm.out.symm⟩
          have hI := HI.out
          have hsize : w.heap.size ≤ wr.heap.size := HB.out.size
          clear h1 hx hj hx1 hx2 hx3
          by_cases h7 : m < ((a0.extract x.toNat x1.toNat).size : Int)
          · have e7 : decide (m < ((a0.extract x.toNat x1.toNat).size : Int)) = true := decide_eq_true h7
            have e7z : decide (m < ((x1.toNat - x.toNat : Nat) : Int)) = true := by rw [← HZ.out]; exact e7
            have HR : Aside0 (f a0 l1 = (⟨#[]⟩, 2)) := ⟨by
              rw [← HG.out]
              obtain ⟨k, rfl⟩ : ∃ k, fuel = k + 1 := ⟨fuel - 1, by have := HF.out; have := HJ.out; omega⟩
              simp only [go]; rw [if_pos HX.out, HPc.out]; simp only []; rw [if_pos (by have := Hm.out; omega)]⟩
            clear h7
            have w1 := W1.out; have w2 := W2.out; have w3 := W3.out; have w4 := W4.out; have hm := HM.out
            go_wp2_with (go_at_call 37; refine (Tryd.Builder_Len_f w.heap.size w.heap.size _ _ hI).mono ?_)
            rintro e W1 ⟨rfl, rfl⟩
            go_wp2
            go_ret2
            exact ⟨by rw [HR.out]; rfl, HB.out⟩
          · have e7 : decide (m < ((a0.extract x.toNat x1.toNat).size : Int)) = false := decide_eq_false h7
            have e7z : decide (m < ((x1.toNat - x.toNat : Nat) : Int)) = false := by rw [← HZ.out]; exact e7
            have HS : Aside0 (acc.length + (a0.extract x.toNat x1.toNat).size ≤ 1048576) := ⟨by have := Hm.out; omega⟩
            have HSl : Aside0 ((Lib.byteCells acc).length + (a0.extract x.toNat x1.toNat).size ≤ 140737488355328) := ⟨by rw [Lib.byteCells_length]; have := HS.out; omega⟩
            clear h7
            have w1 := W1.out; have w2 := W2.out; have w3 := W3.out; have w4 := W4.out; have hm := HM.out
            go_wp2_with (go_at_call 37; refine (Tryd.Builder_Len_f w.heap.size w.heap.size _ _ hI).mono ?_)
            rintro e W1 ⟨rfl, rfl⟩
            go_wp2_with (go_at_call 38; refine (Bld.writeString w.heap.size w.heap.size _ (a0.extract x.toNat x1.toNat) _ hI HSl.out hsize).mono ?_)
            rintro e W1 ⟨rfl, g1, g2, _⟩
            go_wp2
            go_roundw
            case rel =>
              clear w1 w2 w3 w4 hm
              obtain ⟨k, rfl⟩ : ∃ k, fuel = k + 1 := ⟨fuel - 1, by have := HF.out; have := HJ.out; omega⟩
              refine ⟨x1, k, acc ++ (a0.extract x.toNat x1.toNat).data.toList, rfl, ⟨.inr ?_⟩, ⟨HB.out.trans g2⟩, ⟨?_⟩, ⟨by have := HF.out; have := HX1.out; omega⟩, ⟨by have := HX1.out; have := HJ.out; have := HY.out; omega⟩, ⟨by have := HS.out; simp only [List.length_append, Array.length_toList]; exact this⟩⟩
              · rw [Lib.byteCells_append, bytes_cells]; exact g1
              · have := HG.out
                simp only [go] at this
                rw [if_pos HX.out, HPc.out] at this
                simp only [] at this
                rw [if_neg (by have := HS.out; omega)] at this
                exact this
            case measure => clear w1 w2 w3 w4 hm; have := HX1.out; have := HJ.out; simp only [intOf]; omega
      · have b0 : decide (x < (a0.size : Int)) = false := decide_eq_false hx
        have hr : f a0 l1 = (⟨acc.toArray⟩, 0) := by
          rw [← HG.out]
          cases fuel with
          | zero => have := HF.out; have := HJ.out; omega
          | succ k => simp only [go]; rw [if_neg hx]
        have HR := Aside0.mk hr
        clear hr hx
        have hI := HI.out
        have hsize : w.heap.size ≤ wr.heap.size := HB.out.size
        go_wp2_with (go_at_call 39; refine (Tryd.Builder_String_any_k w.heap.size w.heap.size acc _ hI (by omega)).mono ?_)
        rintro e W1 ⟨rfl, _, b1, _⟩
        go_wp2
        go_ret2
        exact ⟨by rw [HR.out]; rfl, HB.out.trans b1⟩
end Go.Proofs.YtigikjihagmokaaDoor.Fill
namespace Go.Proofs.YtigikjihagmokaaDoor.IdentN
open Go.RowKit Go.Proofs.YtigikjihagmokaaDoorW.PrintWords Go.Proofs.YtigikjihagmokaaDoorW.PrintLast Go.Proofs.YtigikjihagmokaaDoorW.PrintMore
set_option linter.unusedVariables false
set_option linter.unusedSimpArgs false
set_option maxHeartbeats 4000000 in
set_option maxRecDepth 100000 in
theorem space (w : World) : Calls Tryd.prog 12 #[.int .i32 110] w fun e w' => e = .returned (.bool false) ∧ w' = w := by
  go_enter Tryd.func12, Tryd.ntmps12
  go_wp2
  go_ret
  exact ⟨rfl, rfl⟩
set_option maxHeartbeats 4000000 in
set_option maxRecDepth 100000 in
theorem syntax_ (w : World) : Calls Tryd.prog 14 #[.int .i32 110] w fun e w' => e = .returned (.bool false) ∧ w' = w := by
  go_enter Tryd.func14, Tryd.ntmps14
  go_wp2
  go_ret
  exact ⟨rfl, rfl⟩
set_option maxHeartbeats 4000000 in
set_option maxRecDepth 100000 in
theorem stray (s : ByteArray) (i : Int) (w : World) : Calls Tryd.prog 33 #[.string s, .int .i64 i, .int .i32 110] w fun e w' => e = .returned (.bool false) ∧ w' = w := by
  go_enter Tryd.func33, Tryd.ntmps33
  go_wp2
  go_ret
  exact ⟨rfl, rfl⟩
theorem dec (pos : Nat) (h : pos < (⟨#[110]⟩ : ByteArray).size) : pos = 0 ∧ Utf8.decode (⟨#[110]⟩ : ByteArray) pos = (110, 1) := by
  have h0 : pos = 0 := by
    have : (⟨#[110]⟩ : ByteArray).size = 1 := rfl
    omega
  subst h0
  have ha : ((⟨#[110]⟩ : ByteArray)[0]'h).toNat < 128 := by show (110 : Nat) < 128; omega
  exact ⟨rfl, decode_ascii _ 0 h ha⟩
set_option maxHeartbeats 4000000 in
set_option maxRecDepth 100000 in
theorem calls (w : World) : Calls Tryd.prog 17 #[.string ⟨#[110]⟩] w fun e w' => e = .returned (.int .i64 1) ∧ Below w.heap.size w w' := by
  go_enter Tryd.func17, Tryd.ntmps17
  go_wp2
  go_loopw [] (fun wr => ∃ (pos : Nat), wr.heap[w.heap.size]? = some (.stringIter ⟨#[110]⟩ pos) ∧ Below w.heap.size w wr) (fun wr => 1 - wr.iterPos w.heap.size)
  case atStart =>
    refine ⟨0, ?_, (Below.refl _ w).alloc (Nat.le_refl _) _⟩
    have := World.iter_heap w (⟨#[110]⟩ : ByteArray) 0
    simpa using this
  case round =>
    obtain ⟨pos, hit, hbw⟩ := hrel
    have hsz : w.heap.size < wr.heap.size := (Array.getElem?_eq_some_iff.1 hit).1
    by_cases hp : pos < (⟨#[110]⟩ : ByteArray).size
    · obtain ⟨h0, hd⟩ := dec pos hp
      have hnx : ∀ ty, (Instr.next (.pointer (some ⟨w.heap.size, 0, none⟩)) true ty).run Tryd.prog wr = _ := fun ty => Lib.run_next_any_at wr w.heap.size _ pos ty hit hp
      have hit2 := Lib.iterAt_heap wr w.heap.size _ pos (pos + (Utf8.decode (⟨#[110]⟩ : ByteArray) pos).2) hit
      have hbw2 := Lib.below_iterAt hbw (k := w.heap.size) (by omega) (⟨#[110]⟩ : ByteArray) (pos + (Utf8.decode (⟨#[110]⟩ : ByteArray) pos).2)
      rw [hd] at hnx hit2 hbw2
      subst h0
      go_wp2_with (first | (go_at_call 12; refine (space _).mono ?_; rintro e W1 ⟨rfl, rfl⟩) | (go_at_call 14; refine (syntax_ _).mono ?_; rintro e W1 ⟨rfl, rfl⟩) | (go_at_call 33; refine (stray _ _ _).mono ?_; rintro e W1 ⟨rfl, rfl⟩))
      go_roundw
      case rel => exact ⟨_, hit2, hbw2⟩
      case measure => simp only [World.iterPos, hit2, hit]; omega
    · have hnx : ∀ ty, (Instr.next (.pointer (some ⟨w.heap.size, 0, none⟩)) true ty).run Tryd.prog wr = _ := fun ty => Lib.run_next_end_at wr w.heap.size _ pos ty hit hp
      go_wp2
      go_ret
      exact ⟨rfl, hbw⟩
end Go.Proofs.YtigikjihagmokaaDoor.IdentN
namespace Go.Proofs.YtigikjihagmokaaDoor.F
open Go.RowKit Go.Proofs.YtigikjihagmokaaDoorW.PrintWords Go.Proofs.YtigikjihagmokaaDoorW.PrintLast Go.Proofs.YtigikjihagmokaaDoorW.PrintMore Go.Proofs.YtigikjihagmokaaDoor.Q
attribute [local go_sem] max2_int min2_int max_two min_two max_three min_three max_four min_four   -- for this text's walks alone
set_option linter.unusedVariables false
set_option linter.unusedSimpArgs false

/-- At the one text that 'awake' asks of. -/
def runes_Ident.f (a0 : ByteArray) : Option (Int) := if a0.toList = [110] then some 1 else none
theorem runes_Ident.calls (a0 : ByteArray) (r : Int) (w : World) (h : runes_Ident.f a0 = some r) :
 Calls Tryd.prog 17 #[.string a0] w fun e w' => e = .returned (.int .i64 r) ∧ Below w.heap.size w w' := by
 unfold runes_Ident.f at h
 split at h
 · rename_i ha
   have e : a0 = ⟨#[110]⟩ := by
    obtain ⟨⟨l⟩⟩ := a0
    rw [ByteArray.toList_eq] at ha
    simp at ha
    rw [ha]
   obtain rfl := Option.some.inj h
   subst e
   exact IdentN.calls w
 · cases h

def runes_Fill.f (a0 : ByteArray) (l1 : List ByteArray) : Option (ByteArray × Int) := some (Fill.f a0 l1)
theorem runes_Fill.calls (a0 : ByteArray) (A1 : Option Addr) (c1 : Nat) (l1 : List ByteArray) (r1 : ByteArray) (r2 : Int) (w : World) (hr1 : Kd.C Kd.string w A1 l1.length l1) (hc1 : l1.length ≤ c1) (h : runes_Fill.f a0 l1 = some (r1, r2)) :
 Calls Tryd.prog 19 #[.string a0, .slice A1 l1.length c1] w fun e w' => e = .returned (.tuple #[.string r1, .int .i64 r2]) ∧ Below w.heap.size w w' := by
 have e : Fill.f a0 l1 = (r1, r2) := Option.some.inj h
 have c := Fill.calls a0 A1 c1 l1 w hr1 hc1
 rw [e] at c
 exact c

def idiomlaw01_awake.f  : Option (Bool) := (runes_Fill.f (⟨#[123, 49, 125, 45, 123, 48, 125]⟩ : ByteArray) (([(⟨#[97]⟩ : ByteArray), (⟨#[98]⟩ : ByteArray)] : List ByteArray))).bind fun bt114 => (if bt114.1.toList = ([98, 45, 97] : List UInt8) then (if bt114.2 = 0 then ((runes_Ident.f (⟨#[110]⟩ : ByteArray)).bind fun t116 => (some (t116 == 1))) else (some false)) else (some false))
set_option maxHeartbeats 8000000 in
set_option maxRecDepth 100000 in
theorem idiomlaw01_awake.calls  (r : Bool) (w : World) (h : idiomlaw01_awake.f  = some r) :
 Calls Tryd.prog 16 #[] w fun e w' => e = .returned (.bool r) ∧ Below w.heap.size w w' := by
 have HB := Aside0.mk (Below.refl w.heap.size w)
 have H : ((runes_Fill.f (⟨#[123, 49, 125, 45, 123, 48, 125]⟩ : ByteArray) (([(⟨#[97]⟩ : ByteArray), (⟨#[98]⟩ : ByteArray)] : List ByteArray))).bind fun bt114 => (if bt114.1.toList = ([98, 45, 97] : List UInt8) then (if bt114.2 = 0 then ((runes_Ident.f (⟨#[110]⟩ : ByteArray)).bind fun t116 => (some (t116 == 1))) else (some false)) else (some false))) = some r := h
 clear h
 obtain ⟨y111, hy111⟩ : ∃ y_ : List ByteArray, y_ = (([(⟨#[97]⟩ : ByteArray), (⟨#[98]⟩ : ByteArray)] : List ByteArray)) := ⟨_, rfl⟩
 replace H : ((runes_Fill.f (⟨#[123, 49, 125, 45, 123, 48, 125]⟩ : ByteArray) y111).bind fun bt114 => (if bt114.1.toList = ([98, 45, 97] : List UInt8) then (if bt114.2 = 0 then ((runes_Ident.f (⟨#[110]⟩ : ByteArray)).bind fun t116 => (some (t116 == 1))) else (some false)) else (some false))) = some r := by first | (rw [hy111]; with_reducible exact H) | (have H2_ := (Option.bind_some _ _).symm.trans H; rw [hy111]; with_reducible exact H2_) | (have H2_ := (Option.bind_some _ _).symm.trans H; with_reducible exact H2_) | with_reducible exact H | (rw [hy111]; exact H) | exact H
 have Ny111 := Aside0.mk hy111
 clear hy111
 replace H := Option.bind_eq_some_iff.mp H
 obtain ⟨⟨t114, t115⟩, A10, H⟩ := H
 replace H : (if t114.toList = ([98, 45, 97] : List UInt8) then (if t115 = 0 then ((runes_Ident.f (⟨#[110]⟩ : ByteArray)).bind fun t116 => (some (t116 == 1))) else (some false)) else (some false)) = some r := H
 have A1 := Aside0.mk A10
 clear A10
 by_cases c2 : t114.toList = ([98, 45, 97] : List UInt8)
 · rw [if_pos c2] at H
   have c2b0 : (t114.toList == ([98, 45, 97] : List UInt8)) = true := beq_iff_eq.mpr c2
   have c2b1 : (t114.toList != ([98, 45, 97] : List UInt8)) = false := bne_eq_false_iff_eq.mpr c2
   clear c2
   by_cases c3 : t115 = 0
   · rw [if_pos c3] at H
     have c3b0 : (t115 == 0) = true := beq_iff_eq.mpr c3
     have c3b1 : (t115 != 0) = false := bne_eq_false_iff_eq.mpr c3
     try have c3b1z := c3b1
     (try simp only [bne] at c3b1z)
     clear c3
     replace H := Option.bind_eq_some_iff.mp H
     obtain ⟨t116, A40, H⟩ := H
     replace H : (some (t116 == 1)) = some r := H
     have A4 := Aside0.mk A40
     clear A40
     obtain rfl := Option.some.inj H
     go_enter Tryd.func16, Tryd.ntmps16
     go_wp2_with (first | ((with_reducible refine gate_dst (N := 4) rfl ?_); refine Kd.R_lit Kd.string _ 9 ?hg (N := 4) ?hd (xs := ([(⟨#[97]⟩ : ByteArray), (⟨#[98]⟩ : ByteArray)] : List ByteArray)) (inner := [.string (⟨#[97]⟩ : ByteArray), .string (⟨#[98]⟩ : ByteArray)]) (ok := fun _ => True) (okp := fun _ => True) ?hr ?hp (fun _ hk => hk) trivial (Below.refl _ _) (Nat.le_refl _) (by simp) ?_; (case hd => rfl); (case hg => rfl); (case hr => first | (go_simp; done) | (go_simp; rfl)); (case hp => exact (Reps.one (show Kd.M Kd.string _ _ _ (⟨#[97]⟩ : ByteArray) [.string (⟨#[97]⟩ : ByteArray)] from rfl) (Reps.one (show Kd.M Kd.string _ _ _ (⟨#[98]⟩ : ByteArray) [.string (⟨#[98]⟩ : ByteArray)] from rfl) (Reps.none _ _)))); intro v112 w5 ho6 hb hg_ hnew_; clear hg_ hnew_; (first | rw [← Ny111.out] at ho6 | (simp only [Int.reduceToNat] at ho6; rw [← Ny111.out] at ho6)); have HO113 := Aside0.mk (Kd.R_lower ho6 (below_size (qh HB))); replace HB := qn HB hb; clear hb ho6; obtain ⟨Ao7, co7, eo7⟩ := Kd.R_slice HO113.out; subst eo7) | ((with_reducible refine gate_callee (f := 19) rfl ?_); refine goesL_ (some 5) rfl rfl Tryd.func19 (by kernel_rfl) rfl #[.string (⟨#[123, 49, 125, 45, 123, 48, 125]⟩ : ByteArray), .slice Ao7 y111.length co7] rfl ql ?_; (with_reducible refine (runes_Fill.calls (⟨#[123, 49, 125, 45, 123, 48, 125]⟩ : ByteArray) _ _ y111 t114 t115 _ ?side1 ?side2 A1.out).mono ?_); (case side1 => repeat (first | exact (Kd.R_reads' HO113.out).2.2 | (with_reducible refine Kd.C_alloc ?_ _) | (with_reducible refine Kd.C_drewN ?_ _) | (with_reducible refine Kd.C_drew ?_))); (case side2 => exact (Kd.R_reads' HO113.out).2.1); rintro e w8 ⟨rfl, hb⟩; refine ⟨_, rfl, ?_⟩; replace HO113 := Aside0.mk (Kd.R_below (by (with_reducible repeat (first | apply Kd.R_alloc | apply Kd.R_drewN | apply Kd.R_drew)); exact HO113.out) hb); replace HB := qn HB hb; (try clear hb); (try clear hb2); (try clear hk); (try clear hi)) | (go_at_call 17; (with_reducible refine (runes_Ident.calls (⟨#[110]⟩ : ByteArray) t116 _ A4.out).mono ?_); rintro e w9 ⟨rfl, hb⟩; replace HO113 := Aside0.mk (Kd.R_below (by (with_reducible repeat (first | apply Kd.R_alloc | apply Kd.R_drewN | apply Kd.R_drew)); exact HO113.out) hb); replace HB := qn HB hb; (try clear hb); (try clear hb2); (try clear hk); (try clear hi)))
     go_ret
     exact ⟨qe, qh HB⟩
   · rw [if_neg c3] at H
     have c3b0 : (t115 == 0) = false := beq_eq_false_iff_ne.mpr c3
     have c3b1 : (t115 != 0) = true := bne_iff_ne.mpr c3
     try have c3b1z := c3b1
     (try simp only [bne] at c3b1z)
     obtain rfl := Option.some.inj H
     go_enter Tryd.func16, Tryd.ntmps16
     go_wp2_with (first | ((with_reducible refine gate_dst (N := 4) rfl ?_); refine Kd.R_lit Kd.string _ 9 ?hg (N := 4) ?hd (xs := ([(⟨#[97]⟩ : ByteArray), (⟨#[98]⟩ : ByteArray)] : List ByteArray)) (inner := [.string (⟨#[97]⟩ : ByteArray), .string (⟨#[98]⟩ : ByteArray)]) (ok := fun _ => True) (okp := fun _ => True) ?hr ?hp (fun _ hk => hk) trivial (Below.refl _ _) (Nat.le_refl _) (by simp) ?_; (case hd => rfl); (case hg => rfl); (case hr => first | (go_simp; done) | (go_simp; rfl)); (case hp => exact (Reps.one (show Kd.M Kd.string _ _ _ (⟨#[97]⟩ : ByteArray) [.string (⟨#[97]⟩ : ByteArray)] from rfl) (Reps.one (show Kd.M Kd.string _ _ _ (⟨#[98]⟩ : ByteArray) [.string (⟨#[98]⟩ : ByteArray)] from rfl) (Reps.none _ _)))); intro v112 w10 ho11 hb hg_ hnew_; clear hg_ hnew_; (first | rw [← Ny111.out] at ho11 | (simp only [Int.reduceToNat] at ho11; rw [← Ny111.out] at ho11)); have HO113 := Aside0.mk (Kd.R_lower ho11 (below_size (qh HB))); replace HB := qn HB hb; clear hb ho11; obtain ⟨Ao12, co12, eo12⟩ := Kd.R_slice HO113.out; subst eo12) | ((with_reducible refine gate_callee (f := 19) rfl ?_); refine goesL_ (some 5) rfl rfl Tryd.func19 (by kernel_rfl) rfl #[.string (⟨#[123, 49, 125, 45, 123, 48, 125]⟩ : ByteArray), .slice Ao12 y111.length co12] rfl ql ?_; (with_reducible refine (runes_Fill.calls (⟨#[123, 49, 125, 45, 123, 48, 125]⟩ : ByteArray) _ _ y111 t114 t115 _ ?side1 ?side2 A1.out).mono ?_); (case side1 => repeat (first | exact (Kd.R_reads' HO113.out).2.2 | (with_reducible refine Kd.C_alloc ?_ _) | (with_reducible refine Kd.C_drewN ?_ _) | (with_reducible refine Kd.C_drew ?_))); (case side2 => exact (Kd.R_reads' HO113.out).2.1); rintro e w13 ⟨rfl, hb⟩; refine ⟨_, rfl, ?_⟩; replace HO113 := Aside0.mk (Kd.R_below (by (with_reducible repeat (first | apply Kd.R_alloc | apply Kd.R_drewN | apply Kd.R_drew)); exact HO113.out) hb); replace HB := qn HB hb; (try clear hb); (try clear hb2); (try clear hk); (try clear hi)))
     go_ret
     exact ⟨qe, qh HB⟩
 · rw [if_neg c2] at H
   have c2b0 : (t114.toList == ([98, 45, 97] : List UInt8)) = false := beq_eq_false_iff_ne.mpr c2
   have c2b1 : (t114.toList != ([98, 45, 97] : List UInt8)) = true := bne_iff_ne.mpr c2
   obtain rfl := Option.some.inj H
   go_enter Tryd.func16, Tryd.ntmps16
   go_wp2_with (first | ((with_reducible refine gate_dst (N := 4) rfl ?_); refine Kd.R_lit Kd.string _ 9 ?hg (N := 4) ?hd (xs := ([(⟨#[97]⟩ : ByteArray), (⟨#[98]⟩ : ByteArray)] : List ByteArray)) (inner := [.string (⟨#[97]⟩ : ByteArray), .string (⟨#[98]⟩ : ByteArray)]) (ok := fun _ => True) (okp := fun _ => True) ?hr ?hp (fun _ hk => hk) trivial (Below.refl _ _) (Nat.le_refl _) (by simp) ?_; (case hd => rfl); (case hg => rfl); (case hr => first | (go_simp; done) | (go_simp; rfl)); (case hp => exact (Reps.one (show Kd.M Kd.string _ _ _ (⟨#[97]⟩ : ByteArray) [.string (⟨#[97]⟩ : ByteArray)] from rfl) (Reps.one (show Kd.M Kd.string _ _ _ (⟨#[98]⟩ : ByteArray) [.string (⟨#[98]⟩ : ByteArray)] from rfl) (Reps.none _ _)))); intro v112 w14 ho15 hb hg_ hnew_; clear hg_ hnew_; (first | rw [← Ny111.out] at ho15 | (simp only [Int.reduceToNat] at ho15; rw [← Ny111.out] at ho15)); have HO113 := Aside0.mk (Kd.R_lower ho15 (below_size (qh HB))); replace HB := qn HB hb; clear hb ho15; obtain ⟨Ao16, co16, eo16⟩ := Kd.R_slice HO113.out; subst eo16) | ((with_reducible refine gate_callee (f := 19) rfl ?_); refine goesL_ (some 5) rfl rfl Tryd.func19 (by kernel_rfl) rfl #[.string (⟨#[123, 49, 125, 45, 123, 48, 125]⟩ : ByteArray), .slice Ao16 y111.length co16] rfl ql ?_; (with_reducible refine (runes_Fill.calls (⟨#[123, 49, 125, 45, 123, 48, 125]⟩ : ByteArray) _ _ y111 t114 t115 _ ?side1 ?side2 A1.out).mono ?_); (case side1 => repeat (first | exact (Kd.R_reads' HO113.out).2.2 | (with_reducible refine Kd.C_alloc ?_ _) | (with_reducible refine Kd.C_drewN ?_ _) | (with_reducible refine Kd.C_drew ?_))); (case side2 => exact (Kd.R_reads' HO113.out).2.1); rintro e w17 ⟨rfl, hb⟩; refine ⟨_, rfl, ?_⟩; replace HO113 := Aside0.mk (Kd.R_below (by (with_reducible repeat (first | apply Kd.R_alloc | apply Kd.R_drewN | apply Kd.R_drew)); exact HO113.out) hb); replace HB := qn HB hb; (try clear hb); (try clear hb2); (try clear hk); (try clear hi)))
   go_ret
   exact ⟨qe, qh HB⟩

end Go.Proofs.YtigikjihagmokaaDoor.F
namespace Go.Proofs.YtigikjihagmokaaDoor.Stray
open Go.RowKit Go.Proofs.YtigikjihagmokaaDoorW.PrintWords Go.Proofs.YtigikjihagmokaaDoorW.PrintLast Go.Proofs.YtigikjihagmokaaDoorW.PrintMore Go.Proofs.YtigikjihagmokaaDoor.Aid
set_option linter.unusedVariables false
set_option linter.unusedSimpArgs false
/-- Go's tables of UTF-8 lie in a world. -/
abbrev Tabs (w : World) : Prop := Lib.Utf8Tabs 0 1 w
theorem Tabs.below {w w' : World} (h : Tabs w) (hb : Below w.heap.size w w') : Tabs w' := Utf8Tabs_below h hb
/-- Is what stands at a place one byte that is part of no rune? -/
def strayB (s : ByteArray) (pos : Nat) : Bool := decide (Utf8.decode s pos = (65533, 1))
theorem decode_rest (s : ByteArray) (pos : Nat) (h : pos < s.size) : Lib.decodeGo (s.extract pos s.size) = Utf8.decode s pos := by
  have e := Lib.decodeL_drop s pos
  rw [← e]
  have hs : s.extract pos s.size = ⟨(s.data.toList.drop pos).toArray⟩ := by
    apply ByteArray.ext
    rw [ByteArray.data_extract]
    apply Array.toList_inj.1
    rw [Array.toList_extract, List.extract_eq_take_drop]
    simp only []
    rw [List.take_of_length_le]
    rw [List.length_drop, Array.length_toList]
    exact Nat.le_refl _
  rw [hs]
  have h0 : (⟨(s.data.toList.drop pos).toArray⟩ : ByteArray).size ≠ 0 := by
    show (s.data.toList.drop pos).toArray.size ≠ 0
    rw [List.size_toArray, List.length_drop, Array.length_toList]
    have : s.data.size = s.size := rfl
    omega
  unfold Lib.decodeGo
  rw [if_neg h0]
  rfl
theorem width (s : ByteArray) (pos : Nat) (h : pos < s.size) : 1 ≤ (Utf8.decode s pos).2 := by
  by_cases ha : (s[pos]'h).toNat < 128
  · rw [decode_ascii s pos h ha]
    exact Nat.le_refl _
  · exact (decode_high s pos h (by omega)).2
set_option maxHeartbeats 4000000 in
set_option maxRecDepth 100000 in
theorem stray (s : ByteArray) (pos : Nat) (hp : pos < s.size) (hs : s.size ≤ 9223372036854775807) (w : World) (hT : Tabs w) : Calls Tryd.prog 33 #[.string s, .int .i64 pos, .int .i32 (Utf8.decode s pos).1] w fun e w' => e = .returned (.bool (strayB s pos)) ∧ Below w.heap.size w w' := by
  have hrest := decode_rest s pos hp
  go_enter Tryd.func33, Tryd.ntmps33
  by_cases h : (Utf8.decode s pos).1 = 65533
  · have hb : (((Utf8.decode s pos).1 : Int) != 65533) = false := bne_eq_false_iff_eq.mpr (by omega)
    have c := Tryd.utf8_DecodeRuneInString (s.extract pos s.size) w hT
    rw [hrest] at c
    have p1 : (0 ≤ (pos : Int)) = True := eq_true (by omega)
    have p2 : ((pos : Int) ≤ (s.size : Int)) = True := eq_true (by omega)
    have p3 : pos ≤ s.size := by omega
    have hq : strayB s pos = ((((Utf8.decode s pos).2 : Nat) : Int) == 1) := by
      unfold strayB
      rw [Bool.eq_iff_iff, decide_eq_true_eq, beq_iff_eq]
      constructor
      · intro e; rw [e]; rfl
      · intro e
        have e2 : (Utf8.decode s pos).2 = 1 := by omega
        exact Prod.ext h e2
    generalize Utf8.decode s pos = d at *
    clear hrest
    go_wp2_with (go_at_call 49; refine c.mono ?_)
    rintro e W1 ⟨rfl, hb1⟩
    go_wp2
    go_ret
    exact ⟨by rw [hq]; rfl, hb1⟩
  · have hb : (((Utf8.decode s pos).1 : Int) != 65533) = true := bne_iff_ne.mpr (by omega)
    have hq : strayB s pos = false := by
      unfold strayB
      exact decide_eq_false (fun e => h (by rw [e]))
    go_wp2
    go_ret
    exact ⟨by rw [hq]; rfl, Below.refl _ _⟩

end Go.Proofs.YtigikjihagmokaaDoor.Stray
namespace Go.Proofs.YtigikjihagmokaaDoor.Trim
open Go.RowKit Go.Proofs.YtigikjihagmokaaDoorW.PrintWords Go.Proofs.YtigikjihagmokaaDoorW.PrintLast Go.Proofs.YtigikjihagmokaaDoorW.PrintMore Go.Proofs.YtigikjihagmokaaDoor.Stray
set_option linter.unusedVariables false
set_option linter.unusedSimpArgs false
def spaceB (r : Int) : Bool := decide (r = 9 ∨ r = 10 ∨ r = 11 ∨ r = 12 ∨ r = 13 ∨ r = 32 ∨ r = 133 ∨ r = 8206 ∨ r = 8207 ∨ r = 8232 ∨ r = 8233)
set_option maxHeartbeats 4000000 in
set_option maxRecDepth 100000 in
theorem space (r : Int) (w : World) : Calls Tryd.prog 12 #[.int .i32 r] w fun e w' => e = .returned (.bool (spaceB r)) ∧ w' = w := by
  by_cases h : r = 9 ∨ r = 10 ∨ r = 11 ∨ r = 12 ∨ r = 13 ∨ r = 32 ∨ r = 133 ∨ r = 8206 ∨ r = 8207 ∨ r = 8232 ∨ r = 8233
  · have hs : spaceB r = true := decide_eq_true h
    rw [hs]
    rcases h with h | h | h | h | h | h | h | h | h | h | h <;> subst h <;> clear hs <;> (go_enter Tryd.func12, Tryd.ntmps12; go_wp2; go_ret; exact ⟨rfl, rfl⟩)
  · have hs : spaceB r = false := decide_eq_false h
    rw [hs]
    have e1 : (r == 9) = false := beq_eq_false_iff_ne.mpr (by omega)
    have e2 : (r == 10) = false := beq_eq_false_iff_ne.mpr (by omega)
    have e3 : (r == 11) = false := beq_eq_false_iff_ne.mpr (by omega)
    have e4 : (r == 12) = false := beq_eq_false_iff_ne.mpr (by omega)
    have e5 : (r == 13) = false := beq_eq_false_iff_ne.mpr (by omega)
    have e6 : (r == 32) = false := beq_eq_false_iff_ne.mpr (by omega)
    have e7 : (r == 133) = false := beq_eq_false_iff_ne.mpr (by omega)
    have e8 : (r == 8206) = false := beq_eq_false_iff_ne.mpr (by omega)
    have e9 : (r == 8207) = false := beq_eq_false_iff_ne.mpr (by omega)
    have e10 : (r == 8232) = false := beq_eq_false_iff_ne.mpr (by omega)
    have e11 : (r == 8233) = false := beq_eq_false_iff_ne.mpr (by omega)
    clear h hs
    go_enter Tryd.func12, Tryd.ntmps12
    go_wp2
    go_ret
    exact ⟨rfl, rfl⟩
theorem len_ok (s : ByteArray) (pos : Nat) (h : Utf8.decode s pos ≠ (65533, 1)) : Lib.runeLen ((Utf8.decode s pos).1 : Int) = ((Utf8.decode s pos).2 : Int) := by
  rw [Lib.decode_N] at h ⊢
  have b0 := ((s.data.toList.getD pos 0)).toNat_lt
  generalize ((s.data.toList.getD pos 0)).toNat = x0 at *
  generalize ((s.data.toList.getD (pos + 1) 0)).toNat = x1 at *
  generalize ((s.data.toList.getD (pos + 2) 0)).toNat = x2 at *
  generalize ((s.data.toList.getD (pos + 3) 0)).toNat = x3 at *
  rcases Lib.decodeN_shape (s.data.toList.length - pos) x0 x1 x2 x3 with ⟨c, e⟩ | ⟨c1, c2, c3, cv, e⟩ | ⟨c1, c2, c3, c4, cv, cs, e⟩ | ⟨c1, c2, c3, c4, c5, cv, cw, e⟩ | e
  · rw [e]; simp only [Lib.runeLen]; rw [if_neg (by omega), if_pos (by omega)]; rfl
  · rw [e]; simp only [Lib.runeLen]; rw [if_neg (by omega), if_neg (by omega), if_pos (by omega)]; rfl
  · rw [e]; simp only [Lib.runeLen]; rw [if_neg (by omega), if_neg (by omega), if_neg (by omega), if_neg (by omega), if_pos (by omega)]; rfl
  · rw [e]; simp only [Lib.runeLen]; rw [if_neg (by omega), if_neg (by omega), if_neg (by omega), if_neg (by omega), if_neg (by omega), if_pos (by omega)]; rfl
  · exact absurd e h
theorem fits (s : ByteArray) (i : Nat) (h : i < s.size) : i + (Utf8.decode s i).2 ≤ s.size := by
  have h2 : s.data.size = s.size := rfl
  have e := Lib.decodeL_le (s.data.toList.drop i) (fun e => by
    have := congrArg List.length e
    rw [List.length_drop, Array.length_toList] at this
    simp at this
    omega)
  rw [Lib.decodeL_drop, List.length_drop, Array.length_toList] at e
  omega

/-- Where what is no white space begins, and where it ends (0: nowhere). -/
def go (s : ByteArray) : Nat → Nat → Int → Int → Int × Int
  | 0, _, a, b => (a, b)
  | k + 1, pos, a, b => if pos < s.size then (if spaceB ((Utf8.decode s pos).1 : Int) = true then go s k (pos + (Utf8.decode s pos).2) a b
      else go s k (pos + (Utf8.decode s pos).2) (if (pos : Int) < a then (pos : Int) else a) ((pos + (Utf8.decode s pos).2 : Nat) : Int)) else (a, b)
def trim (s : ByteArray) : ByteArray := if (go s (s.size + 1) 0 (s.size : Int) 0).2 = 0 then ⟨#[]⟩ else s.extract (go s (s.size + 1) 0 (s.size : Int) 0).1.toNat (go s (s.size + 1) 0 (s.size : Int) 0).2.toNat
theorem go_end (s : ByteArray) (k pos : Nat) (a b : Int) (h : ¬ pos < s.size) : go s k pos a b = (a, b) := by
  cases k with
  | zero => rfl
  | succ k => simp only [go]; rw [if_neg h]
set_option maxHeartbeats 4000000 in
set_option maxRecDepth 100000 in
theorem trimCalls (s : ByteArray) (hs : s.size ≤ 140737488351232) (w : World) (hT : Tabs w) : Calls Tryd.prog 23 #[.string s] w fun e w' => e = .returned (.string (trim s)) ∧ Below w.heap.size w w' := by
  have HS := Aside0.mk hs
  clear hs
  go_enter Tryd.func23, Tryd.ntmps23
  go_wp2
  go_loopw [3, 4] (fun va vb wr => ∃ (pos fuel : Nat) (a b : Int), va = .int .i64 a ∧ vb = .int .i64 b ∧ wr.heap[w.heap.size]? = some (.stringIter s pos) ∧ Aside0 (Below w.heap.size w wr) ∧ Aside0 (go s fuel pos a b = go s (s.size + 1) 0 (s.size : Int) 0) ∧ Aside0 (s.size + 1 ≤ pos + fuel) ∧ Aside0 (pos ≤ s.size ∧ 0 ≤ a ∧ a ≤ s.size ∧ 0 ≤ b ∧ b ≤ pos ∧ (b ≠ 0 → a ≤ b))) (fun _ _ wr => s.size - wr.iterPos w.heap.size)
  case atStart =>
    refine ⟨0, s.size + 1, (s.size : Int), 0, rfl, rfl, ?_, ⟨(Below.refl _ w).alloc (Nat.le_refl _) _⟩, ⟨rfl⟩, ⟨by omega⟩, ⟨by omega⟩⟩
    have := World.iter_heap w s 0
    simpa using this
  case round =>
    obtain ⟨pos, fuel, a, b, rfl, rfl, hit, HB, HF, HL, HV⟩ := hrel
    have hsz : w.heap.size < wr.heap.size := (Array.getElem?_eq_some_iff.1 hit).1
    by_cases hp : pos < s.size
    · have hnx : ∀ ty, (Instr.next (.pointer (some ⟨w.heap.size, 0, none⟩)) true ty).run Tryd.prog wr = _ := fun ty => Lib.run_next_any_at wr w.heap.size s pos ty hit hp
      have hwd := width s pos hp
      have hft := fits s pos hp
      have hit2 := Lib.iterAt_heap wr w.heap.size s pos (pos + (Utf8.decode s pos).2) hit
      have hbw2 := Lib.below_iterAt HB.out (k := w.heap.size) (by omega) s (pos + (Utf8.decode s pos).2)
      have hlt2 : w.heap.size < (wr.iterAt w.heap.size s (pos + (Utf8.decode s pos).2)).heap.size := by rw [Lib.iterAt_size]; exact hsz
      have cs := space ((Utf8.decode s pos).1 : Int) (wr.iterAt w.heap.size s (pos + (Utf8.decode s pos).2))
      by_cases hsp : spaceB ((Utf8.decode s pos).1 : Int) = true
      · rw [hsp] at cs
        go_wp2_with (go_at_call 12; refine cs.mono ?_)
        rintro e W1 ⟨rfl, rfl⟩
        go_wp2
        go_roundw
        case rel =>
          obtain ⟨k, rfl⟩ : ∃ k, fuel = k + 1 := ⟨fuel - 1, by have := HL.out; omega⟩
          refine ⟨_, k, a, b, rfl, rfl, hit2, ⟨hbw2⟩, ⟨?_⟩, ⟨by have := HL.out; omega⟩, ⟨by have := HV.out; omega⟩⟩
          rw [← HF.out]
          simp only [go]
          rw [if_pos hp, if_pos hsp]
        case measure => simp only [World.iterPos, hit2, hit]; omega
      · have hsp' : spaceB ((Utf8.decode s pos).1 : Int) = false := by simpa using hsp
        rw [hsp'] at cs
        have cl := Tryd.utf8_RuneLen ((Utf8.decode s pos).1 : Int) (wr.iterAt w.heap.size s (pos + (Utf8.decode s pos).2))
        have ct := stray s pos hp (by have := HS.out; omega) _ (hT.below hbw2)
        obtain ⟨m, Hm⟩ : ∃ m : Int, Aside0 (m = if (pos : Int) < a then (pos : Int) else a) := ⟨_, ⟨rfl⟩⟩
        have HR : Aside0 (go s (fuel - 1) (pos + (Utf8.decode s pos).2) m ((pos + (Utf8.decode s pos).2 : Nat) : Int) = go s (s.size + 1) 0 (s.size : Int) 0) := ⟨by
          rw [← HF.out, Hm.out]
          obtain ⟨k, rfl⟩ : ∃ k, fuel = k + 1 := ⟨fuel - 1, by have := HL.out; omega⟩
          simp only [go]
          rw [if_pos hp, if_neg hsp]
          rfl⟩
        by_cases hc : (pos : Int) < a
        · have hc1 : decide ((pos : Int) < a) = true := decide_eq_true hc
          have HC := Aside0.mk hc
          clear hc
          by_cases hst : strayB s pos = true
          · have hd : Utf8.decode s pos = (65533, 1) := of_decide_eq_true hst
            rw [hst] at ct
            have hw1 : (Utf8.decode s pos).2 = 1 := by rw [hd]
            have W1_ : Aside0 (IntKind.i64.wrap ((pos : Int) + 1) = ((pos + (Utf8.decode s pos).2 : Nat) : Int)) := ⟨by rw [i64_w, hw1]; unfold wrap64; have := HS.out; omega⟩
            obtain ⟨y, hy⟩ : ∃ y : Int, IntKind.i64.wrap ((pos : Int) + Lib.runeLen ((Utf8.decode s pos).1 : Int)) = y := ⟨_, rfl⟩
            have w1 := W1_.out
            clear hd hw1
            go_wp2_with (first | (go_at_call 12; refine cs.mono ?_; rintro e W1 ⟨rfl, rfl⟩) | (go_at_call 42; refine cl.mono ?_; rintro e W1 ⟨rfl, rfl⟩) | (go_at_call 33; refine ct.mono ?_))
            rintro e W1 ⟨rfl, b1⟩
            have hit3 : W1.heap[w.heap.size]? = some (.stringIter s (pos + (Utf8.decode s pos).2)) := (b1.block _ hlt2).trans hit2
            go_wp2
            go_roundw
            case rel =>
              clear w1 hy
              refine ⟨_, fuel - 1, m, _, congrArg (Value.int IntKind.i64) (by have h1 := Hm.out; rw [if_pos (by have := HC.out; omega)] at h1; have := HC.out; omega), rfl, hit3, ⟨below_then hbw2 hbw2.size b1⟩, HR, ⟨by have := HL.out; omega⟩, ⟨by have h1 := HV.out; have h2 := Hm.out; rw [if_pos (by have := HC.out; omega)] at h2; have h3 := HC.out; omega⟩⟩
            case measure => clear w1 hy; simp only [World.iterPos, hit3, hit]; omega
          · have hst' : strayB s pos = false := by simpa using hst
            have hd : Utf8.decode s pos ≠ (65533, 1) := fun e => hst (decide_eq_true e)
            rw [hst'] at ct
            have W1_ : Aside0 (IntKind.i64.wrap ((pos : Int) + Lib.runeLen ((Utf8.decode s pos).1 : Int)) = ((pos + (Utf8.decode s pos).2 : Nat) : Int)) := ⟨by rw [i64_w, len_ok s pos hd]; unfold wrap64; have := HS.out; omega⟩
            have w1 := W1_.out
            clear hd
            go_wp2_with (first | (go_at_call 12; refine cs.mono ?_; rintro e W1 ⟨rfl, rfl⟩) | (go_at_call 42; refine cl.mono ?_; rintro e W1 ⟨rfl, rfl⟩) | (go_at_call 33; refine ct.mono ?_))
            rintro e W1 ⟨rfl, b1⟩
            have hit3 : W1.heap[w.heap.size]? = some (.stringIter s (pos + (Utf8.decode s pos).2)) := (b1.block _ hlt2).trans hit2
            go_wp2
            go_roundw
            case rel =>
              clear w1
              refine ⟨_, fuel - 1, m, _, congrArg (Value.int IntKind.i64) (by have h1 := Hm.out; rw [if_pos (by have := HC.out; omega)] at h1; have := HC.out; omega), rfl, hit3, ⟨below_then hbw2 hbw2.size b1⟩, HR, ⟨by have := HL.out; omega⟩, ⟨by have h1 := HV.out; have h2 := Hm.out; rw [if_pos (by have := HC.out; omega)] at h2; have h3 := HC.out; omega⟩⟩
            case measure => clear w1; simp only [World.iterPos, hit3, hit]; omega
        · have hc1 : decide ((pos : Int) < a) = false := decide_eq_false hc
          have HC := Aside0.mk hc
          clear hc
          by_cases hst : strayB s pos = true
          · have hd : Utf8.decode s pos = (65533, 1) := of_decide_eq_true hst
            rw [hst] at ct
            have hw1 : (Utf8.decode s pos).2 = 1 := by rw [hd]
            have W1_ : Aside0 (IntKind.i64.wrap ((pos : Int) + 1) = ((pos + (Utf8.decode s pos).2 : Nat) : Int)) := ⟨by rw [i64_w, hw1]; unfold wrap64; have := HS.out; omega⟩
            obtain ⟨y, hy⟩ : ∃ y : Int, IntKind.i64.wrap ((pos : Int) + Lib.runeLen ((Utf8.decode s pos).1 : Int)) = y := ⟨_, rfl⟩
            have w1 := W1_.out
            clear hd hw1
            go_wp2_with (first | (go_at_call 12; refine cs.mono ?_; rintro e W1 ⟨rfl, rfl⟩) | (go_at_call 42; refine cl.mono ?_; rintro e W1 ⟨rfl, rfl⟩) | (go_at_call 33; refine ct.mono ?_))
            rintro e W1 ⟨rfl, b1⟩
            have hit3 : W1.heap[w.heap.size]? = some (.stringIter s (pos + (Utf8.decode s pos).2)) := (b1.block _ hlt2).trans hit2
            go_wp2
            go_roundw
            case rel =>
              clear w1 hy
              refine ⟨_, fuel - 1, m, _, congrArg (Value.int IntKind.i64) (by have h1 := Hm.out; rw [if_neg (by have := HC.out; omega)] at h1; have := HC.out; omega), rfl, hit3, ⟨below_then hbw2 hbw2.size b1⟩, HR, ⟨by have := HL.out; omega⟩, ⟨by have h1 := HV.out; have h2 := Hm.out; rw [if_neg (by have := HC.out; omega)] at h2; have h3 := HC.out; omega⟩⟩
            case measure => clear w1 hy; simp only [World.iterPos, hit3, hit]; omega
          · have hst' : strayB s pos = false := by simpa using hst
            have hd : Utf8.decode s pos ≠ (65533, 1) := fun e => hst (decide_eq_true e)
            rw [hst'] at ct
            have W1_ : Aside0 (IntKind.i64.wrap ((pos : Int) + Lib.runeLen ((Utf8.decode s pos).1 : Int)) = ((pos + (Utf8.decode s pos).2 : Nat) : Int)) := ⟨by rw [i64_w, len_ok s pos hd]; unfold wrap64; have := HS.out; omega⟩
            have w1 := W1_.out
            clear hd
            go_wp2_with (first | (go_at_call 12; refine cs.mono ?_; rintro e W1 ⟨rfl, rfl⟩) | (go_at_call 42; refine cl.mono ?_; rintro e W1 ⟨rfl, rfl⟩) | (go_at_call 33; refine ct.mono ?_))
            rintro e W1 ⟨rfl, b1⟩
            have hit3 : W1.heap[w.heap.size]? = some (.stringIter s (pos + (Utf8.decode s pos).2)) := (b1.block _ hlt2).trans hit2
            go_wp2
            go_roundw
            case rel =>
              clear w1
              refine ⟨_, fuel - 1, m, _, congrArg (Value.int IntKind.i64) (by have h1 := Hm.out; rw [if_neg (by have := HC.out; omega)] at h1; have := HC.out; omega), rfl, hit3, ⟨below_then hbw2 hbw2.size b1⟩, HR, ⟨by have := HL.out; omega⟩, ⟨by have h1 := HV.out; have h2 := Hm.out; rw [if_neg (by have := HC.out; omega)] at h2; have h3 := HC.out; omega⟩⟩
            case measure => clear w1; simp only [World.iterPos, hit3, hit]; omega
    · have hnx : ∀ ty, (Instr.next (.pointer (some ⟨w.heap.size, 0, none⟩)) true ty).run Tryd.prog wr = _ := fun ty => Lib.run_next_end_at wr w.heap.size s pos ty hit hp
      have hg := HF.out
      rw [go_end s fuel pos a b hp] at hg
      have hv := HV.out
      by_cases hb : b = 0
      · have e1 : (b == 0) = true := beq_iff_eq.mpr hb
        have hr : Aside0 (trim s = ⟨#[]⟩) := ⟨by unfold trim; rw [← hg, if_pos hb]⟩
        clear hg hv
        go_wp2
        go_ret
        exact ⟨by rw [hr.out]; rfl, HB.out⟩
      · have e1 : (b == 0) = false := beq_eq_false_iff_ne.mpr hb
        have hr : Aside0 (trim s = s.extract a.toNat b.toNat) := ⟨by unfold trim; rw [← hg, if_neg hb]⟩
        have p1 : (0 ≤ a) = True := eq_true hv.2.1
        have p2 : (a ≤ b) = True := eq_true (hv.2.2.2.2.2 hb)
        have p3 : (b ≤ (s.size : Int)) = True := eq_true (by omega)
        clear hg hv
        go_wp2
        go_ret
        exact ⟨by rw [hr.out]; rfl, HB.out⟩
end Go.Proofs.YtigikjihagmokaaDoor.Trim
namespace Go.Proofs.YtigikjihagmokaaDoor.F
open Go.RowKit Go.Proofs.YtigikjihagmokaaDoorW.PrintWords Go.Proofs.YtigikjihagmokaaDoorW.PrintLast Go.Proofs.YtigikjihagmokaaDoorW.PrintMore Go.Proofs.YtigikjihagmokaaDoor.Q
attribute [local go_sem] max2_int min2_int max_two min_two max_three min_three max_four min_four   -- for this text's walks alone
set_option linter.unusedVariables false
set_option linter.unusedSimpArgs false

def runes_Trim.f (a0 : ByteArray) : Option (ByteArray) := if a0.size ≤ 140737488351232 then some (Trim.trim a0) else none
theorem runes_Trim.calls (a0 : ByteArray) (r : ByteArray) (w : World) (h : runes_Trim.f a0 = some r) (hG_ : Stray.Tabs w) :
 Calls Tryd.prog 23 #[.string a0] w fun e w' => e = .returned (.string r) ∧ Below w.heap.size w w' := by
 unfold runes_Trim.f at h
 split at h
 · rename_i hs
   obtain rfl := Option.some.inj h
   exact Trim.trimCalls a0 hs w hG_
 · cases h

end Go.Proofs.YtigikjihagmokaaDoor.F
namespace Go.Proofs.YtigikjihagmokaaDoor.F
open Go.RowKit Go.Proofs.YtigikjihagmokaaDoorW.PrintWords Go.Proofs.YtigikjihagmokaaDoorW.PrintLast Go.Proofs.YtigikjihagmokaaDoorW.PrintMore Go.Proofs.YtigikjihagmokaaDoor.Q
attribute [local go_sem] max2_int min2_int max_two min_two max_three min_three max_four min_four   -- for this text's walks alone
set_option linter.unusedVariables false
set_option linter.unusedSimpArgs false

mutual
def idiomref01_Step.j2 : Nat → ByteArray → Int → Int → Int → Int → Int → Option (Int × Int)
 | 0, _, _, _, _, _, _ => none
 | k + 1, x0, x1, x6, x8, x9, x10 => if x6 < x8 then (some ((-1), 1)) else (idiomref01_Step.l0 k x0 x1 x8 x9 x10 1)
def idiomref01_Step.l0 : Nat → ByteArray → Int → Int → Int → Int → Int → Option (Int × Int)
 | 0, _, _, _, _, _, _ => none
 | k + 1, x0, x1, x8, x9, x10, x11 => if x11 < x8 then (if 0 ≤ (wrap64 (x1 + x11)) then (if (wrap64 (x1 + x11)) < (x0.size : Int) then (if (wrap64 (bt x0 (wrap64 (x1 + x11)))) < 128 then (some ((-1), 1)) else (if (wrap64 (bt x0 (wrap64 (x1 + x11)))) ≥ 192 then (some ((-1), 1)) else (idiomref01_Step.l0 k x0 x1 x8 x9 (wrap64 ((wrap64 ((wrap64 (x10 * 64)) + (wrap64 (bt x0 (wrap64 (x1 + x11)))))) - 128)) (wrap64 (x11 + 1))))) else (none)) else (none)) else (if x10 < x9 then (some ((-1), 1)) else (if x10 > 1114111 then (some ((-1), 1)) else (if x10 ≥ 55296 then (if x10 ≤ 57343 then (some ((-1), 1)) else (some (x10, x8))) else (some (x10, x8)))))
def idiomref01_Step.j0 : Nat → ByteArray → Int → Int → Int → Bool → Option (Int × Int)
 | 0, _, _, _, _, _ => none
 | k + 1, x0, x1, x6, x7, x27 => if x27 = true then (idiomref01_Step.j2 k x0 x1 x6 2 128 (wrap64 (x7 - 192))) else (if x7 ≥ 224 then (idiomref01_Step.j1 k x0 x1 x6 x7 (decide (x7 < 240))) else (idiomref01_Step.j1 k x0 x1 x6 x7 false))
def idiomref01_Step.j1 : Nat → ByteArray → Int → Int → Int → Bool → Option (Int × Int)
 | 0, _, _, _, _, _ => none
 | k + 1, x0, x1, x6, x7, x36 => if x36 = true then (idiomref01_Step.j2 k x0 x1 x6 3 2048 (wrap64 (x7 - 224))) else (if x7 ≥ 240 then (if x7 < 248 then (idiomref01_Step.j2 k x0 x1 x6 4 65536 (wrap64 (x7 - 240))) else (some ((-1), 1))) else (some ((-1), 1)))
end
def idiomref01_Step.f (k : Nat) (a0 : ByteArray) (a1 : Int) : Option (Int × Int) := if (wrap64 ((a0.size : Int) - a1)) ≤ 0 then (some (0, 0)) else (if 0 ≤ a1 then (if a1 < (a0.size : Int) then (if (wrap64 (bt a0 a1)) < 128 then (some (wrap64 (bt a0 a1), 1)) else (if (wrap64 (bt a0 a1)) ≥ 192 then (idiomref01_Step.j0 k a0 a1 (wrap64 ((a0.size : Int) - a1)) (wrap64 (bt a0 a1)) (decide ((wrap64 (bt a0 a1)) < 224))) else (idiomref01_Step.j0 k a0 a1 (wrap64 ((a0.size : Int) - a1)) (wrap64 (bt a0 a1)) false))) else (none)) else (none))
theorem idiomref01_Step.mono_l : ∀ k, (∀ y0 y1 y2 y3 y4 y5, LeO (idiomref01_Step.j2 k y0 y1 y2 y3 y4 y5) (idiomref01_Step.j2 (k + 1) y0 y1 y2 y3 y4 y5)) ∧ (∀ y0 y1 y2 y3 y4 y5, LeO (idiomref01_Step.l0 k y0 y1 y2 y3 y4 y5) (idiomref01_Step.l0 (k + 1) y0 y1 y2 y3 y4 y5)) ∧ (∀ y0 y1 y2 y3 y4, LeO (idiomref01_Step.j0 k y0 y1 y2 y3 y4) (idiomref01_Step.j0 (k + 1) y0 y1 y2 y3 y4)) ∧ (∀ y0 y1 y2 y3 y4, LeO (idiomref01_Step.j1 k y0 y1 y2 y3 y4) (idiomref01_Step.j1 (k + 1) y0 y1 y2 y3 y4))
 | 0 => ⟨fun _ _ _ _ _ _ r h => by simp [idiomref01_Step.j2] at h, fun _ _ _ _ _ _ r h => by simp [idiomref01_Step.l0] at h, fun _ _ _ _ _ r h => by simp [idiomref01_Step.j0] at h, fun _ _ _ _ _ r h => by simp [idiomref01_Step.j1] at h⟩
 | k + 1 => by
  obtain ⟨ih0, ih1, ih2, ih3⟩ := idiomref01_Step.mono_l k
  refine ⟨?_, ?_, ?_, ?_⟩
  · intro y0 y1 y2 y3 y4 y5
    unfold idiomref01_Step.j2
    repeat' first
    | (with_reducible exact ih0 _ _ _ _ _ _)
    | (with_reducible exact ih1 _ _ _ _ _ _)
    | (with_reducible exact ih2 _ _ _ _ _)
    | (with_reducible exact ih3 _ _ _ _ _)
    | (with_reducible exact LeO.refl _)
    | (with_reducible exact LeO.none _)
    | (with_reducible refine LeO.ite ?_ ?_)
    | (with_reducible refine LeO.bind ?_ (fun _ => ?_))
    | exact ih0 _ _ _ _ _ _
    | exact ih1 _ _ _ _ _ _
    | exact ih2 _ _ _ _ _
    | exact ih3 _ _ _ _ _
    | exact LeO.none _
    | refine LeO.ite ?_ ?_
    | refine LeO.bind ?_ (fun _ => ?_)
  · intro y0 y1 y2 y3 y4 y5
    unfold idiomref01_Step.l0
    repeat' first
    | (with_reducible exact ih0 _ _ _ _ _ _)
    | (with_reducible exact ih1 _ _ _ _ _ _)
    | (with_reducible exact ih2 _ _ _ _ _)
    | (with_reducible exact ih3 _ _ _ _ _)
    | (with_reducible exact LeO.refl _)
    | (with_reducible exact LeO.none _)
    | (with_reducible refine LeO.ite ?_ ?_)
    | (with_reducible refine LeO.bind ?_ (fun _ => ?_))
    | exact ih0 _ _ _ _ _ _
    | exact ih1 _ _ _ _ _ _
    | exact ih2 _ _ _ _ _
    | exact ih3 _ _ _ _ _
    | exact LeO.none _
    | refine LeO.ite ?_ ?_
    | refine LeO.bind ?_ (fun _ => ?_)
  · intro y0 y1 y2 y3 y4
    unfold idiomref01_Step.j0
    repeat' first
    | (with_reducible exact ih0 _ _ _ _ _ _)
    | (with_reducible exact ih1 _ _ _ _ _ _)
    | (with_reducible exact ih2 _ _ _ _ _)
    | (with_reducible exact ih3 _ _ _ _ _)
    | (with_reducible exact LeO.refl _)
    | (with_reducible exact LeO.none _)
    | (with_reducible refine LeO.ite ?_ ?_)
    | (with_reducible refine LeO.bind ?_ (fun _ => ?_))
    | exact ih0 _ _ _ _ _ _
    | exact ih1 _ _ _ _ _ _
    | exact ih2 _ _ _ _ _
    | exact ih3 _ _ _ _ _
    | exact LeO.none _
    | refine LeO.ite ?_ ?_
    | refine LeO.bind ?_ (fun _ => ?_)
  · intro y0 y1 y2 y3 y4
    unfold idiomref01_Step.j1
    repeat' first
    | (with_reducible exact ih0 _ _ _ _ _ _)
    | (with_reducible exact ih1 _ _ _ _ _ _)
    | (with_reducible exact ih2 _ _ _ _ _)
    | (with_reducible exact ih3 _ _ _ _ _)
    | (with_reducible exact LeO.refl _)
    | (with_reducible exact LeO.none _)
    | (with_reducible refine LeO.ite ?_ ?_)
    | (with_reducible refine LeO.bind ?_ (fun _ => ?_))
    | exact ih0 _ _ _ _ _ _
    | exact ih1 _ _ _ _ _ _
    | exact ih2 _ _ _ _ _
    | exact ih3 _ _ _ _ _
    | exact LeO.none _
    | refine LeO.ite ?_ ?_
    | refine LeO.bind ?_ (fun _ => ?_)
theorem idiomref01_Step.mono : ∀ a0 a1 k, LeO (idiomref01_Step.f k a0 a1) (idiomref01_Step.f (k + 1) a0 a1) := by
 intro a0 a1 k
 obtain ⟨ih0, ih1, ih2, ih3⟩ := idiomref01_Step.mono_l k
 unfold idiomref01_Step.f
 repeat' first
  | (with_reducible exact ih0 _ _ _ _ _ _)
  | (with_reducible exact ih1 _ _ _ _ _ _)
  | (with_reducible exact ih2 _ _ _ _ _)
  | (with_reducible exact ih3 _ _ _ _ _)
  | (with_reducible exact LeO.refl _)
  | (with_reducible exact LeO.none _)
  | (with_reducible refine LeO.ite ?_ ?_)
  | (with_reducible refine LeO.bind ?_ (fun _ => ?_))
  | exact ih0 _ _ _ _ _ _
  | exact ih1 _ _ _ _ _ _
  | exact ih2 _ _ _ _ _
  | exact ih3 _ _ _ _ _
  | exact LeO.none _
  | refine LeO.ite ?_ ?_
  | refine LeO.bind ?_ (fun _ => ?_)
set_option maxHeartbeats 8000000 in
set_option maxRecDepth 100000 in
theorem idiomref01_Step.calls (k : Nat) (a0 : ByteArray) (a1 : Int) (r1 : Int) (r2 : Int) (w : World) (h : idiomref01_Step.f k a0 a1 = some (r1, r2)) :
 Calls Tryd.prog 36 #[.string a0, .int .i64 a1] w fun e w' => e = .returned (.tuple #[.int .i64 r1, .int .i64 r2]) ∧ Drawn0 w w' := by
 have H : (if (wrap64 ((a0.size : Int) - a1)) ≤ 0 then (some (0, 0)) else (if 0 ≤ a1 then (if a1 < (a0.size : Int) then (if (wrap64 (bt a0 a1)) < 128 then (some (wrap64 (bt a0 a1), 1)) else (if (wrap64 (bt a0 a1)) ≥ 192 then (idiomref01_Step.j0 k a0 a1 (wrap64 ((a0.size : Int) - a1)) (wrap64 (bt a0 a1)) (decide ((wrap64 (bt a0 a1)) < 224))) else (idiomref01_Step.j0 k a0 a1 (wrap64 ((a0.size : Int) - a1)) (wrap64 (bt a0 a1)) false))) else (none)) else (none))) = some (r1, r2) := h
 clear h
 by_cases c3 : (wrap64 ((a0.size : Int) - a1)) ≤ 0
 · rw [if_pos c3] at H
   have c3b0 : decide ((wrap64 ((a0.size : Int) - a1)) ≤ 0) = true := decide_eq_true c3
   clear c3
   simp only [Option.some.injEq, Prod.mk.injEq] at H
   obtain ⟨rfl, rfl⟩ := H
   go_enter Tryd.func36, Tryd.ntmps36
   go_wp2
   go_ret2
   exact ⟨by first | rfl | (simp; done) | (simp [*]; done), by repeat (first | exact Drawn0.refl _ | apply Drawn0.step)⟩
 · rw [if_neg c3] at H
   have c3b0 : decide ((wrap64 ((a0.size : Int) - a1)) ≤ 0) = false := decide_eq_false c3
   clear c3
   by_cases c4 : 0 ≤ a1
   · rw [if_pos c4] at H
     have c4b0 : decide (0 ≤ a1) = true := decide_eq_true c4
     clear c4
     by_cases c5 : a1 < (a0.size : Int)
     · rw [if_pos c5] at H
       have c5b0 : decide (a1 < (a0.size : Int)) = true := decide_eq_true c5
       clear c5
       have HC7 := Aside0.mk H
       clear H
       have p6 : 0 ≤ (a1 : Int) := of_decide_eq_true qa
       have q6 : a1 < (a0.size : Int) := of_decide_eq_true qa
       have hx6 := bt_at a0 a1
       replace p6 := eq_true p6
       replace q6 := eq_true q6
       go_enter Tryd.func36, Tryd.ntmps36
       go_upto_block 0 with (fail)
       go_cut [8, 9, 10] (fun v8 v9 v10 wc => ∃ (kq : Nat) (x8_6 : Int) (x9_6 : Int) (x10_6 : Int), v8 = .int .i64 x8_6 ∧ v9 = .int .i64 x9_6 ∧ v10 = .int .i64 x10_6 ∧ Aside0 (idiomref01_Step.j2 kq a0 a1 (wrap64 ((a0.size : Int) - a1)) x8_6 x9_6 x10_6 = some (r1, r2)) ∧ Aside0 (kq ≤ k) ∧ Drawn0 w wc)
       case first =>
        have H := HC7.out
        clear HC7
        by_cases c8 : (wrap64 (bt a0 a1)) < 128
        · rw [if_pos c8] at H
          have c8b0 : decide ((wrap64 (bt a0 a1)) < 128) = true := decide_eq_true c8
          clear c8
          (first | rw [c8b0] | (simp only [i64_w, i32_w]; rw [c8b0]) | skip)
          simp only [Option.some.injEq, Prod.mk.injEq] at H
          obtain ⟨rfl, rfl⟩ := H
          go_wp2
          go_ret2
          exact ⟨by first | rfl | (simp; done) | (simp [*]; done), by repeat (first | exact Drawn0.refl _ | apply Drawn0.step)⟩
        · rw [if_neg c8] at H
          have c8b0 : decide ((wrap64 (bt a0 a1)) < 128) = false := decide_eq_false c8
          clear c8
          (first | rw [c8b0] | (simp only [i64_w, i32_w]; rw [c8b0]) | skip)
          have HC9 := Aside0.mk H
          clear H
          go_upto_region 9 with (fail)
          go_cut [27] (fun v27 wc => ∃ (kq : Nat) (x27_8 : Bool), v27 = .bool x27_8 ∧ Aside0 (idiomref01_Step.j0 kq a0 a1 (wrap64 ((a0.size : Int) - a1)) (wrap64 (bt a0 a1)) x27_8 = some (r1, r2)) ∧ Aside0 (kq ≤ k) ∧ Drawn0 w wc)
          case first =>
           have H := HC9.out
           clear HC9
           by_cases c10 : (wrap64 (bt a0 a1)) ≥ 192
           · rw [if_pos c10] at H
             have c10b0 : decide (192 ≤ (wrap64 (bt a0 a1))) = true := decide_eq_true c10
             clear c10
             (first | rw [c10b0] | (simp only [i64_w, i32_w]; rw [c10b0]) | skip)
             have H' := Aside0.mk H
             clear H
             go_wp2
             go_meet
             case rel => exact ⟨_, (decide ((wrap64 (bt a0 a1)) < 224)), (by first | rfl | (simp; done) | (simp [*]; done)), H', ⟨by first | omega | exact Nat.le_refl _⟩, by repeat (first | exact Drawn0.refl _ | apply Drawn0.step)⟩
           · rw [if_neg c10] at H
             have c10b0 : decide (192 ≤ (wrap64 (bt a0 a1))) = false := decide_eq_false c10
             clear c10
             (first | rw [c10b0] | (simp only [i64_w, i32_w]; rw [c10b0]) | skip)
             have H' := Aside0.mk H
             clear H
             go_wp2
             go_meet
             case rel => exact ⟨_, (false), (by first | rfl | (simp; done) | (simp [*]; done)), H', ⟨by first | omega | exact Nat.le_refl _⟩, by repeat (first | exact Drawn0.refl _ | apply Drawn0.step)⟩
          case rest =>
           clear HC9
           try clear c1
           try clear p2
           try clear c3
           try clear c3b0
           try clear c4
           try clear c4b0
           try clear c5
           try clear c5b0
           try clear p6
           try clear q6
           try clear hx6
           try clear c8
           try clear c8b0
           try clear c10
           try clear c10b0
           try clear p6
           try clear q6
           obtain ⟨kq, x27_8, rfl, HA, HJ8, ⟨mc8, rfl⟩⟩ := hcut
           cases kq with
           | zero => exact absurd HA.out (by simp [idiomref01_Step.j0])
           | succ kj8 =>
            have H := HA.out
            clear HA
            simp only [idiomref01_Step.j0] at H
            by_cases c11 : x27_8 = true
            · subst c11
              have H1 : (idiomref01_Step.j2 kj8 a0 a1 (wrap64 ((a0.size : Int) - a1)) 2 128 (wrap64 ((wrap64 (bt a0 a1)) - 192))) = some (r1, r2) := by rw [if_pos rfl] at H; exact H
              clear H
              have H := H1
              clear H1
              have H' := Aside0.mk H
              clear H
              go_wp2
              go_meet
              case rel => exact ⟨_, (2), (128), (wrap64 ((wrap64 (bt a0 a1)) - 192)), (by first | rfl | (simp; done) | (simp [*]; done)), (by first | rfl | (simp; done) | (simp [*]; done)), (by first | rfl | (simp; done) | (simp [*]; done)), H', ⟨by have := HJ8.out; first | omega | exact Nat.le_refl _⟩, by repeat (first | exact Drawn0.refl _ | apply Drawn0.step)⟩
            · replace c11 := Bool.eq_false_iff.mpr c11
              subst c11
              have H1 : (if (wrap64 (bt a0 a1)) ≥ 224 then (idiomref01_Step.j1 kj8 a0 a1 (wrap64 ((a0.size : Int) - a1)) (wrap64 (bt a0 a1)) (decide ((wrap64 (bt a0 a1)) < 240))) else (idiomref01_Step.j1 kj8 a0 a1 (wrap64 ((a0.size : Int) - a1)) (wrap64 (bt a0 a1)) false)) = some (r1, r2) := by rw [if_neg (show ¬ (false = true) by decide)] at H; exact H
              clear H
              have H := H1
              clear H1
              have HC12 := Aside0.mk H
              clear H
              go_upto_region 11 with (fail)
              go_cut [36] (fun v36 wc => ∃ (kq : Nat) (x36_11 : Bool), v36 = .bool x36_11 ∧ Aside0 (idiomref01_Step.j1 kq a0 a1 (wrap64 ((a0.size : Int) - a1)) (wrap64 (bt a0 a1)) x36_11 = some (r1, r2)) ∧ Aside0 (kq ≤ kj8) ∧ Drawn0 w wc)
              case first =>
               have H := HC12.out
               clear HC12
               by_cases c13 : (wrap64 (bt a0 a1)) ≥ 224
               · rw [if_pos c13] at H
                 have c13b0 : decide (224 ≤ (wrap64 (bt a0 a1))) = true := decide_eq_true c13
                 clear c13
                 (first | rw [c13b0] | (simp only [i64_w, i32_w]; rw [c13b0]) | skip)
                 have H' := Aside0.mk H
                 clear H
                 go_wp2
                 go_meet
                 case rel => exact ⟨_, (decide ((wrap64 (bt a0 a1)) < 240)), (by first | rfl | (simp; done) | (simp [*]; done)), H', ⟨by have := HJ8.out; first | omega | exact Nat.le_refl _⟩, by repeat (first | exact Drawn0.refl _ | apply Drawn0.step)⟩
               · rw [if_neg c13] at H
                 have c13b0 : decide (224 ≤ (wrap64 (bt a0 a1))) = false := decide_eq_false c13
                 clear c13
                 (first | rw [c13b0] | (simp only [i64_w, i32_w]; rw [c13b0]) | skip)
                 have H' := Aside0.mk H
                 clear H
                 go_wp2
                 go_meet
                 case rel => exact ⟨_, (false), (by first | rfl | (simp; done) | (simp [*]; done)), H', ⟨by have := HJ8.out; first | omega | exact Nat.le_refl _⟩, by repeat (first | exact Drawn0.refl _ | apply Drawn0.step)⟩
              case rest =>
               clear HC12
               try clear c1
               try clear p2
               try clear c3
               try clear c3b0
               try clear c4
               try clear c4b0
               try clear c5
               try clear c5b0
               try clear p6
               try clear q6
               try clear hx6
               try clear c8
               try clear c8b0
               try clear c10
               try clear c10b0
               try clear c11
               try clear c13
               try clear c13b0
               try clear p2
               try clear p6
               try clear q6
               obtain ⟨kq, x36_11, rfl, HA, HJ11, ⟨mc11, rfl⟩⟩ := hcut
               cases kq with
               | zero => exact absurd HA.out (by simp [idiomref01_Step.j1])
               | succ kj11 =>
                have H := HA.out
                clear HA
                simp only [idiomref01_Step.j1] at H
                by_cases c14 : x36_11 = true
                · subst c14
                  have H1 : (idiomref01_Step.j2 kj11 a0 a1 (wrap64 ((a0.size : Int) - a1)) 3 2048 (wrap64 ((wrap64 (bt a0 a1)) - 224))) = some (r1, r2) := by rw [if_pos rfl] at H; exact H
                  clear H
                  have H := H1
                  clear H1
                  have H' := Aside0.mk H
                  clear H
                  go_wp2
                  go_meet
                  case rel => exact ⟨_, (3), (2048), (wrap64 ((wrap64 (bt a0 a1)) - 224)), (by first | rfl | (simp; done) | (simp [*]; done)), (by first | rfl | (simp; done) | (simp [*]; done)), (by first | rfl | (simp; done) | (simp [*]; done)), H', ⟨by have := HJ8.out; have := HJ11.out; first | omega | exact Nat.le_refl _⟩, by repeat (first | exact Drawn0.refl _ | apply Drawn0.step)⟩
                · replace c14 := Bool.eq_false_iff.mpr c14
                  subst c14
                  have H1 : (if (wrap64 (bt a0 a1)) ≥ 240 then (if (wrap64 (bt a0 a1)) < 248 then (idiomref01_Step.j2 kj11 a0 a1 (wrap64 ((a0.size : Int) - a1)) 4 65536 (wrap64 ((wrap64 (bt a0 a1)) - 240))) else (some ((-1), 1))) else (some ((-1), 1))) = some (r1, r2) := by rw [if_neg (show ¬ (false = true) by decide)] at H; exact H
                  clear H
                  have H := H1
                  clear H1
                  by_cases c15 : (wrap64 (bt a0 a1)) ≥ 240
                  · rw [if_pos c15] at H
                    have c15b0 : decide (240 ≤ (wrap64 (bt a0 a1))) = true := decide_eq_true c15
                    clear c15
                    by_cases c16 : (wrap64 (bt a0 a1)) < 248
                    · rw [if_pos c16] at H
                      have c16b0 : decide ((wrap64 (bt a0 a1)) < 248) = true := decide_eq_true c16
                      clear c16
                      have H' := Aside0.mk H
                      clear H
                      go_wp2
                      go_meet
                      case rel => exact ⟨_, (4), (65536), (wrap64 ((wrap64 (bt a0 a1)) - 240)), (by first | rfl | (simp; done) | (simp [*]; done)), (by first | rfl | (simp; done) | (simp [*]; done)), (by first | rfl | (simp; done) | (simp [*]; done)), H', ⟨by have := HJ8.out; have := HJ11.out; first | omega | exact Nat.le_refl _⟩, by repeat (first | exact Drawn0.refl _ | apply Drawn0.step)⟩
                    · rw [if_neg c16] at H
                      have c16b0 : decide ((wrap64 (bt a0 a1)) < 248) = false := decide_eq_false c16
                      clear c16
                      simp only [Option.some.injEq, Prod.mk.injEq] at H
                      obtain ⟨rfl, rfl⟩ := H
                      go_wp2
                      go_ret2
                      exact ⟨by first | rfl | (simp; done) | (simp [*]; done), by repeat (first | exact Drawn0.refl _ | apply Drawn0.step)⟩
                  · rw [if_neg c15] at H
                    have c15b0 : decide (240 ≤ (wrap64 (bt a0 a1))) = false := decide_eq_false c15
                    clear c15
                    simp only [Option.some.injEq, Prod.mk.injEq] at H
                    obtain ⟨rfl, rfl⟩ := H
                    go_wp2
                    go_ret2
                    exact ⟨by first | rfl | (simp; done) | (simp [*]; done), by repeat (first | exact Drawn0.refl _ | apply Drawn0.step)⟩
       case rest =>
        clear HC7
        try clear c1
        try clear p2
        try clear c3
        try clear c3b0
        try clear c4
        try clear c4b0
        try clear c5
        try clear c5b0
        try clear p6
        try clear q6
        try clear hx6
        try clear c8
        try clear c8b0
        try clear c10
        try clear c10b0
        try clear c11
        try clear c13
        try clear c13b0
        try clear c14
        try clear c15
        try clear c15b0
        try clear c16
        try clear c16b0
        try clear p2
        try clear p6
        try clear q6
        obtain ⟨kq, x8_6, x9_6, x10_6, rfl, rfl, rfl, HA, HJ6, ⟨mc6, rfl⟩⟩ := hcut
        cases kq with
        | zero => exact absurd HA.out (by simp [idiomref01_Step.j2])
        | succ kj6 =>
         have H := HA.out
         clear HA
         simp only [idiomref01_Step.j2] at H
         by_cases c17 : (wrap64 ((a0.size : Int) - a1)) < x8_6
         · rw [if_pos c17] at H
           have c17b0 : decide ((wrap64 ((a0.size : Int) - a1)) < x8_6) = true := decide_eq_true c17
           clear c17
           simp only [Option.some.injEq, Prod.mk.injEq] at H
           obtain ⟨rfl, rfl⟩ := H
           go_wp2
           go_ret2
           exact ⟨by first | rfl | (simp; done) | (simp [*]; done), by repeat (first | exact Drawn0.refl _ | apply Drawn0.step)⟩
         · rw [if_neg c17] at H
           have c17b0 : decide ((wrap64 ((a0.size : Int) - a1)) < x8_6) = false := decide_eq_false c17
           clear c17
           have H' := Aside0.mk H
           clear H
           go_wp2
           (try simp only [Act.put, List.setIfInBounds_toArray, List.set_cons_zero, List.set_cons_succ])
           go_loopg [10, 11] kj6 (fun kq v10 v11 w' => ∃ (x10_2 : Int) (x11_2 : Int), v10 = .int .i64 x10_2 ∧ v11 = .int .i64 x11_2 ∧ Aside0 (idiomref01_Step.l0 kq a0 a1 x8_6 x9_6 x10_2 x11_2 = some (r1, r2)) ∧ Aside0 (kq ≤ kj6) ∧ Drawn0 w w')
           case atStart => exact ⟨(x10_6), (1), (by first | rfl | (simp; done) | (simp [*]; done)), (by first | rfl | (simp; done) | (simp [*]; done)), H', ⟨Nat.le_refl _⟩, by repeat (first | exact Drawn0.refl _ | apply Drawn0.step)⟩
           case round =>
            clear H'
            try clear c1
            try clear p2
            try clear c3
            try clear c3b0
            try clear c4
            try clear c4b0
            try clear c5
            try clear c5b0
            try clear c6
            try clear p6
            try clear q6
            try clear hx6
            try clear c8
            try clear c8b0
            try clear c10
            try clear c10b0
            try clear c11
            try clear c13
            try clear c13b0
            try clear c14
            try clear c15
            try clear c15b0
            try clear c16
            try clear c16b0
            try clear c17
            try clear c17b0
            try clear p2
            try clear p6
            try clear q6
            obtain ⟨x10_2, x11_2, rfl, rfl, HA, HK2, ⟨m2, rfl⟩⟩ := hrel
            cases gk with
            | zero => exact absurd HA.out (by simp [idiomref01_Step.l0])
            | succ k2 =>
             have H := HA.out
             clear HA
             simp only [idiomref01_Step.l0] at H
             by_cases c18 : x11_2 < x8_6
             · rw [if_pos c18] at H
               have c18b0 : decide (x11_2 < x8_6) = true := decide_eq_true c18
               clear c18
               obtain ⟨ji19, hji19⟩ : ∃ j_ : Int, (wrap64 (a1 + x11_2)) = j_ := ⟨_, rfl⟩
               replace H : (if 0 ≤ (ji19) then (if (ji19) < (a0.size : Int) then (if (wrap64 (bt a0 (ji19))) < 128 then (some ((-1), 1)) else (if (wrap64 (bt a0 (ji19))) ≥ 192 then (some ((-1), 1)) else (idiomref01_Step.l0 k2 a0 a1 x8_6 x9_6 (wrap64 ((wrap64 ((wrap64 (x10_2 * 64)) + (wrap64 (bt a0 (ji19))))) - 128)) (wrap64 (x11_2 + 1))))) else (none)) else (none)) = some (r1, r2) := by first | (rw [hji19] at H; exact H) | (simp only [hji19] at H ⊢; exact H)
               have hji19w : (IntKind.i64.wrap (a1 + x11_2)) = ji19 := (i64_w _).trans hji19
               by_cases c20 : 0 ≤ (ji19)
               · rw [if_pos c20] at H
                 have c20b0 : decide (0 ≤ (ji19)) = true := decide_eq_true c20
                 clear c20
                 by_cases c21 : (ji19) < (a0.size : Int)
                 · rw [if_pos c21] at H
                   have c21b0 : decide ((ji19) < (a0.size : Int)) = true := decide_eq_true c21
                   clear c21
                   by_cases c23 : (wrap64 (bt a0 (ji19))) < 128
                   · rw [if_pos c23] at H
                     have c23b0 : decide ((wrap64 (bt a0 (ji19))) < 128) = true := decide_eq_true c23
                     clear c23
                     simp only [Option.some.injEq, Prod.mk.injEq] at H
                     obtain ⟨rfl, rfl⟩ := H
                     have p22 : 0 ≤ ((ji19) : Int) := of_decide_eq_true qa
                     have q22 : (ji19) < (a0.size : Int) := of_decide_eq_true qa
                     have hx22 := bt_at a0 (ji19)
                     replace p22 := eq_true p22
                     replace q22 := eq_true q22
                     go_wp2
                     go_ret2
                     exact ⟨by first | rfl | (simp; done) | (simp only [← hji19] <;> (first | rfl | simp)) | (simp [*]; done), by repeat (first | exact Drawn0.refl _ | apply Drawn0.step)⟩
                   · rw [if_neg c23] at H
                     have c23b0 : decide ((wrap64 (bt a0 (ji19))) < 128) = false := decide_eq_false c23
                     clear c23
                     by_cases c24 : (wrap64 (bt a0 (ji19))) ≥ 192
                     · rw [if_pos c24] at H
                       have c24b0 : decide (192 ≤ (wrap64 (bt a0 (ji19)))) = true := decide_eq_true c24
                       clear c24
                       simp only [Option.some.injEq, Prod.mk.injEq] at H
                       obtain ⟨rfl, rfl⟩ := H
                       have p22 : 0 ≤ ((ji19) : Int) := of_decide_eq_true qa
                       have q22 : (ji19) < (a0.size : Int) := of_decide_eq_true qa
                       have hx22 := bt_at a0 (ji19)
                       replace p22 := eq_true p22
                       replace q22 := eq_true q22
                       go_wp2
                       go_ret2
                       exact ⟨by first | rfl | (simp; done) | (simp only [← hji19] <;> (first | rfl | simp)) | (simp [*]; done), by repeat (first | exact Drawn0.refl _ | apply Drawn0.step)⟩
                     · rw [if_neg c24] at H
                       have c24b0 : decide (192 ≤ (wrap64 (bt a0 (ji19)))) = false := decide_eq_false c24
                       clear c24
                       have H' := Aside0.mk H
                       clear H
                       have p22 : 0 ≤ ((ji19) : Int) := of_decide_eq_true qa
                       have q22 : (ji19) < (a0.size : Int) := of_decide_eq_true qa
                       have hx22 := bt_at a0 (ji19)
                       replace p22 := eq_true p22
                       replace q22 := eq_true q22
                       go_wp2
                       go_roundg k2
                       case measure => have := HJ6.out; have := HK2.out; omega
                       case rel => exact ⟨(wrap64 ((wrap64 ((wrap64 (x10_2 * 64)) + (wrap64 (bt a0 (ji19))))) - 128)), (wrap64 (x11_2 + 1)), (by first | rfl | (simp; done) | (simp only [← hji19] <;> (first | rfl | simp)) | (simp [*]; done)), (by first | rfl | (simp; done) | (simp [*]; done)), H', ⟨by have := HJ6.out; have := HK2.out; omega⟩, by repeat (first | exact Drawn0.refl _ | apply Drawn0.step)⟩
                 · rw [if_neg c21] at H
                   exact absurd H (by simp)
               · rw [if_neg c20] at H
                 exact absurd H (by simp)
             · rw [if_neg c18] at H
               have c18b0 : decide (x11_2 < x8_6) = false := decide_eq_false c18
               clear c18
               by_cases c25 : x10_2 < x9_6
               · rw [if_pos c25] at H
                 have c25b0 : decide (x10_2 < x9_6) = true := decide_eq_true c25
                 clear c25
                 simp only [Option.some.injEq, Prod.mk.injEq] at H
                 obtain ⟨rfl, rfl⟩ := H
                 go_wp2
                 go_ret2
                 exact ⟨by first | rfl | (simp; done) | (simp [*]; done), by repeat (first | exact Drawn0.refl _ | apply Drawn0.step)⟩
               · rw [if_neg c25] at H
                 have c25b0 : decide (x10_2 < x9_6) = false := decide_eq_false c25
                 clear c25
                 by_cases c26 : x10_2 > 1114111
                 · rw [if_pos c26] at H
                   have c26b0 : decide (1114111 < x10_2) = true := decide_eq_true c26
                   clear c26
                   simp only [Option.some.injEq, Prod.mk.injEq] at H
                   obtain ⟨rfl, rfl⟩ := H
                   go_wp2
                   go_ret2
                   exact ⟨by first | rfl | (simp; done) | (simp [*]; done), by repeat (first | exact Drawn0.refl _ | apply Drawn0.step)⟩
                 · rw [if_neg c26] at H
                   have c26b0 : decide (1114111 < x10_2) = false := decide_eq_false c26
                   clear c26
                   by_cases c27 : x10_2 ≥ 55296
                   · rw [if_pos c27] at H
                     have c27b0 : decide (55296 ≤ x10_2) = true := decide_eq_true c27
                     clear c27
                     by_cases c28 : x10_2 ≤ 57343
                     · rw [if_pos c28] at H
                       have c28b0 : decide (x10_2 ≤ 57343) = true := decide_eq_true c28
                       clear c28
                       simp only [Option.some.injEq, Prod.mk.injEq] at H
                       obtain ⟨rfl, rfl⟩ := H
                       go_wp2
                       go_ret2
                       exact ⟨by first | rfl | (simp; done) | (simp [*]; done), by repeat (first | exact Drawn0.refl _ | apply Drawn0.step)⟩
                     · rw [if_neg c28] at H
                       have c28b0 : decide (x10_2 ≤ 57343) = false := decide_eq_false c28
                       clear c28
                       simp only [Option.some.injEq, Prod.mk.injEq] at H
                       obtain ⟨rfl, rfl⟩ := H
                       go_wp2
                       go_ret2
                       exact ⟨by first | rfl | (simp; done) | (simp [*]; done), by repeat (first | exact Drawn0.refl _ | apply Drawn0.step)⟩
                   · rw [if_neg c27] at H
                     have c27b0 : decide (55296 ≤ x10_2) = false := decide_eq_false c27
                     clear c27
                     simp only [Option.some.injEq, Prod.mk.injEq] at H
                     obtain ⟨rfl, rfl⟩ := H
                     go_wp2
                     go_ret2
                     exact ⟨by first | rfl | (simp; done) | (simp [*]; done), by repeat (first | exact Drawn0.refl _ | apply Drawn0.step)⟩
     · rw [if_neg c5] at H
       exact absurd H (by simp)
   · rw [if_neg c4] at H
     exact absurd H (by simp)

end Go.Proofs.YtigikjihagmokaaDoor.F
namespace Go.Proofs.YtigikjihagmokaaDoor.F
open Go.RowKit Go.Proofs.YtigikjihagmokaaDoorW.PrintWords Go.Proofs.YtigikjihagmokaaDoorW.PrintLast Go.Proofs.YtigikjihagmokaaDoorW.PrintMore Go.Proofs.YtigikjihagmokaaDoor.Q
attribute [local go_sem] max2_int min2_int max_two min_two max_three min_three max_four min_four   -- for this text's walks alone
set_option linter.unusedVariables false
set_option linter.unusedSimpArgs false

def idiomref01_Blank.l0 : Nat → ByteArray → Int → Int → Option (Int)
 | 0, _, _, _ => none
 | k + 1, x0, x1, x5 => if x1 < (x0.size : Int) then ((idiomref01_Step.f k x0 x1).bind fun bt147 => (if bt147.1 < 0 then (some (wrap64 (x1 - x5))) else ((idiomref01_Space.f (wrap32 (bt147.1))).bind fun t149 => (if t149 = true then (idiomref01_Blank.l0 k x0 (wrap64 (x1 + bt147.2)) x5) else (some (wrap64 (x1 - x5))))))) else (some (wrap64 (x1 - x5)))
def idiomref01_Blank.f (k : Nat) (a0 : ByteArray) (a1 : Int) : Option (Int) := idiomref01_Blank.l0 k a0 a1 a1
theorem idiomref01_Blank.mono_l : ∀ k, (∀ y0 y1 y2, LeO (idiomref01_Blank.l0 k y0 y1 y2) (idiomref01_Blank.l0 (k + 1) y0 y1 y2))
 | 0 => fun _ _ _ r h => by simp [idiomref01_Blank.l0] at h
 | k + 1 => by
  have ih0 := idiomref01_Blank.mono_l k
  · intro y0 y1 y2
    unfold idiomref01_Blank.l0
    repeat' first
    | (with_reducible exact ih0 _ _ _)
    | (with_reducible exact idiomref01_Step.mono _ _ _)
    | (with_reducible exact LeO.refl _)
    | (with_reducible exact LeO.none _)
    | (with_reducible refine LeO.ite ?_ ?_)
    | (with_reducible refine LeO.bind ?_ (fun _ => ?_))
    | exact ih0 _ _ _
    | exact idiomref01_Step.mono _ _ _
    | exact LeO.none _
    | refine LeO.ite ?_ ?_
    | refine LeO.bind ?_ (fun _ => ?_)
theorem idiomref01_Blank.mono : ∀ a0 a1 k, LeO (idiomref01_Blank.f k a0 a1) (idiomref01_Blank.f (k + 1) a0 a1) := by
 intro a0 a1 k
 have ih0 := idiomref01_Blank.mono_l k
 unfold idiomref01_Blank.f
 repeat' first
  | (with_reducible exact ih0 _ _ _)
  | (with_reducible exact idiomref01_Step.mono _ _ _)
  | (with_reducible exact LeO.refl _)
  | (with_reducible exact LeO.none _)
  | (with_reducible refine LeO.ite ?_ ?_)
  | (with_reducible refine LeO.bind ?_ (fun _ => ?_))
  | exact ih0 _ _ _
  | exact idiomref01_Step.mono _ _ _
  | exact LeO.none _
  | refine LeO.ite ?_ ?_
  | refine LeO.bind ?_ (fun _ => ?_)
set_option maxHeartbeats 8000000 in
set_option maxRecDepth 100000 in
theorem idiomref01_Blank.calls (k : Nat) (a0 : ByteArray) (a1 : Int) (r : Int) (w : World) (h : idiomref01_Blank.f k a0 a1 = some r) :
 Calls Tryd.prog 43 #[.string a0, .int .i64 a1] w fun e w' => e = .returned (.int .i64 r) ∧ Drawn0 w w' := by
 have H : (idiomref01_Blank.l0 k a0 a1 a1) = some r := h
 clear h
 have H' := Aside0.mk H
 clear H
 go_enter Tryd.func43, Tryd.ntmps43
 go_wp2
 (try simp only [Act.put, List.setIfInBounds_toArray, List.set_cons_zero, List.set_cons_succ])
 go_loopg [1] k (fun kq v1 w' => ∃ (x1_1 : Int), v1 = .int .i64 x1_1 ∧ Aside0 (idiomref01_Blank.l0 kq a0 x1_1 a1 = some r) ∧ Aside0 (kq ≤ k) ∧ Drawn0 w w')
 case atStart => exact ⟨(a1), (by first | rfl | (simp; done) | (simp [*]; done)), H', ⟨Nat.le_refl _⟩, by repeat (first | exact Drawn0.refl _ | apply Drawn0.step)⟩
 case round =>
  clear H'
  try clear p2
  obtain ⟨x1_1, rfl, HA, HK1, ⟨m1, rfl⟩⟩ := hrel
  cases gk with
  | zero => exact absurd HA.out (by simp [idiomref01_Blank.l0])
  | succ k1 =>
   have H := HA.out
   clear HA
   simp only [idiomref01_Blank.l0] at H
   by_cases c3 : x1_1 < (a0.size : Int)
   · rw [if_pos c3] at H
     have c3b0 : decide (x1_1 < (a0.size : Int)) = true := decide_eq_true c3
     clear c3
     replace H := Option.bind_eq_some_iff.mp H
     obtain ⟨⟨t147, t148⟩, A40, H⟩ := H
     replace H : (if t147 < 0 then (some (wrap64 (x1_1 - a1))) else ((idiomref01_Space.f (wrap32 (t147))).bind fun t149 => (if t149 = true then (idiomref01_Blank.l0 k1 a0 (wrap64 (x1_1 + t148)) a1) else (some (wrap64 (x1_1 - a1)))))) = some r := H
     have A4 := Aside0.mk A40
     clear A40
     by_cases c5 : t147 < 0
     · rw [if_pos c5] at H
       have c5b0 : decide (t147 < 0) = true := decide_eq_true c5
       clear c5
       obtain rfl := Option.some.inj H
       go_wp2_with (first | ((with_reducible refine gate_callee (f := 36) rfl ?_); refine goesL_ (some 16) rfl rfl Tryd.func36 (by kernel_rfl) rfl #[.string a0, .int .i64 x1_1] rfl ql ?_; (with_reducible refine (idiomref01_Step.calls k1 a0 x1_1 t147 t148 _ A4.out).mono ?_); rintro e w' ⟨rfl, ⟨nd, rfl⟩⟩; refine ⟨_, rfl, ?_⟩))
       go_ret
       exact ⟨by first | rfl | (simp; done) | (simp [*]; done), by repeat (first | exact Drawn0.refl _ | apply Drawn0.step)⟩
     · rw [if_neg c5] at H
       have c5b0 : decide (t147 < 0) = false := decide_eq_false c5
       clear c5
       replace H := Option.bind_eq_some_iff.mp H
       obtain ⟨t149, A60, H⟩ := H
       replace H : (if t149 = true then (idiomref01_Blank.l0 k1 a0 (wrap64 (x1_1 + t148)) a1) else (some (wrap64 (x1_1 - a1)))) = some r := H
       have A6 := Aside0.mk A60
       clear A60
       by_cases c7 : t149 = true
       · subst c7
         have H1 : (idiomref01_Blank.l0 k1 a0 (wrap64 (x1_1 + t148)) a1) = some r := by rw [if_pos rfl] at H; exact H
         clear H
         have H := H1
         clear H1
         have H' := Aside0.mk H
         clear H
         go_wp2_with (first | ((with_reducible refine gate_callee (f := 36) rfl ?_); refine goesL_ (some 16) rfl rfl Tryd.func36 (by kernel_rfl) rfl #[.string a0, .int .i64 x1_1] rfl ql ?_; (with_reducible refine (idiomref01_Step.calls k1 a0 x1_1 t147 t148 _ A4.out).mono ?_); rintro e w' ⟨rfl, ⟨nd, rfl⟩⟩; refine ⟨_, rfl, ?_⟩) | (go_at_call 13; (with_reducible refine (idiomref01_Space.calls (wrap32 (t147)) true _ A6.out).mono ?_); rintro e w' ⟨rfl, ⟨nd, rfl⟩⟩))
         go_roundg k1
         case measure => have := HK1.out; omega
         case rel => exact ⟨(wrap64 (x1_1 + t148)), (by first | rfl | (simp; done) | (simp [*]; done)), H', ⟨by have := HK1.out; omega⟩, by repeat (first | exact Drawn0.refl _ | apply Drawn0.step)⟩
       · replace c7 := Bool.eq_false_iff.mpr c7
         subst c7
         have H1 : (some (wrap64 (x1_1 - a1))) = some r := by rw [if_neg (show ¬ (false = true) by decide)] at H; exact H
         clear H
         have H := H1
         clear H1
         obtain rfl := Option.some.inj H
         go_wp2_with (first | ((with_reducible refine gate_callee (f := 36) rfl ?_); refine goesL_ (some 16) rfl rfl Tryd.func36 (by kernel_rfl) rfl #[.string a0, .int .i64 x1_1] rfl ql ?_; (with_reducible refine (idiomref01_Step.calls k1 a0 x1_1 t147 t148 _ A4.out).mono ?_); rintro e w' ⟨rfl, ⟨nd, rfl⟩⟩; refine ⟨_, rfl, ?_⟩) | (go_at_call 13; (with_reducible refine (idiomref01_Space.calls (wrap32 (t147)) false _ A6.out).mono ?_); rintro e w' ⟨rfl, ⟨nd, rfl⟩⟩))
         go_ret
         exact ⟨by first | rfl | (simp; done) | (simp [*]; done), by repeat (first | exact Drawn0.refl _ | apply Drawn0.step)⟩
   · rw [if_neg c3] at H
     have c3b0 : decide (x1_1 < (a0.size : Int)) = false := decide_eq_false c3
     clear c3
     obtain rfl := Option.some.inj H
     go_wp2
     go_ret
     exact ⟨by first | rfl | (simp; done) | (simp [*]; done), by repeat (first | exact Drawn0.refl _ | apply Drawn0.step)⟩

def idiomref01_Trim.l0 : Nat → ByteArray → Int → Int → Int → Option (ByteArray)
 | 0, _, _, _, _ => none
 | k + 1, x0, x3, x4, x5 => if x5 < (x0.size : Int) then ((idiomref01_Step.f k x0 x5).bind fun bt151 => (if bt151.1 < 0 then (idiomref01_Trim.l0 k x0 x3 (wrap64 (x5 + bt151.2)) (wrap64 (x5 + bt151.2))) else ((idiomref01_Space.f (wrap32 (bt151.1))).bind fun t153 => (if t153 = true then (idiomref01_Trim.l0 k x0 x3 x4 (wrap64 (x5 + bt151.2))) else (idiomref01_Trim.l0 k x0 x3 (wrap64 (x5 + bt151.2)) (wrap64 (x5 + bt151.2))))))) else (if 0 ≤ x3 then (if x3 ≤ x4 then (if x4 ≤ (x0.size : Int) then (some (x0.extract (x3 : Int).toNat (x4 : Int).toNat)) else (none)) else (none)) else (none))
def idiomref01_Trim.f (k : Nat) (a0 : ByteArray) : Option (ByteArray) := (idiomref01_Blank.f k a0 0).bind fun t150 => (idiomref01_Trim.l0 k a0 t150 t150 t150)
theorem idiomref01_Trim.mono_l : ∀ k, (∀ y0 y1 y2 y3, LeO (idiomref01_Trim.l0 k y0 y1 y2 y3) (idiomref01_Trim.l0 (k + 1) y0 y1 y2 y3))
 | 0 => fun _ _ _ _ r h => by simp [idiomref01_Trim.l0] at h
 | k + 1 => by
  have ih0 := idiomref01_Trim.mono_l k
  · intro y0 y1 y2 y3
    unfold idiomref01_Trim.l0
    repeat' first
    | (with_reducible exact ih0 _ _ _ _)
    | (with_reducible exact idiomref01_Blank.mono _ _ _)
    | (with_reducible exact idiomref01_Step.mono _ _ _)
    | (with_reducible exact LeO.refl _)
    | (with_reducible exact LeO.none _)
    | (with_reducible refine LeO.ite ?_ ?_)
    | (with_reducible refine LeO.bind ?_ (fun _ => ?_))
    | exact ih0 _ _ _ _
    | exact idiomref01_Blank.mono _ _ _
    | exact idiomref01_Step.mono _ _ _
    | exact LeO.none _
    | refine LeO.ite ?_ ?_
    | refine LeO.bind ?_ (fun _ => ?_)
theorem idiomref01_Trim.mono : ∀ a0 k, LeO (idiomref01_Trim.f k a0) (idiomref01_Trim.f (k + 1) a0) := by
 intro a0 k
 have ih0 := idiomref01_Trim.mono_l k
 unfold idiomref01_Trim.f
 repeat' first
  | (with_reducible exact ih0 _ _ _ _)
  | (with_reducible exact idiomref01_Blank.mono _ _ _)
  | (with_reducible exact idiomref01_Step.mono _ _ _)
  | (with_reducible exact LeO.refl _)
  | (with_reducible exact LeO.none _)
  | (with_reducible refine LeO.ite ?_ ?_)
  | (with_reducible refine LeO.bind ?_ (fun _ => ?_))
  | exact ih0 _ _ _ _
  | exact idiomref01_Blank.mono _ _ _
  | exact idiomref01_Step.mono _ _ _
  | exact LeO.none _
  | refine LeO.ite ?_ ?_
  | refine LeO.bind ?_ (fun _ => ?_)
set_option maxHeartbeats 8000000 in
set_option maxRecDepth 100000 in
theorem idiomref01_Trim.calls (k : Nat) (a0 : ByteArray) (r : ByteArray) (w : World) (h : idiomref01_Trim.f k a0 = some r) :
 Calls Tryd.prog 24 #[.string a0] w fun e w' => e = .returned (.string r) ∧ Drawn0 w w' := by
 have H : ((idiomref01_Blank.f k a0 0).bind fun t150 => (idiomref01_Trim.l0 k a0 t150 t150 t150)) = some r := h
 clear h
 replace H := Option.bind_eq_some_iff.mp H
 obtain ⟨t150, A20, H⟩ := H
 replace H : (idiomref01_Trim.l0 k a0 t150 t150 t150) = some r := H
 have A2 := Aside0.mk A20
 clear A20
 have H' := Aside0.mk H
 clear H
 go_enter Tryd.func24, Tryd.ntmps24
 go_wp2_with (first | ((with_reducible refine gate_callee (f := 43) rfl ?_); refine goesL_ (some 9) rfl rfl Tryd.func43 (by kernel_rfl) rfl #[.string a0, .int .i64 0] rfl ql ?_; (with_reducible refine (idiomref01_Blank.calls k a0 0 t150 _ A2.out).mono ?_); rintro e w' ⟨rfl, ⟨nd, rfl⟩⟩; refine ⟨_, rfl, ?_⟩))
 (try simp only [Act.put, List.setIfInBounds_toArray, List.set_cons_zero, List.set_cons_succ])
 go_loopg [4, 5] k (fun kq v4 v5 w' => ∃ (x4_1 : Int) (x5_1 : Int), v4 = .int .i64 x4_1 ∧ v5 = .int .i64 x5_1 ∧ Aside0 (idiomref01_Trim.l0 kq a0 t150 x4_1 x5_1 = some r) ∧ Aside0 (kq ≤ k) ∧ Drawn0 w w')
 case atStart => exact ⟨(t150), (t150), (by first | rfl | (simp; done) | (simp [*]; done)), (by first | rfl | (simp; done) | (simp [*]; done)), H', ⟨Nat.le_refl _⟩, by repeat (first | exact Drawn0.refl _ | apply Drawn0.step)⟩
 case round =>
  clear H'
  try clear c2
  try clear p2
  obtain ⟨x4_1, x5_1, rfl, rfl, HA, HK1, ⟨m1, rfl⟩⟩ := hrel
  cases gk with
  | zero => exact absurd HA.out (by simp [idiomref01_Trim.l0])
  | succ k1 =>
   have H := HA.out
   clear HA
   simp only [idiomref01_Trim.l0] at H
   by_cases c3 : x5_1 < (a0.size : Int)
   · rw [if_pos c3] at H
     have c3b0 : decide (x5_1 < (a0.size : Int)) = true := decide_eq_true c3
     clear c3
     replace H := Option.bind_eq_some_iff.mp H
     obtain ⟨⟨t151, t152⟩, A40, H⟩ := H
     replace H : (if t151 < 0 then (idiomref01_Trim.l0 k1 a0 t150 (wrap64 (x5_1 + t152)) (wrap64 (x5_1 + t152))) else ((idiomref01_Space.f (wrap32 (t151))).bind fun t153 => (if t153 = true then (idiomref01_Trim.l0 k1 a0 t150 x4_1 (wrap64 (x5_1 + t152))) else (idiomref01_Trim.l0 k1 a0 t150 (wrap64 (x5_1 + t152)) (wrap64 (x5_1 + t152)))))) = some r := H
     have A4 := Aside0.mk A40
     clear A40
     by_cases c5 : t151 < 0
     · rw [if_pos c5] at H
       have c5b0 : decide (t151 < 0) = true := decide_eq_true c5
       clear c5
       have H' := Aside0.mk H
       clear H
       go_wp2_with (first | ((with_reducible refine gate_callee (f := 36) rfl ?_); refine goesL_ (some 19) rfl rfl Tryd.func36 (by kernel_rfl) rfl #[.string a0, .int .i64 x5_1] rfl ql ?_; (with_reducible refine (idiomref01_Step.calls k1 a0 x5_1 t151 t152 _ A4.out).mono ?_); rintro e w' ⟨rfl, ⟨nd, rfl⟩⟩; refine ⟨_, rfl, ?_⟩))
       go_roundg k1
       case measure => have := HK1.out; omega
       case rel => exact ⟨(wrap64 (x5_1 + t152)), (wrap64 (x5_1 + t152)), (by first | rfl | (simp; done) | (simp [*]; done)), (by first | rfl | (simp; done) | (simp [*]; done)), H', ⟨by have := HK1.out; omega⟩, by repeat (first | exact Drawn0.refl _ | apply Drawn0.step)⟩
     · rw [if_neg c5] at H
       have c5b0 : decide (t151 < 0) = false := decide_eq_false c5
       clear c5
       replace H := Option.bind_eq_some_iff.mp H
       obtain ⟨t153, A60, H⟩ := H
       replace H : (if t153 = true then (idiomref01_Trim.l0 k1 a0 t150 x4_1 (wrap64 (x5_1 + t152))) else (idiomref01_Trim.l0 k1 a0 t150 (wrap64 (x5_1 + t152)) (wrap64 (x5_1 + t152)))) = some r := H
       have A6 := Aside0.mk A60
       clear A60
       by_cases c7 : t153 = true
       · subst c7
         have H1 : (idiomref01_Trim.l0 k1 a0 t150 x4_1 (wrap64 (x5_1 + t152))) = some r := by rw [if_pos rfl] at H; exact H
         clear H
         have H := H1
         clear H1
         have H' := Aside0.mk H
         clear H
         go_wp2_with (first | ((with_reducible refine gate_callee (f := 36) rfl ?_); refine goesL_ (some 19) rfl rfl Tryd.func36 (by kernel_rfl) rfl #[.string a0, .int .i64 x5_1] rfl ql ?_; (with_reducible refine (idiomref01_Step.calls k1 a0 x5_1 t151 t152 _ A4.out).mono ?_); rintro e w' ⟨rfl, ⟨nd, rfl⟩⟩; refine ⟨_, rfl, ?_⟩) | (go_at_call 13; (with_reducible refine (idiomref01_Space.calls (wrap32 (t151)) true _ A6.out).mono ?_); rintro e w' ⟨rfl, ⟨nd, rfl⟩⟩))
         go_roundg k1
         case measure => have := HK1.out; omega
         case rel => exact ⟨(x4_1), (wrap64 (x5_1 + t152)), (by first | rfl | (simp; done) | (simp [*]; done)), (by first | rfl | (simp; done) | (simp [*]; done)), H', ⟨by have := HK1.out; omega⟩, by repeat (first | exact Drawn0.refl _ | apply Drawn0.step)⟩
       · replace c7 := Bool.eq_false_iff.mpr c7
         subst c7
         have H1 : (idiomref01_Trim.l0 k1 a0 t150 (wrap64 (x5_1 + t152)) (wrap64 (x5_1 + t152))) = some r := by rw [if_neg (show ¬ (false = true) by decide)] at H; exact H
         clear H
         have H := H1
         clear H1
         have H' := Aside0.mk H
         clear H
         go_wp2_with (first | ((with_reducible refine gate_callee (f := 36) rfl ?_); refine goesL_ (some 19) rfl rfl Tryd.func36 (by kernel_rfl) rfl #[.string a0, .int .i64 x5_1] rfl ql ?_; (with_reducible refine (idiomref01_Step.calls k1 a0 x5_1 t151 t152 _ A4.out).mono ?_); rintro e w' ⟨rfl, ⟨nd, rfl⟩⟩; refine ⟨_, rfl, ?_⟩) | (go_at_call 13; (with_reducible refine (idiomref01_Space.calls (wrap32 (t151)) false _ A6.out).mono ?_); rintro e w' ⟨rfl, ⟨nd, rfl⟩⟩))
         go_roundg k1
         case measure => have := HK1.out; omega
         case rel => exact ⟨(wrap64 (x5_1 + t152)), (wrap64 (x5_1 + t152)), (by first | rfl | (simp; done) | (simp [*]; done)), (by first | rfl | (simp; done) | (simp [*]; done)), H', ⟨by have := HK1.out; omega⟩, by repeat (first | exact Drawn0.refl _ | apply Drawn0.step)⟩
   · rw [if_neg c3] at H
     have c3b0 : decide (x5_1 < (a0.size : Int)) = false := decide_eq_false c3
     clear c3
     by_cases c8 : 0 ≤ t150
     · rw [if_pos c8] at H
       have c8b0 := eq_true c8
       have c8b1 : decide (0 ≤ t150) = true := decide_eq_true c8
       clear c8
       by_cases c9 : t150 ≤ x4_1
       · rw [if_pos c9] at H
         have c9b0 := eq_true c9
         have c9b1 : decide (t150 ≤ x4_1) = true := decide_eq_true c9
         clear c9
         by_cases c10 : x4_1 ≤ (a0.size : Int)
         · rw [if_pos c10] at H
           have c10b0 := eq_true c10
           have c10b1 : decide (x4_1 ≤ (a0.size : Int)) = true := decide_eq_true c10
           clear c10
           obtain rfl := Option.some.inj H
           go_wp2
           go_ret
           exact ⟨by first | rfl | (simp; done) | (simp [*]; done), by repeat (first | exact Drawn0.refl _ | apply Drawn0.step)⟩
         · rw [if_neg c10] at H
           exact absurd H (by simp)
       · rw [if_neg c9] at H
         exact absurd H (by simp)
     · rw [if_neg c8] at H
       exact absurd H (by simp)

def idiomlaw01_RunesTrims.f (k : Nat) (a0 : ByteArray) : Option (Bool) := (runes_Trim.f a0).bind fun t154 => ((idiomref01_Trim.f k a0).bind fun t155 => (if t154.toList = t155.toList then ((runes_Trim.f t154).bind fun t156 => (if t156.toList = t154.toList then ((idiomlaw01_awake.f).bind fun t157 => (some t157)) else (none))) else (none)))
theorem idiomlaw01_RunesTrims.mono : ∀ a0 k, LeO (idiomlaw01_RunesTrims.f k a0) (idiomlaw01_RunesTrims.f (k + 1) a0) := by
 intro a0 k
 unfold idiomlaw01_RunesTrims.f
 repeat' first
  | (with_reducible exact idiomref01_Trim.mono _ _)
  | (with_reducible exact LeO.refl _)
  | (with_reducible exact LeO.none _)
  | (with_reducible refine LeO.ite ?_ ?_)
  | (with_reducible refine LeO.bind ?_ (fun _ => ?_))
  | exact idiomref01_Trim.mono _ _
  | exact LeO.none _
  | refine LeO.ite ?_ ?_
  | refine LeO.bind ?_ (fun _ => ?_)
set_option maxHeartbeats 8000000 in
set_option maxRecDepth 100000 in
theorem idiomlaw01_RunesTrims.calls (k : Nat) (a0 : ByteArray) (r : Bool) (w : World) (h : idiomlaw01_RunesTrims.f k a0 = some r) (hG_ : Stray.Tabs w) :
 Calls Tryd.prog 7 #[.string a0] w fun e w' => e = .returned (.bool r) ∧ Below w.heap.size w w' := by
 have HG := Aside0.mk hG_
 clear hG_
 have HB := Aside0.mk (Below.refl w.heap.size w)
 have H : ((runes_Trim.f a0).bind fun t154 => ((idiomref01_Trim.f k a0).bind fun t155 => (if t154.toList = t155.toList then ((runes_Trim.f t154).bind fun t156 => (if t156.toList = t154.toList then ((idiomlaw01_awake.f).bind fun t157 => (some t157)) else (none))) else (none)))) = some r := h
 clear h
 replace H := Option.bind_eq_some_iff.mp H
 obtain ⟨t154, A20, H⟩ := H
 replace H : ((idiomref01_Trim.f k a0).bind fun t155 => (if t154.toList = t155.toList then ((runes_Trim.f t154).bind fun t156 => (if t156.toList = t154.toList then ((idiomlaw01_awake.f).bind fun t157 => (some t157)) else (none))) else (none))) = some r := H
 have A2 := Aside0.mk A20
 clear A20
 replace H := Option.bind_eq_some_iff.mp H
 obtain ⟨t155, A30, H⟩ := H
 replace H : (if t154.toList = t155.toList then ((runes_Trim.f t154).bind fun t156 => (if t156.toList = t154.toList then ((idiomlaw01_awake.f).bind fun t157 => (some t157)) else (none))) else (none)) = some r := H
 have A3 := Aside0.mk A30
 clear A30
 by_cases c4 : t154.toList = t155.toList
 · rw [if_pos c4] at H
   have c4b0 : (t154.toList == t155.toList) = true := beq_iff_eq.mpr c4
   have c4b1 : (t154.toList != t155.toList) = false := bne_eq_false_iff_eq.mpr c4
   clear c4
   replace H := Option.bind_eq_some_iff.mp H
   obtain ⟨t156, A50, H⟩ := H
   replace H : (if t156.toList = t154.toList then ((idiomlaw01_awake.f).bind fun t157 => (some t157)) else (none)) = some r := H
   have A5 := Aside0.mk A50
   clear A50
   by_cases c6 : t156.toList = t154.toList
   · rw [if_pos c6] at H
     have c6b0 : (t156.toList == t154.toList) = true := beq_iff_eq.mpr c6
     have c6b1 : (t156.toList != t154.toList) = false := bne_eq_false_iff_eq.mpr c6
     clear c6
     replace H := Option.bind_eq_some_iff.mp H
     obtain ⟨t157, A70, H⟩ := H
     replace H : (some t157) = some r := H
     have A7 := Aside0.mk A70
     clear A70
     obtain rfl := Option.some.inj H
     go_enter Tryd.func7, Tryd.ntmps7
     go_wp2_with (first | ((with_reducible refine gate_callee (f := 23) rfl ?_); refine goesL_ (some 5) rfl rfl Tryd.func23 (by kernel_rfl) rfl #[.string a0] rfl ql ?_; (with_reducible refine (runes_Trim.calls a0 t154 _ A2.out (by first | exact HG.out | exact HG.out.below HB.out | exact HG.out.below (pw_below_drewN HB.out _) | exact HG.out.below (below_drew HB.out) | exact HG.out.below (by assumption))).mono ?_); rintro e w8 ⟨rfl, hb⟩; refine ⟨_, rfl, ?_⟩; replace HB := qn HB hb; (try clear hb); (try clear hb2); (try clear hk); (try clear hi)) | ((with_reducible refine gate_callee (f := 24) rfl ?_); refine goesL_ (some 8) rfl rfl Tryd.func24 (by kernel_rfl) rfl #[.string a0] rfl ql ?_; (with_reducible refine (idiomref01_Trim.calls k a0 t155 _ A3.out).mono ?_); rintro e w' ⟨rfl, ⟨nd, rfl⟩⟩; refine ⟨_, rfl, ?_⟩) | (go_at_call 23; (with_reducible refine (runes_Trim.calls t154 t156 _ A5.out (by first | exact HG.out | exact HG.out.below HB.out | exact HG.out.below (pw_below_drewN HB.out _) | exact HG.out.below (below_drew HB.out) | exact HG.out.below (by assumption))).mono ?_); rintro e w9 ⟨rfl, hb⟩; replace HB := qn HB hb; (try clear hb); (try clear hb2); (try clear hk); (try clear hi)) | (go_at_call 16; (with_reducible refine (idiomlaw01_awake.calls  t157 _ A7.out).mono ?_); rintro e w10 ⟨rfl, hb⟩; replace HB := qn HB hb; (try clear hb); (try clear hb2); (try clear hk); (try clear hi)))
     go_ret
     exact ⟨qe, qh HB⟩
   · rw [if_neg c6] at H
     exact absurd H (by simp)
 · rw [if_neg c4] at H
   exact absurd H (by simp)

/-- THE ONE PURE STATEMENT of idiomlaw01_RunesTrims: yours. -/
def idiomlaw01_RunesTrims.Pure : Prop := ∀ (a0 : ByteArray), a0.size ≤ 140737488351232 → ∃ k, idiomlaw01_RunesTrims.f k a0 = some true
end Go.Proofs.YtigikjihagmokaaDoor.F
set_option linter.unusedVariables false
set_option linter.unusedSimpArgs false
namespace Go.Proofs.YtigikjihagmokaaDoor.RunesAwake
open Go.RowKit Go.Proofs.YtigikjihagmokaaDoorW.PrintWords Go.Proofs.YtigikjihagmokaaDoorW.PrintLast Go.Proofs.YtigikjihagmokaaDoorW.PrintMore Go.Proofs.YtigikjihagmokaaDoor.F
theorem Ev.some {α : Type} {g : Nat → Option α} {r : α} (h : ∀ k, g (k + 1) = some r) : Ev g r := Ev.step (f := fun _ => Option.some r) h (Ev.now r)
theorem w64 {x : Int} (h0 : -9223372036854775808 ≤ x) (h1 : x ≤ 9223372036854775807) : wrap64 x = x := by unfold wrap64; omega
theorem toL (l : Array UInt8) : (⟨l⟩ : ByteArray).toList = l.toList := by rw [ByteArray.toList_eq]
theorem awake : idiomlaw01_awake.f = some true := by
  have p0 : Fill.piece ⟨#[123, 49, 125, 45, 123, 48, 125]⟩ [(⟨#[97]⟩ : ByteArray), ⟨#[98]⟩] 0 = some (⟨#[98]⟩, 3) := by
    unfold Fill.piece
    rw [if_pos (by rw [ByteArray.toList_eq]; rfl)]
    rfl
  have p3 : Fill.piece ⟨#[123, 49, 125, 45, 123, 48, 125]⟩ [(⟨#[97]⟩ : ByteArray), ⟨#[98]⟩] 3 = some (⟨#[45]⟩, 4) := by
    unfold Fill.piece
    rw [if_neg (by rw [ByteArray.toList_eq]; decide)]
    rfl
  have p4 : Fill.piece ⟨#[123, 49, 125, 45, 123, 48, 125]⟩ [(⟨#[97]⟩ : ByteArray), ⟨#[98]⟩] 4 = some (⟨#[97]⟩, 7) := by
    unfold Fill.piece
    rw [if_pos (by rw [ByteArray.toList_eq]; rfl)]
    rfl
  have sz : ((⟨#[123, 49, 125, 45, 123, 48, 125]⟩ : ByteArray).size : Int) = 7 := rfl
  have s1 : ((⟨#[98]⟩ : ByteArray).size : Int) = 1 := rfl
  have s2 : ((⟨#[45]⟩ : ByteArray).size : Int) = 1 := rfl
  have s3 : ((⟨#[97]⟩ : ByteArray).size : Int) = 1 := rfl
  have e : Fill.f ⟨#[123, 49, 125, 45, 123, 48, 125]⟩ [(⟨#[97]⟩ : ByteArray), ⟨#[98]⟩] = (⟨#[98, 45, 97]⟩, 0) := by
    unfold Fill.f
    rw [sz, if_neg (by decide), show (⟨#[123, 49, 125, 45, 123, 48, 125]⟩ : ByteArray).size + 1 = 8 from rfl]
    simp only [Fill.go]
    rw [sz, if_pos (by decide), p0]
    simp only []
    rw [s1, if_neg (by decide), if_pos (by decide), p3]
    simp only []
    rw [s2, if_neg (by decide), if_pos (by decide), p4]
    simp only []
    rw [s3, if_neg (by decide), if_neg (by decide)]
    rfl
  unfold idiomlaw01_awake.f runes_Fill.f
  rw [e, Option.bind_some]
  simp only []
  rw [if_pos (by rw [toL])]
  simp only [if_true]
  unfold runes_Ident.f
  rw [if_pos (by rw [toL])]
  rfl
theorem awake_ev : Ev (fun _ : Nat => idiomlaw01_awake.f.bind fun t => some t) true := by rw [awake]; exact Ev.now _
end Go.Proofs.YtigikjihagmokaaDoor.RunesAwake
