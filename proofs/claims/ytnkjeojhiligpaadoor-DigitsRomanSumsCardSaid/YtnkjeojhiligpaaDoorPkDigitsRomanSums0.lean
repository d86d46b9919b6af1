/- Part 1 of 3 of the proof of the law DigitsRomanSums: it is true at every input. Conditions: those of the given row, no others. -/
import Derived.Test.YtnkjeojhiligpaaDoorWMore
import Derived.WalkKit
import Derived.Laws.IdiomStrings
import Derived.Laws.BytesArg
import Derived.Lib.Hide
import Derived.Laws.BitsLemmas
import Derived.Test.YtnkjeojhiligpaaDoorProg
import Derived.Below
import Derived.Deep.Draws
import Derived.Deep.AppendLies
import Derived.Maps.AppendAt
import Derived.OwnWalk
import Derived.Laws.MakeOwn
import Derived.Laws.OwnMore
import Derived.Deep.OwnRows
import Derived.Tactics
import Derived.Lib.ConvBytes
import Derived.Laws.Slices
import Derived.KernelRfl
import Derived.RowKit3
import Derived.Deep.LoopGhost
import Derived.Deep.QuietTactic
import Derived.BigQuiet
import Derived.WideLaws
import Derived.Deep.DeepCutAuto
import Derived.Deep.CutBlock
import Derived.Deep.RegionHeld3
import Derived.Laws.Rows
import Derived.Lib.AppendStr
import Derived.ArgAppend
import Derived.Laws.IdiomCopy
import Derived.OrdersHeld
import Derived.RowKit
import Derived.Test.YtnkjeojhiligpaaDoorWWords
import Derived.Test.YtnkjeojhiligpaaDoorWLast
import Derived.Laws.StructEq
import Derived.Maps.OwnSet
import Derived.BigCall
import Derived.Laws.ResultCell
import Derived.Lib.OthersKept
import Derived.Shelf.Strings.Builder1
import Derived.Shelf.Strings.Builder2
import Derived.Shelf.Strings.OnBuilder
import Derived.Shelf.Strings.Trim
import Derived.Shelf.Small.Utf8
import Derived.Shelf.Small.Strs
import Derived.Shelf.Strings.BuilderF
import Derived.Shelf.Strings.BuilderK
import Derived.Shelf.Strings.BuilderRune
import Derived.Shelf.Strings.Builder2Cap
import Derived.Shelf.Strconv.Itoa0
import Derived.Shelf.Strings.Search1
import Derived.Shelf.Strings.Prefix
import Derived.Shelf.Unicode.Latin
import Derived.Shelf.Unicode.Decode
import Derived.Shelf.Strings.Runes
import Derived.Shelf.Strings.AsciiSet
import Derived.Shelf.Bits.Mul64
import Derived.Shelf.Strings.Repeat
import Derived.Shelf.Unicode.DecodeSlow
import Derived.Shelf.Unicode.DecodeAny
import Derived.Shelf.Unicode.DecodeLast
import Derived.Shelf.Unicode.CaseLookup
import Derived.Shelf.Unicode.CaseConvert
import Derived.Shelf.Unicode.CaseTo
import Derived.Shelf.Unicode.CaseLaid
import Derived.Shelf.Strings.BuilderCap
import Derived.Lib.LaidU8
import Derived.Lib.TrimUEq
import Derived.Lib.MapLaws
import Derived.Lib.FrozenHead2
set_option linter.unusedVariables false
namespace Go.Proofs.YtnkjeojhiligpaaDoor.Aid
open Go.RowKit Go.Proofs.YtnkjeojhiligpaaDoorW.PrintWords Go.Proofs.YtnkjeojhiligpaaDoorW.PrintMore

/-- The block B is one of bytes, made since base; its first bytes are l, and may be written. -/
def Bts (w : World) (base B e : Nat) (l : List Int) : Prop :=
  base ≤ B ∧ ∃ cur fz, w.heap[B]? = some (.cells cur e fz) ∧ l.length ≤ fz.1 ∧ l.length ≤ cur.size ∧ ∀ j, j < l.length → cur[j]? = some (.int .u8 (l.getD j 0))

theorem Bts.lt {w : World} {base B e : Nat} {l : List Int} (h : Bts w base B e l) : B < w.heap.size := by
  obtain ⟨_, cur, fz, hb, _⟩ := h
  exact (Array.getElem?_eq_some_iff.1 hb).1
theorem Bts.cell {w : World} {base B e : Nat} {l : List Int} (h : Bts w base B e l) (j : Nat) (hj : j < l.length) : w.cell? ⟨B, j, none⟩ = some (.int .u8 (l.getD j 0)) := by
  obtain ⟨_, cur, fz, hb, _, _, hc⟩ := h
  unfold World.cell?
  rw [hb]
  simpa using hc j hj
theorem Bts.free {w : World} {base B e : Nat} {l : List Int} (h : Bts w base B e l) (j : Nat) (hj : j < l.length) : w.frozen? ⟨B, j, none⟩ = false := by
  obtain ⟨_, cur, fz, hb, hf, _, hc⟩ := h
  unfold World.frozen?
  rw [hb]
  obtain ⟨lo, hi⟩ := fz
  simp only at hf ⊢
  have : ¬ lo ≤ j := by omega
  simp [this]
theorem Bts.set {w : World} {base B e : Nat} {l : List Int} (h : Bts w base B e l) (j : Nat) (v : Int) : Bts (w.setCell ⟨B, j, none⟩ (.int .u8 v)) base B e (l.set j v) := by
  obtain ⟨h0, cur, fz, hb, hf, hs, hc⟩ := h
  have hlt := (Array.getElem?_eq_some_iff.1 hb).1
  have he := (Array.getElem?_eq_some_iff.1 hb).2
  refine ⟨h0, cur.setIfInBounds j (.int .u8 v), fz, ?_, by simpa using hf, by simpa using hs, ?_⟩
  · unfold World.setCell
    simp only [Array.getElem?_modify]
    simp [hb]
  · intro i hi
    simp only [List.length_set] at hi
    rw [Array.getElem?_setIfInBounds]
    by_cases e1 : j = i
    · subst e1
      simp [show j < cur.size by omega, List.getD_eq_getElem?_getD, hi]
    · simp only [if_neg e1]
      rw [hc i hi]
      simp [List.getD_eq_getElem?_getD, e1]
theorem Bts.drew {w : World} {base B e : Nat} {l : List Int} (h : Bts w base B e l) : Bts w.drew base B e l := h
theorem Bts.below {w w1 : World} {base B e : Nat} {l : List Int} (h : Bts w base B e l) (hb : Below w.heap.size w w1) : Bts w1 base B e l := by
  have hl := h.lt
  obtain ⟨h0, cur, fz, hh, r⟩ := h
  exact ⟨h0, cur, fz, (hb.block B hl).trans hh, r⟩

/-- A text's bytes as numbers. -/
def nums8 (s : ByteArray) : List Int := s.data.toList.map fun c => (c.toNat : Int)
theorem nums8_length (s : ByteArray) : (nums8 s).length = s.size := by simp [nums8]
theorem strOf_nums8 (s : ByteArray) : strOfNums (nums8 s) = s := by
  obtain ⟨⟨l⟩⟩ := s
  simp [strOfNums, nums8, Function.comp_def]

/-- What '[]byte(s)' makes. -/
theorem Bts.made (w : World) (e : Nat) (s : ByteArray) (cap : Nat) : Bts (w.drew.alloc (.cells (bytesRow s cap) e ((bytesRow s cap).size, (bytesRow s cap).size + 1))) w.heap.size w.heap.size e (nums8 s) := by
  refine ⟨Nat.le_refl _, bytesRow s cap, _, heap_alloc_new w.drew _, ?_, ?_, ?_⟩
  · rw [nums8_length]; simp [bytesRow]
  · rw [nums8_length]; simp [bytesRow]
  · intro j hj
    have hj' : j < s.data.toList.length := by simpa [nums8] using hj
    have hj2 : j < s.data.size := by simpa using hj'
    unfold bytesRow
    rw [Array.getElem?_append_left (by simpa using hj2)]
    simp [nums8, List.getD_eq_getElem?_getD, Array.getElem?_eq_getElem hj2]
theorem bne_nil (l : List UInt8) : (!l.isEmpty) = (l != []) := by cases l <;> rfl
theorem eq_nil (l : List UInt8) : l.isEmpty = (l == []) := by cases l <;> rfl
theorem empty_of {l : List UInt8} {b : Bool} (h : (l == []) = b) : l.isEmpty = b := (eq_nil l).trans h
theorem R_set_drew {α : Type} {d : Kd α} {e base n : Nat} {w : World} {a : Addr} {v u : Value} {ok : Nat → Prop} {xs : List α} (h : d.R e (w.setCell a v) base ok u xs) : d.R e ((w.drewN n).setCell a v) base ok u xs := Kd.R_drewN h n
theorem V_nil' {k : IntKind} {e base : Nat} {w : World} {ok : Nat → Prop} {v : Value} (h : v = .slice none 0 0) : Kd.V (Kd.int k) e w base ok v [] := h ▸ Kd.V_nil _ _ _ _ _
theorem R_nil' {k : IntKind} {e base : Nat} {w : World} {ok : Nat → Prop} {v : Value} (h : v = .slice none 0 0) : Kd.R (Kd.int k) e w base ok v [] := h ▸ Kd.R_nil _ _ _ _ _
/-- A text of one byte. -/
theorem one_byte (s : ByteArray) (h : s.size = 1) : ∃ c : UInt8, s = ⟨#[c]⟩ ∧ bt s 0 = (c.toNat : Int) := by
  obtain ⟨⟨l⟩⟩ := s
  obtain ⟨c, rfl⟩ := List.length_eq_one_iff.1 h
  exact ⟨c, rfl, rfl⟩
/-- The last six bits of a byte behind 128, as the walk spells them. -/
theorem low6 (x : Int) : Go.bits .or .u8 128 (Go.bits .and .u8 (x % 256) 63) = 128 + x % 64 := by
  have h1 : Go.bits .and .u8 (x % 256) 63 = x % 256 % 64 := u8_and63 _ (by omega) (by omega)
  have h2 : Go.bits .or .u8 128 (x % 256 % 64) = 128 + x % 256 % 64 := u8_or128 _ (by omega) (by omega)
  rw [h1, h2]
  omega
end Go.Proofs.YtnkjeojhiligpaaDoor.Aid
namespace Go.Proofs.YtnkjeojhiligpaaDoor.H
open Go.RowKit Go.Proofs.YtnkjeojhiligpaaDoorW.PrintWords Go.Proofs.YtnkjeojhiligpaaDoorW.PrintLast Go.Proofs.YtnkjeojhiligpaaDoorW.PrintMore
attribute [local go_sem] max2_int min2_int max_two min_two max_three min_three max_four min_four   -- for this text's walks alone
set_option linter.unusedVariables false
set_option linter.unusedSimpArgs false



def errW : Option Int → Value
 | none => .nilIface
 | some c => .iface 0 (.int .i64 c)
theorem errW_none : errW none = .nilIface := rfl
theorem errW_some (c : Int) : errW (some c) = .iface 0 (.int .i64 c) := rfl

end Go.Proofs.YtnkjeojhiligpaaDoor.H
set_option linter.unusedVariables false
namespace Go.Proofs.YtnkjeojhiligpaaDoor.Q
open Go.RowKit Go.Proofs.YtnkjeojhiligpaaDoorW.PrintWords Go.Proofs.YtnkjeojhiligpaaDoorW.PrintLast Go.Proofs.YtnkjeojhiligpaaDoorW.PrintMore
theorem ql {p : Prop} (h : p := by (try simp only [List.map_toArray, List.map_cons, List.map_nil]); first | done | rfl | (simp only [List.length_drop, List.length_take]; rfl)) : p := h
theorem qh {b : Nat} {w w1 w2 : World} (B : Aside0 (Below b w w1)) (h : Below b w w1 → Below b w w2 := by intro h_; repeat (first | (with_reducible first | exact h_ | apply below_alloc | apply pw_below_drewN | apply below_drew1 | refine below_set ?_ (Aside0.out (by with_reducible assumption))) | exact h_)) : Below b w w2 := h B.out
theorem qn {w w1 w2 w3 : World} (B : Aside0 (Below w.heap.size w w1)) (hb : Below w2.heap.size w2 w3) (h : Below w.heap.size w w1 → Below w.heap.size w w2 := by intro h_; repeat (first | (with_reducible first | exact h_ | apply below_alloc | apply pw_below_drewN | apply below_drew1 | refine below_set ?_ (Aside0.out (by with_reducible assumption))) | exact h_)) : Aside0 (Below w.heap.size w w3) := ⟨below_step (h B.out) hb⟩
theorem qe {p : Prop} (h : p := by first | rfl | (exact congrArg (fun b => Ending.returned (.bool b)) (Aid.bne_nil _)) | (exact congrArg (fun b => Ending.returned (.bool b)) (Aid.eq_nil _)) | (simp [errW_none, errW_some] <;> rfl) | (simp [*, errW_none, errW_some] <;> rfl)) : p := h
theorem qa {p : Prop} (h : p := by first | (with_reducible assumption) | assumption) : p := h
section
variable {P : Program} {ops : Array Oper} {rest : List Oper} {o : Oper} {a : Act} {Q : Exit → Act → World → Prop} {md : Region.Mode} {S : World → Prop} {ds : List Nat} {T : Bool × List (List Nat × List Nat)} {B : List Nat}
end
end Go.Proofs.YtnkjeojhiligpaaDoor.Q
set_option linter.unusedVariables false
set_option linter.unusedSimpArgs false
set_option maxRecDepth 100000
namespace Go.Proofs.YtnkjeojhiligpaaDoor.Ten
open Go.RowKit Go.MapKept Go.ChangeMaps Go.Proofs.YtnkjeojhiligpaaDoorW.PrintWords Go.Proofs.YtnkjeojhiligpaaDoorW.PrintLast Go.Proofs.YtnkjeojhiligpaaDoorW.PrintMore
theorem set_push (a : Array Obj) (o o' : Obj) : (a.push o).setIfInBounds a.size o' = a.push o' := by
  apply Array.ext'
  simp [Array.toList_setIfInBounds]
theorem put (w : World) (es : Array MapEntry) (c : Nat) (key : ByteArray) (v : Value) (hf : Instr.findNow .string (.string key) es.toList 0 = some none) :
    (Instr.mapUpdate 67 (.map (some w.heap.size)) (.string key) v).run Tryd.prog (w.alloc (.map es c)) = .ok () (w.alloc (.map (es.push { key := .string key, val := v, born := c }) (c + 1))) := by
  have hb : (w.alloc (.map es c)).heap[w.heap.size]? = some (.map es c) := (heap_alloc w _).1
  have h1 : Tryd.prog.underlying 67 = some (.map 9 65) := Tryd.underlying67
  have h2 : Tryd.prog.underlying 9 = some .string := Tryd.underlying9
  have hk : ∀ W : World, (Instr.checkKey false 10000 9 (.string key)).run Tryd.prog W = .ok () W := by
    intro W
    rw [Instr.checkKey]
    simp only [Sem.run_bind, run_underlying h2, Result.andThen]
    rfl
  have hF : ∀ W : World, (Instr.findKey 9 (.string key) es.toList).run Tryd.prog W = .ok none W := by
    intro W
    unfold Instr.findKey
    simp only [Sem.run_bind, run_underlying h2, Result.andThen, hf]
    rfl
  unfold Instr.mapUpdate
  simp only [Sem.run_bind, run_underlying h1, Result.andThen, MapKept.run_getObj_map (P := Tryd.prog) hb, hk, hF]
  rw [MapKept.run_setObj_map (P := Tryd.prog) _ hb]
  unfold World.alloc
  simp only [set_push]
def sys : List (ByteArray × Int × ByteArray) := [(⟨#[97, 114, 97, 98]⟩, 1632, ⟨#[]⟩), (⟨#[97, 114, 97, 98, 101, 120, 116]⟩, 1776, ⟨#[]⟩), (⟨#[98, 101, 110, 103]⟩, 2534, ⟨#[]⟩), (⟨#[100, 101, 118, 97]⟩, 2406, ⟨#[]⟩), (⟨#[102, 117, 108, 108, 119, 105, 100, 101]⟩, 65296, ⟨#[]⟩), (⟨#[103, 117, 106, 114]⟩, 2790, ⟨#[]⟩), (⟨#[103, 117, 114, 117]⟩, 2662, ⟨#[]⟩), (⟨#[107, 104, 109, 114]⟩, 6112, ⟨#[]⟩), (⟨#[107, 110, 100, 97]⟩, 3302, ⟨#[]⟩), (⟨#[108, 97, 111, 111]⟩, 3792, ⟨#[]⟩), (⟨#[108, 97, 116, 110]⟩, 48, ⟨#[]⟩), (⟨#[108, 105, 109, 98]⟩, 6470, ⟨#[]⟩), (⟨#[109, 108, 121, 109]⟩, 3430, ⟨#[]⟩), (⟨#[109, 121, 109, 114]⟩, 4160, ⟨#[]⟩), (⟨#[111, 114, 121, 97]⟩, 2918, ⟨#[]⟩), (⟨#[116, 97, 109, 108, 100, 101, 99]⟩, 3046, ⟨#[]⟩), (⟨#[116, 101, 108, 117]⟩, 3174, ⟨#[]⟩), (⟨#[116, 104, 97, 105]⟩, 3664, ⟨#[]⟩), (⟨#[116, 105, 98, 116]⟩, 3872, ⟨#[]⟩), (⟨#[104, 97, 110, 105, 100, 101, 99]⟩, 12295, ⟨#[227, 128, 135, 228, 184, 128, 228, 186, 140, 228, 184, 137, 229, 155, 155, 228, 186, 148, 229, 133, 173, 228, 184, 131, 229, 133, 171, 228, 185, 157]⟩)]
def ent : Nat → List (ByteArray × Int × ByteArray) → List MapEntry
  | _, [] => []
  | j, (n, z, h) :: l => { key := .string n, val := .agg #[.int .i32 z, .string h], born := j } :: ent (j + 1) l
def ents (j : Nat) : Array MapEntry := (ent 0 (sys.take j)).toArray
theorem p0 (w : World) : (Instr.mapUpdate 67 (.map (some w.heap.size)) (.string ⟨#[97, 114, 97, 98]⟩) (.agg #[.int .i32 1632, .string ⟨#[]⟩])).run Tryd.prog (w.alloc (.map (ents 0) 0)) = .ok () (w.alloc (.map (ents 1) 1)) := put w (ents 0) 0 ⟨#[97, 114, 97, 98]⟩ (.agg #[.int .i32 1632, .string ⟨#[]⟩]) (by kernel_rfl)
theorem p1 (w : World) : (Instr.mapUpdate 67 (.map (some w.heap.size)) (.string ⟨#[97, 114, 97, 98, 101, 120, 116]⟩) (.agg #[.int .i32 1776, .string ⟨#[]⟩])).run Tryd.prog (w.alloc (.map (ents 1) 1)) = .ok () (w.alloc (.map (ents 2) 2)) := put w (ents 1) 1 ⟨#[97, 114, 97, 98, 101, 120, 116]⟩ (.agg #[.int .i32 1776, .string ⟨#[]⟩]) (by kernel_rfl)
theorem p2 (w : World) : (Instr.mapUpdate 67 (.map (some w.heap.size)) (.string ⟨#[98, 101, 110, 103]⟩) (.agg #[.int .i32 2534, .string ⟨#[]⟩])).run Tryd.prog (w.alloc (.map (ents 2) 2)) = .ok () (w.alloc (.map (ents 3) 3)) := put w (ents 2) 2 ⟨#[98, 101, 110, 103]⟩ (.agg #[.int .i32 2534, .string ⟨#[]⟩]) (by kernel_rfl)
theorem p3 (w : World) : (Instr.mapUpdate 67 (.map (some w.heap.size)) (.string ⟨#[100, 101, 118, 97]⟩) (.agg #[.int .i32 2406, .string ⟨#[]⟩])).run Tryd.prog (w.alloc (.map (ents 3) 3)) = .ok () (w.alloc (.map (ents 4) 4)) := put w (ents 3) 3 ⟨#[100, 101, 118, 97]⟩ (.agg #[.int .i32 2406, .string ⟨#[]⟩]) (by kernel_rfl)
theorem p4 (w : World) : (Instr.mapUpdate 67 (.map (some w.heap.size)) (.string ⟨#[102, 117, 108, 108, 119, 105, 100, 101]⟩) (.agg #[.int .i32 65296, .string ⟨#[]⟩])).run Tryd.prog (w.alloc (.map (ents 4) 4)) = .ok () (w.alloc (.map (ents 5) 5)) := put w (ents 4) 4 ⟨#[102, 117, 108, 108, 119, 105, 100, 101]⟩ (.agg #[.int .i32 65296, .string ⟨#[]⟩]) (by kernel_rfl)
theorem p5 (w : World) : (Instr.mapUpdate 67 (.map (some w.heap.size)) (.string ⟨#[103, 117, 106, 114]⟩) (.agg #[.int .i32 2790, .string ⟨#[]⟩])).run Tryd.prog (w.alloc (.map (ents 5) 5)) = .ok () (w.alloc (.map (ents 6) 6)) := put w (ents 5) 5 ⟨#[103, 117, 106, 114]⟩ (.agg #[.int .i32 2790, .string ⟨#[]⟩]) (by kernel_rfl)
theorem p6 (w : World) : (Instr.mapUpdate 67 (.map (some w.heap.size)) (.string ⟨#[103, 117, 114, 117]⟩) (.agg #[.int .i32 2662, .string ⟨#[]⟩])).run Tryd.prog (w.alloc (.map (ents 6) 6)) = .ok () (w.alloc (.map (ents 7) 7)) := put w (ents 6) 6 ⟨#[103, 117, 114, 117]⟩ (.agg #[.int .i32 2662, .string ⟨#[]⟩]) (by kernel_rfl)
theorem p7 (w : World) : (Instr.mapUpdate 67 (.map (some w.heap.size)) (.string ⟨#[107, 104, 109, 114]⟩) (.agg #[.int .i32 6112, .string ⟨#[]⟩])).run Tryd.prog (w.alloc (.map (ents 7) 7)) = .ok () (w.alloc (.map (ents 8) 8)) := put w (ents 7) 7 ⟨#[107, 104, 109, 114]⟩ (.agg #[.int .i32 6112, .string ⟨#[]⟩]) (by kernel_rfl)
theorem p8 (w : World) : (Instr.mapUpdate 67 (.map (some w.heap.size)) (.string ⟨#[107, 110, 100, 97]⟩) (.agg #[.int .i32 3302, .string ⟨#[]⟩])).run Tryd.prog (w.alloc (.map (ents 8) 8)) = .ok () (w.alloc (.map (ents 9) 9)) := put w (ents 8) 8 ⟨#[107, 110, 100, 97]⟩ (.agg #[.int .i32 3302, .string ⟨#[]⟩]) (by kernel_rfl)
theorem p9 (w : World) : (Instr.mapUpdate 67 (.map (some w.heap.size)) (.string ⟨#[108, 97, 111, 111]⟩) (.agg #[.int .i32 3792, .string ⟨#[]⟩])).run Tryd.prog (w.alloc (.map (ents 9) 9)) = .ok () (w.alloc (.map (ents 10) 10)) := put w (ents 9) 9 ⟨#[108, 97, 111, 111]⟩ (.agg #[.int .i32 3792, .string ⟨#[]⟩]) (by kernel_rfl)
theorem p10 (w : World) : (Instr.mapUpdate 67 (.map (some w.heap.size)) (.string ⟨#[108, 97, 116, 110]⟩) (.agg #[.int .i32 48, .string ⟨#[]⟩])).run Tryd.prog (w.alloc (.map (ents 10) 10)) = .ok () (w.alloc (.map (ents 11) 11)) := put w (ents 10) 10 ⟨#[108, 97, 116, 110]⟩ (.agg #[.int .i32 48, .string ⟨#[]⟩]) (by kernel_rfl)
theorem p11 (w : World) : (Instr.mapUpdate 67 (.map (some w.heap.size)) (.string ⟨#[108, 105, 109, 98]⟩) (.agg #[.int .i32 6470, .string ⟨#[]⟩])).run Tryd.prog (w.alloc (.map (ents 11) 11)) = .ok () (w.alloc (.map (ents 12) 12)) := put w (ents 11) 11 ⟨#[108, 105, 109, 98]⟩ (.agg #[.int .i32 6470, .string ⟨#[]⟩]) (by kernel_rfl)
theorem p12 (w : World) : (Instr.mapUpdate 67 (.map (some w.heap.size)) (.string ⟨#[109, 108, 121, 109]⟩) (.agg #[.int .i32 3430, .string ⟨#[]⟩])).run Tryd.prog (w.alloc (.map (ents 12) 12)) = .ok () (w.alloc (.map (ents 13) 13)) := put w (ents 12) 12 ⟨#[109, 108, 121, 109]⟩ (.agg #[.int .i32 3430, .string ⟨#[]⟩]) (by kernel_rfl)
theorem p13 (w : World) : (Instr.mapUpdate 67 (.map (some w.heap.size)) (.string ⟨#[109, 121, 109, 114]⟩) (.agg #[.int .i32 4160, .string ⟨#[]⟩])).run Tryd.prog (w.alloc (.map (ents 13) 13)) = .ok () (w.alloc (.map (ents 14) 14)) := put w (ents 13) 13 ⟨#[109, 121, 109, 114]⟩ (.agg #[.int .i32 4160, .string ⟨#[]⟩]) (by kernel_rfl)
theorem p14 (w : World) : (Instr.mapUpdate 67 (.map (some w.heap.size)) (.string ⟨#[111, 114, 121, 97]⟩) (.agg #[.int .i32 2918, .string ⟨#[]⟩])).run Tryd.prog (w.alloc (.map (ents 14) 14)) = .ok () (w.alloc (.map (ents 15) 15)) := put w (ents 14) 14 ⟨#[111, 114, 121, 97]⟩ (.agg #[.int .i32 2918, .string ⟨#[]⟩]) (by kernel_rfl)
theorem p15 (w : World) : (Instr.mapUpdate 67 (.map (some w.heap.size)) (.string ⟨#[116, 97, 109, 108, 100, 101, 99]⟩) (.agg #[.int .i32 3046, .string ⟨#[]⟩])).run Tryd.prog (w.alloc (.map (ents 15) 15)) = .ok () (w.alloc (.map (ents 16) 16)) := put w (ents 15) 15 ⟨#[116, 97, 109, 108, 100, 101, 99]⟩ (.agg #[.int .i32 3046, .string ⟨#[]⟩]) (by kernel_rfl)
theorem p16 (w : World) : (Instr.mapUpdate 67 (.map (some w.heap.size)) (.string ⟨#[116, 101, 108, 117]⟩) (.agg #[.int .i32 3174, .string ⟨#[]⟩])).run Tryd.prog (w.alloc (.map (ents 16) 16)) = .ok () (w.alloc (.map (ents 17) 17)) := put w (ents 16) 16 ⟨#[116, 101, 108, 117]⟩ (.agg #[.int .i32 3174, .string ⟨#[]⟩]) (by kernel_rfl)
theorem p17 (w : World) : (Instr.mapUpdate 67 (.map (some w.heap.size)) (.string ⟨#[116, 104, 97, 105]⟩) (.agg #[.int .i32 3664, .string ⟨#[]⟩])).run Tryd.prog (w.alloc (.map (ents 17) 17)) = .ok () (w.alloc (.map (ents 18) 18)) := put w (ents 17) 17 ⟨#[116, 104, 97, 105]⟩ (.agg #[.int .i32 3664, .string ⟨#[]⟩]) (by kernel_rfl)
theorem p18 (w : World) : (Instr.mapUpdate 67 (.map (some w.heap.size)) (.string ⟨#[116, 105, 98, 116]⟩) (.agg #[.int .i32 3872, .string ⟨#[]⟩])).run Tryd.prog (w.alloc (.map (ents 18) 18)) = .ok () (w.alloc (.map (ents 19) 19)) := put w (ents 18) 18 ⟨#[116, 105, 98, 116]⟩ (.agg #[.int .i32 3872, .string ⟨#[]⟩]) (by kernel_rfl)
theorem p19 (w : World) : (Instr.mapUpdate 67 (.map (some w.heap.size)) (.string ⟨#[104, 97, 110, 105, 100, 101, 99]⟩) (.agg #[.int .i32 12295, .string ⟨#[227, 128, 135, 228, 184, 128, 228, 186, 140, 228, 184, 137, 229, 155, 155, 228, 186, 148, 229, 133, 173, 228, 184, 131, 229, 133, 171, 228, 185, 157]⟩])).run Tryd.prog (w.alloc (.map (ents 19) 19)) = .ok () (w.alloc (.map (ents 20) 20)) := put w (ents 19) 19 ⟨#[104, 97, 110, 105, 100, 101, 99]⟩ (.agg #[.int .i32 12295, .string ⟨#[227, 128, 135, 228, 184, 128, 228, 186, 140, 228, 184, 137, 229, 155, 155, 228, 186, 148, 229, 133, 173, 228, 184, 131, 229, 133, 171, 228, 185, 157]⟩]) (by kernel_rfl)
set_option maxHeartbeats 4000000 in
theorem systems (w : World) : Calls Tryd.prog 37 #[] w fun e w' => e = .returned (.map (some w.heap.size)) ∧ w' = w.alloc (.map (ents 20) 20) := by
  go_enter Tryd.func37, Tryd.ntmps37
  have h0 : w.alloc (.map #[] 0) = w.alloc (.map (ents 0) 0) := rfl
  have p0 := p0 w
  rw [← h0] at p0; clear h0
  have m0 : (Instr.makeMap 67 none).run Tryd.prog w = .ok (.map (some w.heap.size)) (w.alloc (.map #[] 0)) := rfl
  have p1 := p1 w; have p2 := p2 w; have p3 := p3 w; have p4 := p4 w; have p5 := p5 w; have p6 := p6 w; have p7 := p7 w; have p8 := p8 w; have p9 := p9 w; have p10 := p10 w; have p11 := p11 w; have p12 := p12 w; have p13 := p13 w; have p14 := p14 w; have p15 := p15 w; have p16 := p16 w; have p17 := p17 w; have p18 := p18 w; have p19 := p19 w
  go_wp2
  go_ret
  exact ⟨rfl, rfl⟩
def found (name : ByteArray) : Nat → List (ByteArray × Int × ByteArray) → Option (Nat × Value)
  | _, [] => none
  | i, (n, z, h) :: l => if name = n then some (i, .agg #[.int .i32 z, .string h]) else found name (i + 1) l
def sysOf (name : ByteArray) : List (ByteArray × Int × ByteArray) → Option (Int × ByteArray)
  | [] => none
  | (n, z, h) :: l => if name = n then some (z, h) else sysOf name l
theorem beqs (a b : ByteArray) : (a == b) = true ↔ a = b := by
  cases a with | mk x => cases b with | mk y =>
  show (ByteArray.beq ⟨x⟩ ⟨y⟩) = true ↔ _
  unfold ByteArray.beq
  simp
theorem now (name : ByteArray) : ∀ (l : List (ByteArray × Int × ByteArray)) (j i : Nat), Instr.findNow .string (.string name) (ent j l) i = some (found name i l)
  | [], _, _ => rfl
  | (n, z, h) :: l, j, i => by
    have e : Instr.sameNow .string (.string name) (.string n) = some (name == n) := rfl
    simp only [ent, Instr.findNow, e, found]
    by_cases hn : name = n
    · rw [(beqs name n).2 hn, if_pos hn]
    · have : (name == n) = false := by
        cases hb : (name == n) with
        | false => rfl
        | true => exact absurd ((beqs name n).1 hb) hn
      rw [this, if_neg hn]
      exact now name l (j + 1) (i + 1)
theorem found_sys (name : ByteArray) : ∀ (l : List (ByteArray × Int × ByteArray)) (i : Nat), found name i l = (match sysOf name l with | none => none | some (z, h) => (match found name i l with | some (k, _) => some (k, .agg #[.int .i32 z, .string h]) | none => none))
  | [], _ => rfl
  | (n, z, h) :: l, i => by
    simp only [found, sysOf]
    by_cases hn : name = n
    · rw [if_pos hn, if_pos hn]
    · rw [if_neg hn, if_neg hn]
      exact found_sys name l (i + 1)
theorem found_none (name : ByteArray) : ∀ (l : List (ByteArray × Int × ByteArray)) (i : Nat), found name i l = none ↔ sysOf name l = none
  | [], _ => by simp [found, sysOf]
  | (n, z, h) :: l, i => by
    simp only [found, sysOf]
    by_cases hn : name = n
    · rw [if_pos hn, if_pos hn]; simp
    · rw [if_neg hn, if_neg hn]
      exact found_none name l (i + 1)
def sysV (name : ByteArray) : Value × Bool := match sysOf name sys with
  | some (z, h) => (.agg #[.int .i32 z, .string h], true)
  | none => (.agg #[.int .i32 0, .string ⟨#[]⟩], false)
theorem look (w : World) (b : Nat) (hb : w.heap[b]? = some (.map (ents 20) 20)) (name : ByteArray) : (Instr.lookup 67 (.map (some b)) (.string name) true).run Tryd.prog w = .ok (.tuple #[(sysV name).1, .bool (sysV name).2]) w := by
  have h1 : Tryd.prog.underlying 67 = some (.map 9 65) := Tryd.underlying67
  have h2 : Tryd.prog.underlying 9 = some .string := Tryd.underlying9
  have hk : ∀ (c : Bool) (W : World), (Instr.checkKey c 10000 9 (.string name)).run Tryd.prog W = .ok () W := by
    intro c W
    rw [Instr.checkKey]
    simp only [Sem.run_bind, run_underlying h2, Result.andThen]
    rfl
  have hF : ∀ W : World, (Instr.findKey 9 (.string name) (ents 20).toList).run Tryd.prog W = .ok (found name 0 sys) W := by
    intro W
    unfold Instr.findKey ents
    simp only [Sem.run_bind, run_underlying h2, Result.andThen]
    rw [show sys.take 20 = sys from rfl]
    simp only [now]
    rfl
  have hz : (zeroValue 65).run Tryd.prog w = .ok (.agg #[.int .i32 0, .string ⟨#[]⟩]) w := Tryd.zeroValue65 w
  unfold Instr.lookup
  simp only [Sem.run_bind, run_underlying h1, Result.andThen, MapKept.run_getObj_map (P := Tryd.prog) hb, hk, hF]
  have hs := found_sys name sys 0
  have hn := found_none name sys 0
  unfold sysV
  cases hq : sysOf name sys with
  | none =>
    have hp : ∀ (x : Array MapEntry) (W : World), (pure x : Sem (Array MapEntry)).run Tryd.prog W = .ok x W := fun _ _ => rfl
    simp only [hp, hF, hn.2 hq, Sem.run_bind, hz, Result.andThen]
    rfl
  | some p =>
    obtain ⟨z, h⟩ := p
    rw [hq] at hs
    simp only [] at hs
    cases hf : found name 0 sys with
    | none => rw [hn.1 hf] at hq; cases hq
    | some q =>
      obtain ⟨k, v⟩ := q
      rw [hf] at hs
      simp only [Option.some.injEq, Prod.mk.injEq, true_and] at hs
      subst hs
      have hp : ∀ (x : Array MapEntry) (W : World), (pure x : Sem (Array MapEntry)).run Tryd.prog W = .ok x W := fun _ _ => rfl
      simp only [hp, hF, hf, Sem.run_bind, Result.andThen]
      rfl
def row (c : Nat → ByteArray) : Array Value := #[.string (c 0), .string (c 1), .string (c 2), .string (c 3), .string (c 4), .string (c 5), .string (c 6), .string (c 7), .string (c 8), .string (c 9)]
theorem row_set (c : Nat → ByteArray) (i : Nat) (x : ByteArray) (h : i < 10) : (row c).setIfInBounds i (.string x) = row (fun j => if j = i then x else c j) := by
  rcases (by omega : i = 0 ∨ i = 1 ∨ i = 2 ∨ i = 3 ∨ i = 4 ∨ i = 5 ∨ i = 6 ∨ i = 7 ∨ i = 8 ∨ i = 9) with rfl | rfl | rfl | rfl | rfl | rfl | rfl | rfl | rfl | rfl <;> rfl
theorem look3 (w : World) (name : ByteArray) (v : Value) (ok : Bool) (h : sysV name = (v, ok)) : (Instr.lookup 67 (.map (some (w.heap.size + 1 + 1))) (.string name) true).run Tryd.prog (((w.alloc (.cells #[.string ⟨#[]⟩, .string ⟨#[]⟩, .string ⟨#[]⟩, .string ⟨#[]⟩, .string ⟨#[]⟩, .string ⟨#[]⟩, .string ⟨#[]⟩, .string ⟨#[]⟩, .string ⟨#[]⟩, .string ⟨#[]⟩] 39)).alloc (.cells #[.string ⟨#[]⟩, .string ⟨#[]⟩, .string ⟨#[]⟩, .string ⟨#[]⟩, .string ⟨#[]⟩, .string ⟨#[]⟩, .string ⟨#[]⟩, .string ⟨#[]⟩, .string ⟨#[]⟩, .string ⟨#[]⟩] 39)).alloc (.map (ents 20) 20)) = .ok (.tuple #[v, .bool ok]) (((w.alloc (.cells #[.string ⟨#[]⟩, .string ⟨#[]⟩, .string ⟨#[]⟩, .string ⟨#[]⟩, .string ⟨#[]⟩, .string ⟨#[]⟩, .string ⟨#[]⟩, .string ⟨#[]⟩, .string ⟨#[]⟩, .string ⟨#[]⟩] 39)).alloc (.cells #[.string ⟨#[]⟩, .string ⟨#[]⟩, .string ⟨#[]⟩, .string ⟨#[]⟩, .string ⟨#[]⟩, .string ⟨#[]⟩, .string ⟨#[]⟩, .string ⟨#[]⟩, .string ⟨#[]⟩, .string ⟨#[]⟩] 39)).alloc (.map (ents 20) 20)) := by
  have hs : ((w.alloc (.cells #[.string ⟨#[]⟩, .string ⟨#[]⟩, .string ⟨#[]⟩, .string ⟨#[]⟩, .string ⟨#[]⟩, .string ⟨#[]⟩, .string ⟨#[]⟩, .string ⟨#[]⟩, .string ⟨#[]⟩, .string ⟨#[]⟩] 39)).alloc (.cells #[.string ⟨#[]⟩, .string ⟨#[]⟩, .string ⟨#[]⟩, .string ⟨#[]⟩, .string ⟨#[]⟩, .string ⟨#[]⟩, .string ⟨#[]⟩, .string ⟨#[]⟩, .string ⟨#[]⟩, .string ⟨#[]⟩] 39)).heap.size = w.heap.size + 1 + 1 := by simp
  have := look (((w.alloc (.cells #[.string ⟨#[]⟩, .string ⟨#[]⟩, .string ⟨#[]⟩, .string ⟨#[]⟩, .string ⟨#[]⟩, .string ⟨#[]⟩, .string ⟨#[]⟩, .string ⟨#[]⟩, .string ⟨#[]⟩, .string ⟨#[]⟩] 39)).alloc (.cells #[.string ⟨#[]⟩, .string ⟨#[]⟩, .string ⟨#[]⟩, .string ⟨#[]⟩, .string ⟨#[]⟩, .string ⟨#[]⟩, .string ⟨#[]⟩, .string ⟨#[]⟩, .string ⟨#[]⟩, .string ⟨#[]⟩] 39)).alloc (.map (ents 20) 20)) (w.heap.size + 1 + 1) (by rw [← hs]; exact (heap_alloc _ _).1) name
  rw [h] at this
  exact this

theorem row_at (c : Nat → ByteArray) (i : Nat) (h : i < 10) : (row c)[i]? = some (.string (c i)) := by
  rcases (by omega : i = 0 ∨ i = 1 ∨ i = 2 ∨ i = 3 ∨ i = 4 ∨ i = 5 ∨ i = 6 ∨ i = 7 ∨ i = 8 ∨ i = 9) with rfl | rfl | rfl | rfl | rfl | rfl | rfl | rfl | rfl | rfl <;> rfl
theorem i32w {x : Int} (h0 : -2147483648 ≤ x) (h1 : x ≤ 2147483647) : IntKind.i32.wrap x = x := by
  have e : IntKind.i32.wrap x = wrap32 x := by unfold wrap32; exact IntKind.wrap_i32 x
  rw [e]
  unfold wrap32
  omega
theorem i64w {x : Int} (h0 : -9223372036854775808 ≤ x) (h1 : x ≤ 9223372036854775807) : IntKind.i64.wrap x = x := by
  have e : IntKind.i64.wrap x = wrap64 x := by unfold wrap64; exact IntKind.wrap_i64 x
  rw [e]
  unfold wrap64
  omega
theorem set_cells {w : World} {b : Nat} {cs : Array Value} {T : TypeId} {fr : Nat × Nat} (hb : w.heap[b]? = some (.cells cs T fr)) (j : Nat) (v : Value) : (w.setCell ⟨b, j, none⟩ v).heap[b]? = some (.cells (cs.setIfInBounds j v) T fr) := by
  unfold World.setCell
  simp only [Array.getElem?_modify]
  simp [hb]
theorem set_other (w : World) (a : Addr) (v : Value) {b : Nat} (h : b ≠ a.block) : (w.setCell a v).heap[b]? = w.heap[b]? := by
  unfold World.setCell
  simp only [Array.getElem?_modify]
  simp [Ne.symm h]
def mix (c c0 : Nat → ByteArray) (k : Nat) : Nat → ByteArray := fun j => if j < k then c j else c0 j
theorem mix_step {w : World} {b : Nat} {T : TypeId} {fr : Nat × Nat} {c c0 : Nat → ByteArray} {k : Nat} (hb : w.heap[b]? = some (.cells (row (mix c c0 k)) T fr)) (hk : k < 10) : (w.setCell ⟨b, k, none⟩ (.string (c k))).heap[b]? = some (.cells (row (mix c c0 (k + 1))) T fr) := by
  rw [set_cells hb, row_set _ k _ hk]
  congr 3
  funext j
  unfold mix
  by_cases hj : j = k
  · rw [if_pos hj, if_pos (by omega), hj]
  · rw [if_neg hj]
    by_cases hj2 : j < k
    · rw [if_pos hj2, if_pos (by omega)]
    · rw [if_neg hj2, if_neg (by omega)]
theorem set_ten {w : World} {b : Nat} {T : TypeId} {fr : Nat × Nat} {c0 : Nat → ByteArray} (hb : w.heap[b]? = some (.cells (row c0) T fr)) (c : Nat → ByteArray) :
    ((((((((((w.setCell ⟨b, 0, none⟩ (.string (c 0))).setCell ⟨b, 1, none⟩ (.string (c 1))).setCell ⟨b, 2, none⟩ (.string (c 2))).setCell ⟨b, 3, none⟩ (.string (c 3))).setCell ⟨b, 4, none⟩ (.string (c 4))).setCell ⟨b, 5, none⟩ (.string (c 5))).setCell ⟨b, 6, none⟩ (.string (c 6))).setCell ⟨b, 7, none⟩ (.string (c 7))).setCell ⟨b, 8, none⟩ (.string (c 8))).setCell ⟨b, 9, none⟩ (.string (c 9))).heap[b]? = some (.cells (row c) T fr) := by
  have h0 : w.heap[b]? = some (.cells (row (mix c c0 0)) T fr) := hb
  have e := mix_step (mix_step (mix_step (mix_step (mix_step (mix_step (mix_step (mix_step (mix_step (mix_step h0 (by decide)) (by decide)) (by decide)) (by decide)) (by decide)) (by decide)) (by decide)) (by decide)) (by decide)) (by decide)
  rw [e]
  rfl
theorem ret_ten {n0 : Nat} {c : Nat → ByteArray} {w : World} {fr : Nat × Nat} {tm : Array Value} {x : Int} {K : Ending → World → Prop} (hb : w.heap[n0]? = some (.cells (row c) 39 fr)) (h2 : tm.getD 2 undef = .pointer (some ⟨n0, 0, none⟩)) (h3 : tm.getD 3 undef = .int .i64 x) (hK : K (.returned (.tuple #[.agg (row c), .int .i64 x])) w) : bodyPost Tryd.prog Tryd.f22 K Exit.ret { tmps := tm, defers := [] } w := by
  refine ⟨rfl, _, ?_, hK⟩
  have e : (loadVar 39 ⟨n0, 0, none⟩).run Tryd.prog w = .ok (.agg (row c)) w := by
    unfold loadVar
    simp only [Sem.run_bind, Tryd.isAgg39, Tryd.sizeOf39, Result.andThen, if_true]
    have hl := run_loadCells_list (P := Tryd.prog) w ⟨n0, 0, none⟩ (row c).toList (fun j v h => by
      rw [show (⟨n0, 0, none⟩ : Addr).add j = ⟨n0, j, none⟩ from by simp [Addr.add]; omega, Lib.cell_of_heap hb, ← h]
      simp)
    rw [show (row c).toList.length = 10 from rfl, show (row c).toList.toArray = row c from rfl] at hl
    rw [hl]
    rfl
  rw [results_cell_tmp rfl]
  rw [h2, h3]
  have ea : (asAddr (.pointer (some ⟨n0, 0, none⟩))).run Tryd.prog w = .ok ⟨n0, 0, none⟩ w := rfl
  simp only [ea, Result.andThen, e]
theorem new_at (w : World) (o : Obj) {n : Nat} (h : n = w.heap.size) : (w.alloc o).heap[n]? = some o := by rw [h]; exact (heap_alloc w o).1
theorem old_at (w : World) (o : Obj) {n : Nat} (h : n < w.heap.size) : (w.alloc o).heap[n]? = w.heap[n]? := Lib.alloc_old w o n h
def haniS : ByteArray := ⟨#[227, 128, 135, 228, 184, 128, 228, 186, 140, 228, 184, 137, 229, 155, 155, 228, 186, 148, 229, 133, 173, 228, 184, 131, 229, 133, 171, 228, 185, 157]⟩
def hani (j : Nat) : Int := [12295, 19968, 20108, 19977, 22235, 20116, 20845, 19971, 20843, 20061].getD j 0
def plain (z : Int) : Nat → ByteArray := fun j => Utf8.encode (z + j)
def haniD : Nat → ByteArray := fun j => Utf8.encode (hani j)
theorem hani_dec (i : Nat) (h : i < 10) : Utf8.decode haniS (3 * i) = ((hani i).toNat, 3) ∧ ((hani i).toNat : Int) = hani i := by
  rcases (by omega : i = 0 ∨ i = 1 ∨ i = 2 ∨ i = 3 ∨ i = 4 ∨ i = 5 ∨ i = 6 ∨ i = 7 ∨ i = 8 ∨ i = 9) with rfl | rfl | rfl | rfl | rfl | rfl | rfl | rfl | rfl | rfl <;> exact ⟨by decide, rfl⟩
def digs (z : Int) (h : ByteArray) : Nat → ByteArray := if h = haniS then haniD else plain z
set_option maxHeartbeats 4000000 in
theorem ten_ok (name : ByteArray) (z : Int) (h : ByteArray) (w : World) (hn : sysOf name sys = some (z, h)) (hz0 : 0 ≤ z) (hz1 : z ≤ 100000) (hh : h = ⟨#[]⟩ ∨ h = haniS) : Calls Tryd.prog 22 #[.string name] w fun e w' => e = .returned (.tuple #[.agg (row (digs z h)), .int .i64 0]) ∧ Below w.heap.size w w' := by
  have lk := look3 w name (.agg #[.int .i32 z, .string h]) true (by unfold sysV; rw [hn])
  have HH := Aside0.mk hh
  clear hn hh
  go_enter Tryd.func22, Tryd.ntmps22
  go_wp2_with (go_at_call 37; refine (systems _).mono ?_)
  rintro e W1 ⟨rfl, rfl⟩
  go_wp2
  go_loopw [20] (fun i wr => ∃ x : Nat, i = .int .i64 x ∧ x ≤ 10 ∧ wr.heap[w.heap.size + 1]? = some (.cells (row (mix (plain z) (fun _ => ⟨#[]⟩) x)) 39 (0, 0)) ∧ wr.heap[w.heap.size + 1 + 1 + 1]? = some (.cells #[.int .i32 z, .string h] 65 (0, 0)) ∧ wr.heap[w.heap.size]? = some (.cells (row fun _ => ⟨#[]⟩) 39 (0, 0)) ∧ wr.heap.size = w.heap.size + 1 + 1 + 1 + 1 ∧ Below w.heap.size w wr) (fun i _ => 10 - (intOf i).toNat)
  case atStart =>
    refine ⟨0, rfl, by omega, ?_, ?_, ?_, by simp, ?_⟩
    · exact (old_at _ _ (by simp)).trans ((old_at _ _ (by simp)).trans (new_at _ _ (by simp)))
    · exact new_at _ _ (by simp)
    · exact (old_at _ _ (by simp; omega)).trans ((old_at _ _ (by simp; omega)).trans ((old_at _ _ (by simp)).trans (new_at _ _ rfl)))
    · exact ((((Below.refl _ w).alloc (Nat.le_refl _) _).alloc (by simp) _).alloc (by simp; omega) _).alloc (by simp; omega) _
  case round =>
    obtain ⟨x, rfl, hx, h1, h2, h3, hsz, hb⟩ := hrel
    by_cases hc : x < 10
    · have b0 : decide ((x : Int) < 10) = true := decide_eq_true (by omega)
      have c1 : wr.cell? ⟨w.heap.size + 1 + 1 + 1, 0, none⟩ = some (.int .i32 z) := by rw [Lib.cell_of_heap h2]; rfl
      have d1 : wr.cell? ⟨w.heap.size + 1, x, none⟩ = some (.string (mix (plain z) (fun _ => ⟨#[]⟩) x x)) := by rw [Lib.cell_of_heap h1]; exact row_at _ x hc
      have f1 : wr.frozen? ⟨w.heap.size + 1, x, none⟩ = false := Lib.frozen_of_heap h1 x
      have p1 : (0 ≤ (x : Int)) = True := eq_true (by omega)
      have p2 : ((x : Int) < 10) = True := eq_true (by omega)
      have wx : IntKind.i32.wrap (x : Int) = x := i32w (by omega) (by omega)
      have wz : IntKind.i32.wrap (z + (x : Int)) = z + x := i32w (by omega) (by omega)
      have wy : IntKind.i64.wrap ((x : Int) + 1) = ((x + 1 : Nat) : Int) := by rw [i64w (by omega) (by omega)]; omega
      go_wp2
      go_roundw
      case rel =>
        refine ⟨x + 1, by rw [Int.natCast_add]; rfl, by omega, ?_, ?_, ?_, ?_, hb.setCell (by simp) _⟩
        · exact mix_step (c := plain z) h1 hc
        · rw [set_other _ _ _ (by simp only []; omega)]; exact h2
        · rw [set_other _ _ _ (by simp only []; omega)]; exact h3
        · rw [← hsz]; simp [World.setCell]
      case measure => simp only [intOf]; omega
    · obtain rfl : x = 10 := by omega
      have b0 : decide (((10 : Nat) : Int) < 10) = false := rfl
      have c1 : wr.cell? ⟨w.heap.size + 1 + 1 + 1, 1, none⟩ = some (.string h) := by rw [Lib.cell_of_heap h2]; rfl
      rcases HH.out with hh | hh
      · have HH2 := Aside0.mk hh
        have hd : digs z h = plain z := by unfold digs; rw [if_neg (by rw [hh]; decide)]
        have e0 : h.toList.isEmpty = true := by rw [hh, ByteArray.toList_eq]; rfl
        clear HH hh
        have k0 : wr.cell? ⟨w.heap.size + 1, 0, none⟩ = some (.string (plain z 0)) := by rw [Lib.cell_of_heap h1]; rfl
        have k1 : wr.cell? ⟨w.heap.size + 1, 1, none⟩ = some (.string (plain z 1)) := by rw [Lib.cell_of_heap h1]; rfl
        have k2 : wr.cell? ⟨w.heap.size + 1, 2, none⟩ = some (.string (plain z 2)) := by rw [Lib.cell_of_heap h1]; rfl
        have k3 : wr.cell? ⟨w.heap.size + 1, 3, none⟩ = some (.string (plain z 3)) := by rw [Lib.cell_of_heap h1]; rfl
        have k4 : wr.cell? ⟨w.heap.size + 1, 4, none⟩ = some (.string (plain z 4)) := by rw [Lib.cell_of_heap h1]; rfl
        have k5 : wr.cell? ⟨w.heap.size + 1, 5, none⟩ = some (.string (plain z 5)) := by rw [Lib.cell_of_heap h1]; rfl
        have k6 : wr.cell? ⟨w.heap.size + 1, 6, none⟩ = some (.string (plain z 6)) := by rw [Lib.cell_of_heap h1]; rfl
        have k7 : wr.cell? ⟨w.heap.size + 1, 7, none⟩ = some (.string (plain z 7)) := by rw [Lib.cell_of_heap h1]; rfl
        have k8 : wr.cell? ⟨w.heap.size + 1, 8, none⟩ = some (.string (plain z 8)) := by rw [Lib.cell_of_heap h1]; rfl
        have k9 : wr.cell? ⟨w.heap.size + 1, 9, none⟩ = some (.string (plain z 9)) := by rw [Lib.cell_of_heap h1]; rfl
        have g0 : wr.cell? ⟨w.heap.size, 0, none⟩ = some (.string ⟨#[]⟩) := by rw [Lib.cell_of_heap h3]; rfl
        have f0 : wr.frozen? ⟨w.heap.size, 0, none⟩ = false := Lib.frozen_of_heap h3 0
        have g1 : wr.cell? ⟨w.heap.size, 1, none⟩ = some (.string ⟨#[]⟩) := by rw [Lib.cell_of_heap h3]; rfl
        have f1 : wr.frozen? ⟨w.heap.size, 1, none⟩ = false := Lib.frozen_of_heap h3 1
        have g2 : wr.cell? ⟨w.heap.size, 2, none⟩ = some (.string ⟨#[]⟩) := by rw [Lib.cell_of_heap h3]; rfl
        have f2 : wr.frozen? ⟨w.heap.size, 2, none⟩ = false := Lib.frozen_of_heap h3 2
        have g3 : wr.cell? ⟨w.heap.size, 3, none⟩ = some (.string ⟨#[]⟩) := by rw [Lib.cell_of_heap h3]; rfl
        have f3 : wr.frozen? ⟨w.heap.size, 3, none⟩ = false := Lib.frozen_of_heap h3 3
        have g4 : wr.cell? ⟨w.heap.size, 4, none⟩ = some (.string ⟨#[]⟩) := by rw [Lib.cell_of_heap h3]; rfl
        have f4 : wr.frozen? ⟨w.heap.size, 4, none⟩ = false := Lib.frozen_of_heap h3 4
        have g5 : wr.cell? ⟨w.heap.size, 5, none⟩ = some (.string ⟨#[]⟩) := by rw [Lib.cell_of_heap h3]; rfl
        have f5 : wr.frozen? ⟨w.heap.size, 5, none⟩ = false := Lib.frozen_of_heap h3 5
        have g6 : wr.cell? ⟨w.heap.size, 6, none⟩ = some (.string ⟨#[]⟩) := by rw [Lib.cell_of_heap h3]; rfl
        have f6 : wr.frozen? ⟨w.heap.size, 6, none⟩ = false := Lib.frozen_of_heap h3 6
        have g7 : wr.cell? ⟨w.heap.size, 7, none⟩ = some (.string ⟨#[]⟩) := by rw [Lib.cell_of_heap h3]; rfl
        have f7 : wr.frozen? ⟨w.heap.size, 7, none⟩ = false := Lib.frozen_of_heap h3 7
        have g8 : wr.cell? ⟨w.heap.size, 8, none⟩ = some (.string ⟨#[]⟩) := by rw [Lib.cell_of_heap h3]; rfl
        have f8 : wr.frozen? ⟨w.heap.size, 8, none⟩ = false := Lib.frozen_of_heap h3 8
        have g9 : wr.cell? ⟨w.heap.size, 9, none⟩ = some (.string ⟨#[]⟩) := by rw [Lib.cell_of_heap h3]; rfl
        have f9 : wr.frozen? ⟨w.heap.size, 9, none⟩ = false := Lib.frozen_of_heap h3 9
        go_wp2
        (try simp only [Exit.inBlock, Exit.then])
        refine ret_ten (x := 0) (set_ten h3 (plain z)) ?h2 ?h3 ?hK
        case h2 => rfl
        case h3 => rfl
        exact ⟨by rw [hd], ((((((((((hb.setCell (p := ⟨w.heap.size, 0, none⟩) (Nat.le_refl _) (.string (plain z 0))).setCell (p := ⟨w.heap.size, 1, none⟩) (Nat.le_refl _) (.string (plain z 1))).setCell (p := ⟨w.heap.size, 2, none⟩) (Nat.le_refl _) (.string (plain z 2))).setCell (p := ⟨w.heap.size, 3, none⟩) (Nat.le_refl _) (.string (plain z 3))).setCell (p := ⟨w.heap.size, 4, none⟩) (Nat.le_refl _) (.string (plain z 4))).setCell (p := ⟨w.heap.size, 5, none⟩) (Nat.le_refl _) (.string (plain z 5))).setCell (p := ⟨w.heap.size, 6, none⟩) (Nat.le_refl _) (.string (plain z 6))).setCell (p := ⟨w.heap.size, 7, none⟩) (Nat.le_refl _) (.string (plain z 7))).setCell (p := ⟨w.heap.size, 8, none⟩) (Nat.le_refl _) (.string (plain z 8))).setCell (p := ⟨w.heap.size, 9, none⟩) (Nat.le_refl _) (.string (plain z 9)))⟩
      · have hd : digs z h = haniD := by unfold digs; rw [if_pos hh]
        have e0 : h.toList.isEmpty = false := by rw [hh, ByteArray.toList_eq]; rfl
        have HW := Aside0.mk hh
        have HD := Aside0.mk hd
        clear HH hh hd
        go_wp2
        go_loopw [8] (fun i wr2 => ∃ x : Nat, i = .int .i64 x ∧ x ≤ 10 ∧ wr2.heap[w.heap.size + 1 + 1 + 1 + 1]? = some (.stringIter h (3 * x)) ∧ wr2.heap[w.heap.size + 1]? = some (.cells (row (mix haniD (mix (plain z) (fun _ => ⟨#[]⟩) 10) x)) 39 (0, 0)) ∧ wr2.heap[w.heap.size]? = some (.cells (row fun _ => ⟨#[]⟩) 39 (0, 0)) ∧ Below w.heap.size w wr2) (fun i _ => 10 - (intOf i).toNat)
        case atStart =>
          refine ⟨0, rfl, by omega, ?_, ?_, ?_, ?_⟩
          · have := World.iter_heap wr h 0
            rw [hsz] at this
            exact this
          · exact (Lib.alloc_old wr _ _ (by rw [hsz]; omega)).trans h1
          · exact (Lib.alloc_old wr _ _ (by rw [hsz]; omega)).trans h3
          · exact hb.alloc (by rw [hsz]; omega) _
        case round =>
          obtain ⟨x, rfl, hx, hit, h1, h3, hb⟩ := hrel
          by_cases hc : x < 10
          · obtain ⟨D1, D2⟩ := hani_dec x hc
            rw [← HW.out] at D1
            have hp : 3 * x < h.size := by rw [HW.out]; show 3 * x < 30; omega
            have hnx : ∀ ty, (Instr.next (.pointer (some ⟨w.heap.size + 1 + 1 + 1 + 1, 0, none⟩)) true ty).run Tryd.prog wr = _ := fun ty => Lib.run_next_any_at wr (w.heap.size + 1 + 1 + 1 + 1) h (3 * x) ty hit hp
            rw [D1, D2] at hnx
            have hit2 := Lib.iterAt_heap wr (w.heap.size + 1 + 1 + 1 + 1) h (3 * x) (3 * x + 3) hit
            have h12 := (Lib.iterAt_other wr (w.heap.size + 1 + 1 + 1 + 1) (w.heap.size + 1) h (3 * x + 3) (by omega)).trans h1
            have h32 := (Lib.iterAt_other wr (w.heap.size + 1 + 1 + 1 + 1) w.heap.size h (3 * x + 3) (by omega)).trans h3
            have hb2 := Lib.below_iterAt hb (k := w.heap.size + 1 + 1 + 1 + 1) (by omega) h (3 * x + 3)
            clear D1 D2 hp hit h1 h3 hb
            have p1 : (0 ≤ (x : Int)) = True := eq_true (by omega)
            have p2 : ((x : Int) < 10) = True := eq_true (by omega)
            have wy : IntKind.i64.wrap ((x : Int) + 1) = ((x + 1 : Nat) : Int) := by rw [i64w (by omega) (by omega)]; omega
            have d1 : (wr.iterAt (w.heap.size + 1 + 1 + 1 + 1) h (3 * x + 3)).cell? ⟨w.heap.size + 1, x, none⟩ = _ := (Lib.cell_of_heap h12 x).trans (row_at _ x hc)
            have f1 : (wr.iterAt (w.heap.size + 1 + 1 + 1 + 1) h (3 * x + 3)).frozen? ⟨w.heap.size + 1, x, none⟩ = false := Lib.frozen_of_heap h12 x
            go_wp2
            go_roundw
            case rel =>
              refine ⟨x + 1, by rw [Int.natCast_add]; rfl, by omega, ?_, ?_, ?_, hb2.setCell (by simp) _⟩
              · rw [set_other _ _ _ (by simp only []; omega)]; exact hit2
              · exact mix_step (c := haniD) h12 hc
              · rw [set_other _ _ _ (by simp only []; omega)]; exact h32
            case measure => simp only [intOf]; omega
          · obtain rfl : x = 10 := by omega
            have hnx : ∀ ty, (Instr.next (.pointer (some ⟨w.heap.size + 1 + 1 + 1 + 1, 0, none⟩)) true ty).run Tryd.prog wr = _ := fun ty => Lib.run_next_end_at wr (w.heap.size + 1 + 1 + 1 + 1) h (3 * 10) ty hit (by rw [HW.out]; decide)
            have k0 : wr.cell? ⟨w.heap.size + 1, 0, none⟩ = some (.string (haniD 0)) := by rw [Lib.cell_of_heap h1]; rfl
            have k1 : wr.cell? ⟨w.heap.size + 1, 1, none⟩ = some (.string (haniD 1)) := by rw [Lib.cell_of_heap h1]; rfl
            have k2 : wr.cell? ⟨w.heap.size + 1, 2, none⟩ = some (.string (haniD 2)) := by rw [Lib.cell_of_heap h1]; rfl
            have k3 : wr.cell? ⟨w.heap.size + 1, 3, none⟩ = some (.string (haniD 3)) := by rw [Lib.cell_of_heap h1]; rfl
            have k4 : wr.cell? ⟨w.heap.size + 1, 4, none⟩ = some (.string (haniD 4)) := by rw [Lib.cell_of_heap h1]; rfl
            have k5 : wr.cell? ⟨w.heap.size + 1, 5, none⟩ = some (.string (haniD 5)) := by rw [Lib.cell_of_heap h1]; rfl
            have k6 : wr.cell? ⟨w.heap.size + 1, 6, none⟩ = some (.string (haniD 6)) := by rw [Lib.cell_of_heap h1]; rfl
            have k7 : wr.cell? ⟨w.heap.size + 1, 7, none⟩ = some (.string (haniD 7)) := by rw [Lib.cell_of_heap h1]; rfl
            have k8 : wr.cell? ⟨w.heap.size + 1, 8, none⟩ = some (.string (haniD 8)) := by rw [Lib.cell_of_heap h1]; rfl
            have k9 : wr.cell? ⟨w.heap.size + 1, 9, none⟩ = some (.string (haniD 9)) := by rw [Lib.cell_of_heap h1]; rfl
            have g0 : wr.cell? ⟨w.heap.size, 0, none⟩ = some (.string ⟨#[]⟩) := by rw [Lib.cell_of_heap h3]; rfl
            have f0 : wr.frozen? ⟨w.heap.size, 0, none⟩ = false := Lib.frozen_of_heap h3 0
            have g1 : wr.cell? ⟨w.heap.size, 1, none⟩ = some (.string ⟨#[]⟩) := by rw [Lib.cell_of_heap h3]; rfl
            have f1 : wr.frozen? ⟨w.heap.size, 1, none⟩ = false := Lib.frozen_of_heap h3 1
            have g2 : wr.cell? ⟨w.heap.size, 2, none⟩ = some (.string ⟨#[]⟩) := by rw [Lib.cell_of_heap h3]; rfl
            have f2 : wr.frozen? ⟨w.heap.size, 2, none⟩ = false := Lib.frozen_of_heap h3 2
            have g3 : wr.cell? ⟨w.heap.size, 3, none⟩ = some (.string ⟨#[]⟩) := by rw [Lib.cell_of_heap h3]; rfl
            have f3 : wr.frozen? ⟨w.heap.size, 3, none⟩ = false := Lib.frozen_of_heap h3 3
            have g4 : wr.cell? ⟨w.heap.size, 4, none⟩ = some (.string ⟨#[]⟩) := by rw [Lib.cell_of_heap h3]; rfl
            have f4 : wr.frozen? ⟨w.heap.size, 4, none⟩ = false := Lib.frozen_of_heap h3 4
            have g5 : wr.cell? ⟨w.heap.size, 5, none⟩ = some (.string ⟨#[]⟩) := by rw [Lib.cell_of_heap h3]; rfl
            have f5 : wr.frozen? ⟨w.heap.size, 5, none⟩ = false := Lib.frozen_of_heap h3 5
            have g6 : wr.cell? ⟨w.heap.size, 6, none⟩ = some (.string ⟨#[]⟩) := by rw [Lib.cell_of_heap h3]; rfl
            have f6 : wr.frozen? ⟨w.heap.size, 6, none⟩ = false := Lib.frozen_of_heap h3 6
            have g7 : wr.cell? ⟨w.heap.size, 7, none⟩ = some (.string ⟨#[]⟩) := by rw [Lib.cell_of_heap h3]; rfl
            have f7 : wr.frozen? ⟨w.heap.size, 7, none⟩ = false := Lib.frozen_of_heap h3 7
            have g8 : wr.cell? ⟨w.heap.size, 8, none⟩ = some (.string ⟨#[]⟩) := by rw [Lib.cell_of_heap h3]; rfl
            have f8 : wr.frozen? ⟨w.heap.size, 8, none⟩ = false := Lib.frozen_of_heap h3 8
            have g9 : wr.cell? ⟨w.heap.size, 9, none⟩ = some (.string ⟨#[]⟩) := by rw [Lib.cell_of_heap h3]; rfl
            have f9 : wr.frozen? ⟨w.heap.size, 9, none⟩ = false := Lib.frozen_of_heap h3 9
            go_wp2
            refine ret_ten (x := 0) (set_ten h3 haniD) ?a2 ?a3 ?aK
            case a2 => rfl
            case a3 => rfl
            exact ⟨by rw [HD.out], ((((((((((hb.setCell (p := ⟨w.heap.size, 0, none⟩) (Nat.le_refl _) (.string (haniD 0))).setCell (p := ⟨w.heap.size, 1, none⟩) (Nat.le_refl _) (.string (haniD 1))).setCell (p := ⟨w.heap.size, 2, none⟩) (Nat.le_refl _) (.string (haniD 2))).setCell (p := ⟨w.heap.size, 3, none⟩) (Nat.le_refl _) (.string (haniD 3))).setCell (p := ⟨w.heap.size, 4, none⟩) (Nat.le_refl _) (.string (haniD 4))).setCell (p := ⟨w.heap.size, 5, none⟩) (Nat.le_refl _) (.string (haniD 5))).setCell (p := ⟨w.heap.size, 6, none⟩) (Nat.le_refl _) (.string (haniD 6))).setCell (p := ⟨w.heap.size, 7, none⟩) (Nat.le_refl _) (.string (haniD 7))).setCell (p := ⟨w.heap.size, 8, none⟩) (Nat.le_refl _) (.string (haniD 8))).setCell (p := ⟨w.heap.size, 9, none⟩) (Nat.le_refl _) (.string (haniD 9)))⟩
set_option maxHeartbeats 4000000 in
theorem ten_none (name : ByteArray) (w : World) (hn : sysOf name sys = none) : Calls Tryd.prog 22 #[.string name] w fun e w' => e = .returned (.tuple #[.agg (row fun _ => ⟨#[]⟩), .int .i64 80]) ∧ Below w.heap.size w w' := by
  have lk := look3 w name (.agg #[.int .i32 0, .string ⟨#[]⟩]) false (by unfold sysV; rw [hn])
  clear hn
  go_enter Tryd.func22, Tryd.ntmps22
  go_wp2_with (go_at_call 37; refine (systems _).mono ?_)
  rintro e W1 ⟨rfl, rfl⟩
  go_wp2
  refine ret_ten (n0 := w.heap.size) (c := fun _ => ⟨#[]⟩) (x := 80) (fr := (0, 0)) ?b1 ?b2 ?b3 ?bK
  case b2 => rfl
  case b3 => rfl
  case b1 => exact (old_at _ _ (by simp; omega)).trans ((old_at _ _ (by simp; omega)).trans ((old_at _ _ (by simp)).trans (new_at _ _ rfl)))
  case bK => exact ⟨rfl, ((((Below.refl _ w).alloc (Nat.le_refl _) _).alloc (by simp) _).alloc (by simp; omega) _).alloc (by simp; omega) _⟩
theorem sys_ok : ∀ p ∈ sys, 0 ≤ p.2.1 ∧ p.2.1 ≤ 100000 ∧ (p.2.2 = ⟨#[]⟩ ∨ p.2.2 = haniS) := by decide
theorem sysOf_mem (name : ByteArray) (z : Int) (h : ByteArray) : ∀ l : List (ByteArray × Int × ByteArray), sysOf name l = some (z, h) → (name, z, h) ∈ l
  | [], hq => by cases hq
  | (n, z', h') :: l, hq => by
    simp only [sysOf] at hq
    by_cases hn : name = n
    · rw [if_pos hn] at hq
      obtain ⟨rfl, rfl⟩ := Prod.mk.inj (Option.some.inj hq)
      rw [hn]
      exact List.mem_cons_self
    · rw [if_neg hn] at hq
      exact List.mem_cons_of_mem _ (sysOf_mem name z h l hq)
/-- What 'ten' tells. -/
def tenC (name : ByteArray) : (Nat → ByteArray) × Int := match sysOf name sys with
  | none => (fun _ => ⟨#[]⟩, 80)
  | some (z, h) => (digs z h, 0)
theorem ten (name : ByteArray) (w : World) : Calls Tryd.prog 22 #[.string name] w fun e w' => e = .returned (.tuple #[.agg #[.string ((tenC name).1 0), .string ((tenC name).1 1), .string ((tenC name).1 2), .string ((tenC name).1 3), .string ((tenC name).1 4), .string ((tenC name).1 5), .string ((tenC name).1 6), .string ((tenC name).1 7), .string ((tenC name).1 8), .string ((tenC name).1 9)], .int .i64 (tenC name).2]) ∧ Below w.heap.size w w' := by
  unfold tenC
  cases hq : sysOf name sys with
  | none => exact ten_none name w hq
  | some p =>
    obtain ⟨z, h⟩ := p
    obtain ⟨h0, h1, h2⟩ := sys_ok _ (sysOf_mem name z h sys hq)
    exact ten_ok name z h w hq h0 h1 h2
end Go.Proofs.YtnkjeojhiligpaaDoor.Ten
namespace Go.Proofs
open Go.Shelf
def Tryd.lays169_ren : Go.Shelf.Ren := ⟨fun | 169 => 24 | n => n, fun | 70 => 42 | 9 => 9 | 0 => 0 | 72 => 45 | 37 => 43 | 127 => 69 | 3 => 3 | 5 => 5 | n => n, fun | n => n⟩
theorem Tryd.lays169 : Go.Proofs.Lays.n169 Tryd.prog Tryd.lays169_ren := {
  mixed := by kernel_rfl
  f169 := Tryd.func24.trans (congrArg some (by kernel_rfl))
  t0 := Tryd.underlying0
  a0 := Tryd.isAgg0
  z0 := Tryd.sizeOf0
  v0 := Tryd.zeroValue0
  t3 := Tryd.underlying3
  a3 := Tryd.isAgg3
  z3 := Tryd.sizeOf3
  v3 := Tryd.zeroValue3
  t9 := Tryd.underlying9
  a9 := Tryd.isAgg9
  z9 := Tryd.sizeOf9
  v9 := Tryd.zeroValue9
  t37 := Tryd.underlying43
  a37 := Tryd.isAgg43
  z37 := Tryd.sizeOf43
  v37 := Tryd.zeroValue43
  t70 := Tryd.underlying42
  a70 := Tryd.isAgg42
  z70 := Tryd.sizeOf42
  v70 := Tryd.zeroValue42
  t72 := Tryd.underlying45
  a72 := Tryd.isAgg45
  z72 := Tryd.sizeOf45
  v72 := Tryd.zeroValue45
  t127 := Tryd.underlying69
  a127 := Tryd.isAgg69
  z127 := Tryd.sizeOf69
  v127 := Tryd.zeroValue69 }
theorem Tryd.Builder_Extra_169 : Builder.Extra Tryd.prog Tryd.lays169_ren := {
  sizeBuilder := by kernel_rfl
  liesBuilder := by kernel_rfl
  t5 := Tryd.underlying5
  a5 := Tryd.isAgg5
  z5 := Tryd.sizeOf5
  v5 := Tryd.zeroValue5
  infoByte := by kernel_rfl
  cellsByte := by kernel_rfl
  sizeByte := by kernel_rfl
  neB5 := by decide }
def Tryd.lays158_ren : Go.Shelf.Ren := ⟨fun | 158 => 34 | 165 => 41 | 166 => 23 | 167 => 42 | 169 => 24 | 230 => 43 | 203 => 54 | 240 => 38 | 241 => 58 | 197 => 27 | 118 => 59 | 168 => 60 | 270 => 61 | 262 => 62 | 276 => 57 | 277 => 72 | 260 => 40 | 242 => 73 | 313 => 74 | 278 => 92 | 274 => 93 | 275 => 94 | n => n, fun | 9 => 9 | 4 => 4 | 3 => 3 | 5 => 5 | 72 => 45 | 0 => 0 | 76 => 48 | 75 => 47 | 107 => 74 | 70 => 42 | 20 => 20 | 37 => 43 | 127 => 69 | 21 => 21 | 105 => 54 | 164 => 85 | 162 => 106 | 203 => 104 | 119 => 87 | 46 => 88 | 139 => 91 | 138 => 90 | 51 => 107 | 160 => 124 | 208 => 140 | 206 => 138 | 80 => 50 | n => n, fun | 13 => 2 | 3 => 0 | 4 => 1 | n => n⟩
theorem Tryd.lays158 : Go.Proofs.Lays.n158 Tryd.prog Tryd.lays158_ren := {
  mixed := by kernel_rfl
  f118 := Tryd.func59.trans (congrArg some (by kernel_rfl))
  f158 := Tryd.func34.trans (congrArg some (by kernel_rfl))
  f165 := Tryd.func41.trans (congrArg some (by kernel_rfl))
  f166 := Tryd.func23.trans (congrArg some (by kernel_rfl))
  f167 := Tryd.func42.trans (congrArg some (by kernel_rfl))
  f168 := Tryd.func60.trans (congrArg some (by kernel_rfl))
  f169 := Tryd.func24.trans (congrArg some (by kernel_rfl))
  f197 := Tryd.func27.trans (congrArg some (by kernel_rfl))
  f203 := Tryd.func54.trans (congrArg some (by kernel_rfl))
  f230 := Tryd.func43.trans (congrArg some (by kernel_rfl))
  f240 := Tryd.func38.trans (congrArg some (by kernel_rfl))
  f241 := Tryd.func58.trans (congrArg some (by kernel_rfl))
  f242 := Tryd.func73.trans (congrArg some (by kernel_rfl))
  f260 := Tryd.func40.trans (congrArg some (by kernel_rfl))
  f262 := Tryd.func62.trans (congrArg some (by kernel_rfl))
  f270 := Tryd.func61.trans (congrArg some (by kernel_rfl))
  f274 := Tryd.func93.trans (congrArg some (by kernel_rfl))
  f275 := Tryd.func94.trans (congrArg some (by kernel_rfl))
  f276 := Tryd.func57.trans (congrArg some (by kernel_rfl))
  f277 := Tryd.func72.trans (congrArg some (by kernel_rfl))
  f278 := Tryd.func92.trans (congrArg some (by kernel_rfl))
  f313 := Tryd.func74.trans (congrArg some (by kernel_rfl))
  t0 := Tryd.underlying0
  a0 := Tryd.isAgg0
  z0 := Tryd.sizeOf0
  v0 := Tryd.zeroValue0
  t3 := Tryd.underlying3
  a3 := Tryd.isAgg3
  z3 := Tryd.sizeOf3
  v3 := Tryd.zeroValue3
  t4 := Tryd.underlying4
  a4 := Tryd.isAgg4
  z4 := Tryd.sizeOf4
  v4 := Tryd.zeroValue4
  t5 := Tryd.underlying5
  a5 := Tryd.isAgg5
  z5 := Tryd.sizeOf5
  v5 := Tryd.zeroValue5
  t9 := Tryd.underlying9
  a9 := Tryd.isAgg9
  z9 := Tryd.sizeOf9
  v9 := Tryd.zeroValue9
  t20 := Tryd.underlying20
  a20 := Tryd.isAgg20
  z20 := Tryd.sizeOf20
  v20 := Tryd.zeroValue20
  t21 := Tryd.underlying21
  a21 := Tryd.isAgg21
  z21 := Tryd.sizeOf21
  v21 := Tryd.zeroValue21
  t37 := Tryd.underlying43
  a37 := Tryd.isAgg43
  z37 := Tryd.sizeOf43
  v37 := Tryd.zeroValue43
  t46 := Tryd.underlying88
  a46 := Tryd.isAgg88
  z46 := Tryd.sizeOf88
  v46 := Tryd.zeroValue88
  t51 := Tryd.underlying107
  a51 := Tryd.isAgg107
  z51 := Tryd.sizeOf107
  v51 := Tryd.zeroValue107
  t70 := Tryd.underlying42
  a70 := Tryd.isAgg42
  z70 := Tryd.sizeOf42
  v70 := Tryd.zeroValue42
  t72 := Tryd.underlying45
  a72 := Tryd.isAgg45
  z72 := Tryd.sizeOf45
  v72 := Tryd.zeroValue45
  t75 := Tryd.underlying47
  a75 := Tryd.isAgg47
  z75 := Tryd.sizeOf47
  v75 := Tryd.zeroValue47
  t76 := Tryd.underlying48
  a76 := Tryd.isAgg48
  z76 := Tryd.sizeOf48
  v76 := Tryd.zeroValue48
  t105 := Tryd.underlying54
  a105 := Tryd.isAgg54
  z105 := Tryd.sizeOf54
  v105 := Tryd.zeroValue54
  t107 := Tryd.underlying74
  a107 := Tryd.isAgg74
  z107 := Tryd.sizeOf74
  v107 := Tryd.zeroValue74
  t119 := Tryd.underlying87
  a119 := Tryd.isAgg87
  z119 := Tryd.sizeOf87
  t127 := Tryd.underlying69
  a127 := Tryd.isAgg69
  z127 := Tryd.sizeOf69
  v127 := Tryd.zeroValue69
  t138 := Tryd.underlying90
  a138 := Tryd.isAgg90
  z138 := Tryd.sizeOf90
  v138 := Tryd.zeroValue90
  t139 := Tryd.underlying91
  a139 := Tryd.isAgg91
  z139 := Tryd.sizeOf91
  v139 := Tryd.zeroValue91
  t160 := Tryd.underlying124
  a160 := Tryd.isAgg124
  z160 := Tryd.sizeOf124
  v160 := Tryd.zeroValue124
  t162 := Tryd.underlying106
  a162 := Tryd.isAgg106
  z162 := Tryd.sizeOf106
  v162 := Tryd.zeroValue106
  t164 := Tryd.underlying85
  a164 := Tryd.isAgg85
  z164 := Tryd.sizeOf85
  v164 := Tryd.zeroValue85
  t203 := Tryd.underlying104
  a203 := Tryd.isAgg104
  z203 := Tryd.sizeOf104
  v203 := Tryd.zeroValue104
  t206 := Tryd.underlying138
  a206 := Tryd.isAgg138
  z206 := Tryd.sizeOf138
  v206 := Tryd.zeroValue138
  t208 := Tryd.underlying140
  a208 := Tryd.isAgg140
  z208 := Tryd.sizeOf140
  v208 := Tryd.zeroValue140
  g3 := by kernel_rfl
  g4 := by kernel_rfl
  g13 := by kernel_rfl }
theorem Tryd.Builder_Extra_158 : Builder.Extra Tryd.prog Tryd.lays158_ren := {
  sizeBuilder := by kernel_rfl
  liesBuilder := by kernel_rfl
  t5 := Tryd.underlying5
  a5 := Tryd.isAgg5
  z5 := Tryd.sizeOf5
  v5 := Tryd.zeroValue5
  infoByte := by kernel_rfl
  cellsByte := by kernel_rfl
  sizeByte := by kernel_rfl
  neB5 := by decide }
open Go.RowKit in
theorem Tryd.strings_ToUpper_ascii (s : ByteArray) (w : World) (hs : s.size ≤ 140737488355328) (hascii : ∀ (j : Nat) (b : UInt8), s.data.toList[j]? = some b → b.toNat < 128) :
    Calls Tryd.prog 34 #[.string s] w fun e w' => e = .returned (.string ⟨(Lib.toUpperA s.data.toList).toArray⟩) ∧ Below w.heap.size w w' := Any.strings_ToUpper_ascii Tryd.lays158 Tryd.Builder_Extra_158 s w hs hascii
def Tryd.lays159_ren : Go.Shelf.Ren := ⟨fun | 159 => 30 | 165 => 41 | 166 => 23 | 167 => 42 | 169 => 24 | 230 => 43 | 204 => 44 | 240 => 38 | 241 => 58 | 197 => 27 | 118 => 59 | 168 => 60 | 270 => 61 | 262 => 62 | 276 => 57 | 277 => 72 | 260 => 40 | 242 => 73 | 313 => 74 | 278 => 92 | 274 => 93 | 275 => 94 | n => n, fun | 9 => 9 | 4 => 4 | 3 => 3 | 5 => 5 | 72 => 45 | 0 => 0 | 76 => 48 | 75 => 47 | 107 => 74 | 70 => 42 | 20 => 20 | 37 => 43 | 127 => 69 | 21 => 21 | 105 => 54 | 164 => 85 | 162 => 106 | 203 => 104 | 119 => 87 | 46 => 88 | 139 => 91 | 138 => 90 | 51 => 107 | 160 => 124 | 208 => 140 | 206 => 138 | 80 => 50 | n => n, fun | 13 => 2 | 3 => 0 | 4 => 1 | n => n⟩
theorem Tryd.lays159 : Go.Proofs.Lays.n159 Tryd.prog Tryd.lays159_ren := {
  mixed := by kernel_rfl
  f118 := Tryd.func59.trans (congrArg some (by kernel_rfl))
  f159 := Tryd.func30.trans (congrArg some (by kernel_rfl))
  f165 := Tryd.func41.trans (congrArg some (by kernel_rfl))
  f166 := Tryd.func23.trans (congrArg some (by kernel_rfl))
  f167 := Tryd.func42.trans (congrArg some (by kernel_rfl))
  f168 := Tryd.func60.trans (congrArg some (by kernel_rfl))
  f169 := Tryd.func24.trans (congrArg some (by kernel_rfl))
  f197 := Tryd.func27.trans (congrArg some (by kernel_rfl))
  f204 := Tryd.func44.trans (congrArg some (by kernel_rfl))
  f230 := Tryd.func43.trans (congrArg some (by kernel_rfl))
  f240 := Tryd.func38.trans (congrArg some (by kernel_rfl))
  f241 := Tryd.func58.trans (congrArg some (by kernel_rfl))
  f242 := Tryd.func73.trans (congrArg some (by kernel_rfl))
  f260 := Tryd.func40.trans (congrArg some (by kernel_rfl))
  f262 := Tryd.func62.trans (congrArg some (by kernel_rfl))
  f270 := Tryd.func61.trans (congrArg some (by kernel_rfl))
  f274 := Tryd.func93.trans (congrArg some (by kernel_rfl))
  f275 := Tryd.func94.trans (congrArg some (by kernel_rfl))
  f276 := Tryd.func57.trans (congrArg some (by kernel_rfl))
  f277 := Tryd.func72.trans (congrArg some (by kernel_rfl))
  f278 := Tryd.func92.trans (congrArg some (by kernel_rfl))
  f313 := Tryd.func74.trans (congrArg some (by kernel_rfl))
  t0 := Tryd.underlying0
  a0 := Tryd.isAgg0
  z0 := Tryd.sizeOf0
  v0 := Tryd.zeroValue0
  t3 := Tryd.underlying3
  a3 := Tryd.isAgg3
  z3 := Tryd.sizeOf3
  v3 := Tryd.zeroValue3
  t4 := Tryd.underlying4
  a4 := Tryd.isAgg4
  z4 := Tryd.sizeOf4
  v4 := Tryd.zeroValue4
  t5 := Tryd.underlying5
  a5 := Tryd.isAgg5
  z5 := Tryd.sizeOf5
  v5 := Tryd.zeroValue5
  t9 := Tryd.underlying9
  a9 := Tryd.isAgg9
  z9 := Tryd.sizeOf9
  v9 := Tryd.zeroValue9
  t20 := Tryd.underlying20
  a20 := Tryd.isAgg20
  z20 := Tryd.sizeOf20
  v20 := Tryd.zeroValue20
  t21 := Tryd.underlying21
  a21 := Tryd.isAgg21
  z21 := Tryd.sizeOf21
  v21 := Tryd.zeroValue21
  t37 := Tryd.underlying43
  a37 := Tryd.isAgg43
  z37 := Tryd.sizeOf43
  v37 := Tryd.zeroValue43
  t46 := Tryd.underlying88
  a46 := Tryd.isAgg88
  z46 := Tryd.sizeOf88
  v46 := Tryd.zeroValue88
  t51 := Tryd.underlying107
  a51 := Tryd.isAgg107
  z51 := Tryd.sizeOf107
  v51 := Tryd.zeroValue107
  t70 := Tryd.underlying42
  a70 := Tryd.isAgg42
  z70 := Tryd.sizeOf42
  v70 := Tryd.zeroValue42
  t72 := Tryd.underlying45
  a72 := Tryd.isAgg45
  z72 := Tryd.sizeOf45
  v72 := Tryd.zeroValue45
  t75 := Tryd.underlying47
  a75 := Tryd.isAgg47
  z75 := Tryd.sizeOf47
  v75 := Tryd.zeroValue47
  t76 := Tryd.underlying48
  a76 := Tryd.isAgg48
  z76 := Tryd.sizeOf48
  v76 := Tryd.zeroValue48
  t105 := Tryd.underlying54
  a105 := Tryd.isAgg54
  z105 := Tryd.sizeOf54
  v105 := Tryd.zeroValue54
  t107 := Tryd.underlying74
  a107 := Tryd.isAgg74
  z107 := Tryd.sizeOf74
  v107 := Tryd.zeroValue74
  t119 := Tryd.underlying87
  a119 := Tryd.isAgg87
  z119 := Tryd.sizeOf87
  t127 := Tryd.underlying69
  a127 := Tryd.isAgg69
  z127 := Tryd.sizeOf69
  v127 := Tryd.zeroValue69
  t138 := Tryd.underlying90
  a138 := Tryd.isAgg90
  z138 := Tryd.sizeOf90
  v138 := Tryd.zeroValue90
  t139 := Tryd.underlying91
  a139 := Tryd.isAgg91
  z139 := Tryd.sizeOf91
  v139 := Tryd.zeroValue91
  t160 := Tryd.underlying124
  a160 := Tryd.isAgg124
  z160 := Tryd.sizeOf124
  v160 := Tryd.zeroValue124
  t162 := Tryd.underlying106
  a162 := Tryd.isAgg106
  z162 := Tryd.sizeOf106
  v162 := Tryd.zeroValue106
  t164 := Tryd.underlying85
  a164 := Tryd.isAgg85
  z164 := Tryd.sizeOf85
  v164 := Tryd.zeroValue85
  t203 := Tryd.underlying104
  a203 := Tryd.isAgg104
  z203 := Tryd.sizeOf104
  v203 := Tryd.zeroValue104
  t206 := Tryd.underlying138
  a206 := Tryd.isAgg138
  z206 := Tryd.sizeOf138
  v206 := Tryd.zeroValue138
  t208 := Tryd.underlying140
  a208 := Tryd.isAgg140
  z208 := Tryd.sizeOf140
  v208 := Tryd.zeroValue140
  g3 := by kernel_rfl
  g4 := by kernel_rfl
  g13 := by kernel_rfl }
theorem Tryd.Builder_Extra_159 : Builder.Extra Tryd.prog Tryd.lays159_ren := {
  sizeBuilder := by kernel_rfl
  liesBuilder := by kernel_rfl
  t5 := Tryd.underlying5
  a5 := Tryd.isAgg5
  z5 := Tryd.sizeOf5
  v5 := Tryd.zeroValue5
  infoByte := by kernel_rfl
  cellsByte := by kernel_rfl
  sizeByte := by kernel_rfl
  neB5 := by decide }
open Go.RowKit in
theorem Tryd.strings_ToLower_ascii (s : ByteArray) (w : World) (hs : s.size ≤ 140737488355328) (hascii : ∀ (j : Nat) (b : UInt8), s.data.toList[j]? = some b → b.toNat < 128) :
    Calls Tryd.prog 30 #[.string s] w fun e w' => e = .returned (.string ⟨(Lib.toLowerA s.data.toList).toArray⟩) ∧ Below w.heap.size w w' := Any.strings_ToLower_ascii Tryd.lays159 Tryd.Builder_Extra_159 s w hs hascii
def Tryd.lays160_ren : Go.Shelf.Ren := ⟨fun | 160 => 33 | 232 => 48 | 231 => 47 | 227 => 49 | 234 => 51 | 233 => 50 | 236 => 53 | 235 => 52 | 228 => 66 | 271 => 68 | 151 => 67 | 197 => 27 | 120 => 79 | 152 => 78 | 260 => 40 | 137 => 55 | 119 => 95 | 224 => 96 | 225 => 97 | 217 => 69 | 266 => 80 | n => n, fun | 9 => 9 | 4 => 4 | 3 => 3 | 5 => 5 | 117 => 78 | 116 => 77 | 0 => 0 | 124 => 81 | 21 => 21 | 105 => 54 | 46 => 88 | 119 => 87 | 139 => 91 | 138 => 90 | n => n, fun | 3 => 0 | 4 => 1 | n => n⟩
theorem Tryd.lays160 : Go.Proofs.Lays.n160 Tryd.prog Tryd.lays160_ren := {
  mixed := by kernel_rfl
  f119 := Tryd.func95.trans (congrArg some (by kernel_rfl))
  f120 := Tryd.func79.trans (congrArg some (by kernel_rfl))
  f137 := Tryd.func55.trans (congrArg some (by kernel_rfl))
  f151 := Tryd.func67.trans (congrArg some (by kernel_rfl))
  f152 := Tryd.func78.trans (congrArg some (by kernel_rfl))
  f160 := Tryd.func33.trans (congrArg some (by kernel_rfl))
  f197 := Tryd.func27.trans (congrArg some (by kernel_rfl))
  f217 := Tryd.func69.trans (congrArg some (by kernel_rfl))
  f224 := Tryd.func96.trans (congrArg some (by kernel_rfl))
  f225 := Tryd.func97.trans (congrArg some (by kernel_rfl))
  f227 := Tryd.func49.trans (congrArg some (by kernel_rfl))
  f228 := Tryd.func66.trans (congrArg some (by kernel_rfl))
  f231 := Tryd.func47.trans (congrArg some (by kernel_rfl))
  f232 := Tryd.func48.trans (congrArg some (by kernel_rfl))
  f233 := Tryd.func50.trans (congrArg some (by kernel_rfl))
  f234 := Tryd.func51.trans (congrArg some (by kernel_rfl))
  f235 := Tryd.func52.trans (congrArg some (by kernel_rfl))
  f236 := Tryd.func53.trans (congrArg some (by kernel_rfl))
  f260 := Tryd.func40.trans (congrArg some (by kernel_rfl))
  f266 := Tryd.func80.trans (congrArg some (by kernel_rfl))
  f271 := Tryd.func68.trans (congrArg some (by kernel_rfl))
  t0 := Tryd.underlying0
  a0 := Tryd.isAgg0
  z0 := Tryd.sizeOf0
  v0 := Tryd.zeroValue0
  t3 := Tryd.underlying3
  a3 := Tryd.isAgg3
  z3 := Tryd.sizeOf3
  v3 := Tryd.zeroValue3
  t4 := Tryd.underlying4
  a4 := Tryd.isAgg4
  z4 := Tryd.sizeOf4
  v4 := Tryd.zeroValue4
  t5 := Tryd.underlying5
  a5 := Tryd.isAgg5
  z5 := Tryd.sizeOf5
  v5 := Tryd.zeroValue5
  t9 := Tryd.underlying9
  a9 := Tryd.isAgg9
  z9 := Tryd.sizeOf9
  v9 := Tryd.zeroValue9
  t21 := Tryd.underlying21
  a21 := Tryd.isAgg21
  z21 := Tryd.sizeOf21
  v21 := Tryd.zeroValue21
  t46 := Tryd.underlying88
  a46 := Tryd.isAgg88
  z46 := Tryd.sizeOf88
  v46 := Tryd.zeroValue88
  t105 := Tryd.underlying54
  a105 := Tryd.isAgg54
  z105 := Tryd.sizeOf54
  v105 := Tryd.zeroValue54
  t116 := Tryd.underlying77
  a116 := Tryd.isAgg77
  z116 := Tryd.sizeOf77
  t117 := Tryd.underlying78
  a117 := Tryd.isAgg78
  z117 := Tryd.sizeOf78
  v117 := Tryd.zeroValue78
  t119 := Tryd.underlying87
  a119 := Tryd.isAgg87
  z119 := Tryd.sizeOf87
  t124 := Tryd.underlying81
  a124 := Tryd.isAgg81
  z124 := Tryd.sizeOf81
  v124 := Tryd.zeroValue81
  t138 := Tryd.underlying90
  a138 := Tryd.isAgg90
  z138 := Tryd.sizeOf90
  v138 := Tryd.zeroValue90
  t139 := Tryd.underlying91
  a139 := Tryd.isAgg91
  z139 := Tryd.sizeOf91
  v139 := Tryd.zeroValue91
  g3 := by kernel_rfl
  g4 := by kernel_rfl }
def Tryd.lays137_ren : Go.Shelf.Ren := ⟨fun | 137 => 55 | 217 => 69 | 266 => 80 | n => n, fun | 9 => 9 | 5 => 5 | 3 => 3 | n => n, fun | n => n⟩
theorem Tryd.lays137 : Go.Proofs.Lays.n137 Tryd.prog Tryd.lays137_ren := {
  mixed := by kernel_rfl
  f137 := Tryd.func55.trans (congrArg some (by kernel_rfl))
  f217 := Tryd.func69.trans (congrArg some (by kernel_rfl))
  f266 := Tryd.func80.trans (congrArg some (by kernel_rfl))
  t3 := Tryd.underlying3
  a3 := Tryd.isAgg3
  z3 := Tryd.sizeOf3
  v3 := Tryd.zeroValue3
  t5 := Tryd.underlying5
  a5 := Tryd.isAgg5
  z5 := Tryd.sizeOf5
  v5 := Tryd.zeroValue5
  t9 := Tryd.underlying9
  a9 := Tryd.isAgg9
  z9 := Tryd.sizeOf9
  v9 := Tryd.zeroValue9 }
open Go.RowKit in
theorem Tryd.strings_IndexByte (s : ByteArray) (c : Int) (w : World) :
    Calls Tryd.prog 55 #[.string s, .int .u8 c] w fun e w' => e = .returned (.int .i64 (Lib.indexByte s.data.toList c.toNat.toUInt8)) ∧ w' = w := Any.strings_IndexByte Tryd.lays137 s c w
open Go.RowKit in
theorem Tryd.Builder_String_any_k (B b : Nat) (l : List UInt8) (w : World) (h : Lib.IsBuilderF 45 5 B b (Lib.byteCells l) w) (hBw : B ≤ w.heap.size) :
    Calls Tryd.prog 24 #[.pointer (some ⟨b, 0, none⟩)] w fun e w' => e = .returned (.string ⟨l.toArray⟩) ∧ (Lib.IsBuilderF 45 5 B b (Lib.byteCells l) w' ∧ Below B w w' ∧ Lib.OthersKept 5 (some b) w w') := Any.Builder_String_any_k Tryd.lays169 Tryd.Builder_Extra_169 B b l w h hBw
def Tryd.lays197_ren : Go.Shelf.Ren := ⟨fun | 197 => 27 | 260 => 40 | n => n, fun | 9 => 9 | 21 => 21 | 3 => 3 | 4 => 4 | 5 => 5 | 105 => 54 | 119 => 87 | 0 => 0 | 46 => 88 | 139 => 91 | 138 => 90 | n => n, fun | 3 => 0 | 4 => 1 | n => n⟩
theorem Tryd.lays197 : Go.Proofs.Lays.n197 Tryd.prog Tryd.lays197_ren := {
  mixed := by kernel_rfl
  f197 := Tryd.func27.trans (congrArg some (by kernel_rfl))
  f260 := Tryd.func40.trans (congrArg some (by kernel_rfl))
  t0 := Tryd.underlying0
  a0 := Tryd.isAgg0
  z0 := Tryd.sizeOf0
  v0 := Tryd.zeroValue0
  t3 := Tryd.underlying3
  a3 := Tryd.isAgg3
  z3 := Tryd.sizeOf3
  v3 := Tryd.zeroValue3
  t4 := Tryd.underlying4
  a4 := Tryd.isAgg4
  z4 := Tryd.sizeOf4
  v4 := Tryd.zeroValue4
  t5 := Tryd.underlying5
  a5 := Tryd.isAgg5
  z5 := Tryd.sizeOf5
  v5 := Tryd.zeroValue5
  t9 := Tryd.underlying9
  a9 := Tryd.isAgg9
  z9 := Tryd.sizeOf9
  v9 := Tryd.zeroValue9
  t21 := Tryd.underlying21
  a21 := Tryd.isAgg21
  z21 := Tryd.sizeOf21
  v21 := Tryd.zeroValue21
  t46 := Tryd.underlying88
  a46 := Tryd.isAgg88
  z46 := Tryd.sizeOf88
  v46 := Tryd.zeroValue88
  t105 := Tryd.underlying54
  a105 := Tryd.isAgg54
  z105 := Tryd.sizeOf54
  v105 := Tryd.zeroValue54
  t119 := Tryd.underlying87
  a119 := Tryd.isAgg87
  z119 := Tryd.sizeOf87
  t138 := Tryd.underlying90
  a138 := Tryd.isAgg90
  z138 := Tryd.sizeOf90
  v138 := Tryd.zeroValue90
  t139 := Tryd.underlying91
  a139 := Tryd.isAgg91
  z139 := Tryd.sizeOf91
  v139 := Tryd.zeroValue91
  g3 := by kernel_rfl
  g4 := by kernel_rfl }
def Tryd.lays105_ren : Go.Shelf.Ren := ⟨fun | 105 => 45 | 212 => 63 | 99 => 64 | 165 => 41 | 166 => 23 | 170 => 65 | 169 => 24 | 263 => 75 | 264 => 76 | 206 => 77 | 240 => 38 | 241 => 58 | 276 => 57 | 277 => 72 | n => n, fun | 9 => 9 | 3 => 3 | 4 => 4 | 20 => 20 | 0 => 0 | 46 => 88 | 109 => 96 | 5 => 5 | 72 => 45 | 76 => 48 | 51 => 107 | 146 => 108 | 53 => 110 | 148 => 111 | 70 => 42 | 37 => 43 | 75 => 47 | 127 => 69 | 164 => 85 | 80 => 50 | n => n, fun | n => n⟩
theorem Tryd.lays105 : Go.Proofs.Lays.n105 Tryd.prog Tryd.lays105_ren := {
  mixed := by kernel_rfl
  f99 := Tryd.func64.trans (congrArg some (by kernel_rfl))
  f105 := Tryd.func45.trans (congrArg some (by kernel_rfl))
  f165 := Tryd.func41.trans (congrArg some (by kernel_rfl))
  f166 := Tryd.func23.trans (congrArg some (by kernel_rfl))
  f169 := Tryd.func24.trans (congrArg some (by kernel_rfl))
  f170 := Tryd.func65.trans (congrArg some (by kernel_rfl))
  f206 := Tryd.func77.trans (congrArg some (by kernel_rfl))
  f212 := Tryd.func63.trans (congrArg some (by kernel_rfl))
  f240 := Tryd.func38.trans (congrArg some (by kernel_rfl))
  f241 := Tryd.func58.trans (congrArg some (by kernel_rfl))
  f263 := Tryd.func75.trans (congrArg some (by kernel_rfl))
  f264 := Tryd.func76.trans (congrArg some (by kernel_rfl))
  f276 := Tryd.func57.trans (congrArg some (by kernel_rfl))
  f277 := Tryd.func72.trans (congrArg some (by kernel_rfl))
  t0 := Tryd.underlying0
  a0 := Tryd.isAgg0
  z0 := Tryd.sizeOf0
  v0 := Tryd.zeroValue0
  t3 := Tryd.underlying3
  a3 := Tryd.isAgg3
  z3 := Tryd.sizeOf3
  v3 := Tryd.zeroValue3
  t4 := Tryd.underlying4
  a4 := Tryd.isAgg4
  z4 := Tryd.sizeOf4
  v4 := Tryd.zeroValue4
  t5 := Tryd.underlying5
  a5 := Tryd.isAgg5
  z5 := Tryd.sizeOf5
  v5 := Tryd.zeroValue5
  t9 := Tryd.underlying9
  a9 := Tryd.isAgg9
  z9 := Tryd.sizeOf9
  v9 := Tryd.zeroValue9
  t20 := Tryd.underlying20
  a20 := Tryd.isAgg20
  z20 := Tryd.sizeOf20
  v20 := Tryd.zeroValue20
  t37 := Tryd.underlying43
  a37 := Tryd.isAgg43
  z37 := Tryd.sizeOf43
  v37 := Tryd.zeroValue43
  t46 := Tryd.underlying88
  a46 := Tryd.isAgg88
  z46 := Tryd.sizeOf88
  v46 := Tryd.zeroValue88
  t51 := Tryd.underlying107
  a51 := Tryd.isAgg107
  z51 := Tryd.sizeOf107
  v51 := Tryd.zeroValue107
  t53 := Tryd.underlying110
  a53 := Tryd.isAgg110
  z53 := Tryd.sizeOf110
  v53 := Tryd.zeroValue110
  t70 := Tryd.underlying42
  a70 := Tryd.isAgg42
  z70 := Tryd.sizeOf42
  v70 := Tryd.zeroValue42
  t72 := Tryd.underlying45
  a72 := Tryd.isAgg45
  z72 := Tryd.sizeOf45
  v72 := Tryd.zeroValue45
  t75 := Tryd.underlying47
  a75 := Tryd.isAgg47
  z75 := Tryd.sizeOf47
  v75 := Tryd.zeroValue47
  t76 := Tryd.underlying48
  a76 := Tryd.isAgg48
  z76 := Tryd.sizeOf48
  v76 := Tryd.zeroValue48
  t109 := Tryd.underlying96
  a109 := Tryd.isAgg96
  z109 := Tryd.sizeOf96
  v109 := Tryd.zeroValue96
  t127 := Tryd.underlying69
  a127 := Tryd.isAgg69
  z127 := Tryd.sizeOf69
  v127 := Tryd.zeroValue69
  t146 := Tryd.underlying108
  a146 := Tryd.isAgg108
  z146 := Tryd.sizeOf108
  v146 := Tryd.zeroValue108
  t148 := Tryd.underlying111
  a148 := Tryd.isAgg111
  z148 := Tryd.sizeOf111
  v148 := Tryd.zeroValue111
  t164 := Tryd.underlying85
  a164 := Tryd.isAgg85
  z164 := Tryd.sizeOf85
  v164 := Tryd.zeroValue85 }
theorem Tryd.Builder_Extra_105 : Builder.Extra Tryd.prog Tryd.lays105_ren := {
  sizeBuilder := by kernel_rfl
  liesBuilder := by kernel_rfl
  t5 := Tryd.underlying5
  a5 := Tryd.isAgg5
  z5 := Tryd.sizeOf5
  v5 := Tryd.zeroValue5
  infoByte := by kernel_rfl
  cellsByte := by kernel_rfl
  sizeByte := by kernel_rfl
  neB5 := by decide }
open Go.RowKit Go.Lib in
theorem Tryd.strings_Repeat (s : ByteArray) (c : Nat) (w : World) (hc : c ≤ 9223372036854775807) (hlen : s.size * c ≤ 140737488355328) :
    Calls Tryd.prog 45 #[.string s, .int .i64 c] w fun e w' => e = .returned (.string ⟨(Lib.repeatL s.data.toList c).toArray⟩) ∧ Below w.heap.size w w' := Any.strings_Repeat Tryd.lays105 Tryd.Builder_Extra_105 s c w hc hlen
def Tryd.lays260_ren : Go.Shelf.Ren := ⟨fun | 260 => 40 | n => n, fun | 9 => 9 | 21 => 21 | 3 => 3 | 4 => 4 | 5 => 5 | 119 => 87 | 0 => 0 | 46 => 88 | 139 => 91 | 138 => 90 | n => n, fun | 3 => 0 | 4 => 1 | n => n⟩
theorem Tryd.lays260 : Go.Proofs.Lays.n260 Tryd.prog Tryd.lays260_ren := {
  mixed := by kernel_rfl
  f260 := Tryd.func40.trans (congrArg some (by kernel_rfl))
  t0 := Tryd.underlying0
  a0 := Tryd.isAgg0
  z0 := Tryd.sizeOf0
  v0 := Tryd.zeroValue0
  t3 := Tryd.underlying3
  a3 := Tryd.isAgg3
  z3 := Tryd.sizeOf3
  v3 := Tryd.zeroValue3
  t4 := Tryd.underlying4
  a4 := Tryd.isAgg4
  z4 := Tryd.sizeOf4
  v4 := Tryd.zeroValue4
  t5 := Tryd.underlying5
  a5 := Tryd.isAgg5
  z5 := Tryd.sizeOf5
  v5 := Tryd.zeroValue5
  t9 := Tryd.underlying9
  a9 := Tryd.isAgg9
  z9 := Tryd.sizeOf9
  v9 := Tryd.zeroValue9
  t21 := Tryd.underlying21
  a21 := Tryd.isAgg21
  z21 := Tryd.sizeOf21
  v21 := Tryd.zeroValue21
  t46 := Tryd.underlying88
  a46 := Tryd.isAgg88
  z46 := Tryd.sizeOf88
  v46 := Tryd.zeroValue88
  t119 := Tryd.underlying87
  a119 := Tryd.isAgg87
  z119 := Tryd.sizeOf87
  t138 := Tryd.underlying90
  a138 := Tryd.isAgg90
  z138 := Tryd.sizeOf90
  v138 := Tryd.zeroValue90
  t139 := Tryd.underlying91
  a139 := Tryd.isAgg91
  z139 := Tryd.sizeOf91
  v139 := Tryd.zeroValue91
  g3 := by kernel_rfl
  g4 := by kernel_rfl }
open Go.RowKit Go.Lib in
theorem Tryd.utf8_DecodeRuneInString (s : ByteArray) (w : World) (hT : Lib.Utf8Tabs 0 1 w) :
    Calls Tryd.prog 27 #[.string s] w fun e w' => e = .returned (.tuple #[.int .i32 (Lib.decodeGo s).1, .int .i64 (Lib.decodeGo s).2]) ∧ Below w.heap.size w w' := Any.utf8_DecodeRuneInString Tryd.lays197 s w hT
end Go.Proofs
namespace Go.Proofs.YtnkjeojhiligpaaDoor.Stray
open Go.RowKit Go.Proofs.YtnkjeojhiligpaaDoorW.PrintWords Go.Proofs.YtnkjeojhiligpaaDoorW.PrintLast Go.Proofs.YtnkjeojhiligpaaDoorW.PrintMore Go.Proofs.YtnkjeojhiligpaaDoor.Aid
abbrev Tabs (w : World) : Prop := Lib.Utf8Tabs 0 1 w
theorem Tabs.below {w w' : World} (h : Tabs w) (hb : Below w.heap.size w w') : Tabs w' := Utf8Tabs_below h hb
theorem decode_rest (s : ByteArray) (pos : Nat) (h : pos < s.size) : Lib.decodeGo (s.extract pos s.size) = Utf8.decode s pos := by
  have e := Lib.decodeL_drop s pos
  rw [← e]
  have hs : s.extract pos s.size = ⟨(s.data.toList.drop pos).toArray⟩ := by
    apply ByteArray.ext
    rw [ByteArray.data_extract]
    apply Array.toList_inj.1
    rw [Array.toList_extract, List.extract_eq_take_drop]
    simp only []
    rw [List.take_of_length_le]
    rw [List.length_drop, Array.length_toList]
    exact Nat.le_refl _
  rw [hs]
  have h0 : (⟨(s.data.toList.drop pos).toArray⟩ : ByteArray).size ≠ 0 := by
    show (s.data.toList.drop pos).toArray.size ≠ 0
    rw [List.size_toArray, List.length_drop, Array.length_toList]
    have : s.data.size = s.size := rfl
    omega
  unfold Lib.decodeGo
  rw [if_neg h0]
  rfl
theorem width (s : ByteArray) (pos : Nat) (h : pos < s.size) : 1 ≤ (Utf8.decode s pos).2 := by
  by_cases ha : (s[pos]'h).toNat < 128
  · rw [decode_ascii s pos h ha]
    exact Nat.le_refl _
  · exact (decode_high s pos h (by omega)).2
end Go.Proofs.YtnkjeojhiligpaaDoor.Stray
set_option linter.unusedVariables false
set_option linter.unusedSimpArgs false
namespace Go.Proofs.YtnkjeojhiligpaaDoor.Read8
open Go.RowKit Go.Proofs.YtnkjeojhiligpaaDoorW.PrintWords Go.Proofs.YtnkjeojhiligpaaDoorW.PrintLast Go.Proofs.YtnkjeojhiligpaaDoorW.PrintMore Go.Proofs.YtnkjeojhiligpaaDoor.Ten Go.Proofs.YtnkjeojhiligpaaDoor.Aid
def ints (l : List UInt8) : List Int := l.map fun c => (c.toNat : Int)
theorem ints_length (l : List UInt8) : (ints l).length = l.length := by simp [ints]
theorem ints_app (a b : List UInt8) : ints (a ++ b) = ints a ++ ints b := by simp [ints]
theorem str_ints (l : List UInt8) : strOfNums (ints l) = ⟨l.toArray⟩ := by
  simp [strOfNums, ints, Function.comp_def]
theorem fits (s : ByteArray) (i : Nat) (h : i < s.size) : i + (Utf8.decode s i).2 ≤ s.size := by
  have hne : s.data.toList.drop i ≠ [] := fun e => by
    have := congrArg List.length e
    rw [List.length_drop, Array.length_toList] at this
    have h2 : s.data.size = s.size := rfl
    simp at this
    omega
  have e := Lib.decodeL_le (s.data.toList.drop i) hne
  rw [Lib.decodeL_drop, List.length_drop, Array.length_toList] at e
  have h2 : s.data.size = s.size := rfl
  omega
theorem sz {W : World} {n : Nat} {v : Value} {l : List UInt8} (h : W.ownsRow n 5 1 v l.length (nums .u8 (ints l))) : W.ownsRow n 5 1 v (ints l).length (nums .u8 (ints l)) := by
  rw [ints_length]
  exact h
theorem one_app {W : World} {n : Nat} {v : Value} (l : List UInt8) (a : UInt8) (h : W.ownsRow n 5 1 v (ints l ++ [(a.toNat : Int)]).length (nums .u8 (ints l ++ [(a.toNat : Int)]))) : W.ownsRow n 5 1 v (l ++ [a]).length (nums .u8 (ints (l ++ [a]))) := by
  rw [ints_app, ← ints_length (l ++ [a]), ints_app]
  exact h
theorem toL_eq (a b : ByteArray) : (a.toList = b.toList) ↔ a = b := by
  rw [ByteArray.toList_eq, ByteArray.toList_eq]
  exact ⟨fun h => ByteArray.ext (Array.toList_inj.1 h), fun h => by rw [h]⟩
/-- The first of ten texts that is this one. -/
def idx (c : Nat → ByteArray) (x : ByteArray) : Nat → Nat → Int
  | 0, _ => -1
  | k + 1, j => if x = c j then (j : Int) else idx c x k (j + 1)
theorem idx_range (c : Nat → ByteArray) (x : ByteArray) : ∀ k j, -1 ≤ idx c x k j ∧ idx c x k j < j + k + 1
  | 0, j => by simp only [idx]; omega
  | k + 1, j => by
    simp only [idx]
    split
    · omega
    · have := idx_range c x k (j + 1)
      omega
set_option maxHeartbeats 4000000 in
set_option maxRecDepth 100000 in
theorem index (N : Nat) (c : Nat → ByteArray) (x : ByteArray) (w : World) (hn : w.heap[N]? = some (.cells (row c) 39 (0, 0))) : Calls Tryd.prog 28 #[.slice (some ⟨N, 0, none⟩) 10 10, .string x] w fun e w' => e = .returned (.int .i64 (idx c x 10 0)) ∧ w' = w := by
  go_enter Tryd.func28, Tryd.ntmps28
  go_wp2
  go_loopw [8] (fun i wr => ∃ (j fuel : Nat), i = .int .i64 j ∧ wr = w ∧ Aside0 (idx c x fuel j = idx c x 10 0) ∧ Aside0 (j + fuel = 10)) (fun i _ => 10 - (intOf i).toNat)
  case atStart => exact ⟨0, 10, rfl, rfl, ⟨rfl⟩, ⟨rfl⟩⟩
  case round =>
    obtain ⟨j, fuel, rfl, rfl, HI, HL⟩ := hrel
    by_cases hj : j < 10
    · have d0 : decide ((j : Int) < 10) = true := decide_eq_true (by omega)
      have p1 : (0 ≤ (j : Int)) = True := eq_true (by omega)
      have p2 : ((j : Int) < 10) = True := eq_true (by omega)
      have d1 : wr.cell? ⟨N, j, none⟩ = some (.string (c j)) := (Lib.cell_of_heap hn j).trans (row_at c j hj)
      have wy : IntKind.i64.wrap ((j : Int) + 1) = ((j + 1 : Nat) : Int) := by rw [i64w (by omega) (by omega)]; omega
      obtain ⟨k, rfl⟩ : ∃ k, fuel = k + 1 := ⟨fuel - 1, by have := HL.out; omega⟩
      by_cases hx : x = c j
      · have e0 : (x.toList == (c j).toList) = true := beq_iff_eq.mpr (congrArg ByteArray.toList hx)
        have hr : Aside0 (idx c x 10 0 = (j : Int)) := ⟨by rw [← HI.out]; simp only [idx]; rw [if_pos hx]⟩
        clear hx
        go_wp2
        go_ret
        exact ⟨by rw [hr.out]; rfl, rfl⟩
      · have e0 : (x.toList == (c j).toList) = false := beq_eq_false_iff_ne.mpr (fun h => hx ((toL_eq _ _).1 h))
        have hr : Aside0 (idx c x k (j + 1) = idx c x 10 0) := ⟨by rw [← HI.out]; simp only [idx]; rw [if_neg hx]⟩
        clear hx
        go_wp2
        go_roundw
        case rel => exact ⟨j + 1, k, by rw [Int.natCast_add]; rfl, trivial, hr, ⟨by have := HL.out; omega⟩⟩
        case measure => simp only [intOf]; omega
    · have d0 : decide ((j : Int) < 10) = false := decide_eq_false (by omega)
      have hr : Aside0 (idx c x 10 0 = -1) := ⟨by
        rw [← HI.out]
        obtain rfl : fuel = 0 := by have := HL.out; omega
        rfl⟩
      go_wp2
      go_ret
      exact ⟨by rw [hr.out]; rfl, rfl⟩
def fin (i : Nat) (acc : List UInt8) : ByteArray × Int × Int := if i = 0 then (⟨#[]⟩, 0, 81) else (⟨acc.toArray⟩, (i : Int), 0)
def go (c : Nat → ByteArray) (s : ByteArray) : Nat → Nat → List UInt8 → ByteArray × Int × Int
  | 0, i, acc => fin i acc
  | k + 1, i, acc => if i < s.size then (if idx c (s.extract i (i + (Utf8.decode s i).2)) 10 0 < 0 then fin i acc else go c s k (i + (Utf8.decode s i).2) (acc ++ [(48 + idx c (s.extract i (i + (Utf8.decode s i).2)) 10 0).toNat.toUInt8])) else fin i acc
def f (name s : ByteArray) : ByteArray × Int × Int := if (tenC name).2 ≠ 0 then (⟨#[]⟩, 0, (tenC name).2) else if 65536 < s.size then (⟨#[]⟩, 0, 2) else go (tenC name).1 s (s.size + 1) 0 []
set_option maxHeartbeats 4000000 in
set_option maxRecDepth 100000 in
theorem calls (name s : ByteArray) (hs : s.size ≤ 140737488355328) (w : World) (hT : Stray.Tabs w) : Calls Tryd.prog 13 #[.string name, .string s] w fun e w' => e = .returned (.tuple #[.string (f name s).1, .int .i64 (f name s).2.1, .int .i64 (f name s).2.2]) ∧ Below w.heap.size w w' := by
  have T := ten name w
  have HF : f name s = (if (tenC name).2 ≠ 0 then (⟨#[]⟩, 0, (tenC name).2) else if 65536 < s.size then (⟨#[]⟩, 0, 2) else go (tenC name).1 s (s.size + 1) 0 []) := rfl
  generalize (f name s) = R at HF ⊢
  generalize (tenC name).1 = c at *
  generalize (tenC name).2 = x at *
  go_enter Tryd.func13, Tryd.ntmps13
  by_cases hx : x ≠ 0
  · rw [if_pos hx] at HF
    have HR := Aside0.mk HF
    have e0 : (x != 0) = true := bne_iff_ne.mpr hx
    clear HF hx
    go_wp2_with (go_at_call 22; refine T.mono ?_)
    rintro e W1 ⟨rfl, b1⟩
    go_wp2
    go_ret3
    refine ⟨by rw [HR.out]; rfl, ?_⟩
    exact b1.alloc b1.size _
  rw [if_neg hx] at HF
  obtain rfl : x = 0 := Classical.not_not.1 hx
  clear hx
  by_cases hz : 65536 < s.size
  · rw [if_pos hz] at HF
    have HR := Aside0.mk HF
    have e0 : decide (65536 < (s.size : Int)) = true := decide_eq_true (by omega)
    clear HF hz
    go_wp2_with (go_at_call 22; refine T.mono ?_)
    rintro e W1 ⟨rfl, b1⟩
    go_wp2
    go_ret3
    refine ⟨by rw [HR.out]; rfl, ?_⟩
    exact b1.alloc b1.size _
  rw [if_neg hz] at HF
  have HR := Aside0.mk HF
  have HZ := Aside0.mk (Nat.le_of_not_lt hz)
  have e0 : decide (65536 < (s.size : Int)) = false := decide_eq_false (by omega)
  clear HF hz
  go_wp2_with (go_at_call 22; refine T.mono ?_)
  rintro e W1 ⟨rfl, b1⟩
  have B1 := Aside0.mk b1
  clear b1 T
  go_wp2
  go_loopw [9, 10] (fun v i wr => ∃ (q fuel : Nat) (acc : List UInt8), i = .int .i64 q ∧ Aside0 (wr.ownsRow (W1.heap.size + 1) 5 1 v acc.length (nums .u8 (ints acc))) ∧ wr.heap[W1.heap.size]? = some (.cells (row c) 39 (0, 0)) ∧ Aside0 (Below (W1.heap.size + 1) (W1.alloc (.cells (row c) 39)) wr) ∧ Aside0 (go c s fuel q acc = R) ∧ Aside0 (s.size < q + fuel ∧ q ≤ s.size ∧ acc.length ≤ q)) (fun _ i _ => s.size - (intOf i).toNat)
  case atStart =>
    refine ⟨0, s.size + 1, [], rfl, ⟨own_nil _ _ _ _⟩, new_at _ _ rfl, ⟨Below.refl _ _⟩, ⟨HR.out.symm⟩, ⟨by omega, by omega, by simp⟩⟩
  case round =>
    obtain ⟨q, fuel, acc, rfl, HO, hrow, HB, HG, HL⟩ := hrel
    have hbw : Below w.heap.size w wr := (B1.out.alloc B1.out.size _).trans (HB.out.mono (by have := B1.out.size; omega))
    have BW := Aside0.mk hbw
    have hlt : W1.heap.size + 1 ≤ wr.heap.size := by have := HB.out.size; simpa using this
    have HLT := Aside0.mk hlt
    have hcv := own_string (P := Tryd.prog) Tryd.underlying43 Tryd.underlying5 Tryd.underlying9 HO.out
    rw [str_ints] at hcv
    have finish : ∀ (hr : R = fin q acc), Aside0 ((q = 0 ∧ R = (⟨#[]⟩, 0, 81)) ∨ (q ≠ 0 ∧ R = (⟨acc.toArray⟩, (q : Int), 0))) := by
      intro hr
      unfold fin at hr
      by_cases h0 : q = 0
      · rw [if_pos h0] at hr; exact ⟨.inl ⟨h0, hr⟩⟩
      · rw [if_neg h0] at hr; exact ⟨.inr ⟨h0, hr⟩⟩
    have FIN := Aside0.mk finish
    clear finish hbw hlt
    by_cases hq : q < s.size
    · have d0 : decide ((q : Int) < (s.size : Int)) = true := decide_eq_true (by omega)
      have d0n : decide (q < s.size) = true := decide_eq_true hq
      have p1 : (0 ≤ (q : Int)) = True := eq_true (by omega)
      have p2 : ((q : Int) ≤ (s.size : Int)) = True := eq_true (by omega)
      have p3 : q ≤ s.size := by omega
      have cd := Tryd.utf8_DecodeRuneInString (s.extract q s.size) wr (hT.below BW.out)
      rw [Stray.decode_rest s q hq] at cd
      have hw1 := Stray.width s q hq
      have hd := fits s q hq
      obtain ⟨k, rfl⟩ : ∃ k, fuel = k + 1 := ⟨fuel - 1, by have := HL.out; omega⟩
      have hg := HG.out
      simp only [go] at hg
      rw [if_pos hq] at hg
      generalize Utf8.decode s q = d at *
      have p4 : ((q : Int) ≤ (q : Int) + (d.2 : Int)) = True := eq_true (by omega)
      have p5 : ((q : Int) + (d.2 : Int) ≤ (s.size : Int)) = True := eq_true (by omega)
      have wy : IntKind.i64.wrap ((q : Int) + (d.2 : Int)) = ((q + d.2 : Nat) : Int) := by rw [i64w (by have := HZ.out; omega) (by have := HZ.out; omega)]; omega
      have HG2 := Aside0.mk hg
      have HD := Aside0.mk (And.intro hw1 hd)
      clear hg hw1 hd
      go_wp2_with (go_at_call 27; refine cd.mono ?_)
      rintro e W3 ⟨rfl, hb3⟩
      have hrow3 : W3.heap[W1.heap.size]? = some (.cells (row c) 39 (0, 0)) := (hb3.block _ (by have := HLT.out; omega)).trans hrow
      go_wp2
      go_region_held3 (fun w' => w' = W3.drew) (go_keep) (first | (go_at_call 28; refine (index W1.heap.size c (s.extract q (q + d.2)) W3.drew hrow3).mono ?_; rintro e w' ⟨rfl, rfl⟩))
      obtain ⟨zr0, zr1⟩ := idx_range c (s.extract q (q + d.2)) 10 0
      generalize idx c (s.extract q (q + d.2)) 10 0 = z at *
      have hO3 := pw_own_below HO.out hb3
      have HB3 := Aside0.mk (HB.out.trans (hb3.mono HLT.out))
      have BW3 := Aside0.mk (BW.out.trans (hb3.mono (by have := HLT.out; have := B1.out.size; omega)))
      have HX := Aside0.mk hO3
      have hcv3 := own_string (P := Tryd.prog) Tryd.underlying43 Tryd.underlying5 Tryd.underlying9 hO3.drew
      rw [str_ints] at hcv3
      clear hb3 hrow hcv
      by_cases hz : z < 0
      · have e3 : decide (z < 0) = true := decide_eq_true hz
        have HGR : Aside0 (R = fin q acc) := ⟨by rw [← HG2.out, if_pos hz]⟩
        clear zr0 zr1 hz
        have F := (FIN.out HGR.out).out
        rcases F with ⟨h0, hr⟩ | ⟨h0, hr⟩
        · have HRR := Aside0.mk hr
          have e1 : ((q : Int) == 0) = true := by rw [beq_iff_eq]; omega
          have e1n : (q == 0) = true := by rw [beq_iff_eq]; exact h0
          clear hr h0
          go_wp2
          go_ret3
          exact ⟨by rw [HRR.out]; rfl, below_drew BW3.out⟩
        · have HRR := Aside0.mk hr
          have e1 : ((q : Int) == 0) = false := by rw [beq_eq_false_iff_ne]; omega
          have e1n : (q == 0) = false := by rw [beq_eq_false_iff_ne]; exact h0
          clear hr h0
          go_wp2
          go_ret3
          exact ⟨by rw [HRR.out]; rfl, below_drew BW3.out⟩
      · have e3 : decide (z < 0) = false := decide_eq_false hz
        have HG4 : Aside0 (go c s k (q + d.2) (acc ++ [(48 + z).toNat.toUInt8]) = R) := ⟨by rw [← HG2.out, if_neg hz]⟩
        have wz : IntKind.i64.wrap (48 + z) = 48 + z := i64w (by omega) (by omega)
        have HM : Aside0 ((48 + z) % 256 = (((48 + z).toNat.toUInt8.toNat : Nat) : Int)) := ⟨by rw [Nat.toUInt8_eq, UInt8.toNat_ofNat']; omega⟩
        clear zr0 zr1 hz hcv3 hO3
        go_wp2_with ((with_reducible refine gate_builtin (b := .append) (xs := #[.tmp 46, .tmp 50]) rfl ?_); at_builtin; refine print_append_num (w0 := W1.alloc (.cells (row c) 39)) (W1.heap.size + 1) rfl (.tmp 46) (.tmp 50) 43 5 .u8 1 rfl Tryd.underlying43 (by kernel_rfl) (by decide) u9 (ints acc) _ rfl rfl (sz HX.out.drew) (below_drew HB3.out) (by have := HB3.out.size; simp at this; exact this) (by have := HL.out; have := HZ.out; have := ints_length acc; omega) ?_; intro v2 w2 ho hb hg hat)
        rw [HM.out] at ho
        have hO4 := one_app acc _ ho
        have hrow4 : w2.heap[W1.heap.size]? = some (.cells (row c) 39 (0, 0)) := (hb.block _ (by omega)).trans (new_at _ _ rfl)
        go_roundw
        case rel =>
          exact ⟨q + d.2, k, acc ++ [(48 + z).toNat.toUInt8], rfl, ⟨hO4⟩, hrow4, ⟨hb⟩, HG4, ⟨by have := HL.out; have := HD.out; simp only [List.length_append, List.length_cons, List.length_nil]; omega⟩⟩
        case measure => have := HD.out; simp only [intOf]; omega
    · have d0 : decide ((q : Int) < (s.size : Int)) = false := decide_eq_false (by omega)
      have d0n : decide (q < s.size) = false := decide_eq_false hq
      have HGR : Aside0 (R = fin q acc) := ⟨by
        rw [← HG.out]
        cases fuel with
        | zero => rfl
        | succ k => simp only [go]; rw [if_neg hq]⟩
      have F := (FIN.out HGR.out).out
      rcases F with ⟨h0, hr⟩ | ⟨h0, hr⟩
      · have HRR := Aside0.mk hr
        have e1 : ((q : Int) == 0) = true := by rw [beq_iff_eq]; omega
        have e1n : (q == 0) = true := by rw [beq_iff_eq]; exact h0
        clear hr h0
        go_wp2
        go_ret3
        exact ⟨by rw [HRR.out]; rfl, BW.out⟩
      · have HRR := Aside0.mk hr
        have e1 : ((q : Int) == 0) = false := by rw [beq_eq_false_iff_ne]; omega
        have e1n : (q == 0) = false := by rw [beq_eq_false_iff_ne]; exact h0
        clear hr h0
        go_wp2
        go_ret3
        exact ⟨by rw [HRR.out]; rfl, BW.out⟩
end Go.Proofs.YtnkjeojhiligpaaDoor.Read8
set_option linter.unusedVariables false
set_option linter.unusedSimpArgs false
namespace Go.Proofs.YtnkjeojhiligpaaDoor.Bld
open Go.RowKit

set_option maxHeartbeats 1000000 in
set_option maxRecDepth 100000 in
theorem check_fresh (B b : Nat) (bs : List Value) (w : World) (h : Lib.BuilderAtF 45 5 B b (.pointer none) bs w) :
    Calls Tryd.prog 38 #[.pointer (some ⟨b, 0, none⟩)] w fun e w' => e = .returned (.tuple #[]) ∧ w' = w.setCell ⟨b, 0, none⟩ (.pointer (some ⟨b, 0, none⟩)) := by
  have X := Tryd.Builder_Extra_169
  obtain ⟨j, hj, hjs⟩ := Option.map_eq_some_iff.1 X.sizeBuilder
  have h0 := h.cell0
  have hsh := h.shape
  have hfz := h.frozen0
  go_enter Tryd.func38, Tryd.ntmps38
  go_wp2
  rw [Lib.run_to_unsafe w ⟨b, 0, none⟩ Tryd.underlying42 Tryd.underlying85 hj (by rw [hjs]; decide) hsh (Nat.zero_lt_succ 1)]
  simp only [Result.andThen]
  rw [Oper.upon_value]
  go_wp2
  rw [run_callFunc_extern Tryd.func57 (by kernel_rfl) (by kernel_rfl) (by kernel_rfl) (e := Extern.AbiNoEscape.same) (by kernel_rfl)]
  rw [Lib.run_noEscape]
  simp only [Result.andThen]
  rw [Oper.upon_value]
  go_wp2
  rw [Lib.run_from_unsafe w ⟨b, 0, none⟩ Tryd.underlying85 Tryd.underlying42 hj hsh X.liesBuilder]
  simp only [Result.andThen]
  rw [Oper.upon_value]
  go_wp2
  go_end0
  exact ⟨rfl, rfl⟩
set_option maxHeartbeats 1000000 in
set_option maxRecDepth 100000 in
theorem check_used (B b : Nat) (bs : List Value) (w : World) (h : Lib.BuilderAtF 45 5 B b (.pointer (some ⟨b, 0, none⟩)) bs w) :
    Calls Tryd.prog 38 #[.pointer (some ⟨b, 0, none⟩)] w fun e w' => e = .returned (.tuple #[]) ∧ w' = w := by
  obtain ⟨j, hj, _⟩ := Option.map_eq_some_iff.1 (Tryd.Builder_Extra_169).sizeBuilder
  have h0 := h.cell0
  go_enter Tryd.func38, Tryd.ntmps38
  go_wp2
  rw [Lib.run_neq_ptr_same w _ Tryd.underlying42 hj]
  go_wp2
  go_end0
  exact ⟨rfl, rfl⟩
theorem check (B b : Nat) (bs : List Value) (w : World) (h : Lib.IsBuilderF 45 5 B b bs w) :
    Calls Tryd.prog 38 #[.pointer (some ⟨b, 0, none⟩)] w fun e w' => e = .returned (.tuple #[]) ∧ (Lib.BuilderAtF 45 5 B b (.pointer (some ⟨b, 0, none⟩)) bs w' ∧ Below B w w' ∧ Lib.OthersKept 5 (some b) w w') := by
  rcases h with h | h
  · refine (check_fresh B b bs w h).mono ?_
    rintro e w' ⟨rfl, rfl⟩
    exact ⟨rfl, h.used _, (Below.refl B w).setCell (p := ⟨b, 0, none⟩) h.1 _, (Lib.OthersKept.refl _ _ w).setCell ⟨b, 0, none⟩ rfl _⟩
  · refine (check_used B b bs w h).mono ?_
    rintro e w' ⟨rfl, rfl⟩
    exact ⟨rfl, h, Below.refl B _, Lib.OthersKept.refl _ _ _⟩

set_option maxHeartbeats 2000000 in
set_option maxRecDepth 100000 in
theorem writeString (B b : Nat) (bs : List Value) (s : ByteArray) (w : World) (h : Lib.IsBuilderF 45 5 B b bs w) (hlen : bs.length + s.size ≤ 140737488355328) (hBw : B ≤ w.heap.size) :
    Calls Tryd.prog 23 #[.pointer (some ⟨b, 0, none⟩), .string s] w fun e w' => e = .returned (.tuple #[.int .i64 s.size, .nilIface]) ∧ (Lib.BuilderAtF 45 5 B b (.pointer (some ⟨b, 0, none⟩)) (bs ++ Lib.strCells s) w' ∧ Below B w w' ∧ Lib.OthersKept 5 (some b) w w') := by
  have X := Tryd.Builder_Extra_169
  obtain ⟨i0, hi, hz0, hz1, hz2⟩ := info_parts X.infoByte
  go_enter Tryd.func23, Tryd.ntmps23
  go_wp2_with (go_at_call 38; refine (check B b bs _ h).mono ?_)
  rintro e w1 ⟨rfl, h1, hb1, hk1⟩
  obtain ⟨hB, v, hbk, hown, hne⟩ := h1
  have c0 : w1.cell? ⟨b, 0, none⟩ = some (.pointer (some ⟨b, 0, none⟩)) := by rw [Lib.cell_of_heap hbk]; rfl
  have c1 : w1.cell? ⟨b, 1, none⟩ = some v := by rw [Lib.cell_of_heap hbk]; rfl
  go_wp2_with (at_builtin; refine Lib.wpList_append_own_stringF _ rfl _ _ 43 9 rfl B 5 i0 Tryd.underlying43 Tryd.underlying9 hi hz0 hz1 hz2 _ _ _ rfl hown s rfl ?c3 ?c4 ?c5 ?_)
  case c3 => unfold maxLen; omega
  case c4 => omega
  case c5 => have := hb1.size; omega
  intro v' w2 hown' hgrow _
  have hlt : b < w1.heap.size := by
    rcases Nat.lt_or_ge b w1.heap.size with h' | h'
    · exact h'
    · simp [Array.getElem?_eq_none h'] at hbk
  have hb2 : w2.heap[b]? = some (.cells #[.pointer (some ⟨b, 0, none⟩), v] 45 (0, 0)) := by
    rw [hgrow.block b hlt (fun e => hne e.symm)]
    exact hbk
  have d0 : w2.cell? ⟨b, 0, none⟩ = some (.pointer (some ⟨b, 0, none⟩)) := by rw [Lib.cell_of_heap hb2]; rfl
  have d1 : w2.cell? ⟨b, 1, none⟩ = some v := by rw [Lib.cell_of_heap hb2]; rfl
  have f1 : w2.frozen? ⟨b, 1, none⟩ = false := Lib.frozen_of_heap hb2 1
  obtain ⟨ao, n', cap, rfl⟩ : ∃ ao n' cap, v' = .slice ao n' cap := by
    rcases hown'.2 with ⟨hv, _⟩ | ⟨g, cap, cur, fz, hv, _⟩
    · exact ⟨_, _, _, hv⟩
    · exact ⟨_, _, _, hv⟩
  go_wp2
  go_ret2
  refine ⟨rfl, ?_, ?_, (hk1.grown hgrow (Lib.ownsRowF_kind hown)).setCell ⟨b, 1, none⟩ rfl _⟩
  · exact Lib.BuilderAtF.put (T := 45) (e := 5) hB hb2 (bs' := bs ++ Lib.strCells s) (by simpa [Lib.strCells_length] using hown') (by decide)
  · exact (hb1.grown hgrow (by have := hb1.size; omega) (fun k hk => (hown.lt k hk).1)).setCell (p := ⟨b, 1, none⟩) hB _
end Go.Proofs.YtnkjeojhiligpaaDoor.Bld
set_option linter.unusedVariables false
set_option linter.unusedSimpArgs false
namespace Go.Proofs.YtnkjeojhiligpaaDoor.Rend
open Go.RowKit Go.Proofs.YtnkjeojhiligpaaDoorW.PrintWords Go.Proofs.YtnkjeojhiligpaaDoorW.PrintLast Go.Proofs.YtnkjeojhiligpaaDoorW.PrintMore Go.Proofs.YtnkjeojhiligpaaDoor.Ten Go.Proofs.YtnkjeojhiligpaaDoor.Aid
def go (c : Nat → ByteArray) (s : ByteArray) : Nat → Nat → List UInt8 → ByteArray × Int
  | 0, _, _ => (⟨#[]⟩, 81)
  | k + 1, i, acc => if i < s.size then (if (s.get! i).toNat < 48 ∨ 57 < (s.get! i).toNat then (⟨#[]⟩, 81) else go c s k (i + 1) (acc ++ (c ((s.get! i).toNat - 48)).data.toList)) else (⟨acc.toArray⟩, 0)
def f (name s : ByteArray) : ByteArray × Int := if (tenC name).2 ≠ 0 then (⟨#[]⟩, (tenC name).2) else if 65536 < s.size then (⟨#[]⟩, 2) else go (tenC name).1 s (s.size + 1) 0 []
theorem enc_size (r : Int) : (Utf8.encode r).size ≤ 4 := by
  unfold Utf8.encode
  generalize (if Utf8.valid r = true then r.toNat else Utf8.runeError) = n
  simp only []
  by_cases c1 : n < 128
  · rw [if_pos c1]; show 1 ≤ 4; omega
  rw [if_neg c1]
  by_cases c2 : n < 2048
  · rw [if_pos c2]; show 2 ≤ 4; omega
  rw [if_neg c2]
  by_cases c3 : n < 65536
  · rw [if_pos c3]; show 3 ≤ 4; omega
  · rw [if_neg c3]; show 4 ≤ 4; omega
theorem tenC_size (name : ByteArray) (j : Nat) : ((tenC name).1 j).size ≤ 4 := by
  unfold tenC
  cases sysOf name Ten.sys with
  | none => exact Nat.zero_le _
  | some p =>
    obtain ⟨z, h⟩ := p
    show (digs z h j).size ≤ 4
    unfold digs
    split
    · exact enc_size _
    · exact enc_size _
set_option maxHeartbeats 4000000 in
set_option maxRecDepth 100000 in
theorem calls (name s : ByteArray) (w : World) : Calls Tryd.prog 10 #[.string name, .string s] w fun e w' => e = .returned (.tuple #[.string (f name s).1, .int .i64 (f name s).2]) ∧ Below w.heap.size w w' := by
  have hsize := tenC_size name
  have T := ten name w
  have HF : f name s = (if (tenC name).2 ≠ 0 then (⟨#[]⟩, (tenC name).2) else if 65536 < s.size then (⟨#[]⟩, 2) else go (tenC name).1 s (s.size + 1) 0 []) := rfl
  generalize (f name s) = R at HF ⊢
  generalize (tenC name).1 = c at *
  generalize (tenC name).2 = x at *
  have HS := Aside0.mk hsize
  clear hsize
  go_enter Tryd.func10, Tryd.ntmps10
  by_cases hx : x ≠ 0
  · rw [if_pos hx] at HF
    have HR := Aside0.mk HF
    have e0 : (x != 0) = true := bne_iff_ne.mpr hx
    clear HF hx
    go_wp2_with (go_at_call 22; refine T.mono ?_)
    rintro e W1 ⟨rfl, b1⟩
    go_wp2
    go_ret2
    refine ⟨by rw [HR.out]; rfl, ?_⟩
    exact b1.alloc b1.size _
  rw [if_neg hx] at HF
  obtain rfl : x = 0 := Classical.not_not.1 hx
  clear hx
  by_cases hz : 65536 < s.size
  · rw [if_pos hz] at HF
    have HR := Aside0.mk HF
    have e0 : decide (65536 < (s.size : Int)) = true := decide_eq_true (by omega)
    clear HF hz
    go_wp2_with (go_at_call 22; refine T.mono ?_)
    rintro e W1 ⟨rfl, b1⟩
    go_wp2
    go_ret2
    refine ⟨by rw [HR.out]; rfl, ?_⟩
    exact b1.alloc b1.size _
  rw [if_neg hz] at HF
  have HR := Aside0.mk HF
  have HZ := Aside0.mk (Nat.le_of_not_lt hz)
  have e0 : decide (65536 < (s.size : Int)) = false := decide_eq_false (by omega)
  clear HF hz
  go_wp2_with (go_at_call 22; refine T.mono ?_)
  rintro e W1 ⟨rfl, b1⟩
  have B1 := Aside0.mk b1
  clear b1 T
  go_wp2
  go_loopw [24] (fun i wr => ∃ (q fuel : Nat) (acc : List UInt8), i = .int .i64 q ∧ Aside0 (Lib.IsBuilderF 45 5 (W1.heap.size + 1) (W1.heap.size + 1) (Lib.byteCells acc) wr) ∧ wr.heap[W1.heap.size]? = some (.cells (row c) 39 (0, 0)) ∧ Aside0 (Below w.heap.size w wr) ∧ Aside0 (go c s fuel q acc = R) ∧ Aside0 (s.size < q + fuel ∧ q ≤ s.size ∧ acc.length ≤ 4 * q)) (fun i _ => s.size - (intOf i).toNat)
  case atStart =>
    refine ⟨0, s.size + 1, [], rfl, ⟨?_⟩, ?_, ⟨?_⟩, ⟨HR.out.symm⟩, ⟨by omega, by omega, by simp⟩⟩
    · have h1 := Lib.IsBuilderF.of (Lib.fresh_isBuilder 45 5 (W1.alloc (.cells (row c) 39)))
      rw [show (W1.alloc (.cells (row c) 39)).heap.size = W1.heap.size + 1 from by simp] at h1
      exact h1
    · exact (old_at _ _ (by simp)).trans (new_at _ _ rfl)
    · exact (B1.out.alloc B1.out.size _).alloc (by have := B1.out.size; simp; omega) _
  case round =>
    obtain ⟨q, fuel, acc, rfl, HI, hrow, HB, HG, HL⟩ := hrel
    have hlt : W1.heap.size < wr.heap.size := (Array.getElem?_eq_some_iff.1 hrow).1
    by_cases hq : q < s.size
    · have d0 : decide ((q : Int) < (s.size : Int)) = true := decide_eq_true (by omega)
      have d0n : decide (q < s.size) = true := decide_eq_true hq
      have p1 : (0 ≤ (q : Int)) = True := eq_true (by omega)
      have p2 : ((q : Int) < (s.size : Int)) = True := eq_true (by omega)
      have wy : IntKind.i64.wrap ((q : Int) + 1) = ((q + 1 : Nat) : Int) := by rw [i64w (by have := HZ.out; omega) (by have := HZ.out; omega)]; omega
      have eb : s.get! q = s[q]'hq := getElem!_pos s.data q hq
      obtain ⟨b, Hb⟩ : ∃ b : Int, Aside0 (b = ((s.get! q).toNat : Int)) := ⟨_, ⟨rfl⟩⟩
      have Eb : ((s[q]'hq).toNat : Int) = b := by rw [Hb.out, eb]
      have hlt8 : 0 ≤ b ∧ b < 256 := by
        have := (s.get! q).toNat_lt
        rw [Hb.out]; omega
      obtain ⟨k, rfl⟩ : ∃ k, fuel = k + 1 := ⟨fuel - 1, by have := HL.out; omega⟩
      by_cases c1 : b < 48
      · have d1 : decide (b < 48) = true := decide_eq_true (by omega)
        have hr : Aside0 (R = (⟨#[]⟩, 81)) := ⟨by
          rw [← HG.out]
          simp only [go]
          rw [if_pos hq, if_pos (.inl (by have := Hb.out; omega))]⟩
        clear c1 hlt8
        go_wp2
        go_ret2
        exact ⟨by rw [hr.out]; rfl, HB.out⟩
      by_cases c2 : 57 < b
      · have d1 : decide (b < 48) = false := decide_eq_false (by omega)
        have d2 : decide (57 < b) = true := decide_eq_true (by omega)
        have hr : Aside0 (R = (⟨#[]⟩, 81)) := ⟨by
          rw [← HG.out]
          simp only [go]
          rw [if_pos hq, if_pos (.inr (by have := Hb.out; omega))]⟩
        clear c1 c2 hlt8
        go_wp2
        go_ret2
        exact ⟨by rw [hr.out]; rfl, HB.out⟩
      have d1 : decide (b < 48) = false := decide_eq_false (by omega)
      have d2 : decide (57 < b) = false := decide_eq_false (by omega)
      obtain ⟨n, hn⟩ : ∃ n : Nat, (n : Int) = b - 48 := ⟨(b - 48).toNat, by omega⟩
      have hn10 : n < 10 := by omega
      have HG2 : Aside0 (go c s k (q + 1) (acc ++ (c n).data.toList) = R) := ⟨by
        rw [← HG.out]
        simp only [go]
        have hb' := Hb.out
        rw [if_pos hq, if_neg (by omega), show (s.get! q).toNat - 48 = n by omega]⟩
      have wn : (b - 48) % 256 = (n : Int) := by omega
      clear hn
      have p3 : (0 ≤ (n : Int)) = True := eq_true (by omega)
      have p4 : ((n : Int) < 10) = True := eq_true (by omega)
      have d3 : wr.cell? ⟨W1.heap.size, n, none⟩ = some (.string (c n)) := (Lib.cell_of_heap hrow n).trans (row_at c n hn10)
      have HS4 : Aside0 ((Lib.byteCells acc).length + (c n).size ≤ 140737488355328) := ⟨by rw [Lib.byteCells_length]; have := HL.out; have := HZ.out; have := HS.out n; omega⟩
      have hI := HI.out
      clear c1 c2 hlt8 hn10
      go_wp2_with (go_at_call 23; refine (Bld.writeString (W1.heap.size + 1) (W1.heap.size + 1) _ (c n) _ hI HS4.out hlt).mono ?_)
      rintro e W2 ⟨rfl, g1, g2, _⟩
      go_wp2
      go_roundw
      case rel =>
        refine ⟨q + 1, k, acc ++ (c n).data.toList, by rw [Int.natCast_add]; rfl, ⟨.inr ?_⟩, (g2.block _ (by omega)).trans hrow, ⟨?_⟩, HG2, ⟨by have := HL.out; have := HS.out n; rw [List.length_append, show (c n).data.toList.length = (c n).size from Array.length_toList]; omega⟩⟩
        · rw [Lib.byteCells_append, show Lib.byteCells (c n).data.toList = Lib.strCells (c n) by simp [Lib.byteCells, Lib.strCells]]; exact g1
        · exact HB.out.trans (g2.mono (by have := B1.out.size; omega))
      case measure => simp only [intOf]; have := HL.out; omega
    · have d0 : decide ((q : Int) < (s.size : Int)) = false := decide_eq_false (by omega)
      have d0n : decide (q < s.size) = false := decide_eq_false hq
      have hr : R = (⟨acc.toArray⟩, 0) := by
        rw [← HG.out]
        cases fuel with
        | zero => have := HL.out; omega
        | succ k => simp only [go]; rw [if_neg hq]
      have HR2 := Aside0.mk hr
      clear hr hq
      have hI := HI.out
      go_wp2_with (go_at_call 24; refine (Tryd.Builder_String_any_k (W1.heap.size + 1) (W1.heap.size + 1) acc _ hI hlt).mono ?_)
      rintro e W2 ⟨rfl, _, b2, _⟩
      go_wp2
      go_ret2
      exact ⟨by rw [HR2.out]; rfl, HB.out.trans (b2.mono (by have := B1.out.size; omega))⟩
end Go.Proofs.YtnkjeojhiligpaaDoor.Rend
