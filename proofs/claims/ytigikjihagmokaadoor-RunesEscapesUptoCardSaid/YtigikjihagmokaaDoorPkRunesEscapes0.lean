/- Part 1 of 2 of the proof of the law RunesEscapes: it is true at every input. Conditions: those of the given row, no others. -/
import Derived.Test.YtigikjihagmokaaDoorWMore
import Derived.WalkKit
import Derived.Laws.IdiomStrings
import Derived.Laws.BytesArg
import Derived.Lib.Hide
import Derived.Laws.BitsLemmas
import Derived.Test.YtigikjihagmokaaDoorProg
import Derived.Below
import Derived.Deep.Draws
import Derived.Deep.AppendLies
import Derived.Maps.AppendAt
import Derived.OwnWalk
import Derived.Laws.MakeOwn
import Derived.Laws.OwnMore
import Derived.Deep.OwnRows
import Derived.Tactics
import Derived.Lib.ConvBytes
import Derived.Laws.Slices
import Derived.KernelRfl
import Derived.RowKit3
import Derived.Deep.LoopGhost
import Derived.Deep.QuietTactic
import Derived.BigQuiet
import Derived.WideLaws
import Derived.Deep.DeepCutAuto
import Derived.Deep.CutBlock
import Derived.Deep.RegionHeld3
import Derived.Laws.Rows
import Derived.Lib.AppendStr
import Derived.ArgAppend
import Derived.Laws.IdiomCopy
import Derived.OrdersHeld
import Derived.RowKit
import Derived.Test.YtigikjihagmokaaDoorWWords
import Derived.Test.YtigikjihagmokaaDoorWLast
import Derived.Test.YtigikjihagmokaaDoorWKept
import Derived.Laws.StructEq
import Derived.Test.YtigikjihagmokaaDoorWRepsOne
import Derived.Shelf.Strings.Builder1
import Derived.Shelf.Small.Utf8
import Derived.Shelf.Small.Strs
import Derived.Shelf.Strings.BuilderF
import Derived.Shelf.Strings.BuilderK
import Derived.Shelf.Strings.BuilderRune
import Derived.Shelf.Strings.Search1
import Derived.Shelf.Unicode.Decode
import Derived.Shelf.Unicode.DecodeSlow
import Derived.Shelf.Unicode.DecodeAny
import Derived.Shelf.Strings.BuilderCap
import Derived.BigCall
import Derived.Lib.OthersKept
import Derived.Lib.FrozenHead2
import Derived.Lib.TrimUEq
import Derived.Lib.LaidU8
import Derived.Lib.MapLaws
set_option linter.unusedVariables false
namespace Go.Proofs.YtigikjihagmokaaDoor.Aid
open Go.RowKit Go.Proofs.YtigikjihagmokaaDoorW.PrintWords Go.Proofs.YtigikjihagmokaaDoorW.PrintMore

/-- The block B is one of bytes, made since base; its first bytes are l, and may be written. -/
def Bts (w : World) (base B e : Nat) (l : List Int) : Prop :=
  base ≤ B ∧ ∃ cur fz, w.heap[B]? = some (.cells cur e fz) ∧ l.length ≤ fz.1 ∧ l.length ≤ cur.size ∧ ∀ j, j < l.length → cur[j]? = some (.int .u8 (l.getD j 0))

theorem Bts.lt {w : World} {base B e : Nat} {l : List Int} (h : Bts w base B e l) : B < w.heap.size := by
  obtain ⟨_, cur, fz, hb, _⟩ := h
  exact (Array.getElem?_eq_some_iff.1 hb).1
theorem Bts.cell {w : World} {base B e : Nat} {l : List Int} (h : Bts w base B e l) (j : Nat) (hj : j < l.length) : w.cell? ⟨B, j, none⟩ = some (.int .u8 (l.getD j 0)) := by
  obtain ⟨_, cur, fz, hb, _, _, hc⟩ := h
  unfold World.cell?
  rw [hb]
  simpa using hc j hj
theorem Bts.free {w : World} {base B e : Nat} {l : List Int} (h : Bts w base B e l) (j : Nat) (hj : j < l.length) : w.frozen? ⟨B, j, none⟩ = false := by
  obtain ⟨_, cur, fz, hb, hf, _, hc⟩ := h
  unfold World.frozen?
  rw [hb]
  obtain ⟨lo, hi⟩ := fz
  simp only at hf ⊢
  have : ¬ lo ≤ j := by omega
  simp [this]
theorem Bts.set {w : World} {base B e : Nat} {l : List Int} (h : Bts w base B e l) (j : Nat) (v : Int) : Bts (w.setCell ⟨B, j, none⟩ (.int .u8 v)) base B e (l.set j v) := by
  obtain ⟨h0, cur, fz, hb, hf, hs, hc⟩ := h
  have hlt := (Array.getElem?_eq_some_iff.1 hb).1
  have he := (Array.getElem?_eq_some_iff.1 hb).2
  refine ⟨h0, cur.setIfInBounds j (.int .u8 v), fz, ?_, by simpa using hf, by simpa using hs, ?_⟩
  · unfold World.setCell
    simp only [Array.getElem?_modify]
    simp [hb]
  · intro i hi
    simp only [List.length_set] at hi
    rw [Array.getElem?_setIfInBounds]
    by_cases e1 : j = i
    · subst e1
      simp [show j < cur.size by omega, List.getD_eq_getElem?_getD, hi]
    · simp only [if_neg e1]
      rw [hc i hi]
      simp [List.getD_eq_getElem?_getD, e1]
theorem Bts.drew {w : World} {base B e : Nat} {l : List Int} (h : Bts w base B e l) : Bts w.drew base B e l := h
theorem Bts.below {w w1 : World} {base B e : Nat} {l : List Int} (h : Bts w base B e l) (hb : Below w.heap.size w w1) : Bts w1 base B e l := by
  have hl := h.lt
  obtain ⟨h0, cur, fz, hh, r⟩ := h
  exact ⟨h0, cur, fz, (hb.block B hl).trans hh, r⟩

/-- A text's bytes as numbers. -/
def nums8 (s : ByteArray) : List Int := s.data.toList.map fun c => (c.toNat : Int)
theorem nums8_length (s : ByteArray) : (nums8 s).length = s.size := by simp [nums8]
theorem strOf_nums8 (s : ByteArray) : strOfNums (nums8 s) = s := by
  obtain ⟨⟨l⟩⟩ := s
  simp [strOfNums, nums8, Function.comp_def]

/-- What '[]byte(s)' makes. -/
theorem Bts.made (w : World) (e : Nat) (s : ByteArray) (cap : Nat) : Bts (w.drew.alloc (.cells (bytesRow s cap) e ((bytesRow s cap).size, (bytesRow s cap).size + 1))) w.heap.size w.heap.size e (nums8 s) := by
  refine ⟨Nat.le_refl _, bytesRow s cap, _, heap_alloc_new w.drew _, ?_, ?_, ?_⟩
  · rw [nums8_length]; simp [bytesRow]
  · rw [nums8_length]; simp [bytesRow]
  · intro j hj
    have hj' : j < s.data.toList.length := by simpa [nums8] using hj
    have hj2 : j < s.data.size := by simpa using hj'
    unfold bytesRow
    rw [Array.getElem?_append_left (by simpa using hj2)]
    simp [nums8, List.getD_eq_getElem?_getD, Array.getElem?_eq_getElem hj2]
theorem bne_nil (l : List UInt8) : (!l.isEmpty) = (l != []) := by cases l <;> rfl
theorem eq_nil (l : List UInt8) : l.isEmpty = (l == []) := by cases l <;> rfl
theorem empty_of {l : List UInt8} {b : Bool} (h : (l == []) = b) : l.isEmpty = b := (eq_nil l).trans h
theorem R_set_drew {α : Type} {d : Kd α} {e base n : Nat} {w : World} {a : Addr} {v u : Value} {ok : Nat → Prop} {xs : List α} (h : d.R e (w.setCell a v) base ok u xs) : d.R e ((w.drewN n).setCell a v) base ok u xs := Kd.R_drewN h n
theorem V_nil' {k : IntKind} {e base : Nat} {w : World} {ok : Nat → Prop} {v : Value} (h : v = .slice none 0 0) : Kd.V (Kd.int k) e w base ok v [] := h ▸ Kd.V_nil _ _ _ _ _
theorem R_nil' {k : IntKind} {e base : Nat} {w : World} {ok : Nat → Prop} {v : Value} (h : v = .slice none 0 0) : Kd.R (Kd.int k) e w base ok v [] := h ▸ Kd.R_nil _ _ _ _ _
/-- A text of one byte. -/
theorem one_byte (s : ByteArray) (h : s.size = 1) : ∃ c : UInt8, s = ⟨#[c]⟩ ∧ bt s 0 = (c.toNat : Int) := by
  obtain ⟨⟨l⟩⟩ := s
  obtain ⟨c, rfl⟩ := List.length_eq_one_iff.1 h
  exact ⟨c, rfl, rfl⟩
/-- The last six bits of a byte behind 128, as the walk spells them. -/
theorem low6 (x : Int) : Go.bits .or .u8 128 (Go.bits .and .u8 (x % 256) 63) = 128 + x % 64 := by
  have h1 : Go.bits .and .u8 (x % 256) 63 = x % 256 % 64 := u8_and63 _ (by omega) (by omega)
  have h2 : Go.bits .or .u8 128 (x % 256 % 64) = 128 + x % 256 % 64 := u8_or128 _ (by omega) (by omega)
  rw [h1, h2]
  omega
end Go.Proofs.YtigikjihagmokaaDoor.Aid
namespace Go.Proofs.YtigikjihagmokaaDoor.F
open Go.RowKit Go.Proofs.YtigikjihagmokaaDoorW.PrintWords Go.Proofs.YtigikjihagmokaaDoorW.PrintLast Go.Proofs.YtigikjihagmokaaDoorW.PrintMore
attribute [local go_sem] max2_int min2_int max_two min_two max_three min_three max_four min_four   -- for this text's walks alone
set_option linter.unusedVariables false
set_option linter.unusedSimpArgs false



def errW : Option Int → Value
 | none => .nilIface
 | some c => .iface 0 (.int .i64 c)
theorem errW_none : errW none = .nilIface := rfl
theorem errW_some (c : Int) : errW (some c) = .iface 0 (.int .i64 c) := rfl

theorem info5 : (Tryd.prog.info? 5).map (fun i => (i.zero, i.size, i.bytes)) = some (some (.int .u8 0), 1, 1) := by kernel_rfl
theorem info9 : (Tryd.prog.info? 9).map (fun i => (i.zero, i.size, i.bytes)) = some (some (.string ⟨#[]⟩), 1, 16) := by kernel_rfl
theorem info21 : (Tryd.prog.info? 21).map (fun i => (i.zero, i.size, i.bytes)) = some (some (.int .i32 0), 1, 4) := by kernel_rfl
end Go.Proofs.YtigikjihagmokaaDoor.F
set_option linter.unusedVariables false
namespace Go.Proofs.YtigikjihagmokaaDoor.Q
open Go.RowKit Go.Proofs.YtigikjihagmokaaDoorW.PrintWords Go.Proofs.YtigikjihagmokaaDoorW.PrintLast Go.Proofs.YtigikjihagmokaaDoorW.PrintMore
theorem ql {p : Prop} (h : p := by (try simp only [List.map_toArray, List.map_cons, List.map_nil]); first | done | rfl | (simp only [List.length_drop, List.length_take]; rfl)) : p := h
theorem qh {b : Nat} {w w1 w2 : World} (B : Aside0 (Below b w w1)) (h : Below b w w1 → Below b w w2 := by intro h_; repeat (first | (with_reducible first | exact h_ | apply below_alloc | apply pw_below_drewN | apply below_drew1 | refine below_set ?_ (Aside0.out (by with_reducible assumption))) | exact h_)) : Below b w w2 := h B.out
theorem qn {w w1 w2 w3 : World} (B : Aside0 (Below w.heap.size w w1)) (hb : Below w2.heap.size w2 w3) (h : Below w.heap.size w w1 → Below w.heap.size w w2 := by intro h_; repeat (first | (with_reducible first | exact h_ | apply below_alloc | apply pw_below_drewN | apply below_drew1 | refine below_set ?_ (Aside0.out (by with_reducible assumption))) | exact h_)) : Aside0 (Below w.heap.size w w3) := ⟨below_step (h B.out) hb⟩
theorem qe {p : Prop} (h : p := by first | rfl | (exact congrArg (fun b => Ending.returned (.bool b)) (Aid.bne_nil _)) | (exact congrArg (fun b => Ending.returned (.bool b)) (Aid.eq_nil _)) | (simp [errW_none, errW_some] <;> rfl) | (simp [*, errW_none, errW_some] <;> rfl)) : p := h
theorem qa {p : Prop} (h : p := by first | (with_reducible assumption) | assumption) : p := h
section
variable {P : Program} {ops : Array Oper} {rest : List Oper} {o : Oper} {a : Act} {Q : Exit → Act → World → Prop} {md : Region.Mode} {S : World → Prop} {ds : List Nat} {T : Bool × List (List Nat × List Nat)} {B : List Nat}
end
end Go.Proofs.YtigikjihagmokaaDoor.Q
namespace Go.Proofs
open Go.Shelf
def Tryd.lays170_ren : Go.Shelf.Ren := ⟨fun | 170 => 37 | n => n, fun | 70 => 40 | 3 => 3 | 0 => 0 | 72 => 43 | 37 => 41 | 5 => 5 | n => n, fun | n => n⟩
theorem Tryd.lays170 : Go.Proofs.Lays.n170 Tryd.prog Tryd.lays170_ren := {
  mixed := by kernel_rfl
  f170 := Tryd.func37.trans (congrArg some (by kernel_rfl))
  t0 := Tryd.underlying0
  a0 := Tryd.isAgg0
  z0 := Tryd.sizeOf0
  v0 := Tryd.zeroValue0
  t3 := Tryd.underlying3
  a3 := Tryd.isAgg3
  z3 := Tryd.sizeOf3
  v3 := Tryd.zeroValue3
  t37 := Tryd.underlying41
  a37 := Tryd.isAgg41
  z37 := Tryd.sizeOf41
  v37 := Tryd.zeroValue41
  t70 := Tryd.underlying40
  a70 := Tryd.isAgg40
  z70 := Tryd.sizeOf40
  v70 := Tryd.zeroValue40
  t72 := Tryd.underlying43
  a72 := Tryd.isAgg43
  z72 := Tryd.sizeOf43
  v72 := Tryd.zeroValue43 }
def Tryd.lays169_ren : Go.Shelf.Ren := ⟨fun | 169 => 39 | n => n, fun | 70 => 40 | 9 => 9 | 0 => 0 | 72 => 43 | 37 => 41 | 127 => 65 | 3 => 3 | 5 => 5 | n => n, fun | n => n⟩
theorem Tryd.lays169 : Go.Proofs.Lays.n169 Tryd.prog Tryd.lays169_ren := {
  mixed := by kernel_rfl
  f169 := Tryd.func39.trans (congrArg some (by kernel_rfl))
  t0 := Tryd.underlying0
  a0 := Tryd.isAgg0
  z0 := Tryd.sizeOf0
  v0 := Tryd.zeroValue0
  t3 := Tryd.underlying3
  a3 := Tryd.isAgg3
  z3 := Tryd.sizeOf3
  v3 := Tryd.zeroValue3
  t9 := Tryd.underlying9
  a9 := Tryd.isAgg9
  z9 := Tryd.sizeOf9
  v9 := Tryd.zeroValue9
  t37 := Tryd.underlying41
  a37 := Tryd.isAgg41
  z37 := Tryd.sizeOf41
  v37 := Tryd.zeroValue41
  t70 := Tryd.underlying40
  a70 := Tryd.isAgg40
  z70 := Tryd.sizeOf40
  v70 := Tryd.zeroValue40
  t72 := Tryd.underlying43
  a72 := Tryd.isAgg43
  z72 := Tryd.sizeOf43
  v72 := Tryd.zeroValue43
  t127 := Tryd.underlying65
  a127 := Tryd.isAgg65
  z127 := Tryd.sizeOf65
  v127 := Tryd.zeroValue65 }
theorem Tryd.Builder_Extra_169 : Builder.Extra Tryd.prog Tryd.lays169_ren := {
  sizeBuilder := by kernel_rfl
  liesBuilder := by kernel_rfl
  t5 := Tryd.underlying5
  a5 := Tryd.isAgg5
  z5 := Tryd.sizeOf5
  v5 := Tryd.zeroValue5
  infoByte := by kernel_rfl
  cellsByte := by kernel_rfl
  sizeByte := by kernel_rfl
  neB5 := by decide }
open Go.RowKit in
theorem Tryd.Builder_Len_f (B b : Nat) (bs : List Value) (w : World) (h : Lib.IsBuilderF 43 5 B b bs w) :
    Calls Tryd.prog 37 #[.pointer (some ⟨b, 0, none⟩)] w fun e w' => e = .returned (.int .i64 bs.length) ∧ w' = w := Any.Builder_Len_f Tryd.lays170 B b bs w h
open Go.RowKit in
theorem Tryd.Builder_String_any_k (B b : Nat) (l : List UInt8) (w : World) (h : Lib.IsBuilderF 43 5 B b (Lib.byteCells l) w) (hBw : B ≤ w.heap.size) :
    Calls Tryd.prog 39 #[.pointer (some ⟨b, 0, none⟩)] w fun e w' => e = .returned (.string ⟨l.toArray⟩) ∧ (Lib.IsBuilderF 43 5 B b (Lib.byteCells l) w' ∧ Below B w w' ∧ Lib.OthersKept 5 (some b) w w') := Any.Builder_String_any_k Tryd.lays169 Tryd.Builder_Extra_169 B b l w h hBw
def Tryd.lays197_ren : Go.Shelf.Ren := ⟨fun | 197 => 49 | 260 => 59 | n => n, fun | 9 => 9 | 21 => 21 | 3 => 3 | 4 => 4 | 5 => 5 | 105 => 63 | 119 => 88 | 0 => 0 | 46 => 75 | 139 => 91 | 138 => 90 | n => n, fun | 3 => 0 | 4 => 1 | n => n⟩
theorem Tryd.lays197 : Go.Proofs.Lays.n197 Tryd.prog Tryd.lays197_ren := {
  mixed := by kernel_rfl
  f197 := Tryd.func49.trans (congrArg some (by kernel_rfl))
  f260 := Tryd.func59.trans (congrArg some (by kernel_rfl))
  t0 := Tryd.underlying0
  a0 := Tryd.isAgg0
  z0 := Tryd.sizeOf0
  v0 := Tryd.zeroValue0
  t3 := Tryd.underlying3
  a3 := Tryd.isAgg3
  z3 := Tryd.sizeOf3
  v3 := Tryd.zeroValue3
  t4 := Tryd.underlying4
  a4 := Tryd.isAgg4
  z4 := Tryd.sizeOf4
  v4 := Tryd.zeroValue4
  t5 := Tryd.underlying5
  a5 := Tryd.isAgg5
  z5 := Tryd.sizeOf5
  v5 := Tryd.zeroValue5
  t9 := Tryd.underlying9
  a9 := Tryd.isAgg9
  z9 := Tryd.sizeOf9
  v9 := Tryd.zeroValue9
  t21 := Tryd.underlying21
  a21 := Tryd.isAgg21
  z21 := Tryd.sizeOf21
  v21 := Tryd.zeroValue21
  t46 := Tryd.underlying75
  a46 := Tryd.isAgg75
  z46 := Tryd.sizeOf75
  v46 := Tryd.zeroValue75
  t105 := Tryd.underlying63
  a105 := Tryd.isAgg63
  z105 := Tryd.sizeOf63
  v105 := Tryd.zeroValue63
  t119 := Tryd.underlying88
  a119 := Tryd.isAgg88
  z119 := Tryd.sizeOf88
  t138 := Tryd.underlying90
  a138 := Tryd.isAgg90
  z138 := Tryd.sizeOf90
  v138 := Tryd.zeroValue90
  t139 := Tryd.underlying91
  a139 := Tryd.isAgg91
  z139 := Tryd.sizeOf91
  v139 := Tryd.zeroValue91
  g3 := by kernel_rfl
  g4 := by kernel_rfl }
def Tryd.lays260_ren : Go.Shelf.Ren := ⟨fun | 260 => 59 | n => n, fun | 9 => 9 | 21 => 21 | 3 => 3 | 4 => 4 | 5 => 5 | 119 => 88 | 0 => 0 | 46 => 75 | 139 => 91 | 138 => 90 | n => n, fun | 3 => 0 | 4 => 1 | n => n⟩
theorem Tryd.lays260 : Go.Proofs.Lays.n260 Tryd.prog Tryd.lays260_ren := {
  mixed := by kernel_rfl
  f260 := Tryd.func59.trans (congrArg some (by kernel_rfl))
  t0 := Tryd.underlying0
  a0 := Tryd.isAgg0
  z0 := Tryd.sizeOf0
  v0 := Tryd.zeroValue0
  t3 := Tryd.underlying3
  a3 := Tryd.isAgg3
  z3 := Tryd.sizeOf3
  v3 := Tryd.zeroValue3
  t4 := Tryd.underlying4
  a4 := Tryd.isAgg4
  z4 := Tryd.sizeOf4
  v4 := Tryd.zeroValue4
  t5 := Tryd.underlying5
  a5 := Tryd.isAgg5
  z5 := Tryd.sizeOf5
  v5 := Tryd.zeroValue5
  t9 := Tryd.underlying9
  a9 := Tryd.isAgg9
  z9 := Tryd.sizeOf9
  v9 := Tryd.zeroValue9
  t21 := Tryd.underlying21
  a21 := Tryd.isAgg21
  z21 := Tryd.sizeOf21
  v21 := Tryd.zeroValue21
  t46 := Tryd.underlying75
  a46 := Tryd.isAgg75
  z46 := Tryd.sizeOf75
  v46 := Tryd.zeroValue75
  t119 := Tryd.underlying88
  a119 := Tryd.isAgg88
  z119 := Tryd.sizeOf88
  t138 := Tryd.underlying90
  a138 := Tryd.isAgg90
  z138 := Tryd.sizeOf90
  v138 := Tryd.zeroValue90
  t139 := Tryd.underlying91
  a139 := Tryd.isAgg91
  z139 := Tryd.sizeOf91
  v139 := Tryd.zeroValue91
  g3 := by kernel_rfl
  g4 := by kernel_rfl }
open Go.RowKit Go.Lib in
theorem Tryd.utf8_DecodeRuneInString (s : ByteArray) (w : World) (hT : Lib.Utf8Tabs 0 1 w) :
    Calls Tryd.prog 49 #[.string s] w fun e w' => e = .returned (.tuple #[.int .i32 (Lib.decodeGo s).1, .int .i64 (Lib.decodeGo s).2]) ∧ Below w.heap.size w w' := Any.utf8_DecodeRuneInString Tryd.lays197 s w hT
end Go.Proofs
set_option linter.unusedVariables false
set_option linter.unusedSimpArgs false
namespace Go.Proofs.YtigikjihagmokaaDoor.Bld
open Go.RowKit

set_option maxHeartbeats 1000000 in
set_option maxRecDepth 100000 in
theorem check_fresh (B b : Nat) (bs : List Value) (w : World) (h : Lib.BuilderAtF 43 5 B b (.pointer none) bs w) :
    Calls Tryd.prog 50 #[.pointer (some ⟨b, 0, none⟩)] w fun e w' => e = .returned (.tuple #[]) ∧ w' = w.setCell ⟨b, 0, none⟩ (.pointer (some ⟨b, 0, none⟩)) := by
  have X := Tryd.Builder_Extra_169
  obtain ⟨j, hj, hjs⟩ := Option.map_eq_some_iff.1 X.sizeBuilder
  have h0 := h.cell0
  have hsh := h.shape
  have hfz := h.frozen0
  go_enter Tryd.func50, Tryd.ntmps50
  go_wp2
  rw [Lib.run_to_unsafe w ⟨b, 0, none⟩ Tryd.underlying40 Tryd.underlying72 hj (by rw [hjs]; decide) hsh (Nat.zero_lt_succ 1)]
  simp only [Result.andThen]
  rw [Oper.upon_value]
  go_wp2
  rw [run_callFunc_extern Tryd.func60 (by kernel_rfl) (by kernel_rfl) (by kernel_rfl) (e := Extern.AbiNoEscape.same) (by kernel_rfl)]
  rw [Lib.run_noEscape]
  simp only [Result.andThen]
  rw [Oper.upon_value]
  go_wp2
  rw [Lib.run_from_unsafe w ⟨b, 0, none⟩ Tryd.underlying72 Tryd.underlying40 hj hsh X.liesBuilder]
  simp only [Result.andThen]
  rw [Oper.upon_value]
  go_wp2
  go_end0
  exact ⟨rfl, rfl⟩
set_option maxHeartbeats 1000000 in
set_option maxRecDepth 100000 in
theorem check_used (B b : Nat) (bs : List Value) (w : World) (h : Lib.BuilderAtF 43 5 B b (.pointer (some ⟨b, 0, none⟩)) bs w) :
    Calls Tryd.prog 50 #[.pointer (some ⟨b, 0, none⟩)] w fun e w' => e = .returned (.tuple #[]) ∧ w' = w := by
  obtain ⟨j, hj, _⟩ := Option.map_eq_some_iff.1 (Tryd.Builder_Extra_169).sizeBuilder
  have h0 := h.cell0
  go_enter Tryd.func50, Tryd.ntmps50
  go_wp2
  rw [Lib.run_neq_ptr_same w _ Tryd.underlying40 hj]
  go_wp2
  go_end0
  exact ⟨rfl, rfl⟩
theorem check (B b : Nat) (bs : List Value) (w : World) (h : Lib.IsBuilderF 43 5 B b bs w) :
    Calls Tryd.prog 50 #[.pointer (some ⟨b, 0, none⟩)] w fun e w' => e = .returned (.tuple #[]) ∧ (Lib.BuilderAtF 43 5 B b (.pointer (some ⟨b, 0, none⟩)) bs w' ∧ Below B w w' ∧ Lib.OthersKept 5 (some b) w w') := by
  rcases h with h | h
  · refine (check_fresh B b bs w h).mono ?_
    rintro e w' ⟨rfl, rfl⟩
    exact ⟨rfl, h.used _, (Below.refl B w).setCell (p := ⟨b, 0, none⟩) h.1 _, (Lib.OthersKept.refl _ _ w).setCell ⟨b, 0, none⟩ rfl _⟩
  · refine (check_used B b bs w h).mono ?_
    rintro e w' ⟨rfl, rfl⟩
    exact ⟨rfl, h, Below.refl B _, Lib.OthersKept.refl _ _ _⟩

set_option maxHeartbeats 2000000 in
set_option maxRecDepth 100000 in
theorem writeString (B b : Nat) (bs : List Value) (s : ByteArray) (w : World) (h : Lib.IsBuilderF 43 5 B b bs w) (hlen : bs.length + s.size ≤ 140737488355328) (hBw : B ≤ w.heap.size) :
    Calls Tryd.prog 38 #[.pointer (some ⟨b, 0, none⟩), .string s] w fun e w' => e = .returned (.tuple #[.int .i64 s.size, .nilIface]) ∧ (Lib.BuilderAtF 43 5 B b (.pointer (some ⟨b, 0, none⟩)) (bs ++ Lib.strCells s) w' ∧ Below B w w' ∧ Lib.OthersKept 5 (some b) w w') := by
  have X := Tryd.Builder_Extra_169
  obtain ⟨i0, hi, hz0, hz1, hz2⟩ := info_parts X.infoByte
  go_enter Tryd.func38, Tryd.ntmps38
  go_wp2_with (go_at_call 50; refine (check B b bs _ h).mono ?_)
  rintro e w1 ⟨rfl, h1, hb1, hk1⟩
  obtain ⟨hB, v, hbk, hown, hne⟩ := h1
  have c0 : w1.cell? ⟨b, 0, none⟩ = some (.pointer (some ⟨b, 0, none⟩)) := by rw [Lib.cell_of_heap hbk]; rfl
  have c1 : w1.cell? ⟨b, 1, none⟩ = some v := by rw [Lib.cell_of_heap hbk]; rfl
  go_wp2_with (at_builtin; refine Lib.wpList_append_own_stringF _ rfl _ _ 41 9 rfl B 5 i0 Tryd.underlying41 Tryd.underlying9 hi hz0 hz1 hz2 _ _ _ rfl hown s rfl ?c3 ?c4 ?c5 ?_)
  case c3 => unfold maxLen; omega
  case c4 => omega
  case c5 => have := hb1.size; omega
  intro v' w2 hown' hgrow _
  have hlt : b < w1.heap.size := by
    rcases Nat.lt_or_ge b w1.heap.size with h' | h'
    · exact h'
    · simp [Array.getElem?_eq_none h'] at hbk
  have hb2 : w2.heap[b]? = some (.cells #[.pointer (some ⟨b, 0, none⟩), v] 43 (0, 0)) := by
    rw [hgrow.block b hlt (fun e => hne e.symm)]
    exact hbk
  have d0 : w2.cell? ⟨b, 0, none⟩ = some (.pointer (some ⟨b, 0, none⟩)) := by rw [Lib.cell_of_heap hb2]; rfl
  have d1 : w2.cell? ⟨b, 1, none⟩ = some v := by rw [Lib.cell_of_heap hb2]; rfl
  have f1 : w2.frozen? ⟨b, 1, none⟩ = false := Lib.frozen_of_heap hb2 1
  obtain ⟨ao, n', cap, rfl⟩ : ∃ ao n' cap, v' = .slice ao n' cap := by
    rcases hown'.2 with ⟨hv, _⟩ | ⟨g, cap, cur, fz, hv, _⟩
    · exact ⟨_, _, _, hv⟩
    · exact ⟨_, _, _, hv⟩
  go_wp2
  go_ret2
  refine ⟨rfl, ?_, ?_, (hk1.grown hgrow (Lib.ownsRowF_kind hown)).setCell ⟨b, 1, none⟩ rfl _⟩
  · exact Lib.BuilderAtF.put (T := 43) (e := 5) hB hb2 (bs' := bs ++ Lib.strCells s) (by simpa [Lib.strCells_length] using hown') (by decide)
  · exact (hb1.grown hgrow (by have := hb1.size; omega) (fun k hk => (hown.lt k hk).1)).setCell (p := ⟨b, 1, none⟩) hB _
end Go.Proofs.YtigikjihagmokaaDoor.Bld
namespace Go.Proofs.YtigikjihagmokaaDoor.Fill
open Go.RowKit Go.Proofs.YtigikjihagmokaaDoorW.PrintWords Go.Proofs.YtigikjihagmokaaDoorW.PrintLast Go.Proofs.YtigikjihagmokaaDoorW.PrintMore Go.Proofs.YtigikjihagmokaaDoor.Aid
set_option linter.unusedVariables false
set_option linter.unusedSimpArgs false
/-- What stands at a place: none: no piece; a piece, and the place behind it. -/
def piece (s : ByteArray) (l : List ByteArray) (x : Int) : Option (ByteArray × Int) :=
  if (s.extract x.toNat (x + 1).toNat).toList = ([123] : List UInt8) then
    if (s.size : Int) < x + 3 then none
    else if bt s (x + 2) ≠ 125 then none
    else if bt s (x + 1) < 48 then none
    else if 57 < bt s (x + 1) then none
    else if (l.length : Int) ≤ bt s (x + 1) - 48 then none
    else some (rdOf ByteArray.empty l (bt s (x + 1) - 48), x + 3)
  else some (s.extract x.toNat (x + 1).toNat, x + 1)
def go (s : ByteArray) (l : List ByteArray) : Nat → Int → List UInt8 → ByteArray × Int
  | 0, _, _ => (⟨#[]⟩, 11)
  | k + 1, x, acc => if x < (s.size : Int) then (match piece s l x with
      | none => (⟨#[]⟩, 11)
      | some (p, y) => if 1048576 - (acc.length : Int) < (p.size : Int) then (⟨#[]⟩, 2) else go s l k y (acc ++ p.data.toList)) else (⟨acc.toArray⟩, 0)
def f (s : ByteArray) (l : List ByteArray) : ByteArray × Int := if (s.size : Int) > 65536 then (⟨#[]⟩, 2) else go s l (s.size + 1) 0 []

theorem bytes_cells (s : ByteArray) : Lib.byteCells s.data.toList = Lib.strCells s := by
  simp [Lib.byteCells, Lib.strCells]
theorem w64' {x : Int} (h0 : -9223372036854775808 ≤ x) (h1 : x ≤ 9223372036854775807) : wrap64 x = x := by unfold wrap64; omega
set_option maxHeartbeats 4000000 in
set_option maxRecDepth 100000 in
theorem calls (a0 : ByteArray) (A1 : Option Addr) (c1 : Nat) (l1 : List ByteArray) (w : World) (hr1 : Kd.C Kd.string w A1 l1.length l1) (hc1 : l1.length ≤ c1) :
    Calls Tryd.prog 19 #[.string a0, .slice A1 l1.length c1] w fun e w' => e = .returned (.tuple #[.string (f a0 l1).1, .int .i64 (f a0 l1).2]) ∧ Below w.heap.size w w' := by
  have HR1 := Aside0.mk hr1
  have HC1 := Aside0.mk hc1
  clear hr1 hc1
  go_enter Tryd.func19, Tryd.ntmps19
  by_cases c : (a0.size : Int) > 65536
  · have cb : decide (65536 < (a0.size : Int)) = true := decide_eq_true c
    have e : f a0 l1 = (⟨#[]⟩, 2) := by unfold f; rw [if_pos c]
    clear c
    rw [e]
    go_wp2
    go_ret2
    exact ⟨rfl, Below.refl _ _⟩
  · have cb : decide (65536 < (a0.size : Int)) = false := decide_eq_false c
    have e : f a0 l1 = go a0 l1 (a0.size + 1) 0 [] := by unfold f; rw [if_neg c]
    have hsz : a0.size ≤ 65536 := by omega
    clear c
    go_wp2
    go_loopw [7] (fun i wr => ∃ (x : Int) (fuel : Nat) (acc : List UInt8), i = .int .i64 x ∧ Aside0 (Lib.IsBuilderF 43 5 w.heap.size w.heap.size (Lib.byteCells acc) wr) ∧ Aside0 (Below w.heap.size w wr) ∧ Aside0 (go a0 l1 fuel x acc = f a0 l1) ∧ Aside0 ((a0.size : Int) + 1 ≤ x + fuel) ∧ Aside0 (0 ≤ x ∧ x ≤ a0.size) ∧ Aside0 (acc.length ≤ 1048576)) (fun i _ => a0.size - (intOf i).toNat)
    case atStart =>
      refine ⟨0, a0.size + 1, [], rfl, ⟨?_⟩, ⟨?_⟩, ⟨e.symm⟩, ⟨by omega⟩, ⟨by omega⟩, ⟨by simp⟩⟩
      · have h1 := Lib.IsBuilderF.of (Lib.fresh_isBuilder 43 5 w)
        exact h1
      · exact (Below.refl _ w).alloc (Nat.le_refl _) _
    case round =>
      obtain ⟨x, fuel, acc, rfl, HI, HB, HG, HF, HJ, HL⟩ := hrel
      clear e
      by_cases hx : x < (a0.size : Int)
      · have b0 : decide (x < (a0.size : Int)) = true := decide_eq_true hx
        have HX := Aside0.mk hx
        obtain ⟨x1, hx1⟩ : ∃ x1 : Int, x + 1 = x1 := ⟨_, rfl⟩
        obtain ⟨x2, hx2⟩ : ∃ x2 : Int, x + 2 = x2 := ⟨_, rfl⟩
        obtain ⟨x3, hx3⟩ : ∃ x3 : Int, x + 3 = x3 := ⟨_, rfl⟩
        have HX1 : Aside0 (x1 = x + 1 ∧ x3 = x + 3 ∧ x < (a0.size : Int)) := ⟨hx1.symm, hx3.symm, hx⟩
        have hj := HJ.out
        have W1 : Aside0 (IntKind.i64.wrap (x + 1) = x1) := ⟨by rw [i64_w, w64' (by omega) (by omega)]; exact hx1⟩
        have W2 : Aside0 (IntKind.i64.wrap (x + 2) = x2) := ⟨by rw [i64_w, w64' (by omega) (by omega)]; exact hx2⟩
        have W3 : Aside0 (IntKind.i64.wrap (x + 3) = x3) := ⟨by rw [i64_w, w64' (by omega) (by omega)]; exact hx3⟩
        have W4 : Aside0 (IntKind.i64.wrap (x2 + 1) = x3) := ⟨by rw [i64_w, w64' (by omega) (by omega)]; omega⟩
        have c0 := eq_true hj.1
        have c1' : (x ≤ x1) = True := eq_true (by omega)
        have c2' : (x1 ≤ (a0.size : Int)) = True := eq_true (by omega)
        have d0 : decide (0 ≤ x) = true := decide_eq_true hj.1
        have d1 : decide (x ≤ x1) = true := decide_eq_true (by omega)
        have d2 : decide (x1 ≤ (a0.size : Int)) = true := decide_eq_true (by omega)
        by_cases h1 : (a0.extract x.toNat x1.toNat).toList = ([123] : List UInt8)
        · have e1 : ((a0.extract x.toNat x1.toNat).toList == ([123] : List UInt8)) = true := beq_iff_eq.mpr h1
          by_cases h2 : (a0.size : Int) < x3
          · have e2 : decide ((a0.size : Int) < x3) = true := decide_eq_true h2
            have HPc : Aside0 (piece a0 l1 x = none) := ⟨by unfold piece; rw [hx1, if_pos h1, hx3, if_pos h2]⟩
            clear h2
            have HR : Aside0 (f a0 l1 = (⟨#[]⟩, 11)) := ⟨by
              rw [← HG.out]
              obtain ⟨k, rfl⟩ : ∃ k, fuel = k + 1 := ⟨fuel - 1, by have := HF.out; have := HJ.out; omega⟩
              simp only [go]; rw [if_pos HX.out, HPc.out]⟩
            clear h1 hx hj hx1 hx2 hx3
            have w1 := W1.out; have w2 := W2.out; have w3 := W3.out; have w4 := W4.out
            go_wp2
            go_ret2
            exact ⟨by rw [HR.out]; rfl, HB.out⟩
          · have e2 : decide ((a0.size : Int) < x3) = false := decide_eq_false h2
            have p2 : (0 ≤ x2) = True := eq_true (by omega)
            have q2 : (x2 < (a0.size : Int)) = True := eq_true (by omega)
            have p1 : (0 ≤ x1) = True := eq_true (by omega)
            have q1 : (x1 < (a0.size : Int)) = True := eq_true (by omega)
            have b2 := bt_at a0 x2
            have b1 := bt_at a0 x1
            have r1 := bt_range a0 x1
            by_cases h3 : bt a0 x2 ≠ 125
            · have e3 : (bt a0 x2 != 125) = true := bne_iff_ne.mpr h3
              have HPc : Aside0 (piece a0 l1 x = none) := ⟨by unfold piece; rw [hx1, if_pos h1, hx3, if_neg h2, hx2, if_pos h3]⟩
              clear h2 h3
              have HR : Aside0 (f a0 l1 = (⟨#[]⟩, 11)) := ⟨by
                rw [← HG.out]
                obtain ⟨k, rfl⟩ : ∃ k, fuel = k + 1 := ⟨fuel - 1, by have := HF.out; have := HJ.out; omega⟩
                simp only [go]; rw [if_pos HX.out, HPc.out]⟩
              clear h1 hx hj hx1 hx2 hx3
              have w1 := W1.out; have w2 := W2.out; have w3 := W3.out; have w4 := W4.out
              go_wp2
              go_ret2
              exact ⟨by rw [HR.out]; rfl, HB.out⟩
            · have e3 : (bt a0 x2 != 125) = false := bne_eq_false_iff_eq.mpr (Classical.not_not.1 h3)
              by_cases h4 : bt a0 x1 < 48
              · have e4 : decide (bt a0 x1 < 48) = true := decide_eq_true h4
                have HPc : Aside0 (piece a0 l1 x = none) := ⟨by unfold piece; rw [hx1, if_pos h1, hx3, if_neg h2, hx2, if_neg h3, if_pos h4]⟩
                clear h2 h3 h4 r1
                have HR : Aside0 (f a0 l1 = (⟨#[]⟩, 11)) := ⟨by
                  rw [← HG.out]
                  obtain ⟨k, rfl⟩ : ∃ k, fuel = k + 1 := ⟨fuel - 1, by have := HF.out; have := HJ.out; omega⟩
                  simp only [go]; rw [if_pos HX.out, HPc.out]⟩
                clear h1 hx hj hx1 hx2 hx3
                have w1 := W1.out; have w2 := W2.out; have w3 := W3.out; have w4 := W4.out
                go_wp2
                go_ret2
                exact ⟨by rw [HR.out]; rfl, HB.out⟩
              · have e4 : decide (bt a0 x1 < 48) = false := decide_eq_false h4
                by_cases h5 : 57 < bt a0 x1
                · have e5 : decide (57 < bt a0 x1) = true := decide_eq_true h5
                  have HPc : Aside0 (piece a0 l1 x = none) := ⟨by unfold piece; rw [hx1, if_pos h1, hx3, if_neg h2, hx2, if_neg h3, if_neg h4, if_pos h5]⟩
                  clear h2 h3 h4 h5 r1
                  have HR : Aside0 (f a0 l1 = (⟨#[]⟩, 11)) := ⟨by
                    rw [← HG.out]
                    obtain ⟨k, rfl⟩ : ∃ k, fuel = k + 1 := ⟨fuel - 1, by have := HF.out; have := HJ.out; omega⟩
                    simp only [go]; rw [if_pos HX.out, HPc.out]⟩
                  clear h1 hx hj hx1 hx2 hx3
                  have w1 := W1.out; have w2 := W2.out; have w3 := W3.out; have w4 := W4.out
                  go_wp2
                  go_ret2
                  exact ⟨by rw [HR.out]; rfl, HB.out⟩
                · have e5 : decide (57 < bt a0 x1) = false := decide_eq_false h5
                  obtain ⟨n, hn⟩ : ∃ n : Int, (bt a0 x1 - 48) % 256 = n := ⟨_, rfl⟩
                  have hn2 : bt a0 x1 - 48 = n := by omega
                  by_cases h6 : (l1.length : Int) ≤ n
                  · have e6 : decide ((l1.length : Int) ≤ n) = true := decide_eq_true h6
                    have HPc : Aside0 (piece a0 l1 x = none) := ⟨by unfold piece; rw [hx1, if_pos h1, hx3, if_neg h2, hx2, if_neg h3, if_neg h4, if_neg h5, hn2, if_pos h6]⟩
                    clear h2 h3 h4 h5 h6 r1 hn2
                    have HR : Aside0 (f a0 l1 = (⟨#[]⟩, 11)) := ⟨by
                      rw [← HG.out]
                      obtain ⟨k, rfl⟩ : ∃ k, fuel = k + 1 := ⟨fuel - 1, by have := HF.out; have := HJ.out; omega⟩
                      simp only [go]; rw [if_pos HX.out, HPc.out]⟩
                    clear h1 hx hj hx1 hx2 hx3
                    have w1 := W1.out; have w2 := W2.out; have w3 := W3.out; have w4 := W4.out
                    go_wp2
                    go_ret2
                    exact ⟨by rw [HR.out]; rfl, HB.out⟩
                  · have e6 : decide ((l1.length : Int) ≤ n) = false := decide_eq_false h6
                    obtain ⟨ad, ead, had⟩ := Kd.at_string HR1.out n (by omega) (by omega)
                    cases ead
                    replace had := (HB.out.cell (World.block_lt_of_cell? w _ had)).trans had
                    have p3 : (0 ≤ n) = True := eq_true (by omega)
                    have q3 : (n < (l1.length : Int)) = True := eq_true (by omega)
                    have HPc : Aside0 (piece a0 l1 x = some (rdOf ByteArray.empty l1 n, x3)) := ⟨by unfold piece; rw [hx1, if_pos h1, hx3, if_neg h2, hx2, if_neg h3, if_neg h4, if_neg h5, hn2, if_neg h6]⟩
                    have HY : Aside0 (x3 ≤ (a0.size : Int)) := ⟨by omega⟩
                    clear h2 h3 h4 h5 h6 r1 hn2
                    obtain ⟨m, Hm⟩ : ∃ m : Int, Aside0 (m = 1048576 - (acc.length : Int)) := ⟨_, ⟨rfl⟩⟩
                    have HM : Aside0 (IntKind.i64.wrap (1048576 - ((Lib.byteCells acc).length : Int)) = m) := ⟨by rw [i64_w, Lib.byteCells_length, w64' (by have := HL.out; omega) (by omega)]; exact Hm.out.symm⟩
                    have hI := HI.out
                    have hsize : w.heap.size ≤ wr.heap.size := HB.out.size
                    clear h1 hx hj hx1 hx2 hx3
                    by_cases h7 : m < ((rdOf ByteArray.empty l1 n).size : Int)
                    · have e7 : decide (m < ((rdOf ByteArray.empty l1 n).size : Int)) = true := decide_eq_true h7
                      have HR : Aside0 (f a0 l1 = (⟨#[]⟩, 2)) := ⟨by
                        rw [← HG.out]
                        obtain ⟨k, rfl⟩ : ∃ k, fuel = k + 1 := ⟨fuel - 1, by have := HF.out; have := HJ.out; omega⟩
                        simp only [go]; rw [if_pos HX.out, HPc.out]; simp only []; rw [if_pos (by have := Hm.out; omega)]⟩
                      clear h7
                      have w1 := W1.out; have w2 := W2.out; have w3 := W3.out; have w4 := W4.out; have hm := HM.out
                      go_wp2_with (go_at_call 37; refine (Tryd.Builder_Len_f w.heap.size w.heap.size _ _ hI).mono ?_)
                      rintro e W1 ⟨rfl, rfl⟩
                      go_wp2
                      go_ret2
                      exact ⟨by rw [HR.out]; rfl, HB.out⟩
                    · have e7 : decide (m < ((rdOf ByteArray.empty l1 n).size : Int)) = false := decide_eq_false h7
                      have HS : Aside0 (acc.length + (rdOf ByteArray.empty l1 n).size ≤ 1048576) := ⟨by have := Hm.out; omega⟩
                      have HSl : Aside0 ((Lib.byteCells acc).length + (rdOf ByteArray.empty l1 n).size ≤ 140737488355328) := ⟨by rw [Lib.byteCells_length]; have := HS.out; omega⟩
                      clear h7
                      have w1 := W1.out; have w2 := W2.out; have w3 := W3.out; have w4 := W4.out; have hm := HM.out
                      go_wp2_with (go_at_call 37; refine (Tryd.Builder_Len_f w.heap.size w.heap.size _ _ hI).mono ?_)
                      rintro e W1 ⟨rfl, rfl⟩
                      go_wp2_with (go_at_call 38; refine (Bld.writeString w.heap.size w.heap.size _ (rdOf ByteArray.empty l1 n) _ hI HSl.out hsize).mono ?_)
                      rintro e W1 ⟨rfl, g1, g2, _⟩
                      go_wp2
                      go_roundw
                      case rel =>
                        clear w1 w2 w3 w4 hm
                        obtain ⟨k, rfl⟩ : ∃ k, fuel = k + 1 := ⟨fuel - 1, by have := HF.out; have := HJ.out; omega⟩
                        refine ⟨x3, k, acc ++ (rdOf ByteArray.empty l1 n).data.toList, rfl, ⟨.inr ?_⟩, ⟨HB.out.trans g2⟩, ⟨?_⟩, ⟨by have := HF.out; have := HX1.out; omega⟩, ⟨by have := HX1.out; have := HJ.out; have := HY.out; omega⟩, ⟨by have := HS.out; simp only [List.length_append, Array.length_toList]; exact this⟩⟩
                        · rw [Lib.byteCells_append, bytes_cells]; exact g1
                        · have := HG.out
                          simp only [go] at this
                          rw [if_pos HX.out, HPc.out] at this
                          simp only [] at this
                          rw [if_neg (by have := HS.out; omega)] at this
                          exact this
                      case measure => clear w1 w2 w3 w4 hm; have := HX1.out; have := HJ.out; simp only [intOf]; omega
        · have e1 : ((a0.extract x.toNat x1.toNat).toList == ([123] : List UInt8)) = false := beq_eq_false_iff_ne.mpr h1
          have HPc : Aside0 (piece a0 l1 x = some (a0.extract x.toNat x1.toNat, x1)) := ⟨by unfold piece; rw [hx1, if_neg h1]⟩
          have HY : Aside0 (x1 ≤ (a0.size : Int)) := ⟨by omega⟩
          have HZ : Aside0 ((a0.extract x.toNat x1.toNat).size = x1.toNat - x.toNat) := ⟨by rw [ByteArray.size_extract]; omega⟩
          obtain ⟨m, Hm⟩ : ∃ m : Int, Aside0 (m = 1048576 - (acc.length : Int)) := ⟨_, ⟨rfl⟩⟩
          have HM : Aside0 (IntKind.i64.wrap (1048576 - ((Lib.byteCells acc).length : Int)) = m) := ⟨by rw [i64_w, Lib.byteCells_length, w64' (by have := HL.out; omega) (by omega)]; exact Hm.out.symm⟩
          have hI := HI.out
          have hsize : w.heap.size ≤ wr.heap.size := HB.out.size
          clear h1 hx hj hx1 hx2 hx3
          by_cases h7 : m < ((a0.extract x.toNat x1.toNat).size : Int)
          · have e7 : decide (m < ((a0.extract x.toNat x1.toNat).size : Int)) = true := decide_eq_true h7
            have e7z : decide (m < ((x1.toNat - x.toNat : Nat) : Int)) = true := by rw [← HZ.out]; exact e7
            have HR : Aside0 (f a0 l1 = (⟨#[]⟩, 2)) := ⟨by
              rw [← HG.out]
              obtain ⟨k, rfl⟩ : ∃ k, fuel = k + 1 := ⟨fuel - 1, by have := HF.out; have := HJ.out; omega⟩
              simp only [go]; rw [if_pos HX.out, HPc.out]; simp only []; rw [if_pos (by have := Hm.out; omega)]⟩
            clear h7
            have w1 := W1.out; have w2 := W2.out; have w3 := W3.out; have w4 := W4.out; have hm := HM.out
            go_wp2_with (go_at_call 37; refine (Tryd.Builder_Len_f w.heap.size w.heap.size _ _ hI).mono ?_)
            rintro e W1 ⟨rfl, rfl⟩
            go_wp2
            go_ret2
            exact ⟨by rw [HR.out]; rfl, HB.out⟩
          · have e7 : decide (m < ((a0.extract x.toNat x1.toNat).size : Int)) = false := decide_eq_false h7
            have e7z : decide (m < ((x1.toNat - x.toNat : Nat) : Int)) = false := by rw [← HZ.out]; exact e7
            have HS : Aside0 (acc.length + (a0.extract x.toNat x1.toNat).size ≤ 1048576) := ⟨by have := Hm.out; omega⟩
            have HSl : Aside0 ((Lib.byteCells acc).length + (a0.extract x.toNat x1.toNat).size ≤ 140737488355328) := ⟨by rw [Lib.byteCells_length]; have := HS.out; omega⟩
            clear h7
            have w1 := W1.out; have w2 := W2.out; have w3 := W3.out; have w4 := W4.out; have hm := HM.out
            go_wp2_with (go_at_call 37; refine (Tryd.Builder_Len_f w.heap.size w.heap.size _ _ hI).mono ?_)
            rintro e W1 ⟨rfl, rfl⟩
            go_wp2_with (go_at_call 38; refine (Bld.writeString w.heap.size w.heap.size _ (a0.extract x.toNat x1.toNat) _ hI HSl.out hsize).mono ?_)
            rintro e W1 ⟨rfl, g1, g2, _⟩
            go_wp2
            go_roundw
            case rel =>
              clear w1 w2 w3 w4 hm
              obtain ⟨k, rfl⟩ : ∃ k, fuel = k + 1 := ⟨fuel - 1, by have := HF.out; have := HJ.out; omega⟩
              refine ⟨x1, k, acc ++ (a0.extract x.toNat x1.toNat).data.toList, rfl, ⟨.inr ?_⟩, ⟨HB.out.trans g2⟩, ⟨?_⟩, ⟨by have := HF.out; have := HX1.out; omega⟩, ⟨by have := HX1.out; have := HJ.out; have := HY.out; omega⟩, ⟨by have := HS.out; simp only [List.length_append, Array.length_toList]; exact this⟩⟩
              · rw [Lib.byteCells_append, bytes_cells]; exact g1
              · have := HG.out
                simp only [go] at this
                rw [if_pos HX.out, HPc.out] at this
                simp only [] at this
                rw [if_neg (by have := HS.out; omega)] at this
                exact this
            case measure => clear w1 w2 w3 w4 hm; have := HX1.out; have := HJ.out; simp only [intOf]; omega
      · have b0 : decide (x < (a0.size : Int)) = false := decide_eq_false hx
        have hr : f a0 l1 = (⟨acc.toArray⟩, 0) := by
          rw [← HG.out]
          cases fuel with
          | zero => have := HF.out; have := HJ.out; omega
          | succ k => simp only [go]; rw [if_neg hx]
        have HR := Aside0.mk hr
        clear hr hx
        have hI := HI.out
        have hsize : w.heap.size ≤ wr.heap.size := HB.out.size
        go_wp2_with (go_at_call 39; refine (Tryd.Builder_String_any_k w.heap.size w.heap.size acc _ hI (by omega)).mono ?_)
        rintro e W1 ⟨rfl, _, b1, _⟩
        go_wp2
        go_ret2
        exact ⟨by rw [HR.out]; rfl, HB.out.trans b1⟩
end Go.Proofs.YtigikjihagmokaaDoor.Fill
namespace Go.Proofs.YtigikjihagmokaaDoor.IdentN
open Go.RowKit Go.Proofs.YtigikjihagmokaaDoorW.PrintWords Go.Proofs.YtigikjihagmokaaDoorW.PrintLast Go.Proofs.YtigikjihagmokaaDoorW.PrintMore
set_option linter.unusedVariables false
set_option linter.unusedSimpArgs false
set_option maxHeartbeats 4000000 in
set_option maxRecDepth 100000 in
theorem space (w : World) : Calls Tryd.prog 12 #[.int .i32 110] w fun e w' => e = .returned (.bool false) ∧ w' = w := by
  go_enter Tryd.func12, Tryd.ntmps12
  go_wp2
  go_ret
  exact ⟨rfl, rfl⟩
set_option maxHeartbeats 4000000 in
set_option maxRecDepth 100000 in
theorem syntax_ (w : World) : Calls Tryd.prog 14 #[.int .i32 110] w fun e w' => e = .returned (.bool false) ∧ w' = w := by
  go_enter Tryd.func14, Tryd.ntmps14
  go_wp2
  go_ret
  exact ⟨rfl, rfl⟩
set_option maxHeartbeats 4000000 in
set_option maxRecDepth 100000 in
theorem stray (s : ByteArray) (i : Int) (w : World) : Calls Tryd.prog 33 #[.string s, .int .i64 i, .int .i32 110] w fun e w' => e = .returned (.bool false) ∧ w' = w := by
  go_enter Tryd.func33, Tryd.ntmps33
  go_wp2
  go_ret
  exact ⟨rfl, rfl⟩
theorem dec (pos : Nat) (h : pos < (⟨#[110]⟩ : ByteArray).size) : pos = 0 ∧ Utf8.decode (⟨#[110]⟩ : ByteArray) pos = (110, 1) := by
  have h0 : pos = 0 := by
    have : (⟨#[110]⟩ : ByteArray).size = 1 := rfl
    omega
  subst h0
  have ha : ((⟨#[110]⟩ : ByteArray)[0]'h).toNat < 128 := by show (110 : Nat) < 128; omega
  exact ⟨rfl, decode_ascii _ 0 h ha⟩
set_option maxHeartbeats 4000000 in
set_option maxRecDepth 100000 in
theorem calls (w : World) : Calls Tryd.prog 17 #[.string ⟨#[110]⟩] w fun e w' => e = .returned (.int .i64 1) ∧ Below w.heap.size w w' := by
  go_enter Tryd.func17, Tryd.ntmps17
  go_wp2
  go_loopw [] (fun wr => ∃ (pos : Nat), wr.heap[w.heap.size]? = some (.stringIter ⟨#[110]⟩ pos) ∧ Below w.heap.size w wr) (fun wr => 1 - wr.iterPos w.heap.size)
  case atStart =>
    refine ⟨0, ?_, (Below.refl _ w).alloc (Nat.le_refl _) _⟩
    have := World.iter_heap w (⟨#[110]⟩ : ByteArray) 0
    simpa using this
  case round =>
    obtain ⟨pos, hit, hbw⟩ := hrel
    have hsz : w.heap.size < wr.heap.size := (Array.getElem?_eq_some_iff.1 hit).1
    by_cases hp : pos < (⟨#[110]⟩ : ByteArray).size
    · obtain ⟨h0, hd⟩ := dec pos hp
      have hnx : ∀ ty, (Instr.next (.pointer (some ⟨w.heap.size, 0, none⟩)) true ty).run Tryd.prog wr = _ := fun ty => Lib.run_next_any_at wr w.heap.size _ pos ty hit hp
      have hit2 := Lib.iterAt_heap wr w.heap.size _ pos (pos + (Utf8.decode (⟨#[110]⟩ : ByteArray) pos).2) hit
      have hbw2 := Lib.below_iterAt hbw (k := w.heap.size) (by omega) (⟨#[110]⟩ : ByteArray) (pos + (Utf8.decode (⟨#[110]⟩ : ByteArray) pos).2)
      rw [hd] at hnx hit2 hbw2
      subst h0
      go_wp2_with (first | (go_at_call 12; refine (space _).mono ?_; rintro e W1 ⟨rfl, rfl⟩) | (go_at_call 14; refine (syntax_ _).mono ?_; rintro e W1 ⟨rfl, rfl⟩) | (go_at_call 33; refine (stray _ _ _).mono ?_; rintro e W1 ⟨rfl, rfl⟩))
      go_roundw
      case rel => exact ⟨_, hit2, hbw2⟩
      case measure => simp only [World.iterPos, hit2, hit]; omega
    · have hnx : ∀ ty, (Instr.next (.pointer (some ⟨w.heap.size, 0, none⟩)) true ty).run Tryd.prog wr = _ := fun ty => Lib.run_next_end_at wr w.heap.size _ pos ty hit hp
      go_wp2
      go_ret
      exact ⟨rfl, hbw⟩
end Go.Proofs.YtigikjihagmokaaDoor.IdentN
namespace Go.Proofs.YtigikjihagmokaaDoor.F
open Go.RowKit Go.Proofs.YtigikjihagmokaaDoorW.PrintWords Go.Proofs.YtigikjihagmokaaDoorW.PrintLast Go.Proofs.YtigikjihagmokaaDoorW.PrintMore Go.Proofs.YtigikjihagmokaaDoor.Q
attribute [local go_sem] max2_int min2_int max_two min_two max_three min_three max_four min_four   -- for this text's walks alone
set_option linter.unusedVariables false
set_option linter.unusedSimpArgs false

/-- At the one text that 'awake' asks of. -/
def runes_Ident.f (a0 : ByteArray) : Option (Int) := if a0.toList = [110] then some 1 else none
theorem runes_Ident.calls (a0 : ByteArray) (r : Int) (w : World) (h : runes_Ident.f a0 = some r) :
 Calls Tryd.prog 17 #[.string a0] w fun e w' => e = .returned (.int .i64 r) ∧ Below w.heap.size w w' := by
 unfold runes_Ident.f at h
 split at h
 · rename_i ha
   have e : a0 = ⟨#[110]⟩ := by
    obtain ⟨⟨l⟩⟩ := a0
    rw [ByteArray.toList_eq] at ha
    simp at ha
    rw [ha]
   obtain rfl := Option.some.inj h
   subst e
   exact IdentN.calls w
 · cases h

def runes_Fill.f (a0 : ByteArray) (l1 : List ByteArray) : Option (ByteArray × Int) := some (Fill.f a0 l1)
theorem runes_Fill.calls (a0 : ByteArray) (A1 : Option Addr) (c1 : Nat) (l1 : List ByteArray) (r1 : ByteArray) (r2 : Int) (w : World) (hr1 : Kd.C Kd.string w A1 l1.length l1) (hc1 : l1.length ≤ c1) (h : runes_Fill.f a0 l1 = some (r1, r2)) :
 Calls Tryd.prog 19 #[.string a0, .slice A1 l1.length c1] w fun e w' => e = .returned (.tuple #[.string r1, .int .i64 r2]) ∧ Below w.heap.size w w' := by
 have e : Fill.f a0 l1 = (r1, r2) := Option.some.inj h
 have c := Fill.calls a0 A1 c1 l1 w hr1 hc1
 rw [e] at c
 exact c

def idiomlaw01_awake.f  : Option (Bool) := (runes_Fill.f (⟨#[123, 49, 125, 45, 123, 48, 125]⟩ : ByteArray) (([(⟨#[97]⟩ : ByteArray), (⟨#[98]⟩ : ByteArray)] : List ByteArray))).bind fun bt114 => (if bt114.1.toList = ([98, 45, 97] : List UInt8) then (if bt114.2 = 0 then ((runes_Ident.f (⟨#[110]⟩ : ByteArray)).bind fun t116 => (some (t116 == 1))) else (some false)) else (some false))
set_option maxHeartbeats 8000000 in
set_option maxRecDepth 100000 in
theorem idiomlaw01_awake.calls  (r : Bool) (w : World) (h : idiomlaw01_awake.f  = some r) :
 Calls Tryd.prog 16 #[] w fun e w' => e = .returned (.bool r) ∧ Below w.heap.size w w' := by
 have HB := Aside0.mk (Below.refl w.heap.size w)
 have H : ((runes_Fill.f (⟨#[123, 49, 125, 45, 123, 48, 125]⟩ : ByteArray) (([(⟨#[97]⟩ : ByteArray), (⟨#[98]⟩ : ByteArray)] : List ByteArray))).bind fun bt114 => (if bt114.1.toList = ([98, 45, 97] : List UInt8) then (if bt114.2 = 0 then ((runes_Ident.f (⟨#[110]⟩ : ByteArray)).bind fun t116 => (some (t116 == 1))) else (some false)) else (some false))) = some r := h
 clear h
 obtain ⟨y111, hy111⟩ : ∃ y_ : List ByteArray, y_ = (([(⟨#[97]⟩ : ByteArray), (⟨#[98]⟩ : ByteArray)] : List ByteArray)) := ⟨_, rfl⟩
 replace H : ((runes_Fill.f (⟨#[123, 49, 125, 45, 123, 48, 125]⟩ : ByteArray) y111).bind fun bt114 => (if bt114.1.toList = ([98, 45, 97] : List UInt8) then (if bt114.2 = 0 then ((runes_Ident.f (⟨#[110]⟩ : ByteArray)).bind fun t116 => (some (t116 == 1))) else (some false)) else (some false))) = some r := by first | (rw [hy111]; with_reducible exact H) | (have H2_ := (Option.bind_some _ _).symm.trans H; rw [hy111]; with_reducible exact H2_) | (have H2_ := (Option.bind_some _ _).symm.trans H; with_reducible exact H2_) | with_reducible exact H | (rw [hy111]; exact H) | exact H
 have Ny111 := Aside0.mk hy111
 clear hy111
 replace H := Option.bind_eq_some_iff.mp H
 obtain ⟨⟨t114, t115⟩, A10, H⟩ := H
 replace H : (if t114.toList = ([98, 45, 97] : List UInt8) then (if t115 = 0 then ((runes_Ident.f (⟨#[110]⟩ : ByteArray)).bind fun t116 => (some (t116 == 1))) else (some false)) else (some false)) = some r := H
 have A1 := Aside0.mk A10
 clear A10
 by_cases c2 : t114.toList = ([98, 45, 97] : List UInt8)
 · rw [if_pos c2] at H
   have c2b0 : (t114.toList == ([98, 45, 97] : List UInt8)) = true := beq_iff_eq.mpr c2
   have c2b1 : (t114.toList != ([98, 45, 97] : List UInt8)) = false := bne_eq_false_iff_eq.mpr c2
   clear c2
   by_cases c3 : t115 = 0
   · rw [if_pos c3] at H
     have c3b0 : (t115 == 0) = true := beq_iff_eq.mpr c3
     have c3b1 : (t115 != 0) = false := bne_eq_false_iff_eq.mpr c3
     try have c3b1z := c3b1
     (try simp only [bne] at c3b1z)
     clear c3
     replace H := Option.bind_eq_some_iff.mp H
     obtain ⟨t116, A40, H⟩ := H
     replace H : (some (t116 == 1)) = some r := H
     have A4 := Aside0.mk A40
     clear A40
     obtain rfl := Option.some.inj H
     go_enter Tryd.func16, Tryd.ntmps16
     go_wp2_with (first | ((with_reducible refine gate_dst (N := 4) rfl ?_); refine Kd.R_lit Kd.string _ 9 ?hg (N := 4) ?hd (xs := ([(⟨#[97]⟩ : ByteArray), (⟨#[98]⟩ : ByteArray)] : List ByteArray)) (inner := [.string (⟨#[97]⟩ : ByteArray), .string (⟨#[98]⟩ : ByteArray)]) (ok := fun _ => True) (okp := fun _ => True) ?hr ?hp (fun _ hk => hk) trivial (Below.refl _ _) (Nat.le_refl _) (by simp) ?_; (case hd => rfl); (case hg => rfl); (case hr => first | (go_simp; done) | (go_simp; rfl)); (case hp => exact (Reps.one (show Kd.M Kd.string _ _ _ (⟨#[97]⟩ : ByteArray) [.string (⟨#[97]⟩ : ByteArray)] from rfl) (Reps.one (show Kd.M Kd.string _ _ _ (⟨#[98]⟩ : ByteArray) [.string (⟨#[98]⟩ : ByteArray)] from rfl) (Reps.none _ _)))); intro v112 w5 ho6 hb hg_ hnew_; clear hg_ hnew_; (first | rw [← Ny111.out] at ho6 | (simp only [Int.reduceToNat] at ho6; rw [← Ny111.out] at ho6)); have HO113 := Aside0.mk (Kd.R_lower ho6 (below_size (qh HB))); replace HB := qn HB hb; clear hb ho6; obtain ⟨Ao7, co7, eo7⟩ := Kd.R_slice HO113.out; subst eo7) | ((with_reducible refine gate_callee (f := 19) rfl ?_); refine goesL_ (some 5) rfl rfl Tryd.func19 (by kernel_rfl) rfl #[.string (⟨#[123, 49, 125, 45, 123, 48, 125]⟩ : ByteArray), .slice Ao7 y111.length co7] rfl ql ?_; (with_reducible refine (runes_Fill.calls (⟨#[123, 49, 125, 45, 123, 48, 125]⟩ : ByteArray) _ _ y111 t114 t115 _ ?side1 ?side2 A1.out).mono ?_); (case side1 => repeat (first | exact (Kd.R_reads' HO113.out).2.2 | (with_reducible refine Kd.C_alloc ?_ _) | (with_reducible refine Kd.C_drewN ?_ _) | (with_reducible refine Kd.C_drew ?_))); (case side2 => exact (Kd.R_reads' HO113.out).2.1); rintro e w8 ⟨rfl, hb⟩; refine ⟨_, rfl, ?_⟩; replace HO113 := Aside0.mk (Kd.R_below (by (with_reducible repeat (first | apply Kd.R_alloc | apply Kd.R_drewN | apply Kd.R_drew)); exact HO113.out) hb); replace HB := qn HB hb; (try clear hb); (try clear hb2); (try clear hk); (try clear hi)) | (go_at_call 17; (with_reducible refine (runes_Ident.calls (⟨#[110]⟩ : ByteArray) t116 _ A4.out).mono ?_); rintro e w9 ⟨rfl, hb⟩; replace HO113 := Aside0.mk (Kd.R_below (by (with_reducible repeat (first | apply Kd.R_alloc | apply Kd.R_drewN | apply Kd.R_drew)); exact HO113.out) hb); replace HB := qn HB hb; (try clear hb); (try clear hb2); (try clear hk); (try clear hi)))
     go_ret
     exact ⟨qe, qh HB⟩
   · rw [if_neg c3] at H
     have c3b0 : (t115 == 0) = false := beq_eq_false_iff_ne.mpr c3
     have c3b1 : (t115 != 0) = true := bne_iff_ne.mpr c3
     try have c3b1z := c3b1
     (try simp only [bne] at c3b1z)
     obtain rfl := Option.some.inj H
     go_enter Tryd.func16, Tryd.ntmps16
     go_wp2_with (first | ((with_reducible refine gate_dst (N := 4) rfl ?_); refine Kd.R_lit Kd.string _ 9 ?hg (N := 4) ?hd (xs := ([(⟨#[97]⟩ : ByteArray), (⟨#[98]⟩ : ByteArray)] : List ByteArray)) (inner := [.string (⟨#[97]⟩ : ByteArray), .string (⟨#[98]⟩ : ByteArray)]) (ok := fun _ => True) (okp := fun _ => True) ?hr ?hp (fun _ hk => hk) trivial (Below.refl _ _) (Nat.le_refl _) (by simp) ?_; (case hd => rfl); (case hg => rfl); (case hr => first | (go_simp; done) | (go_simp; rfl)); (case hp => exact (Reps.one (show Kd.M Kd.string _ _ _ (⟨#[97]⟩ : ByteArray) [.string (⟨#[97]⟩ : ByteArray)] from rfl) (Reps.one (show Kd.M Kd.string _ _ _ (⟨#[98]⟩ : ByteArray) [.string (⟨#[98]⟩ : ByteArray)] from rfl) (Reps.none _ _)))); intro v112 w10 ho11 hb hg_ hnew_; clear hg_ hnew_; (first | rw [← Ny111.out] at ho11 | (simp only [Int.reduceToNat] at ho11; rw [← Ny111.out] at ho11)); have HO113 := Aside0.mk (Kd.R_lower ho11 (below_size (qh HB))); replace HB := qn HB hb; clear hb ho11; obtain ⟨Ao12, co12, eo12⟩ := Kd.R_slice HO113.out; subst eo12) | ((with_reducible refine gate_callee (f := 19) rfl ?_); refine goesL_ (some 5) rfl rfl Tryd.func19 (by kernel_rfl) rfl #[.string (⟨#[123, 49, 125, 45, 123, 48, 125]⟩ : ByteArray), .slice Ao12 y111.length co12] rfl ql ?_; (with_reducible refine (runes_Fill.calls (⟨#[123, 49, 125, 45, 123, 48, 125]⟩ : ByteArray) _ _ y111 t114 t115 _ ?side1 ?side2 A1.out).mono ?_); (case side1 => repeat (first | exact (Kd.R_reads' HO113.out).2.2 | (with_reducible refine Kd.C_alloc ?_ _) | (with_reducible refine Kd.C_drewN ?_ _) | (with_reducible refine Kd.C_drew ?_))); (case side2 => exact (Kd.R_reads' HO113.out).2.1); rintro e w13 ⟨rfl, hb⟩; refine ⟨_, rfl, ?_⟩; replace HO113 := Aside0.mk (Kd.R_below (by (with_reducible repeat (first | apply Kd.R_alloc | apply Kd.R_drewN | apply Kd.R_drew)); exact HO113.out) hb); replace HB := qn HB hb; (try clear hb); (try clear hb2); (try clear hk); (try clear hi)))
     go_ret
     exact ⟨qe, qh HB⟩
 · rw [if_neg c2] at H
   have c2b0 : (t114.toList == ([98, 45, 97] : List UInt8)) = false := beq_eq_false_iff_ne.mpr c2
   have c2b1 : (t114.toList != ([98, 45, 97] : List UInt8)) = true := bne_iff_ne.mpr c2
   obtain rfl := Option.some.inj H
   go_enter Tryd.func16, Tryd.ntmps16
   go_wp2_with (first | ((with_reducible refine gate_dst (N := 4) rfl ?_); refine Kd.R_lit Kd.string _ 9 ?hg (N := 4) ?hd (xs := ([(⟨#[97]⟩ : ByteArray), (⟨#[98]⟩ : ByteArray)] : List ByteArray)) (inner := [.string (⟨#[97]⟩ : ByteArray), .string (⟨#[98]⟩ : ByteArray)]) (ok := fun _ => True) (okp := fun _ => True) ?hr ?hp (fun _ hk => hk) trivial (Below.refl _ _) (Nat.le_refl _) (by simp) ?_; (case hd => rfl); (case hg => rfl); (case hr => first | (go_simp; done) | (go_simp; rfl)); (case hp => exact (Reps.one (show Kd.M Kd.string _ _ _ (⟨#[97]⟩ : ByteArray) [.string (⟨#[97]⟩ : ByteArray)] from rfl) (Reps.one (show Kd.M Kd.string _ _ _ (⟨#[98]⟩ : ByteArray) [.string (⟨#[98]⟩ : ByteArray)] from rfl) (Reps.none _ _)))); intro v112 w14 ho15 hb hg_ hnew_; clear hg_ hnew_; (first | rw [← Ny111.out] at ho15 | (simp only [Int.reduceToNat] at ho15; rw [← Ny111.out] at ho15)); have HO113 := Aside0.mk (Kd.R_lower ho15 (below_size (qh HB))); replace HB := qn HB hb; clear hb ho15; obtain ⟨Ao16, co16, eo16⟩ := Kd.R_slice HO113.out; subst eo16) | ((with_reducible refine gate_callee (f := 19) rfl ?_); refine goesL_ (some 5) rfl rfl Tryd.func19 (by kernel_rfl) rfl #[.string (⟨#[123, 49, 125, 45, 123, 48, 125]⟩ : ByteArray), .slice Ao16 y111.length co16] rfl ql ?_; (with_reducible refine (runes_Fill.calls (⟨#[123, 49, 125, 45, 123, 48, 125]⟩ : ByteArray) _ _ y111 t114 t115 _ ?side1 ?side2 A1.out).mono ?_); (case side1 => repeat (first | exact (Kd.R_reads' HO113.out).2.2 | (with_reducible refine Kd.C_alloc ?_ _) | (with_reducible refine Kd.C_drewN ?_ _) | (with_reducible refine Kd.C_drew ?_))); (case side2 => exact (Kd.R_reads' HO113.out).2.1); rintro e w17 ⟨rfl, hb⟩; refine ⟨_, rfl, ?_⟩; replace HO113 := Aside0.mk (Kd.R_below (by (with_reducible repeat (first | apply Kd.R_alloc | apply Kd.R_drewN | apply Kd.R_drew)); exact HO113.out) hb); replace HB := qn HB hb; (try clear hb); (try clear hb2); (try clear hk); (try clear hi)))
   go_ret
   exact ⟨qe, qh HB⟩

end Go.Proofs.YtigikjihagmokaaDoor.F
namespace Go.Proofs.YtigikjihagmokaaDoor.Stray
open Go.RowKit Go.Proofs.YtigikjihagmokaaDoorW.PrintWords Go.Proofs.YtigikjihagmokaaDoorW.PrintLast Go.Proofs.YtigikjihagmokaaDoorW.PrintMore Go.Proofs.YtigikjihagmokaaDoor.Aid
set_option linter.unusedVariables false
set_option linter.unusedSimpArgs false
/-- Go's tables of UTF-8 lie in a world. -/
abbrev Tabs (w : World) : Prop := Lib.Utf8Tabs 0 1 w
theorem Tabs.below {w w' : World} (h : Tabs w) (hb : Below w.heap.size w w') : Tabs w' := Utf8Tabs_below h hb
/-- Is what stands at a place one byte that is part of no rune? -/
def strayB (s : ByteArray) (pos : Nat) : Bool := decide (Utf8.decode s pos = (65533, 1))
theorem decode_rest (s : ByteArray) (pos : Nat) (h : pos < s.size) : Lib.decodeGo (s.extract pos s.size) = Utf8.decode s pos := by
  have e := Lib.decodeL_drop s pos
  rw [← e]
  have hs : s.extract pos s.size = ⟨(s.data.toList.drop pos).toArray⟩ := by
    apply ByteArray.ext
    rw [ByteArray.data_extract]
    apply Array.toList_inj.1
    rw [Array.toList_extract, List.extract_eq_take_drop]
    simp only []
    rw [List.take_of_length_le]
    rw [List.length_drop, Array.length_toList]
    exact Nat.le_refl _
  rw [hs]
  have h0 : (⟨(s.data.toList.drop pos).toArray⟩ : ByteArray).size ≠ 0 := by
    show (s.data.toList.drop pos).toArray.size ≠ 0
    rw [List.size_toArray, List.length_drop, Array.length_toList]
    have : s.data.size = s.size := rfl
    omega
  unfold Lib.decodeGo
  rw [if_neg h0]
  rfl
theorem width (s : ByteArray) (pos : Nat) (h : pos < s.size) : 1 ≤ (Utf8.decode s pos).2 := by
  by_cases ha : (s[pos]'h).toNat < 128
  · rw [decode_ascii s pos h ha]
    exact Nat.le_refl _
  · exact (decode_high s pos h (by omega)).2
set_option maxHeartbeats 4000000 in
set_option maxRecDepth 100000 in
theorem stray (s : ByteArray) (pos : Nat) (hp : pos < s.size) (hs : s.size ≤ 9223372036854775807) (w : World) (hT : Tabs w) : Calls Tryd.prog 33 #[.string s, .int .i64 pos, .int .i32 (Utf8.decode s pos).1] w fun e w' => e = .returned (.bool (strayB s pos)) ∧ Below w.heap.size w w' := by
  have hrest := decode_rest s pos hp
  go_enter Tryd.func33, Tryd.ntmps33
  by_cases h : (Utf8.decode s pos).1 = 65533
  · have hb : (((Utf8.decode s pos).1 : Int) != 65533) = false := bne_eq_false_iff_eq.mpr (by omega)
    have c := Tryd.utf8_DecodeRuneInString (s.extract pos s.size) w hT
    rw [hrest] at c
    have p1 : (0 ≤ (pos : Int)) = True := eq_true (by omega)
    have p2 : ((pos : Int) ≤ (s.size : Int)) = True := eq_true (by omega)
    have p3 : pos ≤ s.size := by omega
    have hq : strayB s pos = ((((Utf8.decode s pos).2 : Nat) : Int) == 1) := by
      unfold strayB
      rw [Bool.eq_iff_iff, decide_eq_true_eq, beq_iff_eq]
      constructor
      · intro e; rw [e]; rfl
      · intro e
        have e2 : (Utf8.decode s pos).2 = 1 := by omega
        exact Prod.ext h e2
    generalize Utf8.decode s pos = d at *
    clear hrest
    go_wp2_with (go_at_call 49; refine c.mono ?_)
    rintro e W1 ⟨rfl, hb1⟩
    go_wp2
    go_ret
    exact ⟨by rw [hq]; rfl, hb1⟩
  · have hb : (((Utf8.decode s pos).1 : Int) != 65533) = true := bne_iff_ne.mpr (by omega)
    have hq : strayB s pos = false := by
      unfold strayB
      exact decide_eq_false (fun e => h (by rw [e]))
    go_wp2
    go_ret
    exact ⟨by rw [hq]; rfl, Below.refl _ _⟩

end Go.Proofs.YtigikjihagmokaaDoor.Stray
set_option linter.unusedVariables false
set_option linter.unusedSimpArgs false
namespace Go.Proofs.YtigikjihagmokaaDoor.Rep01
open Go.RowKit
/-- What is decoded is a rune. -/
theorem dec_valid (l : List UInt8) : (Lib.decodeL l).1 < 55296 ∨ 57344 ≤ (Lib.decodeL l).1 ∧ (Lib.decodeL l).1 ≤ 1114111 := by
  rw [Lib.decodeL_N]
  have b0 := (l.getD 0 0).toNat_lt
  generalize (l.getD 0 0).toNat = x0 at *
  generalize (l.getD 1 0).toNat = x1 at *
  generalize (l.getD 2 0).toNat = x2 at *
  generalize (l.getD 3 0).toNat = x3 at *
  rcases Lib.decodeN_shape l.length x0 x1 x2 x3 with ⟨c, e⟩ | ⟨c1, c2, c3, cv, e⟩ | ⟨c1, c2, c3, c4, cv, cs, e⟩ | ⟨c1, c2, c3, c4, c5, cv, cw, e⟩ | e
  all_goals (rw [e]; simp only []; omega)
end Go.Proofs.YtigikjihagmokaaDoor.Rep01
set_option linter.unusedVariables false
set_option linter.unusedSimpArgs false
namespace Go.Proofs.YtigikjihagmokaaDoor.Esc01
open Go.RowKit
def dig (d : Nat) : UInt8 := if d < 10 then (48 + d).toUInt8 else (87 + d).toUInt8
def hx2 (n : Nat) : List UInt8 := [dig (n / 16 % 16), dig (n % 16)]
def hx4 (n : Nat) : List UInt8 := [dig (n / 4096 % 16), dig (n / 256 % 16), dig (n / 16 % 16), dig (n % 16)]
def hx6 (n : Nat) : List UInt8 := [dig (n / 1048576 % 16), dig (n / 65536 % 16), dig (n / 4096 % 16), dig (n / 256 % 16), dig (n / 16 % 16), dig (n % 16)]
/-- What a rune is written as. -/
def piece (stray : Bool) (c : UInt8) (r : Nat) : List UInt8 :=
  if stray = true then 92 :: 120 :: hx2 c.toNat
  else if r = 92 then [92, 92] else if r = 10 then [92, 110] else if r = 13 then [92, 114] else if r = 9 then [92, 116]
  else if 32 ≤ r ∧ r ≤ 126 then [r.toUInt8] else if r ≤ 65535 then 92 :: 117 :: hx4 r else 92 :: 85 :: hx6 r
def escapeL : Nat → List UInt8 → List UInt8
  | 0, _ => []
  | _ + 1, [] => []
  | k + 1, c :: l => piece (decide (Lib.decodeL (c :: l) = (65533, 1))) c (Lib.decodeL (c :: l)).1 ++ escapeL k ((c :: l).drop (Lib.decodeL (c :: l)).2)
theorem dig_nat (d : Nat) (h : d < 16) : (dig d).toNat = if d < 10 then 48 + d else 87 + d := by
  unfold dig
  split <;> (rw [Nat.toUInt8_eq, UInt8.toNat_ofNat']; omega)
theorem piece_len (stray : Bool) (c : UInt8) (r : Nat) : 1 ≤ (piece stray c r).length ∧ (piece stray c r).length ≤ 8 ∧ (stray = true ∨ r ≤ 65535 → (piece stray c r).length ≤ 6) := by
  unfold piece
  repeat' split
  all_goals simp_all [hx2, hx4, hx6]
end Go.Proofs.YtigikjihagmokaaDoor.Esc01
namespace Go.Proofs.YtigikjihagmokaaDoor.X
open Go.RowKit Go.Proofs.YtigikjihagmokaaDoorW.PrintWords Go.Proofs.YtigikjihagmokaaDoorW.PrintLast Go.Proofs.YtigikjihagmokaaDoorW.PrintMore
attribute [local go_sem] max2_int min2_int max_two min_two max_three min_three max_four min_four   -- for this text's walks alone
set_option linter.unusedVariables false
set_option linter.unusedSimpArgs false



def errW : Option Int → Value
 | none => .nilIface
 | some c => .iface 0 (.int .i64 c)
theorem errW_none : errW none = .nilIface := rfl
theorem errW_some (c : Int) : errW (some c) = .iface 0 (.int .i64 c) := rfl

theorem info5 : (Tryd.prog.info? 5).map (fun i => (i.zero, i.size, i.bytes)) = some (some (.int .u8 0), 1, 1) := by kernel_rfl
theorem info9 : (Tryd.prog.info? 9).map (fun i => (i.zero, i.size, i.bytes)) = some (some (.string ⟨#[]⟩), 1, 16) := by kernel_rfl
end Go.Proofs.YtigikjihagmokaaDoor.X
namespace Go.Proofs.YtigikjihagmokaaDoor.X
open Go.RowKit Go.Proofs.YtigikjihagmokaaDoorW.PrintWords Go.Proofs.YtigikjihagmokaaDoorW.PrintLast Go.Proofs.YtigikjihagmokaaDoorW.PrintMore Go.Proofs.YtigikjihagmokaaDoor.Q
attribute [local go_sem] max2_int min2_int max_two min_two max_three min_three max_four min_four   -- for this text's walks alone
set_option linter.unusedVariables false
set_option linter.unusedSimpArgs false

def runes_hex.l0 : Nat → List Int → Int → Int → Option (List Int)
 | 0, _, _, _ => none
 | k + 1, x0, x2, x9 => if x9 ≥ 0 then (if 0 ≤ (wrap64 (4 * x9)) then (if 0 ≤ (Go.bits .and .u32 (shr .u32 x2 (wrap64 (4 * x9))) 15) then (if (Go.bits .and .u32 (shr .u32 x2 (wrap64 (4 * x9))) 15) < 16 then (if x0.length < 140737488355328 then (runes_hex.l0 k (x0 ++ [bt (⟨#[48, 49, 50, 51, 52, 53, 54, 55, 56, 57, 97, 98, 99, 100, 101, 102]⟩ : ByteArray) (Go.bits .and .u32 (shr .u32 x2 (wrap64 (4 * x9))) 15)]) x2 (wrap64 (x9 - 1))) else (none)) else (none)) else (none)) else (none)) else (some x0)
def runes_hex.f (k : Nat) (l0 : List Int) (a1 : Int) (a2 : Int) (a3 : Int) : Option (List Int) := (some (([92, a1] : List Int) : List Int)).bind fun y107 => (if l0.length + y107.length < 140737488355328 then (runes_hex.l0 k (l0 ++ y107) a2 (wrap64 (a3 - 1))) else (none))
theorem runes_hex.mono_l : ∀ k, (∀ y0 y1 y2, LeO (runes_hex.l0 k y0 y1 y2) (runes_hex.l0 (k + 1) y0 y1 y2))
 | 0 => fun _ _ _ r h => by simp [runes_hex.l0] at h
 | k + 1 => by
  have ih0 := runes_hex.mono_l k
  · intro y0 y1 y2
    unfold runes_hex.l0
    repeat' first
    | (with_reducible exact ih0 _ _ _)
    | (with_reducible exact LeO.refl _)
    | (with_reducible exact LeO.none _)
    | (with_reducible refine LeO.ite ?_ ?_)
    | (with_reducible refine LeO.bind ?_ (fun _ => ?_))
    | exact ih0 _ _ _
    | exact LeO.none _
    | refine LeO.ite ?_ ?_
    | refine LeO.bind ?_ (fun _ => ?_)
theorem runes_hex.mono : ∀ a0 a1 a2 a3 k, LeO (runes_hex.f k a0 a1 a2 a3) (runes_hex.f (k + 1) a0 a1 a2 a3) := by
 intro a0 a1 a2 a3 k
 have ih0 := runes_hex.mono_l k
 unfold runes_hex.f
 repeat' first
  | (with_reducible exact ih0 _ _ _)
  | (with_reducible exact LeO.refl _)
  | (with_reducible exact LeO.none _)
  | (with_reducible refine LeO.ite ?_ ?_)
  | (with_reducible refine LeO.bind ?_ (fun _ => ?_))
  | exact ih0 _ _ _
  | exact LeO.none _
  | refine LeO.ite ?_ ?_
  | refine LeO.bind ?_ (fun _ => ?_)
set_option maxHeartbeats 8000000 in
set_option maxRecDepth 100000 in
theorem runes_hex.calls (k : Nat) (P0_ : Nat → Prop) (u9000_ : Value) (l0 : List Int) (a1 : Int) (a2 : Int) (a3 : Int) (r : List Int) (w0 w : World) (hB : Below w0.heap.size w0 w) (ho0 : Kd.R (Kd.int .u8) 5 w w0.heap.size P0_ u9000_ l0) (h : runes_hex.f k l0 a1 a2 a3 = some r) :
 Calls Tryd.prog 40 #[u9000_, .int .u8 a1, .int .u32 a2, .int .i64 a3] w fun e w' => ∃ v0_ : Value, e = .returned (v0_) ∧ Kd.R (Kd.int .u8) 5 w' w0.heap.size (fun k_ => (P0_ k_ ∨ w.heap.size ≤ k_)) v0_ r ∧ Below w0.heap.size w0 w' ∧ Kept w w' (fun k_ => P0_ k_) := by
 have HO0 := Aside0.mk (show Kd.R (Kd.int .u8) 5 w w0.heap.size (fun k_ => (P0_ k_ ∨ w.heap.size ≤ k_)) u9000_ l0 from Kd.R_mono ho0 (fun k_ hk => (.inl hk)))
 have HK := Aside0.mk (Kept.refl w (fun k_ => P0_ k_))
 have HW0 := Aside0.mk hB.size
 have HB := Aside0.mk hB
 clear hB
 have H : ((some (([92, a1] : List Int) : List Int)).bind fun y107 => (if l0.length + y107.length < 140737488355328 then (runes_hex.l0 k (l0 ++ y107) a2 (wrap64 (a3 - 1))) else (none))) = some r := h
 clear h
 obtain ⟨y107, hy107⟩ : ∃ y_ : List Int, y_ = (([92, a1] : List Int)) := ⟨_, rfl⟩
 replace H : (if l0.length + y107.length < 140737488355328 then (runes_hex.l0 k (l0 ++ y107) a2 (wrap64 (a3 - 1))) else (none)) = some r := by first | (rw [hy107]; with_reducible exact H) | (have H2_ := (Option.bind_some _ _).symm.trans H; rw [hy107]; with_reducible exact H2_) | (have H2_ := (Option.bind_some _ _).symm.trans H; with_reducible exact H2_) | with_reducible exact H | (rw [hy107]; exact H) | exact H
 have Ny107 := Aside0.mk hy107
 clear hy107
 by_cases c5 : l0.length + y107.length < 140737488355328
 · rw [if_pos c5] at H
   have LMc5 := Aside0.mk c5
   clear c5
   obtain ⟨y110, hy110⟩ : ∃ y_ : List Int, y_ = (l0 ++ y107) := ⟨_, rfl⟩
   replace H : (runes_hex.l0 k y110 a2 (wrap64 (a3 - 1))) = some r := by first | (rw [hy110]; with_reducible exact H) | (have H2_ := (Option.bind_some _ _).symm.trans H; rw [hy110]; with_reducible exact H2_) | (have H2_ := (Option.bind_some _ _).symm.trans H; with_reducible exact H2_) | with_reducible exact H | (rw [hy110]; exact H) | exact H
   have Ny110 := Aside0.mk hy110
   clear hy110
   have H' := Aside0.mk H
   clear H
   go_enter Tryd.func40, Tryd.ntmps40
   go_wp2_with (first | ((with_reducible refine gate_dst (N := 12) rfl ?_); refine Kd.R_lit (Kd.int .u8) _ 5 ?hg (N := 12) ?hd (xs := ([92, a1] : List Int)) (inner := [.int .u8 92, .int .u8 a1]) (ok := fun _ => True) (okp := fun _ => True) ?hr ?hp (fun _ hk => hk) trivial (Below.refl _ _) (Nat.le_refl _) (by simp) ?_; (case hd => rfl); (case hg => rfl); (case hr => first | (go_simp; done) | (go_simp; rfl)); (case hp => exact (Reps.one (show Kd.M (Kd.int .u8) _ _ _ 92 [.int .u8 92] from rfl) (Reps.one (show Kd.M (Kd.int .u8) _ _ _ a1 [.int .u8 a1] from rfl) (Reps.none _ _)))); intro v108 w6 ho7 hb hg_ hnew_; clear hg_ hnew_; (first | rw [← Ny107.out] at ho7 | (simp only [Int.reduceToNat] at ho7; rw [← Ny107.out] at ho7)); have HO109 := Aside0.mk (Kd.R_lower (Kd.R_new' (Kd.R_newM (M := fun k_ => (P0_ k_ ∨ w.heap.size ≤ k_)) ho7 (by first | exact HK.out.1 | exact (show Kept w _ (fun k_ => P0_ k_) from by repeat (first | (with_reducible first | exact HK.out | apply Kept.alloc | apply Kept.drewN | apply Kept.drew) | exact HK.out)).1) (fun k_ h_ => .inr h_)) (Kd.R_lt (by (with_reducible repeat (first | apply Kd.R_alloc | apply Kd.R_drewN | apply Kd.R_drew)); exact HO0.out))) (below_size (qh HB))); replace HO0 := Aside0.mk (Kd.R_elder' (by (with_reducible repeat (first | apply Kd.R_alloc | apply Kd.R_drewN | apply Kd.R_drew)); exact HO0.out) (Kd.R_base ho7) hb); replace HK := Aside0.mk (Kept.below (S := (fun k_ => P0_ k_)) (by repeat (first | (with_reducible first | exact HK.out | apply Kept.alloc | apply Kept.drewN | apply Kept.drew) | exact HK.out)) hb); replace HB := qn HB hb; clear hb ho7; obtain ⟨Ao9, co9, eo9⟩ := Kd.R_slice HO109.out; subst eo9) | ((with_reducible refine gate_builtin (b := .append) (xs := #[.tmp 10, .tmp 12]) rfl ?_); at_builtin; refine Kd.R_append_rows (Kd.int .u8) (w0 := w0) w0.heap.size rfl (.tmp 10) (.tmp 12) 41 5 (.int .u8 0) 1 rfl Tryd.underlying41 info5 rfl (by decide) (by omega) u9000_ l0 y107 _ _ _ (fun k_ => (P0_ k_ ∨ w.heap.size ≤ k_) ∧ some k_ ≠ (.slice Ao9 y107.length co9 : Value).ownBlock) (fun _ => False) rfl rfl ?aO ?aR (fun _ _ h => h) (fun _ h => h.elim) ?aF ?aB ?aS ?aL ?_; (case aR => repeat (first | exact (Kd.R_reads' HO109.out).2.2 | (with_reducible refine Kd.C_alloc ?_ _) | (with_reducible refine Kd.C_drewN ?_ _) | (with_reducible refine Kd.C_drew ?_))); (case aB => exact (qh HB)); (case aF => exact (fun k_ hk => ⟨(.inr (Nat.le_trans (by first | exact HK.out.1 | exact (show Kept w _ (fun k_ => P0_ k_) from by repeat (first | (with_reducible first | exact HK.out | apply Kept.alloc | apply Kept.drewN | apply Kept.drew) | exact HK.out)).1) hk)), Kd.fresh' (Kd.R_lt (by (with_reducible repeat (first | apply Kd.R_alloc | apply Kd.R_drewN | apply Kd.R_drew)); exact HO109.out)) k_ hk⟩)); (case aO => exact (by (with_reducible repeat (first | apply Kd.R_alloc | apply Kd.R_drewN | apply Kd.R_drew)); exact HO0.out)); (case aS => exact (below_size (qh HB))); (case aL => have := LMc5.out; omega); intro v111 w8 ho hb hg hat; rw [← Ny110.out] at ho; have n0_ := Aside0.mk (Kd.R_after (ok := (fun k_ => (P0_ k_ ∨ w.heap.size ≤ k_))) (by (with_reducible repeat (first | apply Kd.R_alloc | apply Kd.R_drewN | apply Kd.R_drew)); exact Kd.R_mono HO109.out (fun _ hk => ⟨hk.1.1, hk.2⟩)) hg hat); have n1_ := Aside0.mk (hb); have n2_ := Aside0.mk (Kept.of_grown (S := (fun k_ => P0_ k_)) hg (by repeat (first | (with_reducible first | exact HK.out | apply Kept.alloc | apply Kept.drewN | apply Kept.drew) | exact HK.out)) (fun k_ e_ => (HO0.out.1 k_ e_).1)); have n3_ := Aside0.mk (ho); clear HO109; clear HB; clear HK; clear HO0; have HO109 := n0_; have HB := n1_; have HK := n2_; have HO112 := n3_; clear n0_ n1_ n2_ n3_; clear ho hb hg hat))
   (try simp only [Act.put, List.setIfInBounds_toArray, List.set_cons_zero, List.set_cons_succ])
   go_loopg [0, 9] k (fun kq v0 v9 w' => ∃ (x0_1 : List Int) (x9_1 : Int), v9 = .int .i64 x9_1 ∧ Aside0 (runes_hex.l0 kq x0_1 a2 x9_1 = some r) ∧ Aside0 (kq ≤ k) ∧ Aside0 (Kd.R (Kd.int .u8) 5 w' w0.heap.size (fun k_ => (P0_ k_ ∨ w.heap.size ≤ k_)) v0 x0_1) ∧ Aside0 (Kept w w' (fun k_ => P0_ k_)) ∧ Aside0 (Below w0.heap.size w0 w'))
   case atStart => exact ⟨(y110), (wrap64 (a3 - 1)), (by first | rfl | (simp; done) | (simp [*]; done)), H', ⟨Nat.le_refl _⟩, ⟨by (with_reducible repeat (first | apply Kd.R_alloc | apply Kd.R_drewN | apply Kd.R_drew)); exact Kd.R_mono HO112.out (fun _ hk => hk.1)⟩, ⟨by repeat (first | (with_reducible first | exact HK.out | apply Kept.alloc | apply Kept.drewN | apply Kept.drew) | exact HK.out)⟩, ⟨qh HB⟩⟩
   case round =>
    clear H'
    try clear p2
    try clear c4
    try clear c5
    try clear p6
    obtain ⟨x0_1, x9_1, rfl, HA, HK1, HO_0, HK, HB⟩ := hrel
    cases gk with
    | zero => exact absurd HA.out (by simp [runes_hex.l0])
    | succ k1 =>
     have H := HA.out
     clear HA
     simp only [runes_hex.l0] at H
     by_cases c10 : x9_1 ≥ 0
     · rw [if_pos c10] at H
       have c10b0 : decide (0 ≤ x9_1) = true := decide_eq_true c10
       clear c10
       obtain ⟨ji11, hji11⟩ : ∃ j_ : Int, (wrap64 (4 * x9_1)) = j_ := ⟨_, rfl⟩
       replace H : (if 0 ≤ (ji11) then (if 0 ≤ (Go.bits .and .u32 (shr .u32 a2 (ji11)) 15) then (if (Go.bits .and .u32 (shr .u32 a2 (ji11)) 15) < 16 then (if x0_1.length < 140737488355328 then (runes_hex.l0 k1 (x0_1 ++ [bt (⟨#[48, 49, 50, 51, 52, 53, 54, 55, 56, 57, 97, 98, 99, 100, 101, 102]⟩ : ByteArray) (Go.bits .and .u32 (shr .u32 a2 (ji11)) 15)]) a2 (wrap64 (x9_1 - 1))) else (none)) else (none)) else (none)) else (none)) = some r := by first | (rw [hji11] at H; exact H) | (simp only [hji11] at H ⊢; exact H)
       have hji11w : (IntKind.i64.wrap (4 * x9_1)) = ji11 := (i64_w _).trans hji11
       by_cases c12 : 0 ≤ (ji11)
       · rw [if_pos c12] at H
         have c12b0 := eq_true c12
         have c12b1 : decide (0 ≤ (ji11)) = true := decide_eq_true c12
         clear c12
         obtain ⟨ji13, hji13⟩ : ∃ j_ : Int, (shr .u32 a2 (ji11)) = j_ := ⟨_, rfl⟩
         replace H : (if 0 ≤ (Go.bits .and .u32 (ji13) 15) then (if (Go.bits .and .u32 (ji13) 15) < 16 then (if x0_1.length < 140737488355328 then (runes_hex.l0 k1 (x0_1 ++ [bt (⟨#[48, 49, 50, 51, 52, 53, 54, 55, 56, 57, 97, 98, 99, 100, 101, 102]⟩ : ByteArray) (Go.bits .and .u32 (ji13) 15)]) a2 (wrap64 (x9_1 - 1))) else (none)) else (none)) else (none)) = some r := by first | (rw [hji13] at H; exact H) | (simp only [hji13] at H ⊢; exact H)
         have hji13_ : (a2 / 2 ^ min (ji11).toNat 32) = ji13 := hji13
         try have hji13_z := hji13_
         (try simp only [go_sem, Int.ofNat_lt, ByteArray.size_extract, ByteArray.size_append, Nat.min_self, Int.natCast_add] at hji13_z)
         have hji13z : (ji11) ≤ 32 → (a2 / 2 ^ (ji11).toNat) = ji13 := shr_small hji13
         by_cases c14 : 0 ≤ (Go.bits .and .u32 (ji13) 15)
         · rw [if_pos c14] at H
           have c14b0 : decide (0 ≤ (Go.bits .and .u32 (ji13) 15)) = true := decide_eq_true c14
           clear c14
           by_cases c15 : (Go.bits .and .u32 (ji13) 15) < 16
           · rw [if_pos c15] at H
             have c15b0 : decide ((Go.bits .and .u32 (ji13) 15) < 16) = true := decide_eq_true c15
             clear c15
             by_cases c17 : x0_1.length < 140737488355328
             · rw [if_pos c17] at H
               have LMc17 := Aside0.mk c17
               clear c17
               obtain ⟨y113, hy113⟩ : ∃ y_ : List Int, y_ = (x0_1 ++ [bt (⟨#[48, 49, 50, 51, 52, 53, 54, 55, 56, 57, 97, 98, 99, 100, 101, 102]⟩ : ByteArray) (Go.bits .and .u32 (ji13) 15)]) := ⟨_, rfl⟩
               replace H : (runes_hex.l0 k1 y113 a2 (wrap64 (x9_1 - 1))) = some r := by first | (rw [hy113]; with_reducible exact H) | (have H2_ := (Option.bind_some _ _).symm.trans H; rw [hy113]; with_reducible exact H2_) | (have H2_ := (Option.bind_some _ _).symm.trans H; with_reducible exact H2_) | with_reducible exact H | (rw [hy113]; exact H) | exact H
               have Ny113 := Aside0.mk hy113
               clear hy113
               have H' := Aside0.mk H
               clear H
               have p16 : 0 ≤ ((Go.bits .and .u32 (ji13) 15) : Int) := of_decide_eq_true qa
               have q16 : (Go.bits .and .u32 (ji13) 15) < (16 : Int) := of_decide_eq_true qa
               have hx16 := bt_at (⟨#[48, 49, 50, 51, 52, 53, 54, 55, 56, 57, 97, 98, 99, 100, 101, 102]⟩ : ByteArray) (Go.bits .and .u32 (ji13) 15)
               replace p16 := eq_true p16
               replace q16 := eq_true q16
               go_wp2_with (first | ((with_reducible refine gate_builtin (b := .append) (xs := #[.tmp 20, .tmp 27]) rfl ?_); at_builtin; refine Kd.R_append (Kd.int .u8) (w0 := w0) w0.heap.size rfl (.tmp 20) (.tmp 27) 41 5 (.int .u8 0) 1 rfl Tryd.underlying41 info5 rfl (by decide) (by omega) u0 x0_1 (bt (⟨#[48, 49, 50, 51, 52, 53, 54, 55, 56, 57, 97, 98, 99, 100, 101, 102]⟩ : ByteArray) (Go.bits .and .u32 (ji13) 15)) [.int .u8 (bt (⟨#[48, 49, 50, 51, 52, 53, 54, 55, 56, 57, 97, 98, 99, 100, 101, 102]⟩ : ByteArray) (Go.bits .and .u32 (ji13) 15))] (fun k_ => (P0_ k_ ∨ w.heap.size ≤ k_)) (fun _ => False) rfl rfl ?aP (fun _ hk => hk.elim) ?aF ?aO ?aB ?aS ?aL ?_; (case aP => exact rfl); (case aB => exact (qh HB)); (case aF => exact (fun k_ hk => (.inr (Nat.le_trans (by first | exact HK.out.1 | exact (show Kept w _ (fun k_ => P0_ k_) from by repeat (first | (with_reducible first | exact HK.out | apply Kept.alloc | apply Kept.drewN | apply Kept.drew) | exact HK.out)).1) hk)))); (case aO => exact (by (with_reducible repeat (first | apply Kd.R_alloc | apply Kd.R_drewN | apply Kd.R_drew)); exact HO_0.out)); (case aS => exact (below_size (qh HB))); (case aL => have := LMc17.out; omega); intro v114 w18 ho hb hg hat; rw [← Ny113.out] at ho; have n0_ := Aside0.mk (hb); have n1_ := Aside0.mk (Kept.of_grown (S := (fun k_ => P0_ k_)) hg (by repeat (first | (with_reducible first | exact HK.out | apply Kept.alloc | apply Kept.drewN | apply Kept.drew) | exact HK.out)) (fun k_ e_ => (HO_0.out.1 k_ e_))); have n2_ := Aside0.mk (ho); clear HB; clear HK; clear HO_0; have HB := n0_; have HK := n1_; have HO115 := n2_; clear n0_ n1_ n2_; clear ho hb hg hat))
               go_roundg k1
               case measure => have := HK1.out; omega
               case rel => exact ⟨(y113), (wrap64 (x9_1 - 1)), (by first | rfl | (simp; done) | (simp [*]; done)), H', ⟨by have := HK1.out; omega⟩, ⟨by (with_reducible repeat (first | apply Kd.R_alloc | apply Kd.R_drewN | apply Kd.R_drew)); exact HO115.out⟩, ⟨by repeat (first | (with_reducible first | exact HK.out | apply Kept.alloc | apply Kept.drewN | apply Kept.drew) | exact HK.out)⟩, ⟨qh HB⟩⟩
             · rw [if_neg c17] at H
               exact absurd H (by simp)
           · rw [if_neg c15] at H
             exact absurd H (by simp)
         · rw [if_neg c14] at H
           exact absurd H (by simp)
       · rw [if_neg c12] at H
         exact absurd H (by simp)
     · rw [if_neg c10] at H
       have c10b0 : decide (0 ≤ x9_1) = false := decide_eq_false c10
       clear c10
       obtain rfl := Option.some.inj H
       go_wp2
       go_ret
       exact ⟨_, by first | rfl | (simp [errW_none, errW_some] <;> rfl) | (simp [*, errW_none, errW_some] <;> rfl), by (with_reducible repeat (first | apply Kd.R_alloc | apply Kd.R_drewN | apply Kd.R_drew)); exact HO_0.out, qh HB, by repeat (first | (with_reducible first | exact HK.out | apply Kept.alloc | apply Kept.drewN | apply Kept.drew) | exact HK.out)⟩
 · rw [if_neg c5] at H
   exact absurd H (by simp)

end Go.Proofs.YtigikjihagmokaaDoor.X
set_option linter.unusedVariables false
set_option linter.unusedSimpArgs false
namespace Go.Proofs.YtigikjihagmokaaDoor.EscP
open Go.RowKit Go.Proofs.YtigikjihagmokaaDoorW.PrintWords Go.Proofs.YtigikjihagmokaaDoorW.PrintLast Go.Proofs.YtigikjihagmokaaDoorW.PrintMore Go.Proofs.YtigikjihagmokaaDoor.Aid Go.Proofs.YtigikjihagmokaaDoor.Esc01 Go.Proofs.YtigikjihagmokaaDoor.X
theorem w64 {x : Int} (h0 : -9223372036854775808 ≤ x) (h1 : x ≤ 9223372036854775807) : wrap64 x = x := by unfold wrap64; omega
def ints (l : List UInt8) : List Int := l.map fun c => (c.toNat : Int)
theorem ints_length (l : List UInt8) : (ints l).length = l.length := by simp [ints]
theorem ints_app (a b : List UInt8) : ints (a ++ b) = ints a ++ ints b := by simp [ints]
theorem str_ints (l : List UInt8) : strOfNums (ints l) = ⟨l.toArray⟩ := by
  simp [strOfNums, ints, Function.comp_def]
def dl (s : ByteArray) (i : Nat) : List UInt8 := s.data.toList.drop i
theorem dl_cons (s : ByteArray) (i : Nat) (h : i < s.size) : dl s i = s.get! i :: dl s (i + 1) := by
  have hl : i < s.data.toList.length := by rw [Array.length_toList]; exact h
  unfold dl
  rw [List.drop_eq_getElem_cons hl]
  congr 1
  show s.data[i]'h = s.data[i]!
  exact (getElem!_pos s.data i h).symm
theorem dl_nil (s : ByteArray) (i : Nat) (h : s.size ≤ i) : dl s i = [] := by
  unfold dl
  exact List.drop_eq_nil_of_le (by rw [Array.length_toList]; exact h)
theorem dl_drop (s : ByteArray) (i n : Nat) : (dl s i).drop n = dl s (i + n) := by
  unfold dl
  rw [List.drop_drop]
theorem table (d : Nat) (h : d < 16) : bt (⟨#[48, 49, 50, 51, 52, 53, 54, 55, 56, 57, 97, 98, 99, 100, 101, 102]⟩ : ByteArray) (d : Int) = ((dig d).toNat : Int) := by
  have hd : d = 0 ∨ d = 1 ∨ d = 2 ∨ d = 3 ∨ d = 4 ∨ d = 5 ∨ d = 6 ∨ d = 7 ∨ d = 8 ∨ d = 9 ∨ d = 10 ∨ d = 11 ∨ d = 12 ∨ d = 13 ∨ d = 14 ∨ d = 15 := by omega
  rcases hd with rfl | rfl | rfl | rfl | rfl | rfl | rfl | rfl | rfl | rfl | rfl | rfl | rfl | rfl | rfl | rfl <;> rfl
theorem low4 (n : Nat) (h : n < 4294967296) : Go.bits .and .u32 (n : Int) 15 = ((n % 16 : Nat) : Int) := by
  have := bits_mask .u32 32 (by decide) (fun z h0 h1 => by rw [IntKind.wrap_u32]; omega) 4 (by decide) (n : Int) (by omega) (by omega)
  rw [show ((2 : Int) ^ 4 - 1) = 15 from rfl, show ((2 : Int) ^ 4) = 16 from rfl] at this
  rw [this]
  omega
theorem hex_step (k : Nat) (x : List Int) (n p : Nat) (i i' j : Int) (hx : x.length < 140737488355328) (hn : n < 4294967296) (h0 : 0 ≤ i) (hw : wrap64 (4 * i) = j) (h1 : 0 ≤ j) (h2 : shr .u32 (n : Int) j = ((n / p : Nat) : Int)) (h3 : wrap64 (i - 1) = i') :
    runes_hex.l0 (k + 1) x (n : Int) i = runes_hex.l0 k (x ++ [((dig (n / p % 16)).toNat : Int)]) (n : Int) i' := by
  have hp : n / p < 4294967296 := Nat.lt_of_le_of_lt (Nat.div_le_self _ _) hn
  simp only [runes_hex.l0]
  rw [if_pos h0, hw, if_pos h1, h2, low4 _ hp, if_pos (by omega), if_pos (by omega), if_pos hx, h3, table _ (by omega)]
theorem hex_end (k : Nat) (x : List Int) (n : Int) : runes_hex.l0 (k + 1) x n (-1) = some x := by
  simp only [runes_hex.l0]
  rw [if_neg (by decide)]
theorem hex2 (acc : List UInt8) (mark : UInt8) (n : Nat) (hn : n < 4294967296) (ha : acc.length ≤ 140737488000000) : runes_hex.f 8 (ints acc) (mark.toNat : Int) (n : Int) 2 = some (ints (acc ++ (92 :: mark :: hx2 n))) := by
  have hL := ints_length acc
  unfold runes_hex.f
  simp only [Option.bind_some]
  rw [if_pos (by simp only [List.length_cons, List.length_nil]; omega), show wrap64 (2 - 1) = 1 from (w64 (by omega) (by omega)).trans rfl,
    hex_step _ _ n 16 1 0 4 (by simp only [List.length_append, List.length_cons, List.length_nil]; omega) hn (by decide) ((w64 (by omega) (by omega)).trans rfl) (by decide) rfl ((w64 (by omega) (by omega)).trans rfl),
    hex_step _ _ n 1 0 (-1) 0 (by simp only [List.length_append, List.length_cons, List.length_nil]; omega) hn (by decide) ((w64 (by omega) (by omega)).trans rfl) (by decide) rfl ((w64 (by omega) (by omega)).trans rfl), hex_end]
  rw [Nat.div_one]
  simp [ints, hx2]
theorem hex4 (acc : List UInt8) (mark : UInt8) (n : Nat) (hn : n < 4294967296) (ha : acc.length ≤ 140737488000000) : runes_hex.f 8 (ints acc) (mark.toNat : Int) (n : Int) 4 = some (ints (acc ++ (92 :: mark :: hx4 n))) := by
  have hL := ints_length acc
  unfold runes_hex.f
  simp only [Option.bind_some]
  rw [if_pos (by simp only [List.length_cons, List.length_nil]; omega), show wrap64 (4 - 1) = 3 from (w64 (by omega) (by omega)).trans rfl,
    hex_step _ _ n 4096 3 2 12 (by simp only [List.length_append, List.length_cons, List.length_nil]; omega) hn (by decide) ((w64 (by omega) (by omega)).trans rfl) (by decide) rfl ((w64 (by omega) (by omega)).trans rfl),
    hex_step _ _ n 256 2 1 8 (by simp only [List.length_append, List.length_cons, List.length_nil]; omega) hn (by decide) ((w64 (by omega) (by omega)).trans rfl) (by decide) rfl ((w64 (by omega) (by omega)).trans rfl),
    hex_step _ _ n 16 1 0 4 (by simp only [List.length_append, List.length_cons, List.length_nil]; omega) hn (by decide) ((w64 (by omega) (by omega)).trans rfl) (by decide) rfl ((w64 (by omega) (by omega)).trans rfl),
    hex_step _ _ n 1 0 (-1) 0 (by simp only [List.length_append, List.length_cons, List.length_nil]; omega) hn (by decide) ((w64 (by omega) (by omega)).trans rfl) (by decide) rfl ((w64 (by omega) (by omega)).trans rfl), hex_end]
  rw [Nat.div_one]
  simp [ints, hx4]
theorem hex6 (acc : List UInt8) (mark : UInt8) (n : Nat) (hn : n < 4294967296) (ha : acc.length ≤ 140737488000000) : runes_hex.f 8 (ints acc) (mark.toNat : Int) (n : Int) 6 = some (ints (acc ++ (92 :: mark :: hx6 n))) := by
  have hL := ints_length acc
  unfold runes_hex.f
  simp only [Option.bind_some]
  rw [if_pos (by simp only [List.length_cons, List.length_nil]; omega), show wrap64 (6 - 1) = 5 from (w64 (by omega) (by omega)).trans rfl,
    hex_step _ _ n 1048576 5 4 20 (by simp only [List.length_append, List.length_cons, List.length_nil]; omega) hn (by decide) ((w64 (by omega) (by omega)).trans rfl) (by decide) rfl ((w64 (by omega) (by omega)).trans rfl),
    hex_step _ _ n 65536 4 3 16 (by simp only [List.length_append, List.length_cons, List.length_nil]; omega) hn (by decide) ((w64 (by omega) (by omega)).trans rfl) (by decide) rfl ((w64 (by omega) (by omega)).trans rfl),
    hex_step _ _ n 4096 3 2 12 (by simp only [List.length_append, List.length_cons, List.length_nil]; omega) hn (by decide) ((w64 (by omega) (by omega)).trans rfl) (by decide) rfl ((w64 (by omega) (by omega)).trans rfl),
    hex_step _ _ n 256 2 1 8 (by simp only [List.length_append, List.length_cons, List.length_nil]; omega) hn (by decide) ((w64 (by omega) (by omega)).trans rfl) (by decide) rfl ((w64 (by omega) (by omega)).trans rfl),
    hex_step _ _ n 16 1 0 4 (by simp only [List.length_append, List.length_cons, List.length_nil]; omega) hn (by decide) ((w64 (by omega) (by omega)).trans rfl) (by decide) rfl ((w64 (by omega) (by omega)).trans rfl),
    hex_step _ _ n 1 0 (-1) 0 (by simp only [List.length_append, List.length_cons, List.length_nil]; omega) hn (by decide) ((w64 (by omega) (by omega)).trans rfl) (by decide) rfl ((w64 (by omega) (by omega)).trans rfl), hex_end]
  rw [Nat.div_one]
  simp [ints, hx6]
def escape (s : ByteArray) : ByteArray := ⟨(escapeL (s.size + 1) s.data.toList).toArray⟩
theorem own_ne {w : World} {base e n k pos : Nat} {v : Value} {xs : List Value} {s : ByteArray} (h : w.ownsRow base e 1 v n xs) (hk : w.heap[k]? = some (.stringIter s pos)) : v.ownBlock ≠ some k := by
  intro hv
  rcases h.2 with ⟨rfl, _⟩ | ⟨g, cap, cur, rfl, _, hg, _⟩
  · cases hv
  · simp only [Value.ownBlock, Option.some.injEq] at hv
    subst hv
    rw [hg] at hk
    cases hk
theorem own_iter {w : World} {base e n k pos : Nat} {v : Value} {xs : List Value} {s : ByteArray} (h : w.ownsRow base e 1 v n xs) (hk : w.heap[k]? = some (.stringIter s pos)) (pos' : Nat) : (w.iterAt k s pos').ownsRow base e 1 v n xs := by
  have hne := own_ne h hk
  refine ⟨h.1, ?_⟩
  rcases h.2 with h2 | ⟨g, cap, cur, rfl, h3, h4, h5⟩
  · exact .inl h2
  · refine .inr ⟨g, cap, cur, rfl, h3, ?_, h5⟩
    rw [Lib.iterAt_other w k g s pos' (fun e => hne (by rw [e]; rfl))]
    exact h4
theorem toR {W : World} {n k pos : Nat} {v : Value} {acc : List UInt8} {s : ByteArray} (h : W.ownsRow n 5 1 v acc.length (nums .u8 (ints acc))) (hk : W.heap[k]? = some (.stringIter s pos)) : Kd.R (Kd.int .u8) 5 W n (fun j => j ≠ k) v (ints acc) :=
  Kd.R_of_own (h1 := fun _ => rfl) (by rw [ints_length]; exact h) (fun j hj e => own_ne h hk (by rw [hj, e]))
theorem ofR {W : World} {n : Nat} {v : Value} {l : List UInt8} {ok : Nat → Prop} (h : Kd.R (Kd.int .u8) 5 W n ok v (ints l)) : W.ownsRow n 5 1 v l.length (nums .u8 (ints l)) := by
  have e := Kd.own_of_R h
  rw [ints_length] at e
  exact e
theorem sz {W : World} {n : Nat} {v : Value} {l : List UInt8} (h : W.ownsRow n 5 1 v l.length (nums .u8 (ints l))) : W.ownsRow n 5 1 v (ints l).length (nums .u8 (ints l)) := by
  rw [ints_length]
  exact h
theorem two_app {W : World} {n : Nat} {v : Value} (l : List UInt8) (a b : UInt8) (h : W.ownsRow n 5 1 v (ints l ++ [(a.toNat : Int), (b.toNat : Int)]).length (nums .u8 (ints l ++ [(a.toNat : Int), (b.toNat : Int)]))) : W.ownsRow n 5 1 v (l ++ [a, b]).length (nums .u8 (ints (l ++ [a, b]))) := by
  rw [ints_app, ← ints_length (l ++ [a, b]), ints_app]
  exact h
theorem one_app {W : World} {n : Nat} {v : Value} (l : List UInt8) (a : UInt8) (h : W.ownsRow n 5 1 v (ints l ++ [(a.toNat : Int)]).length (nums .u8 (ints l ++ [(a.toNat : Int)]))) : W.ownsRow n 5 1 v (l ++ [a]).length (nums .u8 (ints (l ++ [a]))) := by
  rw [ints_app, ← ints_length (l ++ [a]), ints_app]
  exact h
theorem heap_size_alloc (W : World) (o : Obj) : (W.alloc o).heap.size = W.heap.size + 1 := by simp
theorem lit2 (W : World) (a b : Int) : ReadsInt (W.alloc (.cells #[.int .u8 a, .int .u8 b] 5)) .u8 (some ⟨W.heap.size, 0, none⟩) 2 [a, b] := by
  refine ⟨rfl, by decide, fun _ => ⟨_, rfl, ?_⟩⟩
  intro j hj
  have hb := (MapKept.heap_alloc W (.cells #[.int .u8 a, .int .u8 b] 5)).1
  rw [show (⟨W.heap.size, 0, none⟩ : Addr).add j = ⟨W.heap.size, j, none⟩ from by simp [Addr.add]; omega, Lib.cell_of_heap hb]
  rcases (by omega : j = 0 ∨ j = 1) with rfl | rfl <;> rfl
set_option maxHeartbeats 4000000 in
set_option maxRecDepth 100000 in
theorem escapeCalls (s : ByteArray) (hs : s.size ≤ 1048576) (w : World) (hT : Stray.Tabs w) : Calls Tryd.prog 21 #[.string s] w fun e w' => e = .returned (.string (escape s)) ∧ Below w.heap.size w w' := by
  go_enter Tryd.func21, Tryd.ntmps21
  go_wp2
  go_loopw [3] (fun v wr => ∃ (pos fuel : Nat) (acc : List UInt8), Aside0 (wr.ownsRow w.heap.size 5 1 v acc.length (nums .u8 (ints acc))) ∧ wr.heap[w.heap.size]? = some (.stringIter s pos) ∧ Aside0 (Below w.heap.size w wr) ∧ Aside0 (acc ++ escapeL fuel (dl s pos) = escapeL (s.size + 1) s.data.toList) ∧ Aside0 (s.size < pos + fuel ∧ acc.length ≤ 8 * pos)) (fun _ wr => s.size - wr.iterPos w.heap.size)
  case atStart =>
    refine ⟨0, s.size + 1, [], ⟨own_nil _ _ _ _⟩, ?_, ⟨(Below.refl _ w).alloc (Nat.le_refl _) _⟩, ⟨rfl⟩, ⟨by omega, by simp⟩⟩
    have := World.iter_heap w s 0
    simpa using this
  case round =>
    obtain ⟨pos, fuel, acc, HO, hit, HB, HF, HL⟩ := hrel
    have hsz : w.heap.size < wr.heap.size := (Array.getElem?_eq_some_iff.1 hit).1
    by_cases hp : pos < s.size
    · have hnx : ∀ ty, (Instr.next (.pointer (some ⟨w.heap.size, 0, none⟩)) true ty).run Tryd.prog wr = _ := fun ty => Lib.run_next_any_at wr w.heap.size s pos ty hit hp
      have hwd := Stray.width s pos hp
      have hd1 := decode_le s pos
      have hit2 := Lib.iterAt_heap wr w.heap.size s pos (pos + (Utf8.decode s pos).2) hit
      have hO2 := own_iter HO.out hit (pos + (Utf8.decode s pos).2)
      have hbw2 := Lib.below_iterAt HB.out (k := w.heap.size) (by omega) s (pos + (Utf8.decode s pos).2)
      have c := Stray.stray s pos hp (by omega) _ (hT.below hbw2)
      have hsz2 : w.heap.size < (wr.iterAt w.heap.size s (pos + (Utf8.decode s pos).2)).heap.size := by rw [Lib.iterAt_size]; exact hsz
      obtain ⟨k, rfl⟩ : ∃ k, fuel = k + 1 := ⟨fuel - 1, by have := HL.out.1; omega⟩
      have HF2 : Aside0 (acc ++ (piece (Stray.strayB s pos) (s.get! pos) (Utf8.decode s pos).1 ++ escapeL k (dl s (pos + (Utf8.decode s pos).2))) = escapeL (s.size + 1) s.data.toList) := ⟨by
        have h := HF.out
        rw [dl_cons s pos hp] at h
        simp only [escapeL] at h
        rw [← dl_cons s pos hp, show Lib.decodeL (dl s pos) = Utf8.decode s pos from Lib.decodeL_drop s pos, dl_drop] at h
        exact h⟩
      have HP := Aside0.mk hp
      have HL2 : Aside0 (s.size < pos + (Utf8.decode s pos).2 + k ∧ acc.length ≤ 8 * pos ∧ acc.length ≤ 8388608 ∧ 1 ≤ (Utf8.decode s pos).2) := ⟨by have := HL.out; omega⟩
      clear HF HL
      -- ways
      obtain ⟨b_, hb_⟩ : ∃ b_, b_ = Stray.strayB s pos := ⟨_, rfl⟩
      rw [← hb_] at c HF2
      have HIT := Aside0.mk hit
      have hbyte := (s.get! pos).toNat_lt
      have hmax := Rep01.dec_valid (dl s pos)
      rw [show Lib.decodeL (dl s pos) = Utf8.decode s pos from Lib.decodeL_drop s pos] at hmax
      have HZ0 : Aside0 ((((s[pos]'hp).toNat : Nat) : Int) % 4294967296 = (((s.get! pos).toNat : Nat) : Int)) := ⟨by
        have e3 : s.get! pos = s[pos]'hp := getElem!_pos s.data pos hp
        rw [← e3]; omega⟩
      have b2 := bt_at s (pos : Int)
      clear hb_ hit hwd HO HB
      generalize Utf8.decode s pos = d at *
      go_wp2_with (go_at_call 33; refine c.mono ?_)
      rintro e W1 ⟨rfl, b1⟩
      have hit3 : W1.heap[w.heap.size]? = some (.stringIter s (pos + d.2)) := (b1.block _ hsz2).trans hit2
      have hO3 := pw_own_below hO2 b1
      have hB3 := below_then hbw2 hbw2.size b1
      have hc3 : w.heap.size < W1.heap.size := Nat.lt_of_lt_of_le hsz2 b1.size
      clear hO2 hit2 hbw2 hsz2 b1 c hsz hnx
      by_cases hst : b_ = true
      · subst hst
        have hpc : Aside0 (piece true (s.get! pos) d.1 = 92 :: 120 :: hx2 (s.get! pos).toNat) := ⟨by unfold piece; rw [if_pos rfl]⟩
        have p1 : (0 ≤ (pos : Int)) = True := eq_true (by omega)
        have p2 : ((pos : Int) < (s.size : Int)) = True := eq_true (by omega)
        have HB8 : Aside0 ((s.get! pos).toNat < 4294967296) := ⟨by omega⟩
        have HZ := HZ0
        clear hbyte hmax hd1 b2
        have hx : ∀ z : Int, z = (((s.get! pos).toNat : Nat) : Int) → runes_hex.f 8 (ints acc) 120 z 2 = some (ints (acc ++ (92 :: 120 :: hx2 (s.get! pos).toNat))) := by
          intro z hz
          rw [hz]
          exact hex2 acc 120 _ HB8.out (by have := HL2.out; omega)
        go_wp2_with (go_at_call 40; refine (runes_hex.calls 8 (fun k => k ≠ w.heap.size) _ (ints acc) 120 _ 2 _ w _ hB3 (toR hO3 hit3) (hx _ (by exact HZ.out))).mono ?_)
        rintro e W2 ⟨v2, rfl, ho2, b2', k2⟩
        have hit4 : W2.heap[w.heap.size]? = some (.stringIter s (pos + d.2)) := (k2.2 _ hc3 (fun h => h rfl)).trans hit3
        have hO4 := ofR ho2
        clear ho2 k2 hit3 hO3 hB3
        go_wp2
        go_roundw
        case rel =>
          refine ⟨_, k, acc ++ (92 :: 120 :: hx2 (s.get! pos).toNat), ⟨hO4⟩, hit4, ⟨b2'⟩, ⟨?_⟩, ⟨?_⟩⟩
          · have h := HF2.out
            rw [hpc.out] at h
            rw [List.append_assoc]
            exact h
          · have h := HL2.out
            have hl := piece_len true (s.get! pos) d.1
            rw [hpc.out] at hl
            rw [List.length_append]
            omega
        case measure =>
          have h := HL2.out
          simp only [World.iterPos, hit4, HIT.out]
          have := HP.out
          omega
      obtain rfl : b_ = false := by simpa using hst
      clear hst HZ0 hbyte hp b2
      by_cases h0 : d.1 = 92
      · have hpc : Aside0 (piece false (s.get! pos) d.1 = [92, 92]) := ⟨by unfold piece; rw [if_neg (by decide), if_pos h0]⟩
        have e0 : (((d.1 : Nat) : Int) == 92) = true := by rw [beq_iff_eq]; omega
        clear hmax hd1 h0 
        go_wp2_with ((with_reducible refine gate_builtin (b := .append) (xs := #[.tmp 30, .tmp 31]) rfl ?_); at_builtin; refine print_append_row (w0 := w) w.heap.size rfl (.tmp 30) (.tmp 31) 41 5 .u8 1 rfl Tryd.underlying41 info5 (by decide) u3 (ints acc) [92, 92] _ 2 2 rfl rfl (sz (hO3.alloc _)) (lit2 _ 92 92) (hB3.alloc (Nat.le_of_lt hc3) _) (by rw [heap_size_alloc]; omega) (by have := HL2.out; have := ints_length acc; omega) ?_; intro v2 w2 ho hb hg hat)
        have hit4 : w2.heap[w.heap.size]? = some (.stringIter s (pos + d.2)) := (hg.block _ (by rw [heap_size_alloc]; omega) (fun e => own_ne hO3 hit3 e.symm)).trans ((Lib.alloc_old _ _ _ hc3).trans hit3)
        have hO4 := two_app acc 92 92 ho
        clear ho hg hat hit3 hO3 hB3
        go_roundw
        case rel =>
          refine ⟨_, k, acc ++ [92, 92], ⟨hO4⟩, hit4, ⟨hb⟩, ⟨?_⟩, ⟨?_⟩⟩
          · have h := HF2.out
            rw [hpc.out] at h
            rw [List.append_assoc]
            exact h
          · have h := HL2.out
            have hl := piece_len false (s.get! pos) d.1
            rw [hpc.out] at hl
            rw [List.length_append]
            omega
        case measure =>
          have h := HL2.out
          simp only [World.iterPos, hit4, HIT.out]
          have := HP.out
          omega
      by_cases h1 : d.1 = 10
      · have hpc : Aside0 (piece false (s.get! pos) d.1 = [92, 110]) := ⟨by unfold piece; rw [if_neg (by decide), if_neg h0, if_pos h1]⟩
        have e0 : (((d.1 : Nat) : Int) == 92) = false := by rw [beq_eq_false_iff_ne]; omega
        have e1 : (((d.1 : Nat) : Int) == 10) = true := by rw [beq_iff_eq]; omega
        clear hmax hd1 h1 h0
        go_wp2_with ((with_reducible refine gate_builtin (b := .append) (xs := #[.tmp 36, .tmp 37]) rfl ?_); at_builtin; refine print_append_row (w0 := w) w.heap.size rfl (.tmp 36) (.tmp 37) 41 5 .u8 1 rfl Tryd.underlying41 info5 (by decide) u3 (ints acc) [92, 110] _ 2 2 rfl rfl (sz (hO3.alloc _)) (lit2 _ 92 110) (hB3.alloc (Nat.le_of_lt hc3) _) (by rw [heap_size_alloc]; omega) (by have := HL2.out; have := ints_length acc; omega) ?_; intro v2 w2 ho hb hg hat)
        have hit4 : w2.heap[w.heap.size]? = some (.stringIter s (pos + d.2)) := (hg.block _ (by rw [heap_size_alloc]; omega) (fun e => own_ne hO3 hit3 e.symm)).trans ((Lib.alloc_old _ _ _ hc3).trans hit3)
        have hO4 := two_app acc 92 110 ho
        clear ho hg hat hit3 hO3 hB3
        go_roundw
        case rel =>
          refine ⟨_, k, acc ++ [92, 110], ⟨hO4⟩, hit4, ⟨hb⟩, ⟨?_⟩, ⟨?_⟩⟩
          · have h := HF2.out
            rw [hpc.out] at h
            rw [List.append_assoc]
            exact h
          · have h := HL2.out
            have hl := piece_len false (s.get! pos) d.1
            rw [hpc.out] at hl
            rw [List.length_append]
            omega
        case measure =>
          have h := HL2.out
          simp only [World.iterPos, hit4, HIT.out]
          have := HP.out
          omega
      by_cases h2 : d.1 = 13
      · have hpc : Aside0 (piece false (s.get! pos) d.1 = [92, 114]) := ⟨by unfold piece; rw [if_neg (by decide), if_neg h0, if_neg h1, if_pos h2]⟩
        have e0 : (((d.1 : Nat) : Int) == 92) = false := by rw [beq_eq_false_iff_ne]; omega
        have e1 : (((d.1 : Nat) : Int) == 10) = false := by rw [beq_eq_false_iff_ne]; omega
        have e2 : (((d.1 : Nat) : Int) == 13) = true := by rw [beq_iff_eq]; omega
        clear hmax hd1 h2 h0 h1
        go_wp2_with ((with_reducible refine gate_builtin (b := .append) (xs := #[.tmp 42, .tmp 43]) rfl ?_); at_builtin; refine print_append_row (w0 := w) w.heap.size rfl (.tmp 42) (.tmp 43) 41 5 .u8 1 rfl Tryd.underlying41 info5 (by decide) u3 (ints acc) [92, 114] _ 2 2 rfl rfl (sz (hO3.alloc _)) (lit2 _ 92 114) (hB3.alloc (Nat.le_of_lt hc3) _) (by rw [heap_size_alloc]; omega) (by have := HL2.out; have := ints_length acc; omega) ?_; intro v2 w2 ho hb hg hat)
        have hit4 : w2.heap[w.heap.size]? = some (.stringIter s (pos + d.2)) := (hg.block _ (by rw [heap_size_alloc]; omega) (fun e => own_ne hO3 hit3 e.symm)).trans ((Lib.alloc_old _ _ _ hc3).trans hit3)
        have hO4 := two_app acc 92 114 ho
        clear ho hg hat hit3 hO3 hB3
        go_roundw
        case rel =>
          refine ⟨_, k, acc ++ [92, 114], ⟨hO4⟩, hit4, ⟨hb⟩, ⟨?_⟩, ⟨?_⟩⟩
          · have h := HF2.out
            rw [hpc.out] at h
            rw [List.append_assoc]
            exact h
          · have h := HL2.out
            have hl := piece_len false (s.get! pos) d.1
            rw [hpc.out] at hl
            rw [List.length_append]
            omega
        case measure =>
          have h := HL2.out
          simp only [World.iterPos, hit4, HIT.out]
          have := HP.out
          omega
      by_cases h3 : d.1 = 9
      · have hpc : Aside0 (piece false (s.get! pos) d.1 = [92, 116]) := ⟨by unfold piece; rw [if_neg (by decide), if_neg h0, if_neg h1, if_neg h2, if_pos h3]⟩
        have e0 : (((d.1 : Nat) : Int) == 92) = false := by rw [beq_eq_false_iff_ne]; omega
        have e1 : (((d.1 : Nat) : Int) == 10) = false := by rw [beq_eq_false_iff_ne]; omega
        have e2 : (((d.1 : Nat) : Int) == 13) = false := by rw [beq_eq_false_iff_ne]; omega
        have e3 : (((d.1 : Nat) : Int) == 9) = true := by rw [beq_iff_eq]; omega
        clear hmax hd1 h3 h0 h1 h2
        go_wp2_with ((with_reducible refine gate_builtin (b := .append) (xs := #[.tmp 48, .tmp 49]) rfl ?_); at_builtin; refine print_append_row (w0 := w) w.heap.size rfl (.tmp 48) (.tmp 49) 41 5 .u8 1 rfl Tryd.underlying41 info5 (by decide) u3 (ints acc) [92, 116] _ 2 2 rfl rfl (sz (hO3.alloc _)) (lit2 _ 92 116) (hB3.alloc (Nat.le_of_lt hc3) _) (by rw [heap_size_alloc]; omega) (by have := HL2.out; have := ints_length acc; omega) ?_; intro v2 w2 ho hb hg hat)
        have hit4 : w2.heap[w.heap.size]? = some (.stringIter s (pos + d.2)) := (hg.block _ (by rw [heap_size_alloc]; omega) (fun e => own_ne hO3 hit3 e.symm)).trans ((Lib.alloc_old _ _ _ hc3).trans hit3)
        have hO4 := two_app acc 92 116 ho
        clear ho hg hat hit3 hO3 hB3
        go_roundw
        case rel =>
          refine ⟨_, k, acc ++ [92, 116], ⟨hO4⟩, hit4, ⟨hb⟩, ⟨?_⟩, ⟨?_⟩⟩
          · have h := HF2.out
            rw [hpc.out] at h
            rw [List.append_assoc]
            exact h
          · have h := HL2.out
            have hl := piece_len false (s.get! pos) d.1
            rw [hpc.out] at hl
            rw [List.length_append]
            omega
        case measure =>
          have h := HL2.out
          simp only [World.iterPos, hit4, HIT.out]
          have := HP.out
          omega
      have e0 : (((d.1 : Nat) : Int) == 92) = false := by rw [beq_eq_false_iff_ne]; omega
      have e1 : (((d.1 : Nat) : Int) == 10) = false := by rw [beq_eq_false_iff_ne]; omega
      have e2 : (((d.1 : Nat) : Int) == 13) = false := by rw [beq_eq_false_iff_ne]; omega
      have e3 : (((d.1 : Nat) : Int) == 9) = false := by rw [beq_eq_false_iff_ne]; omega
      by_cases h4 : 32 ≤ d.1 ∧ d.1 ≤ 126
      · have hpc : Aside0 (piece false (s.get! pos) d.1 = [d.1.toUInt8]) := ⟨by unfold piece; rw [if_neg (by decide), if_neg h0, if_neg h1, if_neg h2, if_neg h3, if_pos h4]⟩
        have g1 : decide (32 ≤ ((d.1 : Nat) : Int)) = true := decide_eq_true (by omega)
        have g2 : decide (((d.1 : Nat) : Int) ≤ 126) = true := decide_eq_true (by omega)
        have HM : Aside0 (((d.1 : Nat) : Int) % 256 = ((d.1.toUInt8.toNat : Nat) : Int)) := ⟨by rw [Nat.toUInt8_eq, UInt8.toNat_ofNat']; omega⟩
        clear hmax hd1 h0 h1 h2 h3 h4
        go_wp2_with ((with_reducible refine gate_builtin (b := .append) (xs := #[.tmp 58, .tmp 61]) rfl ?_); at_builtin; refine print_append_num (w0 := w) w.heap.size rfl (.tmp 58) (.tmp 61) 41 5 .u8 1 rfl Tryd.underlying41 info5 (by decide) u3 (ints acc) _ rfl rfl (sz hO3) hB3 (Nat.le_of_lt hc3) (by have := HL2.out; have := ints_length acc; omega) ?_; intro v2 w2 ho hb hg hat)
        have hit4 : w2.heap[w.heap.size]? = some (.stringIter s (pos + d.2)) := (hg.block _ hc3 (fun e => own_ne hO3 hit3 e.symm)).trans hit3
        rw [HM.out] at ho
        have hO4 := one_app acc d.1.toUInt8 ho
        clear ho hg hat hit3 hO3 hB3
        go_roundw
        case rel =>
          refine ⟨_, k, acc ++ [d.1.toUInt8], ⟨hO4⟩, hit4, ⟨hb⟩, ⟨?_⟩, ⟨?_⟩⟩
          · have h := HF2.out
            rw [hpc.out] at h
            rw [List.append_assoc]
            exact h
          · have h := HL2.out
            have hl := piece_len false (s.get! pos) d.1
            rw [hpc.out] at hl
            rw [List.length_append]
            omega
        case measure =>
          have h := HL2.out
          simp only [World.iterPos, hit4, HIT.out]
          have := HP.out
          omega
      have HZ : Aside0 (((d.1 : Nat) : Int) % 4294967296 = ((d.1 : Nat) : Int)) := ⟨by omega⟩
      have HB8 : Aside0 (d.1 < 4294967296) := ⟨by omega⟩
      by_cases h5 : d.1 ≤ 65535
      · have hpc : Aside0 (piece false (s.get! pos) d.1 = 92 :: 117 :: hx4 d.1) := ⟨by unfold piece; rw [if_neg (by decide), if_neg h0, if_neg h1, if_neg h2, if_neg h3, if_neg h4, if_pos h5]⟩
        have g3 : decide (((d.1 : Nat) : Int) ≤ 65535) = true := decide_eq_true (by omega)
        by_cases g0 : 32 ≤ d.1
        · have g1 : decide (32 ≤ ((d.1 : Nat) : Int)) = true := decide_eq_true (by omega)
          have g2 : decide (((d.1 : Nat) : Int) ≤ 126) = false := decide_eq_false (by omega)
          clear hmax hd1 h0 h1 h2 h3 h4 h5 g0
          have hx : ∀ z : Int, z = ((d.1 : Nat) : Int) → runes_hex.f 8 (ints acc) 117 z 4 = some (ints (acc ++ (92 :: 117 :: hx4 d.1))) := by
            intro z hz
            rw [hz]
            exact hex4 acc 117 _ HB8.out (by have := HL2.out; omega)
          go_wp2_with (go_at_call 40; refine (runes_hex.calls 8 (fun k => k ≠ w.heap.size) _ (ints acc) 117 _ 4 _ w _ hB3 (toR hO3 hit3) (hx _ (by exact HZ.out))).mono ?_)
          rintro e W2 ⟨v2, rfl, ho2, b2', k2⟩
          have hit4 : W2.heap[w.heap.size]? = some (.stringIter s (pos + d.2)) := (k2.2 _ hc3 (fun h => h rfl)).trans hit3
          have hO4 := ofR ho2
          clear ho2 k2 hit3 hO3 hB3
          go_wp2
          go_roundw
          case rel =>
            refine ⟨_, k, acc ++ (92 :: 117 :: hx4 d.1), ⟨hO4⟩, hit4, ⟨b2'⟩, ⟨?_⟩, ⟨?_⟩⟩
            · have h := HF2.out
              rw [hpc.out] at h
              rw [List.append_assoc]
              exact h
            · have h := HL2.out
              have hl := piece_len false (s.get! pos) d.1
              rw [hpc.out] at hl
              rw [List.length_append]
              omega
          case measure =>
            have h := HL2.out
            simp only [World.iterPos, hit4, HIT.out]
            have := HP.out
            omega
        · have g1 : decide (32 ≤ ((d.1 : Nat) : Int)) = false := decide_eq_false (by omega)
          clear hmax hd1 h0 h1 h2 h3 h4 h5 g0
          have hx : ∀ z : Int, z = ((d.1 : Nat) : Int) → runes_hex.f 8 (ints acc) 117 z 4 = some (ints (acc ++ (92 :: 117 :: hx4 d.1))) := by
            intro z hz
            rw [hz]
            exact hex4 acc 117 _ HB8.out (by have := HL2.out; omega)
          go_wp2_with (go_at_call 40; refine (runes_hex.calls 8 (fun k => k ≠ w.heap.size) _ (ints acc) 117 _ 4 _ w _ hB3 (toR hO3 hit3) (hx _ (by exact HZ.out))).mono ?_)
          rintro e W2 ⟨v2, rfl, ho2, b2', k2⟩
          have hit4 : W2.heap[w.heap.size]? = some (.stringIter s (pos + d.2)) := (k2.2 _ hc3 (fun h => h rfl)).trans hit3
          have hO4 := ofR ho2
          clear ho2 k2 hit3 hO3 hB3
          go_wp2
          go_roundw
          case rel =>
            refine ⟨_, k, acc ++ (92 :: 117 :: hx4 d.1), ⟨hO4⟩, hit4, ⟨b2'⟩, ⟨?_⟩, ⟨?_⟩⟩
            · have h := HF2.out
              rw [hpc.out] at h
              rw [List.append_assoc]
              exact h
            · have h := HL2.out
              have hl := piece_len false (s.get! pos) d.1
              rw [hpc.out] at hl
              rw [List.length_append]
              omega
          case measure =>
            have h := HL2.out
            simp only [World.iterPos, hit4, HIT.out]
            have := HP.out
            omega
      · have hpc : Aside0 (piece false (s.get! pos) d.1 = 92 :: 85 :: hx6 d.1) := ⟨by unfold piece; rw [if_neg (by decide), if_neg h0, if_neg h1, if_neg h2, if_neg h3, if_neg h4, if_neg h5]⟩
        have g3 : decide (((d.1 : Nat) : Int) ≤ 65535) = false := decide_eq_false (by omega)
        have g1 : decide (32 ≤ ((d.1 : Nat) : Int)) = true := decide_eq_true (by omega)
        have g2 : decide (((d.1 : Nat) : Int) ≤ 126) = false := decide_eq_false (by omega)
        clear hmax hd1 h0 h1 h2 h3 h4 h5
        have hx : ∀ z : Int, z = ((d.1 : Nat) : Int) → runes_hex.f 8 (ints acc) 85 z 6 = some (ints (acc ++ (92 :: 85 :: hx6 d.1))) := by
          intro z hz
          rw [hz]
          exact hex6 acc 85 _ HB8.out (by have := HL2.out; omega)
        go_wp2_with (go_at_call 40; refine (runes_hex.calls 8 (fun k => k ≠ w.heap.size) _ (ints acc) 85 _ 6 _ w _ hB3 (toR hO3 hit3) (hx _ (by exact HZ.out))).mono ?_)
        rintro e W2 ⟨v2, rfl, ho2, b2', k2⟩
        have hit4 : W2.heap[w.heap.size]? = some (.stringIter s (pos + d.2)) := (k2.2 _ hc3 (fun h => h rfl)).trans hit3
        have hO4 := ofR ho2
        clear ho2 k2 hit3 hO3 hB3
        go_wp2
        go_roundw
        case rel =>
          refine ⟨_, k, acc ++ (92 :: 85 :: hx6 d.1), ⟨hO4⟩, hit4, ⟨b2'⟩, ⟨?_⟩, ⟨?_⟩⟩
          · have h := HF2.out
            rw [hpc.out] at h
            rw [List.append_assoc]
            exact h
          · have h := HL2.out
            have hl := piece_len false (s.get! pos) d.1
            rw [hpc.out] at hl
            rw [List.length_append]
            omega
        case measure =>
          have h := HL2.out
          simp only [World.iterPos, hit4, HIT.out]
          have := HP.out
          omega
      -- end of ways
    · have hnx : ∀ ty, (Instr.next (.pointer (some ⟨w.heap.size, 0, none⟩)) true ty).run Tryd.prog wr = _ := fun ty => Lib.run_next_end_at wr w.heap.size s pos ty hit hp
      have hcv := own_string (P := Tryd.prog) Tryd.underlying41 Tryd.underlying5 Tryd.underlying9 HO.out
      have hr : Aside0 (strOfNums (ints acc) = escape s) := ⟨by
        rw [str_ints]
        unfold escape
        rw [← HF.out]
        rw [dl_nil s pos (by omega)]
        cases fuel <;> simp [escapeL]⟩
      rw [hr.out] at hcv
      go_wp2
      go_ret
      exact ⟨rfl, HB.out⟩
end Go.Proofs.YtigikjihagmokaaDoor.EscP
namespace Go.Proofs.YtigikjihagmokaaDoor.F
open Go.RowKit Go.Proofs.YtigikjihagmokaaDoorW.PrintWords Go.Proofs.YtigikjihagmokaaDoorW.PrintLast Go.Proofs.YtigikjihagmokaaDoorW.PrintMore Go.Proofs.YtigikjihagmokaaDoor.Q
attribute [local go_sem] max2_int min2_int max_two min_two max_three min_three max_four min_four   -- for this text's walks alone
set_option linter.unusedVariables false
set_option linter.unusedSimpArgs false

def runes_Escape.f (a0 : ByteArray) : Option (ByteArray) := if a0.size ≤ 1048576 then some (EscP.escape a0) else none
theorem runes_Escape.calls (a0 : ByteArray) (r : ByteArray) (w : World) (h : runes_Escape.f a0 = some r) (hG_ : Stray.Tabs w) :
 Calls Tryd.prog 21 #[.string a0] w fun e w' => e = .returned (.string r) ∧ Below w.heap.size w w' := by
 unfold runes_Escape.f at h
 split at h
 · rename_i hs
   obtain rfl := Option.some.inj h
   exact EscP.escapeCalls a0 hs w hG_
 · cases h

def idiomref01_hex.l0 : Nat → Int → Int → ByteArray → Int → Option (ByteArray)
 | 0, _, _, _, _ => none
 | k + 1, x0, x1, x5, x6 => if x6 < x1 then (if (Int.tmod x0 16) < 10 then ((some (([(wrap64 (48 + (Int.tmod x0 16))) % 256] : List Int) : List Int)).bind fun y285 => (if (strOfNums y285).size + x5.size ≤ 9223372036854775807 then (idiomref01_hex.l0 k (wrap64 (Int.tdiv x0 16)) x1 ((strOfNums y285) ++ x5) (wrap64 (x6 + 1))) else (none))) else ((some (([(wrap64 ((wrap64 (97 + (Int.tmod x0 16))) - 10)) % 256] : List Int) : List Int)).bind fun y288 => (if (strOfNums y288).size + x5.size ≤ 9223372036854775807 then (idiomref01_hex.l0 k (wrap64 (Int.tdiv x0 16)) x1 ((strOfNums y288) ++ x5) (wrap64 (x6 + 1))) else (none)))) else (some x5)
def idiomref01_hex.f (k : Nat) (a0 : Int) (a1 : Int) : Option (ByteArray) := idiomref01_hex.l0 k a0 a1 (⟨#[]⟩ : ByteArray) 0
theorem idiomref01_hex.mono_l : ∀ k, (∀ y0 y1 y2 y3, LeO (idiomref01_hex.l0 k y0 y1 y2 y3) (idiomref01_hex.l0 (k + 1) y0 y1 y2 y3))
 | 0 => fun _ _ _ _ r h => by simp [idiomref01_hex.l0] at h
 | k + 1 => by
  have ih0 := idiomref01_hex.mono_l k
  · intro y0 y1 y2 y3
    unfold idiomref01_hex.l0
    repeat' first
    | (with_reducible exact ih0 _ _ _ _)
    | (with_reducible exact LeO.refl _)
    | (with_reducible exact LeO.none _)
    | (with_reducible refine LeO.ite ?_ ?_)
    | (with_reducible refine LeO.bind ?_ (fun _ => ?_))
    | exact ih0 _ _ _ _
    | exact LeO.none _
    | refine LeO.ite ?_ ?_
    | refine LeO.bind ?_ (fun _ => ?_)
theorem idiomref01_hex.mono : ∀ a0 a1 k, LeO (idiomref01_hex.f k a0 a1) (idiomref01_hex.f (k + 1) a0 a1) := by
 intro a0 a1 k
 have ih0 := idiomref01_hex.mono_l k
 unfold idiomref01_hex.f
 repeat' first
  | (with_reducible exact ih0 _ _ _ _)
  | (with_reducible exact LeO.refl _)
  | (with_reducible exact LeO.none _)
  | (with_reducible refine LeO.ite ?_ ?_)
  | (with_reducible refine LeO.bind ?_ (fun _ => ?_))
  | exact ih0 _ _ _ _
  | exact LeO.none _
  | refine LeO.ite ?_ ?_
  | refine LeO.bind ?_ (fun _ => ?_)
set_option maxHeartbeats 8000000 in
set_option maxRecDepth 100000 in
theorem idiomref01_hex.calls (k : Nat) (a0 : Int) (a1 : Int) (r : ByteArray) (w : World) (h : idiomref01_hex.f k a0 a1 = some r) :
 Calls Tryd.prog 41 #[.int .i64 a0, .int .i64 a1] w fun e w' => e = .returned (.string r) ∧ Below w.heap.size w w' := by
 have HB := Aside0.mk (Below.refl w.heap.size w)
 have H : (idiomref01_hex.l0 k a0 a1 (⟨#[]⟩ : ByteArray) 0) = some r := h
 clear h
 have H' := Aside0.mk H
 clear H
 go_enter Tryd.func41, Tryd.ntmps41
 go_wp2
 (try simp only [Act.put, List.setIfInBounds_toArray, List.set_cons_zero, List.set_cons_succ])
 go_loopg [0, 5, 6] k (fun kq v0 v5 v6 w' => ∃ (x0_1 : Int) (x5_1 : ByteArray) (x6_1 : Int), v0 = .int .i64 x0_1 ∧ v5 = .string x5_1 ∧ v6 = .int .i64 x6_1 ∧ Aside0 (idiomref01_hex.l0 kq x0_1 a1 x5_1 x6_1 = some r) ∧ Aside0 (kq ≤ k) ∧ Aside0 (Below w.heap.size w w'))
 case atStart => exact ⟨(a0), ((⟨#[]⟩ : ByteArray)), (0), (by first | rfl | (simp; done) | (simp [*]; done)), (by first | rfl | (simp; done) | (simp [*]; done)), (by first | rfl | (simp; done) | (simp [*]; done)), H', ⟨Nat.le_refl _⟩, ⟨qh HB⟩⟩
 case round =>
  clear H'
  try clear p2
  obtain ⟨x0_1, x5_1, x6_1, rfl, rfl, rfl, HA, HK1, HB⟩ := hrel
  cases gk with
  | zero => exact absurd HA.out (by simp [idiomref01_hex.l0])
  | succ k1 =>
   have H := HA.out
   clear HA
   simp only [idiomref01_hex.l0] at H
   by_cases c3 : x6_1 < a1
   · rw [if_pos c3] at H
     have c3b0 : decide (x6_1 < a1) = true := decide_eq_true c3
     clear c3
     by_cases c4 : (Int.tmod x0_1 16) < 10
     · rw [if_pos c4] at H
       have c4b0 : decide ((Int.tmod x0_1 16) < 10) = true := decide_eq_true c4
       clear c4
       obtain ⟨y285, hy285⟩ : ∃ y_ : List Int, y_ = (([(wrap64 (48 + (Int.tmod x0_1 16))) % 256] : List Int)) := ⟨_, rfl⟩
       replace H : (if (strOfNums y285).size + x5_1.size ≤ 9223372036854775807 then (idiomref01_hex.l0 k1 (wrap64 (Int.tdiv x0_1 16)) a1 ((strOfNums y285) ++ x5_1) (wrap64 (x6_1 + 1))) else (none)) = some r := by first | (rw [hy285]; with_reducible exact H) | (have H2_ := (Option.bind_some _ _).symm.trans H; rw [hy285]; with_reducible exact H2_) | (have H2_ := (Option.bind_some _ _).symm.trans H; with_reducible exact H2_) | with_reducible exact H | (rw [hy285]; exact H) | exact H
       have Ny285 := Aside0.mk hy285
       clear hy285
       by_cases c5 : (strOfNums y285).size + x5_1.size ≤ 9223372036854775807
       · rw [if_pos c5] at H
         have c5b0 := eq_true c5
         have c5b1 : decide ((strOfNums y285).size + x5_1.size ≤ 9223372036854775807) = true := decide_eq_true c5
         try have c5b2 : (9223372036854775807 < (strOfNums y285).size + x5_1.size) = False := eq_false (Nat.not_lt.2 c5)
         have H' := Aside0.mk H
         clear H
         go_wp2_with (first | ((with_reducible refine gate_dst (N := 22) rfl ?_); refine Kd.R_lit (Kd.int .u8) _ 5 ?hg (N := 22) ?hd (xs := ([(wrap64 (48 + (Int.tmod x0_1 16))) % 256] : List Int)) (inner := [.int .u8 ((wrap64 (48 + (Int.tmod x0_1 16))) % 256)]) (ok := fun _ => True) (okp := fun _ => True) ?hr ?hp (fun _ hk => hk) trivial (Below.refl _ _) (Nat.le_refl _) (by simp) ?_; (case hd => rfl); (case hg => rfl); (case hr => first | (go_simp; done) | (go_simp; rfl)); (case hp => exact (Reps.one (show Kd.M (Kd.int .u8) _ _ _ ((wrap64 (48 + (Int.tmod x0_1 16))) % 256) [.int .u8 ((wrap64 (48 + (Int.tmod x0_1 16))) % 256)] from rfl) (Reps.none _ _))); intro v286 w6 ho7 hb hg_ hnew_; clear hg_ hnew_; (first | rw [← Ny285.out] at ho7 | (simp only [Int.reduceToNat] at ho7; rw [← Ny285.out] at ho7)); have HO287 := Aside0.mk (Kd.R_lower ho7 (below_size (qh HB))); replace HB := qn HB hb; clear hb ho7; have hcv8 := own_string (P := Tryd.prog) Tryd.underlying41 Tryd.underlying5 Tryd.underlying9 (Kd.own_of_R HO287.out)))
         go_roundg k1
         case measure => have := HK1.out; omega
         case rel => exact ⟨(wrap64 (Int.tdiv x0_1 16)), ((strOfNums y285) ++ x5_1), (wrap64 (x6_1 + 1)), (by first | rfl | (simp; done) | (simp [*]; done)), (by first | rfl | (simp; done) | (simp [*]; done)), (by first | rfl | (simp; done) | (simp [*]; done)), H', ⟨by have := HK1.out; omega⟩, ⟨qh HB⟩⟩
       · rw [if_neg c5] at H
         exact absurd H (by simp)
     · rw [if_neg c4] at H
       have c4b0 : decide ((Int.tmod x0_1 16) < 10) = false := decide_eq_false c4
       clear c4
       obtain ⟨y288, hy288⟩ : ∃ y_ : List Int, y_ = (([(wrap64 ((wrap64 (97 + (Int.tmod x0_1 16))) - 10)) % 256] : List Int)) := ⟨_, rfl⟩
       replace H : (if (strOfNums y288).size + x5_1.size ≤ 9223372036854775807 then (idiomref01_hex.l0 k1 (wrap64 (Int.tdiv x0_1 16)) a1 ((strOfNums y288) ++ x5_1) (wrap64 (x6_1 + 1))) else (none)) = some r := by first | (rw [hy288]; with_reducible exact H) | (have H2_ := (Option.bind_some _ _).symm.trans H; rw [hy288]; with_reducible exact H2_) | (have H2_ := (Option.bind_some _ _).symm.trans H; with_reducible exact H2_) | with_reducible exact H | (rw [hy288]; exact H) | exact H
       have Ny288 := Aside0.mk hy288
       clear hy288
       by_cases c9 : (strOfNums y288).size + x5_1.size ≤ 9223372036854775807
       · rw [if_pos c9] at H
         have c9b0 := eq_true c9
         have c9b1 : decide ((strOfNums y288).size + x5_1.size ≤ 9223372036854775807) = true := decide_eq_true c9
         try have c9b2 : (9223372036854775807 < (strOfNums y288).size + x5_1.size) = False := eq_false (Nat.not_lt.2 c9)
         have H' := Aside0.mk H
         clear H
         go_wp2_with (first | ((with_reducible refine gate_dst (N := 30) rfl ?_); refine Kd.R_lit (Kd.int .u8) _ 5 ?hg (N := 30) ?hd (xs := ([(wrap64 ((wrap64 (97 + (Int.tmod x0_1 16))) - 10)) % 256] : List Int)) (inner := [.int .u8 ((wrap64 ((wrap64 (97 + (Int.tmod x0_1 16))) - 10)) % 256)]) (ok := fun _ => True) (okp := fun _ => True) ?hr ?hp (fun _ hk => hk) trivial (Below.refl _ _) (Nat.le_refl _) (by simp) ?_; (case hd => rfl); (case hg => rfl); (case hr => first | (go_simp; done) | (go_simp; rfl)); (case hp => exact (Reps.one (show Kd.M (Kd.int .u8) _ _ _ ((wrap64 ((wrap64 (97 + (Int.tmod x0_1 16))) - 10)) % 256) [.int .u8 ((wrap64 ((wrap64 (97 + (Int.tmod x0_1 16))) - 10)) % 256)] from rfl) (Reps.none _ _))); intro v289 w10 ho11 hb hg_ hnew_; clear hg_ hnew_; (first | rw [← Ny288.out] at ho11 | (simp only [Int.reduceToNat] at ho11; rw [← Ny288.out] at ho11)); have HO290 := Aside0.mk (Kd.R_lower ho11 (below_size (qh HB))); replace HB := qn HB hb; clear hb ho11; have hcv12 := own_string (P := Tryd.prog) Tryd.underlying41 Tryd.underlying5 Tryd.underlying9 (Kd.own_of_R HO290.out)))
         go_roundg k1
         case measure => have := HK1.out; omega
         case rel => exact ⟨(wrap64 (Int.tdiv x0_1 16)), ((strOfNums y288) ++ x5_1), (wrap64 (x6_1 + 1)), (by first | rfl | (simp; done) | (simp [*]; done)), (by first | rfl | (simp; done) | (simp [*]; done)), (by first | rfl | (simp; done) | (simp [*]; done)), H', ⟨by have := HK1.out; omega⟩, ⟨qh HB⟩⟩
       · rw [if_neg c9] at H
         exact absurd H (by simp)
   · rw [if_neg c3] at H
     have c3b0 : decide (x6_1 < a1) = false := decide_eq_false c3
     clear c3
     obtain rfl := Option.some.inj H
     go_wp2
     go_ret
     exact ⟨qe, qh HB⟩

end Go.Proofs.YtigikjihagmokaaDoor.F
