/- Part 1 of 1 of the proof of the law RunesRepairs: it is true at every input. Conditions: those of the given row, no others. -/
import Derived.Test.YtigikjihagmokaaDoorWMore
import Derived.WalkKit
import Derived.Laws.IdiomStrings
import Derived.Laws.BytesArg
import Derived.Lib.Hide
import Derived.Test.YtigikjihagmokaaDoorProg
import Derived.Below
import Derived.Deep.Draws
import Derived.Deep.AppendLies
import Derived.Maps.AppendAt
import Derived.OwnWalk
import Derived.Laws.MakeOwn
import Derived.Laws.OwnMore
import Derived.Deep.OwnRows
import Derived.Tactics
import Derived.Lib.ConvBytes
import Derived.Laws.Slices
import Derived.KernelRfl
import Derived.RowKit3
import Derived.Deep.LoopGhost
import Derived.Deep.QuietTactic
import Derived.BigQuiet
import Derived.WideLaws
import Derived.Deep.DeepCutAuto
import Derived.Deep.CutBlock
import Derived.Deep.RegionHeld3
import Derived.Laws.Rows
import Derived.Lib.AppendStr
import Derived.ArgAppend
import Derived.Laws.IdiomCopy
import Derived.OrdersHeld
import Derived.Laws.BitsLemmas
import Derived.RowKit
import Derived.Test.YtigikjihagmokaaDoorWWords
import Derived.Test.YtigikjihagmokaaDoorWLast
import Derived.Laws.StructEq
import Derived.Test.YtigikjihagmokaaDoorWRepsOne
import Derived.Shelf.Strings.Builder1
import Derived.Shelf.Small.Utf8
import Derived.Shelf.Small.Strs
import Derived.Shelf.Strings.BuilderF
import Derived.Shelf.Strings.BuilderK
import Derived.Shelf.Strings.BuilderRune
import Derived.Shelf.Strconv.Itoa0
import Derived.Shelf.Strconv.Itoa1
import Derived.Shelf.LaysM
import Derived.Shelf.Strconv.Itoa2
import Derived.Shelf.Strconv.Itoa3
import Derived.Shelf.Strings.Search1
import Derived.Shelf.Unicode.Decode
import Derived.Shelf.Unicode.DecodeSlow
import Derived.Shelf.Unicode.DecodeAny
import Derived.Shelf.Strings.BuilderCap
import Derived.BigCall
import Derived.Lib.OthersKept
import Derived.Lib.FrozenHead2
import Derived.Lib.TrimUEq
import Derived.Lib.LaidU8
import Derived.Lib.MapLaws
import Derived.Deep.DeepHandedRow
import Derived.LaidLaws
import Derived.Test.YtigikjihagmokaaDoorRows
import Derived.Test.YtigikjihagmokaaDoorCards
import Derived.Test.YtigikjihagmokaaDoorTie
import Derived.ProofKit
import Derived.OpenShut
import Derived.ShutString
import Derived.ChangeOld
import Derived.SizedLaws
import Derived.Carry
import Derived.Lib.SmallJoins
import Derived.PinnedBridge
import Derived.Lay
import Derived.LaidOnce
import Derived.SevenTiedAt
set_option linter.unusedVariables false
namespace Go.Proofs.YtigikjihagmokaaDoor.Aid
open Go.RowKit Go.Proofs.YtigikjihagmokaaDoorW.PrintWords Go.Proofs.YtigikjihagmokaaDoorW.PrintMore

/-- The block B is one of bytes, made since base; its first bytes are l, and may be written. -/
def Bts (w : World) (base B e : Nat) (l : List Int) : Prop :=
  base ≤ B ∧ ∃ cur fz, w.heap[B]? = some (.cells cur e fz) ∧ l.length ≤ fz.1 ∧ l.length ≤ cur.size ∧ ∀ j, j < l.length → cur[j]? = some (.int .u8 (l.getD j 0))

theorem Bts.lt {w : World} {base B e : Nat} {l : List Int} (h : Bts w base B e l) : B < w.heap.size := by
  obtain ⟨_, cur, fz, hb, _⟩ := h
  exact (Array.getElem?_eq_some_iff.1 hb).1
theorem Bts.cell {w : World} {base B e : Nat} {l : List Int} (h : Bts w base B e l) (j : Nat) (hj : j < l.length) : w.cell? ⟨B, j, none⟩ = some (.int .u8 (l.getD j 0)) := by
  obtain ⟨_, cur, fz, hb, _, _, hc⟩ := h
  unfold World.cell?
  rw [hb]
  simpa using hc j hj
theorem Bts.free {w : World} {base B e : Nat} {l : List Int} (h : Bts w base B e l) (j : Nat) (hj : j < l.length) : w.frozen? ⟨B, j, none⟩ = false := by
  obtain ⟨_, cur, fz, hb, hf, _, hc⟩ := h
  unfold World.frozen?
  rw [hb]
  obtain ⟨lo, hi⟩ := fz
  simp only at hf ⊢
  have : ¬ lo ≤ j := by omega
  simp [this]
theorem Bts.set {w : World} {base B e : Nat} {l : List Int} (h : Bts w base B e l) (j : Nat) (v : Int) : Bts (w.setCell ⟨B, j, none⟩ (.int .u8 v)) base B e (l.set j v) := by
  obtain ⟨h0, cur, fz, hb, hf, hs, hc⟩ := h
  have hlt := (Array.getElem?_eq_some_iff.1 hb).1
  have he := (Array.getElem?_eq_some_iff.1 hb).2
  refine ⟨h0, cur.setIfInBounds j (.int .u8 v), fz, ?_, by simpa using hf, by simpa using hs, ?_⟩
  · unfold World.setCell
    simp only [Array.getElem?_modify]
    simp [hb]
  · intro i hi
    simp only [List.length_set] at hi
    rw [Array.getElem?_setIfInBounds]
    by_cases e1 : j = i
    · subst e1
      simp [show j < cur.size by omega, List.getD_eq_getElem?_getD, hi]
    · simp only [if_neg e1]
      rw [hc i hi]
      simp [List.getD_eq_getElem?_getD, e1]
theorem Bts.drew {w : World} {base B e : Nat} {l : List Int} (h : Bts w base B e l) : Bts w.drew base B e l := h
theorem Bts.below {w w1 : World} {base B e : Nat} {l : List Int} (h : Bts w base B e l) (hb : Below w.heap.size w w1) : Bts w1 base B e l := by
  have hl := h.lt
  obtain ⟨h0, cur, fz, hh, r⟩ := h
  exact ⟨h0, cur, fz, (hb.block B hl).trans hh, r⟩

/-- A text's bytes as numbers. -/
def nums8 (s : ByteArray) : List Int := s.data.toList.map fun c => (c.toNat : Int)
theorem nums8_length (s : ByteArray) : (nums8 s).length = s.size := by simp [nums8]
theorem strOf_nums8 (s : ByteArray) : strOfNums (nums8 s) = s := by
  obtain ⟨⟨l⟩⟩ := s
  simp [strOfNums, nums8, Function.comp_def]

/-- What '[]byte(s)' makes. -/
theorem Bts.made (w : World) (e : Nat) (s : ByteArray) (cap : Nat) : Bts (w.drew.alloc (.cells (bytesRow s cap) e ((bytesRow s cap).size, (bytesRow s cap).size + 1))) w.heap.size w.heap.size e (nums8 s) := by
  refine ⟨Nat.le_refl _, bytesRow s cap, _, heap_alloc_new w.drew _, ?_, ?_, ?_⟩
  · rw [nums8_length]; simp [bytesRow]
  · rw [nums8_length]; simp [bytesRow]
  · intro j hj
    have hj' : j < s.data.toList.length := by simpa [nums8] using hj
    have hj2 : j < s.data.size := by simpa using hj'
    unfold bytesRow
    rw [Array.getElem?_append_left (by simpa using hj2)]
    simp [nums8, List.getD_eq_getElem?_getD, Array.getElem?_eq_getElem hj2]
theorem bne_nil (l : List UInt8) : (!l.isEmpty) = (l != []) := by cases l <;> rfl
theorem eq_nil (l : List UInt8) : l.isEmpty = (l == []) := by cases l <;> rfl
theorem empty_of {l : List UInt8} {b : Bool} (h : (l == []) = b) : l.isEmpty = b := (eq_nil l).trans h
theorem R_set_drew {α : Type} {d : Kd α} {e base n : Nat} {w : World} {a : Addr} {v u : Value} {ok : Nat → Prop} {xs : List α} (h : d.R e (w.setCell a v) base ok u xs) : d.R e ((w.drewN n).setCell a v) base ok u xs := Kd.R_drewN h n
theorem V_nil' {k : IntKind} {e base : Nat} {w : World} {ok : Nat → Prop} {v : Value} (h : v = .slice none 0 0) : Kd.V (Kd.int k) e w base ok v [] := h ▸ Kd.V_nil _ _ _ _ _
theorem R_nil' {k : IntKind} {e base : Nat} {w : World} {ok : Nat → Prop} {v : Value} (h : v = .slice none 0 0) : Kd.R (Kd.int k) e w base ok v [] := h ▸ Kd.R_nil _ _ _ _ _
/-- A text of one byte. -/
theorem one_byte (s : ByteArray) (h : s.size = 1) : ∃ c : UInt8, s = ⟨#[c]⟩ ∧ bt s 0 = (c.toNat : Int) := by
  obtain ⟨⟨l⟩⟩ := s
  obtain ⟨c, rfl⟩ := List.length_eq_one_iff.1 h
  exact ⟨c, rfl, rfl⟩
end Go.Proofs.YtigikjihagmokaaDoor.Aid
namespace Go.Proofs.YtigikjihagmokaaDoor.F
open Go.RowKit Go.Proofs.YtigikjihagmokaaDoorW.PrintWords Go.Proofs.YtigikjihagmokaaDoorW.PrintLast Go.Proofs.YtigikjihagmokaaDoorW.PrintMore
attribute [local go_sem] max2_int min2_int max_two min_two max_three min_three max_four min_four   -- for this text's walks alone
set_option linter.unusedVariables false
set_option linter.unusedSimpArgs false



def errW : Option Int → Value
 | none => .nilIface
 | some c => .iface 0 (.int .i64 c)
theorem errW_none : errW none = .nilIface := rfl
theorem errW_some (c : Int) : errW (some c) = .iface 0 (.int .i64 c) := rfl

theorem info5 : (Tryd.prog.info? 5).map (fun i => (i.zero, i.size, i.bytes)) = some (some (.int .u8 0), 1, 1) := by kernel_rfl
theorem info9 : (Tryd.prog.info? 9).map (fun i => (i.zero, i.size, i.bytes)) = some (some (.string ⟨#[]⟩), 1, 16) := by kernel_rfl
theorem info21 : (Tryd.prog.info? 21).map (fun i => (i.zero, i.size, i.bytes)) = some (some (.int .i32 0), 1, 4) := by kernel_rfl
end Go.Proofs.YtigikjihagmokaaDoor.F
set_option linter.unusedVariables false
namespace Go.Proofs.YtigikjihagmokaaDoor.Q
open Go.RowKit Go.Proofs.YtigikjihagmokaaDoorW.PrintWords Go.Proofs.YtigikjihagmokaaDoorW.PrintLast Go.Proofs.YtigikjihagmokaaDoorW.PrintMore
theorem ql {p : Prop} (h : p := by (try simp only [List.map_toArray, List.map_cons, List.map_nil]); first | done | rfl | (simp only [List.length_drop, List.length_take]; rfl)) : p := h
theorem qh {b : Nat} {w w1 w2 : World} (B : Aside0 (Below b w w1)) (h : Below b w w1 → Below b w w2 := by intro h_; repeat (first | (with_reducible first | exact h_ | apply below_alloc | apply pw_below_drewN | apply below_drew1 | refine below_set ?_ (Aside0.out (by with_reducible assumption))) | exact h_)) : Below b w w2 := h B.out
theorem qn {w w1 w2 w3 : World} (B : Aside0 (Below w.heap.size w w1)) (hb : Below w2.heap.size w2 w3) (h : Below w.heap.size w w1 → Below w.heap.size w w2 := by intro h_; repeat (first | (with_reducible first | exact h_ | apply below_alloc | apply pw_below_drewN | apply below_drew1 | refine below_set ?_ (Aside0.out (by with_reducible assumption))) | exact h_)) : Aside0 (Below w.heap.size w w3) := ⟨below_step (h B.out) hb⟩
theorem qe {p : Prop} (h : p := by first | rfl | (exact congrArg (fun b => Ending.returned (.bool b)) (Aid.bne_nil _)) | (exact congrArg (fun b => Ending.returned (.bool b)) (Aid.eq_nil _)) | (simp [errW_none, errW_some] <;> rfl) | (simp [*, errW_none, errW_some] <;> rfl)) : p := h
section
variable {P : Program} {ops : Array Oper} {rest : List Oper} {o : Oper} {a : Act} {Q : Exit → Act → World → Prop} {md : Region.Mode} {S : World → Prop} {ds : List Nat} {T : Bool × List (List Nat × List Nat)} {B : List Nat}
end
end Go.Proofs.YtigikjihagmokaaDoor.Q
namespace Go.Proofs
open Go.Shelf
def Tryd.lays170_ren : Go.Shelf.Ren := ⟨fun | 170 => 37 | n => n, fun | 70 => 40 | 3 => 3 | 0 => 0 | 72 => 43 | 37 => 41 | 5 => 5 | n => n, fun | n => n⟩
theorem Tryd.lays170 : Go.Proofs.Lays.n170 Tryd.prog Tryd.lays170_ren := {
  mixed := by kernel_rfl
  f170 := Tryd.func37.trans (congrArg some (by kernel_rfl))
  t0 := Tryd.underlying0
  a0 := Tryd.isAgg0
  z0 := Tryd.sizeOf0
  v0 := Tryd.zeroValue0
  t3 := Tryd.underlying3
  a3 := Tryd.isAgg3
  z3 := Tryd.sizeOf3
  v3 := Tryd.zeroValue3
  t37 := Tryd.underlying41
  a37 := Tryd.isAgg41
  z37 := Tryd.sizeOf41
  v37 := Tryd.zeroValue41
  t70 := Tryd.underlying40
  a70 := Tryd.isAgg40
  z70 := Tryd.sizeOf40
  v70 := Tryd.zeroValue40
  t72 := Tryd.underlying43
  a72 := Tryd.isAgg43
  z72 := Tryd.sizeOf43
  v72 := Tryd.zeroValue43 }
def Tryd.lays169_ren : Go.Shelf.Ren := ⟨fun | 169 => 39 | n => n, fun | 70 => 40 | 9 => 9 | 0 => 0 | 72 => 43 | 37 => 41 | 127 => 65 | 3 => 3 | 5 => 5 | n => n, fun | n => n⟩
theorem Tryd.lays169 : Go.Proofs.Lays.n169 Tryd.prog Tryd.lays169_ren := {
  mixed := by kernel_rfl
  f169 := Tryd.func39.trans (congrArg some (by kernel_rfl))
  t0 := Tryd.underlying0
  a0 := Tryd.isAgg0
  z0 := Tryd.sizeOf0
  v0 := Tryd.zeroValue0
  t3 := Tryd.underlying3
  a3 := Tryd.isAgg3
  z3 := Tryd.sizeOf3
  v3 := Tryd.zeroValue3
  t9 := Tryd.underlying9
  a9 := Tryd.isAgg9
  z9 := Tryd.sizeOf9
  v9 := Tryd.zeroValue9
  t37 := Tryd.underlying41
  a37 := Tryd.isAgg41
  z37 := Tryd.sizeOf41
  v37 := Tryd.zeroValue41
  t70 := Tryd.underlying40
  a70 := Tryd.isAgg40
  z70 := Tryd.sizeOf40
  v70 := Tryd.zeroValue40
  t72 := Tryd.underlying43
  a72 := Tryd.isAgg43
  z72 := Tryd.sizeOf43
  v72 := Tryd.zeroValue43
  t127 := Tryd.underlying65
  a127 := Tryd.isAgg65
  z127 := Tryd.sizeOf65
  v127 := Tryd.zeroValue65 }
theorem Tryd.Builder_Extra_169 : Builder.Extra Tryd.prog Tryd.lays169_ren := {
  sizeBuilder := by kernel_rfl
  liesBuilder := by kernel_rfl
  t5 := Tryd.underlying5
  a5 := Tryd.isAgg5
  z5 := Tryd.sizeOf5
  v5 := Tryd.zeroValue5
  infoByte := by kernel_rfl
  cellsByte := by kernel_rfl
  sizeByte := by kernel_rfl
  neB5 := by decide }
open Go.RowKit in
theorem Tryd.Builder_Len_f (B b : Nat) (bs : List Value) (w : World) (h : Lib.IsBuilderF 43 5 B b bs w) :
    Calls Tryd.prog 37 #[.pointer (some ⟨b, 0, none⟩)] w fun e w' => e = .returned (.int .i64 bs.length) ∧ w' = w := Any.Builder_Len_f Tryd.lays170 B b bs w h
open Go.RowKit in
theorem Tryd.Builder_String_any_k (B b : Nat) (l : List UInt8) (w : World) (h : Lib.IsBuilderF 43 5 B b (Lib.byteCells l) w) (hBw : B ≤ w.heap.size) :
    Calls Tryd.prog 39 #[.pointer (some ⟨b, 0, none⟩)] w fun e w' => e = .returned (.string ⟨l.toArray⟩) ∧ (Lib.IsBuilderF 43 5 B b (Lib.byteCells l) w' ∧ Below B w w' ∧ Lib.OthersKept 5 (some b) w w') := Any.Builder_String_any_k Tryd.lays169 Tryd.Builder_Extra_169 B b l w h hBw
def Tryd.lays197_ren : Go.Shelf.Ren := ⟨fun | 197 => 49 | 260 => 59 | n => n, fun | 9 => 9 | 21 => 21 | 3 => 3 | 4 => 4 | 5 => 5 | 105 => 63 | 119 => 88 | 0 => 0 | 46 => 75 | 139 => 91 | 138 => 90 | n => n, fun | 3 => 0 | 4 => 1 | n => n⟩
theorem Tryd.lays197 : Go.Proofs.Lays.n197 Tryd.prog Tryd.lays197_ren := {
  mixed := by kernel_rfl
  f197 := Tryd.func49.trans (congrArg some (by kernel_rfl))
  f260 := Tryd.func59.trans (congrArg some (by kernel_rfl))
  t0 := Tryd.underlying0
  a0 := Tryd.isAgg0
  z0 := Tryd.sizeOf0
  v0 := Tryd.zeroValue0
  t3 := Tryd.underlying3
  a3 := Tryd.isAgg3
  z3 := Tryd.sizeOf3
  v3 := Tryd.zeroValue3
  t4 := Tryd.underlying4
  a4 := Tryd.isAgg4
  z4 := Tryd.sizeOf4
  v4 := Tryd.zeroValue4
  t5 := Tryd.underlying5
  a5 := Tryd.isAgg5
  z5 := Tryd.sizeOf5
  v5 := Tryd.zeroValue5
  t9 := Tryd.underlying9
  a9 := Tryd.isAgg9
  z9 := Tryd.sizeOf9
  v9 := Tryd.zeroValue9
  t21 := Tryd.underlying21
  a21 := Tryd.isAgg21
  z21 := Tryd.sizeOf21
  v21 := Tryd.zeroValue21
  t46 := Tryd.underlying75
  a46 := Tryd.isAgg75
  z46 := Tryd.sizeOf75
  v46 := Tryd.zeroValue75
  t105 := Tryd.underlying63
  a105 := Tryd.isAgg63
  z105 := Tryd.sizeOf63
  v105 := Tryd.zeroValue63
  t119 := Tryd.underlying88
  a119 := Tryd.isAgg88
  z119 := Tryd.sizeOf88
  t138 := Tryd.underlying90
  a138 := Tryd.isAgg90
  z138 := Tryd.sizeOf90
  v138 := Tryd.zeroValue90
  t139 := Tryd.underlying91
  a139 := Tryd.isAgg91
  z139 := Tryd.sizeOf91
  v139 := Tryd.zeroValue91
  g3 := by kernel_rfl
  g4 := by kernel_rfl }
def Tryd.lays260_ren : Go.Shelf.Ren := ⟨fun | 260 => 59 | n => n, fun | 9 => 9 | 21 => 21 | 3 => 3 | 4 => 4 | 5 => 5 | 119 => 88 | 0 => 0 | 46 => 75 | 139 => 91 | 138 => 90 | n => n, fun | 3 => 0 | 4 => 1 | n => n⟩
theorem Tryd.lays260 : Go.Proofs.Lays.n260 Tryd.prog Tryd.lays260_ren := {
  mixed := by kernel_rfl
  f260 := Tryd.func59.trans (congrArg some (by kernel_rfl))
  t0 := Tryd.underlying0
  a0 := Tryd.isAgg0
  z0 := Tryd.sizeOf0
  v0 := Tryd.zeroValue0
  t3 := Tryd.underlying3
  a3 := Tryd.isAgg3
  z3 := Tryd.sizeOf3
  v3 := Tryd.zeroValue3
  t4 := Tryd.underlying4
  a4 := Tryd.isAgg4
  z4 := Tryd.sizeOf4
  v4 := Tryd.zeroValue4
  t5 := Tryd.underlying5
  a5 := Tryd.isAgg5
  z5 := Tryd.sizeOf5
  v5 := Tryd.zeroValue5
  t9 := Tryd.underlying9
  a9 := Tryd.isAgg9
  z9 := Tryd.sizeOf9
  v9 := Tryd.zeroValue9
  t21 := Tryd.underlying21
  a21 := Tryd.isAgg21
  z21 := Tryd.sizeOf21
  v21 := Tryd.zeroValue21
  t46 := Tryd.underlying75
  a46 := Tryd.isAgg75
  z46 := Tryd.sizeOf75
  v46 := Tryd.zeroValue75
  t119 := Tryd.underlying88
  a119 := Tryd.isAgg88
  z119 := Tryd.sizeOf88
  t138 := Tryd.underlying90
  a138 := Tryd.isAgg90
  z138 := Tryd.sizeOf90
  v138 := Tryd.zeroValue90
  t139 := Tryd.underlying91
  a139 := Tryd.isAgg91
  z139 := Tryd.sizeOf91
  v139 := Tryd.zeroValue91
  g3 := by kernel_rfl
  g4 := by kernel_rfl }
open Go.RowKit Go.Lib in
theorem Tryd.utf8_DecodeRuneInString (s : ByteArray) (w : World) (hT : Lib.Utf8Tabs 0 1 w) :
    Calls Tryd.prog 49 #[.string s] w fun e w' => e = .returned (.tuple #[.int .i32 (Lib.decodeGo s).1, .int .i64 (Lib.decodeGo s).2]) ∧ Below w.heap.size w w' := Any.utf8_DecodeRuneInString Tryd.lays197 s w hT
end Go.Proofs
set_option linter.unusedVariables false
set_option linter.unusedSimpArgs false
namespace Go.Proofs.YtigikjihagmokaaDoor.Bld
open Go.RowKit

set_option maxHeartbeats 1000000 in
set_option maxRecDepth 100000 in
theorem check_fresh (B b : Nat) (bs : List Value) (w : World) (h : Lib.BuilderAtF 43 5 B b (.pointer none) bs w) :
    Calls Tryd.prog 50 #[.pointer (some ⟨b, 0, none⟩)] w fun e w' => e = .returned (.tuple #[]) ∧ w' = w.setCell ⟨b, 0, none⟩ (.pointer (some ⟨b, 0, none⟩)) := by
  have X := Tryd.Builder_Extra_169
  obtain ⟨j, hj, hjs⟩ := Option.map_eq_some_iff.1 X.sizeBuilder
  have h0 := h.cell0
  have hsh := h.shape
  have hfz := h.frozen0
  go_enter Tryd.func50, Tryd.ntmps50
  go_wp2
  rw [Lib.run_to_unsafe w ⟨b, 0, none⟩ Tryd.underlying40 Tryd.underlying72 hj (by rw [hjs]; decide) hsh (Nat.zero_lt_succ 1)]
  simp only [Result.andThen]
  rw [Oper.upon_value]
  go_wp2
  rw [run_callFunc_extern Tryd.func60 (by kernel_rfl) (by kernel_rfl) (by kernel_rfl) (e := Extern.AbiNoEscape.same) (by kernel_rfl)]
  rw [Lib.run_noEscape]
  simp only [Result.andThen]
  rw [Oper.upon_value]
  go_wp2
  rw [Lib.run_from_unsafe w ⟨b, 0, none⟩ Tryd.underlying72 Tryd.underlying40 hj hsh X.liesBuilder]
  simp only [Result.andThen]
  rw [Oper.upon_value]
  go_wp2
  go_end0
  exact ⟨rfl, rfl⟩
set_option maxHeartbeats 1000000 in
set_option maxRecDepth 100000 in
theorem check_used (B b : Nat) (bs : List Value) (w : World) (h : Lib.BuilderAtF 43 5 B b (.pointer (some ⟨b, 0, none⟩)) bs w) :
    Calls Tryd.prog 50 #[.pointer (some ⟨b, 0, none⟩)] w fun e w' => e = .returned (.tuple #[]) ∧ w' = w := by
  obtain ⟨j, hj, _⟩ := Option.map_eq_some_iff.1 (Tryd.Builder_Extra_169).sizeBuilder
  have h0 := h.cell0
  go_enter Tryd.func50, Tryd.ntmps50
  go_wp2
  rw [Lib.run_neq_ptr_same w _ Tryd.underlying40 hj]
  go_wp2
  go_end0
  exact ⟨rfl, rfl⟩
theorem check (B b : Nat) (bs : List Value) (w : World) (h : Lib.IsBuilderF 43 5 B b bs w) :
    Calls Tryd.prog 50 #[.pointer (some ⟨b, 0, none⟩)] w fun e w' => e = .returned (.tuple #[]) ∧ (Lib.BuilderAtF 43 5 B b (.pointer (some ⟨b, 0, none⟩)) bs w' ∧ Below B w w' ∧ Lib.OthersKept 5 (some b) w w') := by
  rcases h with h | h
  · refine (check_fresh B b bs w h).mono ?_
    rintro e w' ⟨rfl, rfl⟩
    exact ⟨rfl, h.used _, (Below.refl B w).setCell (p := ⟨b, 0, none⟩) h.1 _, (Lib.OthersKept.refl _ _ w).setCell ⟨b, 0, none⟩ rfl _⟩
  · refine (check_used B b bs w h).mono ?_
    rintro e w' ⟨rfl, rfl⟩
    exact ⟨rfl, h, Below.refl B _, Lib.OthersKept.refl _ _ _⟩

set_option maxHeartbeats 2000000 in
set_option maxRecDepth 100000 in
theorem writeString (B b : Nat) (bs : List Value) (s : ByteArray) (w : World) (h : Lib.IsBuilderF 43 5 B b bs w) (hlen : bs.length + s.size ≤ 140737488355328) (hBw : B ≤ w.heap.size) :
    Calls Tryd.prog 38 #[.pointer (some ⟨b, 0, none⟩), .string s] w fun e w' => e = .returned (.tuple #[.int .i64 s.size, .nilIface]) ∧ (Lib.BuilderAtF 43 5 B b (.pointer (some ⟨b, 0, none⟩)) (bs ++ Lib.strCells s) w' ∧ Below B w w' ∧ Lib.OthersKept 5 (some b) w w') := by
  have X := Tryd.Builder_Extra_169
  obtain ⟨i0, hi, hz0, hz1, hz2⟩ := info_parts X.infoByte
  go_enter Tryd.func38, Tryd.ntmps38
  go_wp2_with (go_at_call 50; refine (check B b bs _ h).mono ?_)
  rintro e w1 ⟨rfl, h1, hb1, hk1⟩
  obtain ⟨hB, v, hbk, hown, hne⟩ := h1
  have c0 : w1.cell? ⟨b, 0, none⟩ = some (.pointer (some ⟨b, 0, none⟩)) := by rw [Lib.cell_of_heap hbk]; rfl
  have c1 : w1.cell? ⟨b, 1, none⟩ = some v := by rw [Lib.cell_of_heap hbk]; rfl
  go_wp2_with (at_builtin; refine Lib.wpList_append_own_stringF _ rfl _ _ 41 9 rfl B 5 i0 Tryd.underlying41 Tryd.underlying9 hi hz0 hz1 hz2 _ _ _ rfl hown s rfl ?c3 ?c4 ?c5 ?_)
  case c3 => unfold maxLen; omega
  case c4 => omega
  case c5 => have := hb1.size; omega
  intro v' w2 hown' hgrow _
  have hlt : b < w1.heap.size := by
    rcases Nat.lt_or_ge b w1.heap.size with h' | h'
    · exact h'
    · simp [Array.getElem?_eq_none h'] at hbk
  have hb2 : w2.heap[b]? = some (.cells #[.pointer (some ⟨b, 0, none⟩), v] 43 (0, 0)) := by
    rw [hgrow.block b hlt (fun e => hne e.symm)]
    exact hbk
  have d0 : w2.cell? ⟨b, 0, none⟩ = some (.pointer (some ⟨b, 0, none⟩)) := by rw [Lib.cell_of_heap hb2]; rfl
  have d1 : w2.cell? ⟨b, 1, none⟩ = some v := by rw [Lib.cell_of_heap hb2]; rfl
  have f1 : w2.frozen? ⟨b, 1, none⟩ = false := Lib.frozen_of_heap hb2 1
  obtain ⟨ao, n', cap, rfl⟩ : ∃ ao n' cap, v' = .slice ao n' cap := by
    rcases hown'.2 with ⟨hv, _⟩ | ⟨g, cap, cur, fz, hv, _⟩
    · exact ⟨_, _, _, hv⟩
    · exact ⟨_, _, _, hv⟩
  go_wp2
  go_ret2
  refine ⟨rfl, ?_, ?_, (hk1.grown hgrow (Lib.ownsRowF_kind hown)).setCell ⟨b, 1, none⟩ rfl _⟩
  · exact Lib.BuilderAtF.put (T := 43) (e := 5) hB hb2 (bs' := bs ++ Lib.strCells s) (by simpa [Lib.strCells_length] using hown') (by decide)
  · exact (hb1.grown hgrow (by have := hb1.size; omega) (fun k hk => (hown.lt k hk).1)).setCell (p := ⟨b, 1, none⟩) hB _
end Go.Proofs.YtigikjihagmokaaDoor.Bld
namespace Go.Proofs.YtigikjihagmokaaDoor.Fill
open Go.RowKit Go.Proofs.YtigikjihagmokaaDoorW.PrintWords Go.Proofs.YtigikjihagmokaaDoorW.PrintLast Go.Proofs.YtigikjihagmokaaDoorW.PrintMore Go.Proofs.YtigikjihagmokaaDoor.Aid
set_option linter.unusedVariables false
set_option linter.unusedSimpArgs false
/-- What stands at a place: none: no piece; a piece, and the place behind it. -/
def piece (s : ByteArray) (l : List ByteArray) (x : Int) : Option (ByteArray × Int) :=
  if (s.extract x.toNat (x + 1).toNat).toList = ([123] : List UInt8) then
    if (s.size : Int) < x + 3 then none
    else if bt s (x + 2) ≠ 125 then none
    else if bt s (x + 1) < 48 then none
    else if 57 < bt s (x + 1) then none
    else if (l.length : Int) ≤ bt s (x + 1) - 48 then none
    else some (rdOf ByteArray.empty l (bt s (x + 1) - 48), x + 3)
  else some (s.extract x.toNat (x + 1).toNat, x + 1)
def go (s : ByteArray) (l : List ByteArray) : Nat → Int → List UInt8 → ByteArray × Int
  | 0, _, _ => (⟨#[]⟩, 11)
  | k + 1, x, acc => if x < (s.size : Int) then (match piece s l x with
      | none => (⟨#[]⟩, 11)
      | some (p, y) => if 1048576 - (acc.length : Int) < (p.size : Int) then (⟨#[]⟩, 2) else go s l k y (acc ++ p.data.toList)) else (⟨acc.toArray⟩, 0)
def f (s : ByteArray) (l : List ByteArray) : ByteArray × Int := if (s.size : Int) > 65536 then (⟨#[]⟩, 2) else go s l (s.size + 1) 0 []

theorem bytes_cells (s : ByteArray) : Lib.byteCells s.data.toList = Lib.strCells s := by
  simp [Lib.byteCells, Lib.strCells]
theorem w64' {x : Int} (h0 : -9223372036854775808 ≤ x) (h1 : x ≤ 9223372036854775807) : wrap64 x = x := by unfold wrap64; omega
set_option maxHeartbeats 4000000 in
set_option maxRecDepth 100000 in
theorem calls (a0 : ByteArray) (A1 : Option Addr) (c1 : Nat) (l1 : List ByteArray) (w : World) (hr1 : Kd.C Kd.string w A1 l1.length l1) (hc1 : l1.length ≤ c1) :
    Calls Tryd.prog 19 #[.string a0, .slice A1 l1.length c1] w fun e w' => e = .returned (.tuple #[.string (f a0 l1).1, .int .i64 (f a0 l1).2]) ∧ Below w.heap.size w w' := by
  have HR1 := Aside0.mk hr1
  have HC1 := Aside0.mk hc1
  clear hr1 hc1
  go_enter Tryd.func19, Tryd.ntmps19
  by_cases c : (a0.size : Int) > 65536
  · have cb : decide (65536 < (a0.size : Int)) = true := decide_eq_true c
    have e : f a0 l1 = (⟨#[]⟩, 2) := by unfold f; rw [if_pos c]
    clear c
    rw [e]
    go_wp2
    go_ret2
    exact ⟨rfl, Below.refl _ _⟩
  · have cb : decide (65536 < (a0.size : Int)) = false := decide_eq_false c
    have e : f a0 l1 = go a0 l1 (a0.size + 1) 0 [] := by unfold f; rw [if_neg c]
    have hsz : a0.size ≤ 65536 := by omega
    clear c
    go_wp2
    go_loopw [7] (fun i wr => ∃ (x : Int) (fuel : Nat) (acc : List UInt8), i = .int .i64 x ∧ Aside0 (Lib.IsBuilderF 43 5 w.heap.size w.heap.size (Lib.byteCells acc) wr) ∧ Aside0 (Below w.heap.size w wr) ∧ Aside0 (go a0 l1 fuel x acc = f a0 l1) ∧ Aside0 ((a0.size : Int) + 1 ≤ x + fuel) ∧ Aside0 (0 ≤ x ∧ x ≤ a0.size) ∧ Aside0 (acc.length ≤ 1048576)) (fun i _ => a0.size - (intOf i).toNat)
    case atStart =>
      refine ⟨0, a0.size + 1, [], rfl, ⟨?_⟩, ⟨?_⟩, ⟨e.symm⟩, ⟨by omega⟩, ⟨by omega⟩, ⟨by simp⟩⟩
      · have h1 := Lib.IsBuilderF.of (Lib.fresh_isBuilder 43 5 w)
        exact h1
      · exact (Below.refl _ w).alloc (Nat.le_refl _) _
    case round =>
      obtain ⟨x, fuel, acc, rfl, HI, HB, HG, HF, HJ, HL⟩ := hrel
      clear e
      by_cases hx : x < (a0.size : Int)
      · have b0 : decide (x < (a0.size : Int)) = true := decide_eq_true hx
        have HX := Aside0.mk hx
        obtain ⟨x1, hx1⟩ : ∃ x1 : Int, x + 1 = x1 := ⟨_, rfl⟩
        obtain ⟨x2, hx2⟩ : ∃ x2 : Int, x + 2 = x2 := ⟨_, rfl⟩
        obtain ⟨x3, hx3⟩ : ∃ x3 : Int, x + 3 = x3 := ⟨_, rfl⟩
        have HX1 : Aside0 (x1 = x + 1 ∧ x3 = x + 3 ∧ x < (a0.size : Int)) := ⟨hx1.symm, hx3.symm, hx⟩
        have hj := HJ.out
        have W1 : Aside0 (IntKind.i64.wrap (x + 1) = x1) := ⟨by rw [i64_w, w64' (by omega) (by omega)]; exact hx1⟩
        have W2 : Aside0 (IntKind.i64.wrap (x + 2) = x2) := ⟨by rw [i64_w, w64' (by omega) (by omega)]; exact hx2⟩
        have W3 : Aside0 (IntKind.i64.wrap (x + 3) = x3) := ⟨by rw [i64_w, w64' (by omega) (by omega)]; exact hx3⟩
        have W4 : Aside0 (IntKind.i64.wrap (x2 + 1) = x3) := ⟨by rw [i64_w, w64' (by omega) (by omega)]; omega⟩
        have c0 := eq_true hj.1
        have c1' : (x ≤ x1) = True := eq_true (by omega)
        have c2' : (x1 ≤ (a0.size : Int)) = True := eq_true (by omega)
        have d0 : decide (0 ≤ x) = true := decide_eq_true hj.1
        have d1 : decide (x ≤ x1) = true := decide_eq_true (by omega)
        have d2 : decide (x1 ≤ (a0.size : Int)) = true := decide_eq_true (by omega)
        by_cases h1 : (a0.extract x.toNat x1.toNat).toList = ([123] : List UInt8)
        · have e1 : ((a0.extract x.toNat x1.toNat).toList == ([123] : List UInt8)) = true := beq_iff_eq.mpr h1
          by_cases h2 : (a0.size : Int) < x3
          · have e2 : decide ((a0.size : Int) < x3) = true := decide_eq_true h2
            have HPc : Aside0 (piece a0 l1 x = none) := ⟨by unfold piece; rw [hx1, if_pos h1, hx3, if_pos h2]⟩
            clear h2
            have HR : Aside0 (f a0 l1 = (⟨#[]⟩, 11)) := ⟨by
              rw [← HG.out]
              obtain ⟨k, rfl⟩ : ∃ k, fuel = k + 1 := ⟨fuel - 1, by have := HF.out; have := HJ.out; omega⟩
              simp only [go]; rw [if_pos HX.out, HPc.out]⟩
            clear h1 hx hj hx1 hx2 hx3
            have w1 := W1.out; have w2 := W2.out; have w3 := W3.out; have w4 := W4.out
            go_wp2
            go_ret2
            exact ⟨by rw [HR.out]; rfl, HB.out⟩
          · have e2 : decide ((a0.size : Int) < x3) = false := decide_eq_false h2
            have p2 : (0 ≤ x2) = True := eq_true (by omega)
            have q2 : (x2 < (a0.size : Int)) = True := eq_true (by omega)
            have p1 : (0 ≤ x1) = True := eq_true (by omega)
            have q1 : (x1 < (a0.size : Int)) = True := eq_true (by omega)
            have b2 := bt_at a0 x2
            have b1 := bt_at a0 x1
            have r1 := bt_range a0 x1
            by_cases h3 : bt a0 x2 ≠ 125
            · have e3 : (bt a0 x2 != 125) = true := bne_iff_ne.mpr h3
              have HPc : Aside0 (piece a0 l1 x = none) := ⟨by unfold piece; rw [hx1, if_pos h1, hx3, if_neg h2, hx2, if_pos h3]⟩
              clear h2 h3
              have HR : Aside0 (f a0 l1 = (⟨#[]⟩, 11)) := ⟨by
                rw [← HG.out]
                obtain ⟨k, rfl⟩ : ∃ k, fuel = k + 1 := ⟨fuel - 1, by have := HF.out; have := HJ.out; omega⟩
                simp only [go]; rw [if_pos HX.out, HPc.out]⟩
              clear h1 hx hj hx1 hx2 hx3
              have w1 := W1.out; have w2 := W2.out; have w3 := W3.out; have w4 := W4.out
              go_wp2
              go_ret2
              exact ⟨by rw [HR.out]; rfl, HB.out⟩
            · have e3 : (bt a0 x2 != 125) = false := bne_eq_false_iff_eq.mpr (Classical.not_not.1 h3)
              by_cases h4 : bt a0 x1 < 48
              · have e4 : decide (bt a0 x1 < 48) = true := decide_eq_true h4
                have HPc : Aside0 (piece a0 l1 x = none) := ⟨by unfold piece; rw [hx1, if_pos h1, hx3, if_neg h2, hx2, if_neg h3, if_pos h4]⟩
                clear h2 h3 h4 r1
                have HR : Aside0 (f a0 l1 = (⟨#[]⟩, 11)) := ⟨by
                  rw [← HG.out]
                  obtain ⟨k, rfl⟩ : ∃ k, fuel = k + 1 := ⟨fuel - 1, by have := HF.out; have := HJ.out; omega⟩
                  simp only [go]; rw [if_pos HX.out, HPc.out]⟩
                clear h1 hx hj hx1 hx2 hx3
                have w1 := W1.out; have w2 := W2.out; have w3 := W3.out; have w4 := W4.out
                go_wp2
                go_ret2
                exact ⟨by rw [HR.out]; rfl, HB.out⟩
              · have e4 : decide (bt a0 x1 < 48) = false := decide_eq_false h4
                by_cases h5 : 57 < bt a0 x1
                · have e5 : decide (57 < bt a0 x1) = true := decide_eq_true h5
                  have HPc : Aside0 (piece a0 l1 x = none) := ⟨by unfold piece; rw [hx1, if_pos h1, hx3, if_neg h2, hx2, if_neg h3, if_neg h4, if_pos h5]⟩
                  clear h2 h3 h4 h5 r1
                  have HR : Aside0 (f a0 l1 = (⟨#[]⟩, 11)) := ⟨by
                    rw [← HG.out]
                    obtain ⟨k, rfl⟩ : ∃ k, fuel = k + 1 := ⟨fuel - 1, by have := HF.out; have := HJ.out; omega⟩
                    simp only [go]; rw [if_pos HX.out, HPc.out]⟩
                  clear h1 hx hj hx1 hx2 hx3
                  have w1 := W1.out; have w2 := W2.out; have w3 := W3.out; have w4 := W4.out
                  go_wp2
                  go_ret2
                  exact ⟨by rw [HR.out]; rfl, HB.out⟩
                · have e5 : decide (57 < bt a0 x1) = false := decide_eq_false h5
                  obtain ⟨n, hn⟩ : ∃ n : Int, (bt a0 x1 - 48) % 256 = n := ⟨_, rfl⟩
                  have hn2 : bt a0 x1 - 48 = n := by omega
                  by_cases h6 : (l1.length : Int) ≤ n
                  · have e6 : decide ((l1.length : Int) ≤ n) = true := decide_eq_true h6
                    have HPc : Aside0 (piece a0 l1 x = none) := ⟨by unfold piece; rw [hx1, if_pos h1, hx3, if_neg h2, hx2, if_neg h3, if_neg h4, if_neg h5, hn2, if_pos h6]⟩
                    clear h2 h3 h4 h5 h6 r1 hn2
                    have HR : Aside0 (f a0 l1 = (⟨#[]⟩, 11)) := ⟨by
                      rw [← HG.out]
                      obtain ⟨k, rfl⟩ : ∃ k, fuel = k + 1 := ⟨fuel - 1, by have := HF.out; have := HJ.out; omega⟩
                      simp only [go]; rw [if_pos HX.out, HPc.out]⟩
                    clear h1 hx hj hx1 hx2 hx3
                    have w1 := W1.out; have w2 := W2.out; have w3 := W3.out; have w4 := W4.out
                    go_wp2
                    go_ret2
                    exact ⟨by rw [HR.out]; rfl, HB.out⟩
                  · have e6 : decide ((l1.length : Int) ≤ n) = false := decide_eq_false h6
                    obtain ⟨ad, ead, had⟩ := Kd.at_string HR1.out n (by omega) (by omega)
                    cases ead
                    replace had := (HB.out.cell (World.block_lt_of_cell? w _ had)).trans had
                    have p3 : (0 ≤ n) = True := eq_true (by omega)
                    have q3 : (n < (l1.length : Int)) = True := eq_true (by omega)
                    have HPc : Aside0 (piece a0 l1 x = some (rdOf ByteArray.empty l1 n, x3)) := ⟨by unfold piece; rw [hx1, if_pos h1, hx3, if_neg h2, hx2, if_neg h3, if_neg h4, if_neg h5, hn2, if_neg h6]⟩
                    have HY : Aside0 (x3 ≤ (a0.size : Int)) := ⟨by omega⟩
                    clear h2 h3 h4 h5 h6 r1 hn2
                    obtain ⟨m, Hm⟩ : ∃ m : Int, Aside0 (m = 1048576 - (acc.length : Int)) := ⟨_, ⟨rfl⟩⟩
                    have HM : Aside0 (IntKind.i64.wrap (1048576 - ((Lib.byteCells acc).length : Int)) = m) := ⟨by rw [i64_w, Lib.byteCells_length, w64' (by have := HL.out; omega) (by omega)]; exact Hm.out.symm⟩
                    have hI := HI.out
                    have hsize : w.heap.size ≤ wr.heap.size := HB.out.size
                    clear h1 hx hj hx1 hx2 hx3
                    by_cases h7 : m < ((rdOf ByteArray.empty l1 n).size : Int)
                    · have e7 : decide (m < ((rdOf ByteArray.empty l1 n).size : Int)) = true := decide_eq_true h7
                      have HR : Aside0 (f a0 l1 = (⟨#[]⟩, 2)) := ⟨by
                        rw [← HG.out]
                        obtain ⟨k, rfl⟩ : ∃ k, fuel = k + 1 := ⟨fuel - 1, by have := HF.out; have := HJ.out; omega⟩
                        simp only [go]; rw [if_pos HX.out, HPc.out]; simp only []; rw [if_pos (by have := Hm.out; omega)]⟩
                      clear h7
                      have w1 := W1.out; have w2 := W2.out; have w3 := W3.out; have w4 := W4.out; have hm := HM.out
                      go_wp2_with (go_at_call 37; refine (Tryd.Builder_Len_f w.heap.size w.heap.size _ _ hI).mono ?_)
                      rintro e W1 ⟨rfl, rfl⟩
                      go_wp2
                      go_ret2
                      exact ⟨by rw [HR.out]; rfl, HB.out⟩
                    · have e7 : decide (m < ((rdOf ByteArray.empty l1 n).size : Int)) = false := decide_eq_false h7
                      have HS : Aside0 (acc.length + (rdOf ByteArray.empty l1 n).size ≤ 1048576) := ⟨by have := Hm.out; omega⟩
                      have HSl : Aside0 ((Lib.byteCells acc).length + (rdOf ByteArray.empty l1 n).size ≤ 140737488355328) := ⟨by rw [Lib.byteCells_length]; have := HS.out; omega⟩
                      clear h7
                      have w1 := W1.out; have w2 := W2.out; have w3 := W3.out; have w4 := W4.out; have hm := HM.out
                      go_wp2_with (go_at_call 37; refine (Tryd.Builder_Len_f w.heap.size w.heap.size _ _ hI).mono ?_)
                      rintro e W1 ⟨rfl, rfl⟩
                      go_wp2_with (go_at_call 38; refine (Bld.writeString w.heap.size w.heap.size _ (rdOf ByteArray.empty l1 n) _ hI HSl.out hsize).mono ?_)
                      rintro e W1 ⟨rfl, g1, g2, _⟩
                      go_wp2
                      go_roundw
                      case rel =>
                        clear w1 w2 w3 w4 hm
                        obtain ⟨k, rfl⟩ : ∃ k, fuel = k + 1 := ⟨fuel - 1, by have := HF.out; have := HJ.out; omega⟩
                        refine ⟨x3, k, acc ++ (rdOf ByteArray.empty l1 n).data.toList, rfl, ⟨.inr ?_⟩, ⟨HB.out.trans g2⟩, ⟨?_⟩, ⟨by have := HF.out; have := HX1.out; omega⟩, ⟨by have := HX1.out; have := HJ.out; have := HY.out; omega⟩, ⟨by have := HS.out; simp only [List.length_append, Array.length_toList]; exact this⟩⟩
                        · rw [Lib.byteCells_append, bytes_cells]; exact g1
                        · have := HG.out
                          simp only [go] at this
                          rw [if_pos HX.out, HPc.out] at this
                          simp only [] at this
                          rw [if_neg (by have := HS.out; omega)] at this
                          exact this
                      case measure => clear w1 w2 w3 w4 hm; have := HX1.out; have := HJ.out; simp only [intOf]; omega
        · have e1 : ((a0.extract x.toNat x1.toNat).toList == ([123] : List UInt8)) = false := beq_eq_false_iff_ne.mpr h1
          have HPc : Aside0 (piece a0 l1 x = some (a0.extract x.toNat x1.toNat, x1)) := ⟨by unfold piece; rw [hx1, if_neg h1]⟩
          have HY : Aside0 (x1 ≤ (a0.size : Int)) := ⟨by omega⟩
          have HZ : Aside0 ((a0.extract x.toNat x1.toNat).size = x1.toNat - x.toNat) := ⟨by rw [ByteArray.size_extract]; omega⟩
          obtain ⟨m, Hm⟩ : ∃ m : Int, Aside0 (m = 1048576 - (acc.length : Int)) := ⟨_, ⟨rfl⟩⟩
          have HM : Aside0 (IntKind.i64.wrap (1048576 - ((Lib.byteCells acc).length : Int)) = m) := ⟨by rw [i64_w, Lib.byteCells_length, w64' (by have := HL.out; omega) (by omega)]; exact Hm.out.symm⟩
          have hI := HI.out
          have hsize : w.heap.size ≤ wr.heap.size := HB.out.size
          clear h1 hx hj hx1 hx2 hx3
          by_cases h7 : m < ((a0.extract x.toNat x1.toNat).size : Int)
          · have e7 : decide (m < ((a0.extract x.toNat x1.toNat).size : Int)) = true := decide_eq_true h7
            have e7z : decide (m < ((x1.toNat - x.toNat : Nat) : Int)) = true := by rw [← HZ.out]; exact e7
            have HR : Aside0 (f a0 l1 = (⟨#[]⟩, 2)) := ⟨by
              rw [← HG.out]
              obtain ⟨k, rfl⟩ : ∃ k, fuel = k + 1 := ⟨fuel - 1, by have := HF.out; have := HJ.out; omega⟩
              simp only [go]; rw [if_pos HX.out, HPc.out]; simp only []; rw [if_pos (by have := Hm.out; omega)]⟩
            clear h7
            have w1 := W1.out; have w2 := W2.out; have w3 := W3.out; have w4 := W4.out; have hm := HM.out
            go_wp2_with (go_at_call 37; refine (Tryd.Builder_Len_f w.heap.size w.heap.size _ _ hI).mono ?_)
            rintro e W1 ⟨rfl, rfl⟩
            go_wp2
            go_ret2
            exact ⟨by rw [HR.out]; rfl, HB.out⟩
          · have e7 : decide (m < ((a0.extract x.toNat x1.toNat).size : Int)) = false := decide_eq_false h7
            have e7z : decide (m < ((x1.toNat - x.toNat : Nat) : Int)) = false := by rw [← HZ.out]; exact e7
            have HS : Aside0 (acc.length + (a0.extract x.toNat x1.toNat).size ≤ 1048576) := ⟨by have := Hm.out; omega⟩
            have HSl : Aside0 ((Lib.byteCells acc).length + (a0.extract x.toNat x1.toNat).size ≤ 140737488355328) := ⟨by rw [Lib.byteCells_length]; have := HS.out; omega⟩
            clear h7
            have w1 := W1.out; have w2 := W2.out; have w3 := W3.out; have w4 := W4.out; have hm := HM.out
            go_wp2_with (go_at_call 37; refine (Tryd.Builder_Len_f w.heap.size w.heap.size _ _ hI).mono ?_)
            rintro e W1 ⟨rfl, rfl⟩
            go_wp2_with (go_at_call 38; refine (Bld.writeString w.heap.size w.heap.size _ (a0.extract x.toNat x1.toNat) _ hI HSl.out hsize).mono ?_)
            rintro e W1 ⟨rfl, g1, g2, _⟩
            go_wp2
            go_roundw
            case rel =>
              clear w1 w2 w3 w4 hm
              obtain ⟨k, rfl⟩ : ∃ k, fuel = k + 1 := ⟨fuel - 1, by have := HF.out; have := HJ.out; omega⟩
              refine ⟨x1, k, acc ++ (a0.extract x.toNat x1.toNat).data.toList, rfl, ⟨.inr ?_⟩, ⟨HB.out.trans g2⟩, ⟨?_⟩, ⟨by have := HF.out; have := HX1.out; omega⟩, ⟨by have := HX1.out; have := HJ.out; have := HY.out; omega⟩, ⟨by have := HS.out; simp only [List.length_append, Array.length_toList]; exact this⟩⟩
              · rw [Lib.byteCells_append, bytes_cells]; exact g1
              · have := HG.out
                simp only [go] at this
                rw [if_pos HX.out, HPc.out] at this
                simp only [] at this
                rw [if_neg (by have := HS.out; omega)] at this
                exact this
            case measure => clear w1 w2 w3 w4 hm; have := HX1.out; have := HJ.out; simp only [intOf]; omega
      · have b0 : decide (x < (a0.size : Int)) = false := decide_eq_false hx
        have hr : f a0 l1 = (⟨acc.toArray⟩, 0) := by
          rw [← HG.out]
          cases fuel with
          | zero => have := HF.out; have := HJ.out; omega
          | succ k => simp only [go]; rw [if_neg hx]
        have HR := Aside0.mk hr
        clear hr hx
        have hI := HI.out
        have hsize : w.heap.size ≤ wr.heap.size := HB.out.size
        go_wp2_with (go_at_call 39; refine (Tryd.Builder_String_any_k w.heap.size w.heap.size acc _ hI (by omega)).mono ?_)
        rintro e W1 ⟨rfl, _, b1, _⟩
        go_wp2
        go_ret2
        exact ⟨by rw [HR.out]; rfl, HB.out.trans b1⟩
end Go.Proofs.YtigikjihagmokaaDoor.Fill
namespace Go.Proofs.YtigikjihagmokaaDoor.IdentN
open Go.RowKit Go.Proofs.YtigikjihagmokaaDoorW.PrintWords Go.Proofs.YtigikjihagmokaaDoorW.PrintLast Go.Proofs.YtigikjihagmokaaDoorW.PrintMore
set_option linter.unusedVariables false
set_option linter.unusedSimpArgs false
set_option maxHeartbeats 4000000 in
set_option maxRecDepth 100000 in
theorem space (w : World) : Calls Tryd.prog 12 #[.int .i32 110] w fun e w' => e = .returned (.bool false) ∧ w' = w := by
  go_enter Tryd.func12, Tryd.ntmps12
  go_wp2
  go_ret
  exact ⟨rfl, rfl⟩
set_option maxHeartbeats 4000000 in
set_option maxRecDepth 100000 in
theorem syntax_ (w : World) : Calls Tryd.prog 14 #[.int .i32 110] w fun e w' => e = .returned (.bool false) ∧ w' = w := by
  go_enter Tryd.func14, Tryd.ntmps14
  go_wp2
  go_ret
  exact ⟨rfl, rfl⟩
set_option maxHeartbeats 4000000 in
set_option maxRecDepth 100000 in
theorem stray (s : ByteArray) (i : Int) (w : World) : Calls Tryd.prog 33 #[.string s, .int .i64 i, .int .i32 110] w fun e w' => e = .returned (.bool false) ∧ w' = w := by
  go_enter Tryd.func33, Tryd.ntmps33
  go_wp2
  go_ret
  exact ⟨rfl, rfl⟩
theorem dec (pos : Nat) (h : pos < (⟨#[110]⟩ : ByteArray).size) : pos = 0 ∧ Utf8.decode (⟨#[110]⟩ : ByteArray) pos = (110, 1) := by
  have h0 : pos = 0 := by
    have : (⟨#[110]⟩ : ByteArray).size = 1 := rfl
    omega
  subst h0
  have ha : ((⟨#[110]⟩ : ByteArray)[0]'h).toNat < 128 := by show (110 : Nat) < 128; omega
  exact ⟨rfl, decode_ascii _ 0 h ha⟩
set_option maxHeartbeats 4000000 in
set_option maxRecDepth 100000 in
theorem calls (w : World) : Calls Tryd.prog 17 #[.string ⟨#[110]⟩] w fun e w' => e = .returned (.int .i64 1) ∧ Below w.heap.size w w' := by
  go_enter Tryd.func17, Tryd.ntmps17
  go_wp2
  go_loopw [] (fun wr => ∃ (pos : Nat), wr.heap[w.heap.size]? = some (.stringIter ⟨#[110]⟩ pos) ∧ Below w.heap.size w wr) (fun wr => 1 - wr.iterPos w.heap.size)
  case atStart =>
    refine ⟨0, ?_, (Below.refl _ w).alloc (Nat.le_refl _) _⟩
    have := World.iter_heap w (⟨#[110]⟩ : ByteArray) 0
    simpa using this
  case round =>
    obtain ⟨pos, hit, hbw⟩ := hrel
    have hsz : w.heap.size < wr.heap.size := (Array.getElem?_eq_some_iff.1 hit).1
    by_cases hp : pos < (⟨#[110]⟩ : ByteArray).size
    · obtain ⟨h0, hd⟩ := dec pos hp
      have hnx : ∀ ty, (Instr.next (.pointer (some ⟨w.heap.size, 0, none⟩)) true ty).run Tryd.prog wr = _ := fun ty => Lib.run_next_any_at wr w.heap.size _ pos ty hit hp
      have hit2 := Lib.iterAt_heap wr w.heap.size _ pos (pos + (Utf8.decode (⟨#[110]⟩ : ByteArray) pos).2) hit
      have hbw2 := Lib.below_iterAt hbw (k := w.heap.size) (by omega) (⟨#[110]⟩ : ByteArray) (pos + (Utf8.decode (⟨#[110]⟩ : ByteArray) pos).2)
      rw [hd] at hnx hit2 hbw2
      subst h0
      go_wp2_with (first | (go_at_call 12; refine (space _).mono ?_; rintro e W1 ⟨rfl, rfl⟩) | (go_at_call 14; refine (syntax_ _).mono ?_; rintro e W1 ⟨rfl, rfl⟩) | (go_at_call 33; refine (stray _ _ _).mono ?_; rintro e W1 ⟨rfl, rfl⟩))
      go_roundw
      case rel => exact ⟨_, hit2, hbw2⟩
      case measure => simp only [World.iterPos, hit2, hit]; omega
    · have hnx : ∀ ty, (Instr.next (.pointer (some ⟨w.heap.size, 0, none⟩)) true ty).run Tryd.prog wr = _ := fun ty => Lib.run_next_end_at wr w.heap.size _ pos ty hit hp
      go_wp2
      go_ret
      exact ⟨rfl, hbw⟩
end Go.Proofs.YtigikjihagmokaaDoor.IdentN
namespace Go.Proofs.YtigikjihagmokaaDoor.F
open Go.RowKit Go.Proofs.YtigikjihagmokaaDoorW.PrintWords Go.Proofs.YtigikjihagmokaaDoorW.PrintLast Go.Proofs.YtigikjihagmokaaDoorW.PrintMore Go.Proofs.YtigikjihagmokaaDoor.Q
attribute [local go_sem] max2_int min2_int max_two min_two max_three min_three max_four min_four   -- for this text's walks alone
set_option linter.unusedVariables false
set_option linter.unusedSimpArgs false

/-- At the one text that 'awake' asks of. -/
def runes_Ident.f (a0 : ByteArray) : Option (Int) := if a0.toList = [110] then some 1 else none
theorem runes_Ident.calls (a0 : ByteArray) (r : Int) (w : World) (h : runes_Ident.f a0 = some r) :
 Calls Tryd.prog 17 #[.string a0] w fun e w' => e = .returned (.int .i64 r) ∧ Below w.heap.size w w' := by
 unfold runes_Ident.f at h
 split at h
 · rename_i ha
   have e : a0 = ⟨#[110]⟩ := by
    obtain ⟨⟨l⟩⟩ := a0
    rw [ByteArray.toList_eq] at ha
    simp at ha
    rw [ha]
   obtain rfl := Option.some.inj h
   subst e
   exact IdentN.calls w
 · cases h

def runes_Fill.f (a0 : ByteArray) (l1 : List ByteArray) : Option (ByteArray × Int) := some (Fill.f a0 l1)
theorem runes_Fill.calls (a0 : ByteArray) (A1 : Option Addr) (c1 : Nat) (l1 : List ByteArray) (r1 : ByteArray) (r2 : Int) (w : World) (hr1 : Kd.C Kd.string w A1 l1.length l1) (hc1 : l1.length ≤ c1) (h : runes_Fill.f a0 l1 = some (r1, r2)) :
 Calls Tryd.prog 19 #[.string a0, .slice A1 l1.length c1] w fun e w' => e = .returned (.tuple #[.string r1, .int .i64 r2]) ∧ Below w.heap.size w w' := by
 have e : Fill.f a0 l1 = (r1, r2) := Option.some.inj h
 have c := Fill.calls a0 A1 c1 l1 w hr1 hc1
 rw [e] at c
 exact c

def idiomlaw01_awake.f  : Option (Bool) := (runes_Fill.f (⟨#[123, 49, 125, 45, 123, 48, 125]⟩ : ByteArray) (([(⟨#[97]⟩ : ByteArray), (⟨#[98]⟩ : ByteArray)] : List ByteArray))).bind fun bt114 => (if bt114.1.toList = ([98, 45, 97] : List UInt8) then (if bt114.2 = 0 then ((runes_Ident.f (⟨#[110]⟩ : ByteArray)).bind fun t116 => (some (t116 == 1))) else (some false)) else (some false))
set_option maxHeartbeats 8000000 in
set_option maxRecDepth 100000 in
theorem idiomlaw01_awake.calls  (r : Bool) (w : World) (h : idiomlaw01_awake.f  = some r) :
 Calls Tryd.prog 16 #[] w fun e w' => e = .returned (.bool r) ∧ Below w.heap.size w w' := by
 have HB := Aside0.mk (Below.refl w.heap.size w)
 have H : ((runes_Fill.f (⟨#[123, 49, 125, 45, 123, 48, 125]⟩ : ByteArray) (([(⟨#[97]⟩ : ByteArray), (⟨#[98]⟩ : ByteArray)] : List ByteArray))).bind fun bt114 => (if bt114.1.toList = ([98, 45, 97] : List UInt8) then (if bt114.2 = 0 then ((runes_Ident.f (⟨#[110]⟩ : ByteArray)).bind fun t116 => (some (t116 == 1))) else (some false)) else (some false))) = some r := h
 clear h
 obtain ⟨y111, hy111⟩ : ∃ y_ : List ByteArray, y_ = (([(⟨#[97]⟩ : ByteArray), (⟨#[98]⟩ : ByteArray)] : List ByteArray)) := ⟨_, rfl⟩
 replace H : ((runes_Fill.f (⟨#[123, 49, 125, 45, 123, 48, 125]⟩ : ByteArray) y111).bind fun bt114 => (if bt114.1.toList = ([98, 45, 97] : List UInt8) then (if bt114.2 = 0 then ((runes_Ident.f (⟨#[110]⟩ : ByteArray)).bind fun t116 => (some (t116 == 1))) else (some false)) else (some false))) = some r := by first | (rw [hy111]; with_reducible exact H) | (have H2_ := (Option.bind_some _ _).symm.trans H; rw [hy111]; with_reducible exact H2_) | (have H2_ := (Option.bind_some _ _).symm.trans H; with_reducible exact H2_) | with_reducible exact H | (rw [hy111]; exact H) | exact H
 have Ny111 := Aside0.mk hy111
 clear hy111
 replace H := Option.bind_eq_some_iff.mp H
 obtain ⟨⟨t114, t115⟩, A10, H⟩ := H
 replace H : (if t114.toList = ([98, 45, 97] : List UInt8) then (if t115 = 0 then ((runes_Ident.f (⟨#[110]⟩ : ByteArray)).bind fun t116 => (some (t116 == 1))) else (some false)) else (some false)) = some r := H
 have A1 := Aside0.mk A10
 clear A10
 by_cases c2 : t114.toList = ([98, 45, 97] : List UInt8)
 · rw [if_pos c2] at H
   have c2b0 : (t114.toList == ([98, 45, 97] : List UInt8)) = true := beq_iff_eq.mpr c2
   have c2b1 : (t114.toList != ([98, 45, 97] : List UInt8)) = false := bne_eq_false_iff_eq.mpr c2
   clear c2
   by_cases c3 : t115 = 0
   · rw [if_pos c3] at H
     have c3b0 : (t115 == 0) = true := beq_iff_eq.mpr c3
     have c3b1 : (t115 != 0) = false := bne_eq_false_iff_eq.mpr c3
     try have c3b1z := c3b1
     (try simp only [bne] at c3b1z)
     clear c3
     replace H := Option.bind_eq_some_iff.mp H
     obtain ⟨t116, A40, H⟩ := H
     replace H : (some (t116 == 1)) = some r := H
     have A4 := Aside0.mk A40
     clear A40
     obtain rfl := Option.some.inj H
     go_enter Tryd.func16, Tryd.ntmps16
     go_wp2_with (first | ((with_reducible refine gate_dst (N := 4) rfl ?_); refine Kd.R_lit Kd.string _ 9 ?hg (N := 4) ?hd (xs := ([(⟨#[97]⟩ : ByteArray), (⟨#[98]⟩ : ByteArray)] : List ByteArray)) (inner := [.string (⟨#[97]⟩ : ByteArray), .string (⟨#[98]⟩ : ByteArray)]) (ok := fun _ => True) (okp := fun _ => True) ?hr ?hp (fun _ hk => hk) trivial (Below.refl _ _) (Nat.le_refl _) (by simp) ?_; (case hd => rfl); (case hg => rfl); (case hr => first | (go_simp; done) | (go_simp; rfl)); (case hp => exact (Reps.one (show Kd.M Kd.string _ _ _ (⟨#[97]⟩ : ByteArray) [.string (⟨#[97]⟩ : ByteArray)] from rfl) (Reps.one (show Kd.M Kd.string _ _ _ (⟨#[98]⟩ : ByteArray) [.string (⟨#[98]⟩ : ByteArray)] from rfl) (Reps.none _ _)))); intro v112 w5 ho6 hb hg_ hnew_; clear hg_ hnew_; (first | rw [← Ny111.out] at ho6 | (simp only [Int.reduceToNat] at ho6; rw [← Ny111.out] at ho6)); have HO113 := Aside0.mk (Kd.R_lower ho6 (below_size (qh HB))); replace HB := qn HB hb; clear hb ho6; obtain ⟨Ao7, co7, eo7⟩ := Kd.R_slice HO113.out; subst eo7) | ((with_reducible refine gate_callee (f := 19) rfl ?_); refine goesL_ (some 5) rfl rfl Tryd.func19 (by kernel_rfl) rfl #[.string (⟨#[123, 49, 125, 45, 123, 48, 125]⟩ : ByteArray), .slice Ao7 y111.length co7] rfl ql ?_; (with_reducible refine (runes_Fill.calls (⟨#[123, 49, 125, 45, 123, 48, 125]⟩ : ByteArray) _ _ y111 t114 t115 _ ?side1 ?side2 A1.out).mono ?_); (case side1 => repeat (first | exact (Kd.R_reads' HO113.out).2.2 | (with_reducible refine Kd.C_alloc ?_ _) | (with_reducible refine Kd.C_drewN ?_ _) | (with_reducible refine Kd.C_drew ?_))); (case side2 => exact (Kd.R_reads' HO113.out).2.1); rintro e w8 ⟨rfl, hb⟩; refine ⟨_, rfl, ?_⟩; replace HO113 := Aside0.mk (Kd.R_below (by (with_reducible repeat (first | apply Kd.R_alloc | apply Kd.R_drewN | apply Kd.R_drew)); exact HO113.out) hb); replace HB := qn HB hb; (try clear hb); (try clear hb2); (try clear hk); (try clear hi)) | (go_at_call 17; (with_reducible refine (runes_Ident.calls (⟨#[110]⟩ : ByteArray) t116 _ A4.out).mono ?_); rintro e w9 ⟨rfl, hb⟩; replace HO113 := Aside0.mk (Kd.R_below (by (with_reducible repeat (first | apply Kd.R_alloc | apply Kd.R_drewN | apply Kd.R_drew)); exact HO113.out) hb); replace HB := qn HB hb; (try clear hb); (try clear hb2); (try clear hk); (try clear hi)))
     go_ret
     exact ⟨qe, qh HB⟩
   · rw [if_neg c3] at H
     have c3b0 : (t115 == 0) = false := beq_eq_false_iff_ne.mpr c3
     have c3b1 : (t115 != 0) = true := bne_iff_ne.mpr c3
     try have c3b1z := c3b1
     (try simp only [bne] at c3b1z)
     obtain rfl := Option.some.inj H
     go_enter Tryd.func16, Tryd.ntmps16
     go_wp2_with (first | ((with_reducible refine gate_dst (N := 4) rfl ?_); refine Kd.R_lit Kd.string _ 9 ?hg (N := 4) ?hd (xs := ([(⟨#[97]⟩ : ByteArray), (⟨#[98]⟩ : ByteArray)] : List ByteArray)) (inner := [.string (⟨#[97]⟩ : ByteArray), .string (⟨#[98]⟩ : ByteArray)]) (ok := fun _ => True) (okp := fun _ => True) ?hr ?hp (fun _ hk => hk) trivial (Below.refl _ _) (Nat.le_refl _) (by simp) ?_; (case hd => rfl); (case hg => rfl); (case hr => first | (go_simp; done) | (go_simp; rfl)); (case hp => exact (Reps.one (show Kd.M Kd.string _ _ _ (⟨#[97]⟩ : ByteArray) [.string (⟨#[97]⟩ : ByteArray)] from rfl) (Reps.one (show Kd.M Kd.string _ _ _ (⟨#[98]⟩ : ByteArray) [.string (⟨#[98]⟩ : ByteArray)] from rfl) (Reps.none _ _)))); intro v112 w10 ho11 hb hg_ hnew_; clear hg_ hnew_; (first | rw [← Ny111.out] at ho11 | (simp only [Int.reduceToNat] at ho11; rw [← Ny111.out] at ho11)); have HO113 := Aside0.mk (Kd.R_lower ho11 (below_size (qh HB))); replace HB := qn HB hb; clear hb ho11; obtain ⟨Ao12, co12, eo12⟩ := Kd.R_slice HO113.out; subst eo12) | ((with_reducible refine gate_callee (f := 19) rfl ?_); refine goesL_ (some 5) rfl rfl Tryd.func19 (by kernel_rfl) rfl #[.string (⟨#[123, 49, 125, 45, 123, 48, 125]⟩ : ByteArray), .slice Ao12 y111.length co12] rfl ql ?_; (with_reducible refine (runes_Fill.calls (⟨#[123, 49, 125, 45, 123, 48, 125]⟩ : ByteArray) _ _ y111 t114 t115 _ ?side1 ?side2 A1.out).mono ?_); (case side1 => repeat (first | exact (Kd.R_reads' HO113.out).2.2 | (with_reducible refine Kd.C_alloc ?_ _) | (with_reducible refine Kd.C_drewN ?_ _) | (with_reducible refine Kd.C_drew ?_))); (case side2 => exact (Kd.R_reads' HO113.out).2.1); rintro e w13 ⟨rfl, hb⟩; refine ⟨_, rfl, ?_⟩; replace HO113 := Aside0.mk (Kd.R_below (by (with_reducible repeat (first | apply Kd.R_alloc | apply Kd.R_drewN | apply Kd.R_drew)); exact HO113.out) hb); replace HB := qn HB hb; (try clear hb); (try clear hb2); (try clear hk); (try clear hi)))
     go_ret
     exact ⟨qe, qh HB⟩
 · rw [if_neg c2] at H
   have c2b0 : (t114.toList == ([98, 45, 97] : List UInt8)) = false := beq_eq_false_iff_ne.mpr c2
   have c2b1 : (t114.toList != ([98, 45, 97] : List UInt8)) = true := bne_iff_ne.mpr c2
   obtain rfl := Option.some.inj H
   go_enter Tryd.func16, Tryd.ntmps16
   go_wp2_with (first | ((with_reducible refine gate_dst (N := 4) rfl ?_); refine Kd.R_lit Kd.string _ 9 ?hg (N := 4) ?hd (xs := ([(⟨#[97]⟩ : ByteArray), (⟨#[98]⟩ : ByteArray)] : List ByteArray)) (inner := [.string (⟨#[97]⟩ : ByteArray), .string (⟨#[98]⟩ : ByteArray)]) (ok := fun _ => True) (okp := fun _ => True) ?hr ?hp (fun _ hk => hk) trivial (Below.refl _ _) (Nat.le_refl _) (by simp) ?_; (case hd => rfl); (case hg => rfl); (case hr => first | (go_simp; done) | (go_simp; rfl)); (case hp => exact (Reps.one (show Kd.M Kd.string _ _ _ (⟨#[97]⟩ : ByteArray) [.string (⟨#[97]⟩ : ByteArray)] from rfl) (Reps.one (show Kd.M Kd.string _ _ _ (⟨#[98]⟩ : ByteArray) [.string (⟨#[98]⟩ : ByteArray)] from rfl) (Reps.none _ _)))); intro v112 w14 ho15 hb hg_ hnew_; clear hg_ hnew_; (first | rw [← Ny111.out] at ho15 | (simp only [Int.reduceToNat] at ho15; rw [← Ny111.out] at ho15)); have HO113 := Aside0.mk (Kd.R_lower ho15 (below_size (qh HB))); replace HB := qn HB hb; clear hb ho15; obtain ⟨Ao16, co16, eo16⟩ := Kd.R_slice HO113.out; subst eo16) | ((with_reducible refine gate_callee (f := 19) rfl ?_); refine goesL_ (some 5) rfl rfl Tryd.func19 (by kernel_rfl) rfl #[.string (⟨#[123, 49, 125, 45, 123, 48, 125]⟩ : ByteArray), .slice Ao16 y111.length co16] rfl ql ?_; (with_reducible refine (runes_Fill.calls (⟨#[123, 49, 125, 45, 123, 48, 125]⟩ : ByteArray) _ _ y111 t114 t115 _ ?side1 ?side2 A1.out).mono ?_); (case side1 => repeat (first | exact (Kd.R_reads' HO113.out).2.2 | (with_reducible refine Kd.C_alloc ?_ _) | (with_reducible refine Kd.C_drewN ?_ _) | (with_reducible refine Kd.C_drew ?_))); (case side2 => exact (Kd.R_reads' HO113.out).2.1); rintro e w17 ⟨rfl, hb⟩; refine ⟨_, rfl, ?_⟩; replace HO113 := Aside0.mk (Kd.R_below (by (with_reducible repeat (first | apply Kd.R_alloc | apply Kd.R_drewN | apply Kd.R_drew)); exact HO113.out) hb); replace HB := qn HB hb; (try clear hb); (try clear hb2); (try clear hk); (try clear hi)))
   go_ret
   exact ⟨qe, qh HB⟩

end Go.Proofs.YtigikjihagmokaaDoor.F
namespace Go.Proofs.YtigikjihagmokaaDoor.Stray
open Go.RowKit Go.Proofs.YtigikjihagmokaaDoorW.PrintWords Go.Proofs.YtigikjihagmokaaDoorW.PrintLast Go.Proofs.YtigikjihagmokaaDoorW.PrintMore Go.Proofs.YtigikjihagmokaaDoor.Aid
set_option linter.unusedVariables false
set_option linter.unusedSimpArgs false
/-- Go's tables of UTF-8 lie in a world. -/
abbrev Tabs (w : World) : Prop := Lib.Utf8Tabs 0 1 w
theorem Tabs.below {w w' : World} (h : Tabs w) (hb : Below w.heap.size w w') : Tabs w' := Utf8Tabs_below h hb
/-- Is what stands at a place one byte that is part of no rune? -/
def strayB (s : ByteArray) (pos : Nat) : Bool := decide (Utf8.decode s pos = (65533, 1))
theorem decode_rest (s : ByteArray) (pos : Nat) (h : pos < s.size) : Lib.decodeGo (s.extract pos s.size) = Utf8.decode s pos := by
  have e := Lib.decodeL_drop s pos
  rw [← e]
  have hs : s.extract pos s.size = ⟨(s.data.toList.drop pos).toArray⟩ := by
    apply ByteArray.ext
    rw [ByteArray.data_extract]
    apply Array.toList_inj.1
    rw [Array.toList_extract, List.extract_eq_take_drop]
    simp only []
    rw [List.take_of_length_le]
    rw [List.length_drop, Array.length_toList]
    exact Nat.le_refl _
  rw [hs]
  have h0 : (⟨(s.data.toList.drop pos).toArray⟩ : ByteArray).size ≠ 0 := by
    show (s.data.toList.drop pos).toArray.size ≠ 0
    rw [List.size_toArray, List.length_drop, Array.length_toList]
    have : s.data.size = s.size := rfl
    omega
  unfold Lib.decodeGo
  rw [if_neg h0]
  rfl
theorem width (s : ByteArray) (pos : Nat) (h : pos < s.size) : 1 ≤ (Utf8.decode s pos).2 := by
  by_cases ha : (s[pos]'h).toNat < 128
  · rw [decode_ascii s pos h ha]
    exact Nat.le_refl _
  · exact (decode_high s pos h (by omega)).2
set_option maxHeartbeats 4000000 in
set_option maxRecDepth 100000 in
theorem stray (s : ByteArray) (pos : Nat) (hp : pos < s.size) (hs : s.size ≤ 9223372036854775807) (w : World) (hT : Tabs w) : Calls Tryd.prog 33 #[.string s, .int .i64 pos, .int .i32 (Utf8.decode s pos).1] w fun e w' => e = .returned (.bool (strayB s pos)) ∧ Below w.heap.size w w' := by
  have hrest := decode_rest s pos hp
  go_enter Tryd.func33, Tryd.ntmps33
  by_cases h : (Utf8.decode s pos).1 = 65533
  · have hb : (((Utf8.decode s pos).1 : Int) != 65533) = false := bne_eq_false_iff_eq.mpr (by omega)
    have c := Tryd.utf8_DecodeRuneInString (s.extract pos s.size) w hT
    rw [hrest] at c
    have p1 : (0 ≤ (pos : Int)) = True := eq_true (by omega)
    have p2 : ((pos : Int) ≤ (s.size : Int)) = True := eq_true (by omega)
    have p3 : pos ≤ s.size := by omega
    have hq : strayB s pos = ((((Utf8.decode s pos).2 : Nat) : Int) == 1) := by
      unfold strayB
      rw [Bool.eq_iff_iff, decide_eq_true_eq, beq_iff_eq]
      constructor
      · intro e; rw [e]; rfl
      · intro e
        have e2 : (Utf8.decode s pos).2 = 1 := by omega
        exact Prod.ext h e2
    generalize Utf8.decode s pos = d at *
    clear hrest
    go_wp2_with (go_at_call 49; refine c.mono ?_)
    rintro e W1 ⟨rfl, hb1⟩
    go_wp2
    go_ret
    exact ⟨by rw [hq]; rfl, hb1⟩
  · have hb : (((Utf8.decode s pos).1 : Int) != 65533) = true := bne_iff_ne.mpr (by omega)
    have hq : strayB s pos = false := by
      unfold strayB
      exact decide_eq_false (fun e => h (by rw [e]))
    go_wp2
    go_ret
    exact ⟨by rw [hq]; rfl, Below.refl _ _⟩

def from_ (s : ByteArray) : Nat → Nat → Bool
  | 0, _ => true
  | k + 1, pos => if pos < s.size then (if strayB s pos = true then false else from_ s k (pos + (Utf8.decode s pos).2)) else true
def valid (s : ByteArray) : Bool := from_ s (s.size + 1) 0
set_option maxHeartbeats 4000000 in
set_option maxRecDepth 100000 in
theorem validCalls (s : ByteArray) (hs : s.size ≤ 9223372036854775807) (w : World) (hT : Tabs w) : Calls Tryd.prog 25 #[.string s] w fun e w' => e = .returned (.bool (valid s)) ∧ Below w.heap.size w w' := by
  go_enter Tryd.func25, Tryd.ntmps25
  go_wp2
  go_loopw [] (fun wr => ∃ (pos fuel : Nat), wr.heap[w.heap.size]? = some (.stringIter s pos) ∧ Aside0 (Below w.heap.size w wr) ∧ Aside0 (from_ s fuel pos = valid s) ∧ Aside0 (s.size + 1 ≤ pos + fuel)) (fun wr => s.size - wr.iterPos w.heap.size)
  case atStart =>
    refine ⟨0, s.size + 1, ?_, ⟨(Below.refl _ w).alloc (Nat.le_refl _) _⟩, ⟨rfl⟩, ⟨by omega⟩⟩
    have := World.iter_heap w s 0
    simpa using this
  case round =>
    obtain ⟨pos, fuel, hit, HB, HF, HL⟩ := hrel
    have hsz : w.heap.size < wr.heap.size := (Array.getElem?_eq_some_iff.1 hit).1
    by_cases hp : pos < s.size
    · have hnx : ∀ ty, (Instr.next (.pointer (some ⟨w.heap.size, 0, none⟩)) true ty).run Tryd.prog wr = _ := fun ty => Lib.run_next_any_at wr w.heap.size s pos ty hit hp
      have hwd := width s pos hp
      have hit2 := Lib.iterAt_heap wr w.heap.size s pos (pos + (Utf8.decode s pos).2) hit
      have hbw2 := Lib.below_iterAt HB.out (k := w.heap.size) (by omega) s (pos + (Utf8.decode s pos).2)
      have c := stray s pos hp hs _ (hT.below hbw2)
      have Hp := Aside0.mk hp
      have Hit := Aside0.mk hit
      by_cases hst : strayB s pos = true
      · rw [hst] at c
        go_wp2_with (go_at_call 33; refine c.mono ?_)
        rintro e W1 ⟨rfl, b1⟩
        go_wp2
        go_ret
        have hr : valid s = false := by
          rw [← HF.out]
          obtain ⟨k, rfl⟩ : ∃ k, fuel = k + 1 := ⟨fuel - 1, by have := HL.out; omega⟩
          simp only [from_]
          rw [if_pos hp, if_pos hst]
        exact ⟨by rw [hr]; rfl, below_then hbw2 hbw2.size b1⟩
      · have hst' : strayB s pos = false := by simpa using hst
        rw [hst'] at c
        go_wp2_with (go_at_call 33; refine c.mono ?_)
        rintro e W1 ⟨rfl, b1⟩
        have hlt2 : w.heap.size < (wr.iterAt w.heap.size s (pos + (Utf8.decode s pos).2)).heap.size := by rw [Lib.iterAt_size]; exact hsz
        have hit3 : W1.heap[w.heap.size]? = some (.stringIter s (pos + (Utf8.decode s pos).2)) := (b1.block _ hlt2).trans hit2
        go_wp2
        go_roundw
        case rel =>
          obtain ⟨k, rfl⟩ : ∃ k, fuel = k + 1 := ⟨fuel - 1, by have := HL.out; omega⟩
          refine ⟨_, k, hit3, ⟨below_then hbw2 hbw2.size b1⟩, ⟨?_⟩, ⟨by have := HL.out; omega⟩⟩
          rw [← HF.out]
          simp only [from_]
          rw [if_pos hp, if_neg hst]
        case measure => simp only [World.iterPos, hit3, hit]; omega
    · have hnx : ∀ ty, (Instr.next (.pointer (some ⟨w.heap.size, 0, none⟩)) true ty).run Tryd.prog wr = _ := fun ty => Lib.run_next_end_at wr w.heap.size s pos ty hit hp
      have hr : Aside0 (valid s = true) := ⟨by
        rw [← HF.out]
        obtain ⟨k, rfl⟩ | rfl : (∃ k, fuel = k + 1) ∨ fuel = 0 := by cases fuel <;> simp
        · simp only [from_]; rw [if_neg hp]
        · rfl⟩
      go_wp2
      go_ret
      exact ⟨by rw [hr.out]; rfl, HB.out⟩
end Go.Proofs.YtigikjihagmokaaDoor.Stray
namespace Go.Proofs.YtigikjihagmokaaDoor.F
open Go.RowKit Go.Proofs.YtigikjihagmokaaDoorW.PrintWords Go.Proofs.YtigikjihagmokaaDoorW.PrintLast Go.Proofs.YtigikjihagmokaaDoorW.PrintMore Go.Proofs.YtigikjihagmokaaDoor.Q
attribute [local go_sem] max2_int min2_int max_two min_two max_three min_three max_four min_four   -- for this text's walks alone
set_option linter.unusedVariables false
set_option linter.unusedSimpArgs false

def runes_Valid.f (a0 : ByteArray) : Option (Bool) := if a0.size ≤ 140737488351232 then some (Stray.valid a0) else none
theorem runes_Valid.calls (a0 : ByteArray) (r : Bool) (w : World) (h : runes_Valid.f a0 = some r) (hG_ : Stray.Tabs w) :
 Calls Tryd.prog 25 #[.string a0] w fun e w' => e = .returned (.bool r) ∧ Below w.heap.size w w' := by
 unfold runes_Valid.f at h
 split at h
 · rename_i hs
   obtain rfl := Option.some.inj h
   exact Stray.validCalls a0 (Nat.le_trans hs (by decide)) w hG_
 · cases h

end Go.Proofs.YtigikjihagmokaaDoor.F
set_option linter.unusedVariables false
set_option linter.unusedSimpArgs false
namespace Go.Proofs.YtigikjihagmokaaDoor.Rune
open Go.RowKit Go.Proofs.YtigikjihagmokaaDoorW.PrintWords Go.Proofs.YtigikjihagmokaaDoorW.PrintLast Go.Proofs.YtigikjihagmokaaDoorW.PrintMore
def ren : Go.Shelf.Ren := ⟨fun | 242 => 51 | 278 => 61 | n => n, fun | 4 => 4 | 5 => 5 | 21 => 21 | 37 => 41 | 46 => 75 | 51 => 51 | 72 => 43 | 70 => 40 | n => n, fun | n => n⟩
theorem lays : Go.Proofs.Lays.n242 Tryd.prog ren := {
  mixed := by kernel_rfl
  f242 := Tryd.func51.trans (congrArg some (by kernel_rfl))
  f278 := Tryd.func61.trans (congrArg some (by kernel_rfl))
  t4 := Tryd.underlying4
  a4 := Tryd.isAgg4
  z4 := Tryd.sizeOf4
  v4 := Tryd.zeroValue4
  t5 := Tryd.underlying5
  a5 := Tryd.isAgg5
  z5 := Tryd.sizeOf5
  v5 := Tryd.zeroValue5
  t21 := Tryd.underlying21
  a21 := Tryd.isAgg21
  z21 := Tryd.sizeOf21
  v21 := Tryd.zeroValue21
  t37 := Tryd.underlying41
  a37 := Tryd.isAgg41
  z37 := Tryd.sizeOf41
  v37 := Tryd.zeroValue41
  t46 := Tryd.underlying75
  a46 := Tryd.isAgg75
  z46 := Tryd.sizeOf75
  v46 := Tryd.zeroValue75
  t51 := Tryd.underlying51
  a51 := Tryd.isAgg51
  z51 := Tryd.sizeOf51
  v51 := Tryd.zeroValue51 }
theorem extra : Builder.Extra Tryd.prog ren := {
  sizeBuilder := by kernel_rfl
  liesBuilder := by kernel_rfl
  t5 := Tryd.underlying5
  a5 := Tryd.isAgg5
  z5 := Tryd.sizeOf5
  v5 := Tryd.zeroValue5
  infoByte := by kernel_rfl
  cellsByte := by kernel_rfl
  sizeByte := by kernel_rfl
  neB5 := by decide }
theorem appendRune (B : Nat) (v : Value) (n : Nat) (xs : List Value) (r : Int) (hr0 : -2147483648 ≤ r) (hr1 : r ≤ 2147483647) (w : World) (hown : w.ownsRowF B 5 1 v n xs) (hlen : n + 4 ≤ 140737488355328) (hBw : B ≤ w.heap.size) :
    Calls Tryd.prog 51 #[v, .int .i32 r] w fun e w' => ∃ v', e = .returned v' ∧ w'.ownsRowF B 5 1 v' (n + (Lib.runeCells r).length) (xs ++ Lib.runeCells r) ∧ ∃ o, (w.alloc o).grownBy w' v.ownBlock :=
  Any.utf8_AppendRune_own lays extra B v n xs r hr0 hr1 w hown hlen hBw

set_option maxHeartbeats 2000000 in
set_option maxRecDepth 100000 in
theorem writeRune (B b : Nat) (bs : List Value) (r : Int) (hr0 : -2147483648 ≤ r) (hr1 : r ≤ 2147483647) (w : World) (h : Lib.IsBuilderF 43 5 B b bs w) (hlen : bs.length + 4 ≤ 140737488355328) (hBw : B ≤ w.heap.size) :
    Calls Tryd.prog 44 #[.pointer (some ⟨b, 0, none⟩), .int .i32 r] w fun e w' => e = .returned (.tuple #[.int .i64 (Lib.runeCells r).length, .nilIface]) ∧ (Lib.BuilderAtF 43 5 B b (.pointer (some ⟨b, 0, none⟩)) (bs ++ Lib.runeCells r) w' ∧ Below B w w' ∧ Lib.OthersKept 5 (some b) w w') := by
  have hk4 := Lib.runeCells_le r
  go_enter Tryd.func44, Tryd.ntmps44
  go_wp2_with (go_at_call 50; refine (Bld.check B b bs _ h).mono ?_)
  rintro e w1 ⟨rfl, h1, hb1, hk1⟩
  obtain ⟨hB, v, hbk, hown, hne⟩ := h1
  obtain ⟨ao, cap, rfl⟩ : ∃ ao cap, v = .slice ao bs.length cap := by
    rcases hown.2 with ⟨hv, h0⟩ | ⟨g, cap, cur, fz, hv, _⟩
    · exact ⟨none, 0, by rw [hv, h0]⟩
    · exact ⟨_, _, hv⟩
  have c0 : w1.cell? ⟨b, 0, none⟩ = some (.pointer (some ⟨b, 0, none⟩)) := by rw [Lib.cell_of_heap hbk]; rfl
  have c1 : w1.cell? ⟨b, 1, none⟩ = some (.slice ao bs.length cap) := by rw [Lib.cell_of_heap hbk]; rfl
  go_wp2_with (go_at_call 51; refine (appendRune B _ bs.length bs r hr0 hr1 _ hown hlen (by have := hb1.size; omega)).mono ?_)
  rintro e w2 ⟨v', rfl, hown', o, hgrow⟩
  have hlt : b < w1.heap.size := by
    rcases Nat.lt_or_ge b w1.heap.size with h' | h'
    · exact h'
    · simp [Array.getElem?_eq_none h'] at hbk
  have hb2 : w2.heap[b]? = some (.cells #[.pointer (some ⟨b, 0, none⟩), .slice ao bs.length cap] 43 (0, 0)) := by
    rw [hgrow.block b (by simp; omega) (fun e => hne e.symm), Lib.alloc_old w1 _ b hlt]
    exact hbk
  have d0 : w2.cell? ⟨b, 0, none⟩ = some (.pointer (some ⟨b, 0, none⟩)) := by rw [Lib.cell_of_heap hb2]; rfl
  have d1 : w2.cell? ⟨b, 1, none⟩ = some (.slice ao bs.length cap) := by rw [Lib.cell_of_heap hb2]; rfl
  have f1 : w2.frozen? ⟨b, 1, none⟩ = false := Lib.frozen_of_heap hb2 1
  obtain ⟨g, cap', rfl⟩ : ∃ g cap', v' = .slice (some ⟨g, 0, none⟩) (bs.length + (Lib.runeCells r).length) cap' := by
    rcases hown'.2 with ⟨_, h0⟩ | ⟨g, cap', cur, fz, hv, _⟩
    · omega
    · exact ⟨g, cap', hv⟩
  go_wp2
  go_ret2
  refine ⟨?_, ?_, ?_, ((hk1.alloc _).grown hgrow (Lib.ownsRowF_kind (hown.alloc _))).setCell ⟨b, 1, none⟩ rfl _⟩
  · have e : ((bs.length : Int) + ((Lib.runeCells r).length : Int) - (bs.length : Int)) = ((Lib.runeCells r).length : Int) := by omega
    simp [e]
  · exact Lib.BuilderAtF.put (T := 43) (e := 5) hB hb2 (bs' := bs ++ Lib.runeCells r) (by simpa using hown') (by decide)
  · exact ((hb1.alloc (by have := hb1.size; omega) _).grown hgrow (by have := hb1.size; simp; omega) (fun k hk => (hown.lt k hk).1)).setCell (p := ⟨b, 1, none⟩) hB _

def rep (s : ByteArray) : Nat → Nat → List UInt8
  | 0, _ => []
  | k + 1, pos => if pos < s.size then Lib.encodeRune (Utf8.decode s pos).1 ++ rep s k (pos + (Utf8.decode s pos).2) else []
def repair (s : ByteArray) : ByteArray := ⟨(rep s (s.size + 1) 0).toArray⟩
theorem rep_end (s : ByteArray) (k pos : Nat) (h : ¬ pos < s.size) : rep s k pos = [] := by
  cases k with
  | zero => rfl
  | succ k => simp only [rep]; rw [if_neg h]
set_option maxHeartbeats 4000000 in
set_option maxRecDepth 100000 in
theorem repairCalls (s : ByteArray) (hs : s.size ≤ 35184372088832) (w : World) : Calls Tryd.prog 27 #[.string s] w fun e w' => e = .returned (.string (repair s)) ∧ Below w.heap.size w w' := by
  go_enter Tryd.func27, Tryd.ntmps27
  go_wp2
  go_loopw [] (fun wr => ∃ (pos fuel : Nat) (acc : List UInt8), Lib.IsBuilderF 43 5 w.heap.size w.heap.size (Lib.byteCells acc) wr ∧ wr.heap[w.heap.size + 1]? = some (.stringIter s pos) ∧ Below w.heap.size w wr ∧ Aside0 (acc ++ rep s fuel pos = rep s (s.size + 1) 0) ∧ s.size ≤ pos + fuel ∧ acc.length ≤ 4 * pos) (fun wr => s.size - wr.iterPos (w.heap.size + 1))
  case atStart =>
    refine ⟨0, s.size + 1, [], (Lib.IsBuilderF.of (Lib.fresh_isBuilder 43 5 w)).alloc _, ?_, ((Below.refl _ w).alloc (Nat.le_refl _) _).alloc (by simp) _, ⟨rfl⟩, by omega, by simp⟩
    have := World.iter_heap (w.alloc (.cells #[.pointer none, .slice none 0 0] 43)) s 0
    simpa using this
  case round =>
    obtain ⟨pos, fuel, acc, hI, hit, hbw, HA, hfu, hal⟩ := hrel
    have hsz : w.heap.size + 1 < wr.heap.size := (Array.getElem?_eq_some_iff.1 hit).1
    by_cases hp : pos < s.size
    · have hnx : ∀ ty, (Instr.next (.pointer (some ⟨w.heap.size + 1, 0, none⟩)) true ty).run Tryd.prog wr = _ := fun ty => Lib.run_next_any_at wr (w.heap.size + 1) s pos ty hit hp
      have hwd := Stray.width s pos hp
      have hd1 := decode_le s pos
      have hI2 := hI.iterAt hit (pos + (Utf8.decode s pos).2)
      have hit2 := Lib.iterAt_heap wr (w.heap.size + 1) s pos (pos + (Utf8.decode s pos).2) hit
      have hbw2 := Lib.below_iterAt hbw (k := w.heap.size + 1) (by omega) s (pos + (Utf8.decode s pos).2)
      have hsz2 : w.heap.size ≤ (wr.iterAt (w.heap.size + 1) s (pos + (Utf8.decode s pos).2)).heap.size := by rw [Lib.iterAt_size]; omega
      obtain ⟨f, rfl⟩ : ∃ f, fuel = f + 1 := ⟨fuel - 1, by omega⟩
      go_wp2_with (go_at_call 44; refine (writeRune w.heap.size w.heap.size _ _ (by omega) (by omega) _ hI2 (by rw [Lib.byteCells_length]; omega) hsz2).mono ?_)
      rintro e W1 ⟨rfl, h1, b1, k1⟩
      go_wp2
      go_roundw
      case rel =>
        have hl4 := Lib.runeCells_le ((Utf8.decode s pos).1 : Int)
        rw [Lib.runeCells_length] at hl4
        refine ⟨pos + (Utf8.decode s pos).2, f, acc ++ Lib.encodeRune (Utf8.decode s pos).1, ?_, k1.iter hit2 (by omega), hbw2.trans b1, ⟨?_⟩, by omega, by simp; omega⟩
        · rw [Lib.byteCells_append, Lib.byteCells_encodeRune]; exact Or.inr h1
        · rw [← HA.out]; simp [rep, hp]
      case measure =>
        simp only [World.iterPos, k1.iter hit2 (by omega), hit]
        omega
    · have hnx : ∀ ty, (Instr.next (.pointer (some ⟨w.heap.size + 1, 0, none⟩)) true ty).run Tryd.prog wr = _ := fun ty => Lib.run_next_end_at wr (w.heap.size + 1) s pos ty hit hp
      go_wp2_with (go_at_call 39; refine (Tryd.Builder_String_any_k w.heap.size w.heap.size acc _ hI (by omega)).mono ?_)
      rintro e W1 ⟨rfl, _, b1, _⟩
      go_wp2
      go_ret
      have hacc := HA.out
      rw [rep_end s fuel pos hp, List.append_nil] at hacc
      exact ⟨by unfold repair; rw [← hacc]; rfl, hbw.trans b1⟩
end Go.Proofs.YtigikjihagmokaaDoor.Rune
namespace Go.Proofs.YtigikjihagmokaaDoor.F
open Go.RowKit Go.Proofs.YtigikjihagmokaaDoorW.PrintWords Go.Proofs.YtigikjihagmokaaDoorW.PrintLast Go.Proofs.YtigikjihagmokaaDoorW.PrintMore Go.Proofs.YtigikjihagmokaaDoor.Q
attribute [local go_sem] max2_int min2_int max_two min_two max_three min_three max_four min_four   -- for this text's walks alone
set_option linter.unusedVariables false
set_option linter.unusedSimpArgs false

def runes_Repair.f (a0 : ByteArray) : Option (ByteArray) := if a0.size ≤ 35184372088832 then some (Rune.repair a0) else none
theorem runes_Repair.calls (a0 : ByteArray) (r : ByteArray) (w : World) (h : runes_Repair.f a0 = some r) :
 Calls Tryd.prog 27 #[.string a0] w fun e w' => e = .returned (.string r) ∧ Below w.heap.size w w' := by
 unfold runes_Repair.f at h
 split at h
 · rename_i hs
   obtain rfl := Option.some.inj h
   exact Rune.repairCalls a0 hs w
 · cases h

def idiomlaw01_RunesRepairs.f (a0 : ByteArray) : Option (Bool) := (runes_Repair.f a0).bind fun t232 => ((runes_Valid.f t232).bind fun t233 => (if t233 = true then ((runes_Valid.f a0).bind fun t234 => (if ((t232.toList == a0.toList) == t234) = true then ((runes_Repair.f t232).bind fun t235 => (if t235.toList = t232.toList then (if (t232.size : Int) ≥ (a0.size : Int) then ((idiomlaw01_awake.f).bind fun t236 => (some t236)) else (none)) else (none))) else (none))) else (none)))
set_option maxHeartbeats 8000000 in
set_option maxRecDepth 100000 in
theorem idiomlaw01_RunesRepairs.calls (a0 : ByteArray) (r : Bool) (w : World) (h : idiomlaw01_RunesRepairs.f a0 = some r) (hG_ : Stray.Tabs w) :
 Calls Tryd.prog 9 #[.string a0] w fun e w' => e = .returned (.bool r) ∧ Below w.heap.size w w' := by
 have HG := Aside0.mk hG_
 clear hG_
 have HB := Aside0.mk (Below.refl w.heap.size w)
 have H : ((runes_Repair.f a0).bind fun t232 => ((runes_Valid.f t232).bind fun t233 => (if t233 = true then ((runes_Valid.f a0).bind fun t234 => (if ((t232.toList == a0.toList) == t234) = true then ((runes_Repair.f t232).bind fun t235 => (if t235.toList = t232.toList then (if (t232.size : Int) ≥ (a0.size : Int) then ((idiomlaw01_awake.f).bind fun t236 => (some t236)) else (none)) else (none))) else (none))) else (none)))) = some r := h
 clear h
 replace H := Option.bind_eq_some_iff.mp H
 obtain ⟨t232, A20, H⟩ := H
 replace H : ((runes_Valid.f t232).bind fun t233 => (if t233 = true then ((runes_Valid.f a0).bind fun t234 => (if ((t232.toList == a0.toList) == t234) = true then ((runes_Repair.f t232).bind fun t235 => (if t235.toList = t232.toList then (if (t232.size : Int) ≥ (a0.size : Int) then ((idiomlaw01_awake.f).bind fun t236 => (some t236)) else (none)) else (none))) else (none))) else (none))) = some r := H
 have A2 := Aside0.mk A20
 clear A20
 replace H := Option.bind_eq_some_iff.mp H
 obtain ⟨t233, A30, H⟩ := H
 replace H : (if t233 = true then ((runes_Valid.f a0).bind fun t234 => (if ((t232.toList == a0.toList) == t234) = true then ((runes_Repair.f t232).bind fun t235 => (if t235.toList = t232.toList then (if (t232.size : Int) ≥ (a0.size : Int) then ((idiomlaw01_awake.f).bind fun t236 => (some t236)) else (none)) else (none))) else (none))) else (none)) = some r := H
 have A3 := Aside0.mk A30
 clear A30
 by_cases c4 : t233 = true
 · subst c4
   have H1 : ((runes_Valid.f a0).bind fun t234 => (if ((t232.toList == a0.toList) == t234) = true then ((runes_Repair.f t232).bind fun t235 => (if t235.toList = t232.toList then (if (t232.size : Int) ≥ (a0.size : Int) then ((idiomlaw01_awake.f).bind fun t236 => (some t236)) else (none)) else (none))) else (none))) = some r := by rw [if_pos rfl] at H; exact H
   clear H
   have H := H1
   clear H1
   replace H := Option.bind_eq_some_iff.mp H
   obtain ⟨t234, A50, H⟩ := H
   replace H : (if ((t232.toList == a0.toList) == t234) = true then ((runes_Repair.f t232).bind fun t235 => (if t235.toList = t232.toList then (if (t232.size : Int) ≥ (a0.size : Int) then ((idiomlaw01_awake.f).bind fun t236 => (some t236)) else (none)) else (none))) else (none)) = some r := H
   have A5 := Aside0.mk A50
   clear A50
   by_cases c6 : ((t232.toList == a0.toList) == t234) = true
   · rw [if_pos c6] at H
     have c6b0 : ((t232.toList == a0.toList) == t234) = true := c6
     (try (have c6b1 : decide ((t232.toList == a0.toList) = t234) = true := by simpa using c6))
     (try (have c6b2 : ((t232.toList == a0.toList) == t234) = true := by simpa using c6))
     clear c6
     replace H := Option.bind_eq_some_iff.mp H
     obtain ⟨t235, A70, H⟩ := H
     replace H : (if t235.toList = t232.toList then (if (t232.size : Int) ≥ (a0.size : Int) then ((idiomlaw01_awake.f).bind fun t236 => (some t236)) else (none)) else (none)) = some r := H
     have A7 := Aside0.mk A70
     clear A70
     by_cases c8 : t235.toList = t232.toList
     · rw [if_pos c8] at H
       have c8b0 : (t235.toList == t232.toList) = true := beq_iff_eq.mpr c8
       have c8b1 : (t235.toList != t232.toList) = false := bne_eq_false_iff_eq.mpr c8
       clear c8
       by_cases c9 : (t232.size : Int) ≥ (a0.size : Int)
       · rw [if_pos c9] at H
         have c9b0 : decide ((a0.size : Int) ≤ (t232.size : Int)) = true := decide_eq_true c9
         have c9b1 : decide (a0.size ≤ t232.size) = true := decide_eq_true (Int.ofNat_le.mp c9)
         clear c9
         replace H := Option.bind_eq_some_iff.mp H
         obtain ⟨t236, A100, H⟩ := H
         replace H : (some t236) = some r := H
         have A10 := Aside0.mk A100
         clear A100
         obtain rfl := Option.some.inj H
         go_enter Tryd.func9, Tryd.ntmps9
         go_wp2_with (first | ((with_reducible refine gate_callee (f := 27) rfl ?_); refine goesL_ (some 5) rfl rfl Tryd.func27 (by kernel_rfl) rfl #[.string a0] rfl ql ?_; (with_reducible refine (runes_Repair.calls a0 t232 _ A2.out).mono ?_); rintro e w11 ⟨rfl, hb⟩; refine ⟨_, rfl, ?_⟩; replace HB := qn HB hb; (try clear hb); (try clear hb2); (try clear hk); (try clear hi)) | ((with_reducible refine gate_callee (f := 25) rfl ?_); refine goesL_ (some 7) rfl rfl Tryd.func25 (by kernel_rfl) rfl #[.string t232] rfl ql ?_; (with_reducible refine (runes_Valid.calls t232 true _ A3.out (by first | exact HG.out | exact HG.out.below HB.out | exact HG.out.below (by assumption))).mono ?_); rintro e w12 ⟨rfl, hb⟩; refine ⟨_, rfl, ?_⟩; replace HB := qn HB hb; (try clear hb); (try clear hb2); (try clear hk); (try clear hi)) | (go_at_call 25; (with_reducible refine (runes_Valid.calls a0 t234 _ A5.out (by first | exact HG.out | exact HG.out.below HB.out | exact HG.out.below (by assumption))).mono ?_); rintro e w13 ⟨rfl, hb⟩; replace HB := qn HB hb; (try clear hb); (try clear hb2); (try clear hk); (try clear hi)) | (go_at_call 27; (with_reducible refine (runes_Repair.calls t232 t235 _ A7.out).mono ?_); rintro e w14 ⟨rfl, hb⟩; replace HB := qn HB hb; (try clear hb); (try clear hb2); (try clear hk); (try clear hi)) | (go_at_call 16; (with_reducible refine (idiomlaw01_awake.calls  t236 _ A10.out).mono ?_); rintro e w15 ⟨rfl, hb⟩; replace HB := qn HB hb; (try clear hb); (try clear hb2); (try clear hk); (try clear hi)))
         go_ret
         exact ⟨qe, qh HB⟩
       · rw [if_neg c9] at H
         exact absurd H (by simp)
     · rw [if_neg c8] at H
       exact absurd H (by simp)
   · rw [if_neg c6] at H
     exact absurd H (by simp)
 · replace c4 := Bool.eq_false_iff.mpr c4
   subst c4
   have H1 : (none) = some r := by rw [if_neg (show ¬ (false = true) by decide)] at H; exact H
   clear H
   have H := H1
   clear H1
   exact absurd H (by simp)

/-- THE ONE PURE STATEMENT of idiomlaw01_RunesRepairs: yours. -/
def idiomlaw01_RunesRepairs.Pure : Prop := ∀ (a0 : ByteArray), a0.size ≤ 140737488351232 → idiomlaw01_RunesRepairs.f a0 = some true
end Go.Proofs.YtigikjihagmokaaDoor.F
set_option linter.unusedVariables false
set_option linter.unusedSimpArgs false
namespace Go.Proofs.YtigikjihagmokaaDoor.RunesAwake
open Go.RowKit Go.Proofs.YtigikjihagmokaaDoorW.PrintWords Go.Proofs.YtigikjihagmokaaDoorW.PrintLast Go.Proofs.YtigikjihagmokaaDoorW.PrintMore Go.Proofs.YtigikjihagmokaaDoor.F
theorem toL (l : Array UInt8) : (⟨l⟩ : ByteArray).toList = l.toList := by rw [ByteArray.toList_eq]
theorem awake : idiomlaw01_awake.f = some true := by
  have p0 : Fill.piece ⟨#[123, 49, 125, 45, 123, 48, 125]⟩ [(⟨#[97]⟩ : ByteArray), ⟨#[98]⟩] 0 = some (⟨#[98]⟩, 3) := by
    unfold Fill.piece
    rw [if_pos (by rw [ByteArray.toList_eq]; rfl)]
    rfl
  have p3 : Fill.piece ⟨#[123, 49, 125, 45, 123, 48, 125]⟩ [(⟨#[97]⟩ : ByteArray), ⟨#[98]⟩] 3 = some (⟨#[45]⟩, 4) := by
    unfold Fill.piece
    rw [if_neg (by rw [ByteArray.toList_eq]; decide)]
    rfl
  have p4 : Fill.piece ⟨#[123, 49, 125, 45, 123, 48, 125]⟩ [(⟨#[97]⟩ : ByteArray), ⟨#[98]⟩] 4 = some (⟨#[97]⟩, 7) := by
    unfold Fill.piece
    rw [if_pos (by rw [ByteArray.toList_eq]; rfl)]
    rfl
  have sz : ((⟨#[123, 49, 125, 45, 123, 48, 125]⟩ : ByteArray).size : Int) = 7 := rfl
  have s1 : ((⟨#[98]⟩ : ByteArray).size : Int) = 1 := rfl
  have s2 : ((⟨#[45]⟩ : ByteArray).size : Int) = 1 := rfl
  have s3 : ((⟨#[97]⟩ : ByteArray).size : Int) = 1 := rfl
  have e : Fill.f ⟨#[123, 49, 125, 45, 123, 48, 125]⟩ [(⟨#[97]⟩ : ByteArray), ⟨#[98]⟩] = (⟨#[98, 45, 97]⟩, 0) := by
    unfold Fill.f
    rw [sz, if_neg (by decide), show (⟨#[123, 49, 125, 45, 123, 48, 125]⟩ : ByteArray).size + 1 = 8 from rfl]
    simp only [Fill.go]
    rw [sz, if_pos (by decide), p0]
    simp only []
    rw [s1, if_neg (by decide), if_pos (by decide), p3]
    simp only []
    rw [s2, if_neg (by decide), if_pos (by decide), p4]
    simp only []
    rw [s3, if_neg (by decide), if_neg (by decide)]
    rfl
  unfold idiomlaw01_awake.f runes_Fill.f
  rw [e, Option.bind_some]
  simp only []
  rw [if_pos (by rw [toL])]
  simp only [if_true]
  unfold runes_Ident.f
  rw [if_pos (by rw [toL])]
  rfl
end Go.Proofs.YtigikjihagmokaaDoor.RunesAwake
set_option linter.unusedVariables false
set_option linter.unusedSimpArgs false
namespace Go.Proofs.YtigikjihagmokaaDoor.Rep01
open Go.RowKit
theorem nat8 (z : Int) (h0 : 0 ≤ z) (h1 : z ≤ 255) : (z.toNat.toUInt8).toNat = z.toNat := by
  rw [Nat.toUInt8_eq, UInt8.toNat_ofNat']
  omega
/-- Decoded, an encoded rune comes back. -/
theorem dec_enc (r : Nat) (hv : r < 55296 ∨ 57344 ≤ r ∧ r ≤ 1114111) (l : List UInt8) : Lib.decodeL (Lib.encodeRune (r : Int) ++ l) = (r, (Lib.encodeRune (r : Int)).length) := by
  rw [Lib.decodeL_N]
  by_cases c1 : r ≤ 127
  · have e : Lib.encodeRune (r : Int) = [((r : Int)).toNat.toUInt8] := by unfold Lib.encodeRune; rw [Lib.encodeRuneZ_one (by omega) (by omega)]; rfl
    rw [e]
    simp only [List.cons_append, List.nil_append, List.getD_cons_zero, List.length_cons, List.length_nil]
    rw [nat8 _ (by omega) (by omega)]
    unfold Lib.decodeN
    rw [if_pos (by omega)]
    simp
  by_cases c2 : r ≤ 2047
  · have e : Lib.encodeRune (r : Int) = [(192 + (r : Int) / 64).toNat.toUInt8, (128 + (r : Int) % 64).toNat.toUInt8] := by unfold Lib.encodeRune; rw [Lib.encodeRuneZ_two (by omega) (by omega)]; rfl
    rw [e]
    simp only [List.cons_append, List.nil_append, List.getD_cons_zero, List.getD_cons_succ, List.length_cons, List.length_nil]
    rw [nat8 _ (by omega) (by omega), nat8 _ (by omega) (by omega)]
    unfold Lib.decodeN
    rw [if_neg (by omega), if_pos ⟨by omega, by omega, by omega⟩, if_pos (by omega)]
    refine Prod.ext ?_ rfl
    simp only []
    omega
  by_cases c3 : r ≤ 65535
  · have e : Lib.encodeRune (r : Int) = [(224 + (r : Int) / 4096).toNat.toUInt8, (128 + (r : Int) / 64 % 64).toNat.toUInt8, (128 + (r : Int) % 64).toNat.toUInt8] := by unfold Lib.encodeRune; rw [Lib.encodeRuneZ_three (by omega)]; rfl
    rw [e]
    simp only [List.cons_append, List.nil_append, List.getD_cons_zero, List.getD_cons_succ, List.length_cons, List.length_nil]
    rw [nat8 _ (by omega) (by omega), nat8 _ (by omega) (by omega), nat8 _ (by omega) (by omega)]
    unfold Lib.decodeN
    rw [if_neg (by omega), if_neg (by omega), if_pos ⟨by omega, ⟨by omega, by omega⟩, by omega, by omega⟩, if_pos (by omega)]
    refine Prod.ext ?_ rfl
    simp only []
    omega
  · have e : Lib.encodeRune (r : Int) = [(240 + (r : Int) / 262144).toNat.toUInt8, (128 + (r : Int) / 4096 % 64).toNat.toUInt8, (128 + (r : Int) / 64 % 64).toNat.toUInt8, (128 + (r : Int) % 64).toNat.toUInt8] := by unfold Lib.encodeRune; rw [Lib.encodeRuneZ_four (by omega) (by omega)]; rfl
    rw [e]
    simp only [List.cons_append, List.nil_append, List.getD_cons_zero, List.getD_cons_succ, List.length_cons, List.length_nil]
    rw [nat8 _ (by omega) (by omega), nat8 _ (by omega) (by omega), nat8 _ (by omega) (by omega), nat8 _ (by omega) (by omega)]
    unfold Lib.decodeN
    rw [if_neg (by omega), if_neg (by omega), if_neg (by omega), if_pos ⟨by omega, ⟨by omega, by omega⟩, ⟨by omega, by omega⟩, by omega, by omega⟩, if_pos (by omega)]
    refine Prod.ext ?_ rfl
    simp only []
    omega
/-- What is decoded is a rune. -/
theorem dec_valid (l : List UInt8) : (Lib.decodeL l).1 < 55296 ∨ 57344 ≤ (Lib.decodeL l).1 ∧ (Lib.decodeL l).1 ≤ 1114111 := by
  rw [Lib.decodeL_N]
  have b0 := (l.getD 0 0).toNat_lt
  generalize (l.getD 0 0).toNat = x0 at *
  generalize (l.getD 1 0).toNat = x1 at *
  generalize (l.getD 2 0).toNat = x2 at *
  generalize (l.getD 3 0).toNat = x3 at *
  rcases Lib.decodeN_shape l.length x0 x1 x2 x3 with ⟨c, e⟩ | ⟨c1, c2, c3, cv, e⟩ | ⟨c1, c2, c3, c4, cv, cs, e⟩ | ⟨c1, c2, c3, c4, c5, cv, cw, e⟩ | e
  all_goals (rw [e]; simp only []; omega)
def bad (l : List UInt8) : Prop := (Lib.decodeL l).1 = 65533 ∧ (Lib.decodeL l).2 = 1
instance badDec (l : List UInt8) : Decidable (bad l) := by unfold bad; infer_instance
def repL : Nat → List UInt8 → List UInt8
  | 0, _ => []
  | k + 1, l => if l = [] then [] else Lib.encodeRune ((Lib.decodeL l).1 : Int) ++ repL k (l.drop (Lib.decodeL l).2)
def validL : Nat → List UInt8 → Bool
  | 0, _ => true
  | k + 1, l => if l = [] then true else if bad l then false else validL k (l.drop (Lib.decodeL l).2)
theorem enc_pos (r : Int) : 0 < (Lib.encodeRune r).length := by
  unfold Lib.encodeRune Lib.encodeRuneZ
  repeat' split
  all_goals simp
theorem repL_nil (k : Nat) : repL k [] = [] := by cases k <;> simp [repL]
theorem valid_rep : ∀ (k f : Nat) (l : List UInt8), l.length < k → (repL k l).length < f → validL f (repL k l) = true := by
  intro k
  induction k with
  | zero => intro f l h; omega
  | succ k ih =>
    intro f l hk hf
    by_cases hl : l = []
    · subst hl
      rw [repL_nil]
      cases f with
      | zero => rfl
      | succ f => simp [validL]
    · have hw := Lib.decodeL_width l
      have hle := Lib.decodeL_le l hl
      have e : repL (k + 1) l = Lib.encodeRune ((Lib.decodeL l).1 : Int) ++ repL k (l.drop (Lib.decodeL l).2) := by simp only [repL]; rw [if_neg hl]
      rw [e] at hf ⊢
      cases f with
      | zero => omega
      | succ f =>
        have hp := enc_pos ((Lib.decodeL l).1 : Int)
        have hd := dec_enc (Lib.decodeL l).1 (dec_valid l) (repL k (l.drop (Lib.decodeL l).2))
        have hne : Lib.encodeRune ((Lib.decodeL l).1 : Int) ++ repL k (l.drop (Lib.decodeL l).2) ≠ [] := by
          intro h0
          have := congrArg List.length h0
          rw [List.length_append] at this
          simp at this
          have h2 : (Lib.encodeRune ((Lib.decodeL l).1 : Int)).length = 0 := by rw [this.1]; rfl
          omega
        have hnb : ¬ bad (Lib.encodeRune ((Lib.decodeL l).1 : Int) ++ repL k (l.drop (Lib.decodeL l).2)) := by
          unfold bad
          rw [hd]
          intro h0
          have h1 : (Lib.decodeL l).1 = 65533 := h0.1
          have h2 : (Lib.encodeRune ((Lib.decodeL l).1 : Int)).length = 1 := h0.2
          rw [h1] at h2
          have h3 : (Lib.encodeRune ((65533 : Nat) : Int)).length = 3 := by decide
          omega
        simp only [validL]
        rw [if_neg hne, if_neg hnb, hd]
        simp only []
        rw [List.drop_left]
        rw [List.length_append] at hf
        exact ih f _ (by rw [List.length_drop]; have : 0 < l.length := List.length_pos_iff.2 hl; omega) (by omega)
theorem rep_len : ∀ (k : Nat) (l : List UInt8), l.length < k → l.length ≤ (repL k l).length ∧ (validL k l = false → l.length < (repL k l).length) ∧ (validL k l = true → repL k l = l) := by
  intro k
  induction k with
  | zero => intro l h; omega
  | succ k ih =>
    intro l hk
    by_cases hl : l = []
    · subst hl
      rw [repL_nil]
      simp [validL]
    · have hw := Lib.decodeL_width l
      have hle := Lib.decodeL_le l hl
      have hlp : 0 < l.length := List.length_pos_iff.2 hl
      have e : repL (k + 1) l = Lib.encodeRune ((Lib.decodeL l).1 : Int) ++ repL k (l.drop (Lib.decodeL l).2) := by simp only [repL]; rw [if_neg hl]
      obtain ⟨i1, i2, i3⟩ := ih (l.drop (Lib.decodeL l).2) (by rw [List.length_drop]; omega)
      rw [List.length_drop] at i1 i2
      by_cases hb : bad l
      · have h3 : (Lib.encodeRune ((Lib.decodeL l).1 : Int)).length = 3 := by rw [hb.1]; decide
        have hb2 := hb.2
        have v : validL (k + 1) l = false := by simp only [validL]; rw [if_neg hl, if_pos hb]
        rw [e, v, List.length_append]
        refine ⟨by omega, fun _ => by omega, fun h => by cases h⟩
      · have ht := Lib.encode_decode l hl hb
        have v : validL (k + 1) l = validL k (l.drop (Lib.decodeL l).2) := by simp only [validL]; rw [if_neg hl, if_neg hb]
        rw [e, v, List.length_append, ht, List.length_take]
        refine ⟨by omega, fun h => by have := i2 h; omega, fun h => ?_⟩
        rw [i3 h, List.take_append_drop]
theorem drop_nil (s : ByteArray) (pos : Nat) : s.data.toList.drop pos = [] ↔ ¬ pos < s.size := by
  rw [List.drop_eq_nil_iff, Array.length_toList]
  have : s.data.size = s.size := rfl
  omega
theorem rep_eq (s : ByteArray) : ∀ (k pos : Nat), Rune.rep s k pos = repL k (s.data.toList.drop pos) := by
  intro k
  induction k with
  | zero => intro pos; rfl
  | succ k ih =>
    intro pos
    simp only [Rune.rep, repL]
    by_cases h : pos < s.size
    · rw [if_pos h, if_neg (fun e => (drop_nil s pos).1 e h), Lib.decodeL_drop, ih, List.drop_drop]
    · rw [if_neg h, if_pos ((drop_nil s pos).2 h)]
theorem from_eq (s : ByteArray) : ∀ (k pos : Nat), Stray.from_ s k pos = validL k (s.data.toList.drop pos) := by
  intro k
  induction k with
  | zero => intro pos; rfl
  | succ k ih =>
    intro pos
    simp only [Stray.from_, validL]
    by_cases h : pos < s.size
    · rw [if_pos h, if_neg (fun e => (drop_nil s pos).1 e h)]
      have hb : bad (s.data.toList.drop pos) ↔ Utf8.decode s pos = (65533, 1) := by
        unfold bad
        rw [Lib.decodeL_drop]
        exact ⟨fun e => Prod.ext e.1 e.2, fun e => by rw [e]; exact ⟨rfl, rfl⟩⟩
      unfold Stray.strayB
      by_cases hd : Utf8.decode s pos = (65533, 1)
      · rw [if_pos (decide_eq_true hd), if_pos (hb.2 hd)]
      · rw [if_neg (by simp [hd]), if_neg (fun e => hd (hb.1 e)), ih, List.drop_drop, Lib.decodeL_drop]
    · rw [if_neg h, if_pos ((drop_nil s pos).2 h)]
theorem size_len (s : ByteArray) : s.data.toList.length = s.size := Array.length_toList
theorem valid_is (s : ByteArray) : Stray.valid s = validL (s.size + 1) s.data.toList := by unfold Stray.valid; rw [from_eq, List.drop_zero]
theorem repair_is (s : ByteArray) : (Rune.repair s).data.toList = repL (s.size + 1) s.data.toList := by
  unfold Rune.repair
  rw [rep_eq, List.drop_zero]
/-- The law's four facts. -/
theorem facts (s : ByteArray) : Stray.valid (Rune.repair s) = true ∧ ((Rune.repair s = s) ↔ Stray.valid s = true) ∧ Rune.repair (Rune.repair s) = Rune.repair s ∧ s.size ≤ (Rune.repair s).size := by
  have r := rep_len (s.size + 1) s.data.toList (by rw [size_len]; omega)
  have hv : Stray.valid (Rune.repair s) = true := by
    rw [valid_is, repair_is]
    exact valid_rep _ _ _ (by rw [size_len]; omega) (by rw [← repair_is, size_len]; omega)
  have ext : ∀ a b : ByteArray, a.data.toList = b.data.toList → a = b := fun a b h => ByteArray.ext (Array.toList_inj.1 h)
  have one : ∀ t : ByteArray, Stray.valid t = true → Rune.repair t = t := fun t h => by
    apply ext
    rw [repair_is]
    have r' := rep_len (t.size + 1) t.data.toList (by rw [size_len]; omega)
    exact r'.2.2 (by rw [← valid_is]; exact h)
  refine ⟨hv, ⟨fun h => ?_, one s⟩, one _ hv, ?_⟩
  · rw [valid_is]
    cases hc : validL (s.size + 1) s.data.toList with
    | true => rfl
    | false =>
      have := r.2.1 hc
      rw [← repair_is, h] at this
      omega
  · have := r.1
    rw [← repair_is, size_len, size_len] at this
    exact this
end Go.Proofs.YtigikjihagmokaaDoor.Rep01
set_option linter.unusedVariables false
set_option linter.unusedSimpArgs false
namespace Go.Proofs.YtigikjihagmokaaDoor.RunesRepairs
open Go.RowKit Go.Proofs.YtigikjihagmokaaDoorW.PrintWords Go.Proofs.YtigikjihagmokaaDoorW.PrintLast Go.Proofs.YtigikjihagmokaaDoorW.PrintMore Go.Proofs.YtigikjihagmokaaDoor.F Go.Proofs.YtigikjihagmokaaDoor.RunesAwake
theorem enc4 (r : Int) : (Lib.encodeRune r).length ≤ 4 := by
  have := Lib.runeCells_le r
  rw [Lib.runeCells_length] at this
  omega
theorem rep_le : ∀ (k : Nat) (l : List UInt8), (Rep01.repL k l).length ≤ 4 * k := by
  intro k
  induction k with
  | zero => intro l; simp [Rep01.repL]
  | succ k ih =>
    intro l
    simp only [Rep01.repL]
    split
    · simp
    · rw [List.length_append]
      have h1 := enc4 ((Lib.decodeL l).1 : Int)
      have h2 := ih (l.drop (Lib.decodeL l).2)
      omega
theorem toL_eq (a b : ByteArray) : (a.toList = b.toList) ↔ a = b := by
  rw [ByteArray.toList_eq, ByteArray.toList_eq]
  exact ⟨fun h => ByteArray.ext (Array.toList_inj.1 h), fun h => by rw [h]⟩
theorem law (s : ByteArray) (hs : s.size ≤ 1048576) : idiomlaw01_RunesRepairs.f s = some true := by
  obtain ⟨f1, f2, f3, f4⟩ := Rep01.facts s
  have hz : (Rune.repair s).size ≤ 4 * (s.size + 1) := by
    rw [← Rep01.size_len, Rep01.repair_is]
    exact rep_le _ _
  have pr : runes_Repair.f s = some (Rune.repair s) := by unfold runes_Repair.f; rw [if_pos (by omega)]
  have pv : runes_Valid.f (Rune.repair s) = some true := by unfold runes_Valid.f; rw [if_pos (by omega), f1]
  have pv2 : runes_Valid.f s = some (Stray.valid s) := by unfold runes_Valid.f; rw [if_pos (by omega)]
  have pr2 : runes_Repair.f (Rune.repair s) = some (Rune.repair s) := by unfold runes_Repair.f; rw [if_pos (by omega), f3]
  have eb : (((Rune.repair s).toList == s.toList) == Stray.valid s) = true := by
    rw [beq_iff_eq, Bool.eq_iff_iff, beq_iff_eq, toL_eq]
    exact f2
  unfold idiomlaw01_RunesRepairs.f
  rw [pr, Option.bind_some, pv, Option.bind_some, if_pos rfl, pv2, Option.bind_some, if_pos eb, pr2, Option.bind_some, if_pos rfl, if_pos (by omega), awake]
  rfl
end Go.Proofs.YtigikjihagmokaaDoor.RunesRepairs
namespace Go.Proofs.YtigikjihagmokaaDoor.Upto
open Go.RowKit Go.ChangeShapes Go.WideShapes Go.ChangeAt
set_option linter.unusedVariables false
theorem witness_row_sh {H : Type} {enc : TypeId × Value → H} {C : Checked} {os : Os} {f : FuncId} {fn : Func} {s : OpenSpec} {conds : List PathCond} {apart : Bool} {laid : List (String × DataW Unit)} (modest : Bool) (w0 : World) (args : Array Value) (hos : w0.os = os)
    (hsh : (w0.forCall (fun _ _ => 0) ⟨#[], args, []⟩).Shaped C.prog)
    (hok : Input.okWideB C.prog (w0.forCall (fun _ _ => 0) ⟨#[], args, []⟩) f ⟨#[], args, []⟩ = true)
    (hrow : s.preRow enc C.prog fn conds apart laid (w0.forCall (fun _ _ => 0) ⟨#[], args, []⟩).memory args) :
    ∃ (w : World) (tape : Tape) (i : Input), w.os = os ∧ (w.forCall tape i).Shaped C.prog ∧ i.vars = [] ∧ Input.okWide C.prog (w.forCall tape i) .any w.heap.size f i ∧
      s.preRow enc C.prog fn conds apart laid (w.forCall tape i).memory i.args ∧ ({ modest := modest } : Assume).holds C.prog (lone (Frame.enter C.prog f i.args .normal) [] (w.forCall tape i)) :=
  ⟨w0, fun _ _ => 0, ⟨#[], args, []⟩, hos, hsh, (Input.okWide_of_okWideB (base := 0) hok).1, (Input.okWide_of_okWideB hok).2, hrow, by
    simp only [Assume.holds]
    exact ⟨by simp, by simp, fun _ => Modest.zero, by simp, by simp⟩⟩
end Go.Proofs.YtigikjihagmokaaDoor.Upto
set_option linter.unusedVariables false
set_option linter.unusedSimpArgs false
namespace Go.Proofs.YtigikjihagmokaaDoor.lawRunesRepairs
open Go.ChangeShapes Go.WideShapes Go.ChangeAt Go.RowKit
open Go.ChangeMaps (open_string shut_string)
theorem own : ownKnob Tryd.prog.godebug = none := by kernel_rfl
theorem laidOut : laidOutB Tryd.prog = true := by kernel_rfl
set_option maxRecDepth 100000 in
theorem lifted (os : Os) (started : os.Started) (H : Type) (enc : TypeId × Value → H) (F_ : Stop.Interp) :
    ReturnsInHanded {} Tryd.checked os 9 .any ((Rows.OpenSpec.upto Rows.runesRepairsSpec).preRow enc Tryd.prog Tryd.f9 Rows.runesRepairsUptoRow.domain false Rows.runesRepairsUptoRow.laid) (((Rows.OpenSpec.upto Rows.runesRepairsSpec).at F_).post enc Tryd.prog Tryd.f9 false true false false) := by
  obtain ⟨places, hx⟩ : ∃ places, DataW.whole enc Tryd.prog ((World.laidAll Tryd.prog os Rows.runesRepairsUptoRow.laid).forCall (fun _ _ => 0) ⟨#[], #[.string ByteArray.empty], []⟩).memory Tryd.f9.params.toList Rows.runesRepairsSpec.vars false #[(.string ByteArray.empty : Value)].toList 12 = some ([.lit (.string [])], [], places) := ⟨[], by kernel_rfl⟩
  refine returnsInHanded_of_row (C := Tryd.checked) (s := Rows.OpenSpec.upto Rows.runesRepairsSpec) own started (by kernel_rfl) Tryd.func9
    (Upto.witness_row_sh (enc := enc) (C := Tryd.checked) false (World.laidAll Tryd.prog os Rows.runesRepairsUptoRow.laid) #[.string ByteArray.empty] (World.laidAll_os _ _ _) (World.shaped_of_ZipB (by kernel_rfl) (by kernel_rfl)) (by kernel_rfl)
      (OpenSpec.preRow_of_cond 12 hx (by kernel_rfl) (fun k hk => by cases hk; kernel_rfl) (by kernel_rfl) (by rw [MakeChecks.laidMetH_plain _ _ _ (by kernel_rfl)]; exact laidMet_laidAll _ (by kernel_rfl) (by kernel_rfl)))) ?_
  intro W base args ds gs before hval0 hW _ hk0 hsz0 hL0 _ _
  have hsz : (DataW.weightsEach Tryd.prog (Tryd.f9.params.toList ++ Rows.runesRepairsSpec.plain.varTypes Tryd.prog) (ds ++ gs)).all (· ≤ reachBytes) = true := hsz0
  have hval : ∀ (j : Nat) t v, Tryd.f9.params[j]? = some t → args[j]? = some v → Value.okWide Tryd.prog W .any base t v := hval0
  have hW' := hW
  obtain ⟨p, q, hA0, hV, rfl, hfz, hnd⟩ := hW
  have hA : DataW.TrodAll enc Tryd.prog W 0 (fun _ => true) true Tryd.f9.params.toList args.toList ds p := hA0
  rw [Tryd.params9] at hA hval hsz
  obtain ⟨v0, vs0, d0, ds0, p0, q0, hargs, rfl, rfl, h0, r0⟩ := trodAll_cons hA
  obtain ⟨rfl, rfl, rfl⟩ := trodAll_nil r0
  obtain rfl : args = #[v0] := by cases args; simp_all
  obtain ⟨rfl, rfl⟩ := trodVars_none hV
  have k0 := h0
  have lt0 : ∀ x ∈ p0, x.block < W.heap.size := by obtain ⟨m, hm⟩ := k0; exact DataW.trod_lt m _ _ _ hm
  obtain ⟨a0, rfl, rfl, rfl, y0⟩ := open_string Tryd.underlying9 (hval 0 9 v0 rfl rfl) h0
  have w0 : a0.size ≤ 140737488351232 := by
    have z := sized_string hsz (j := 0) (t := 9) rfl rfl
    rw [Array.length_toList] at z
    exact z
  have small := of_decide_eq_true (hk0 _ rfl)
  simp only [List.cons_append, List.nil_append, List.append_nil, Rows.uptoBulkAll, Rows.uptoBulk, Array.length_toList] at small
  have u0 : a0.size ≤ 1048576 := by
    have z : a0.data.size = a0.size := rfl
    omega
  have hL1 : laidMet Tryd.prog Rows.runesRepairsUptoRow.laid W := hL0
  have hG : Stray.Tabs W := utf8Tabs_of_reads (ρ := Tryd.lays260_ren) { Tryd.lays260 with } ⟨by kernel_rfl, by kernel_rfl, by kernel_rfl, by kernel_rfl, by kernel_rfl, by kernel_rfl, by kernel_rfl⟩ (Lib.laidMet.reads hL1 (.tail _ (.tail _ (.tail _ (.tail _ (.tail _ (.tail _ (.head _)))))))) (Lib.laidMet.reads hL1 (.tail _ (.tail _ (.tail _ (.head _)))))
  have hk := RunesRepairs.law a0 u0
  refine (F.idiomlaw01_RunesRepairs.calls a0 true W hk hG).mono fun e W' ⟨he, bel0⟩ => ?_
  have bel : Below W.heap.size W W' := by first | exact bel0 | exact YtigikjihagmokaaDoorW.PrintWords.Drawn0.below bel0
  subst he
  exact ⟨_, rfl, _, _, _, [], _, [], hW', trodAll_mk1 (shut_bool Tryd.underlying4 _), (trodAll_cons_mk (Below.trod laidOut (by kernel_rfl) (of_decide_eq_true (by kernel_rfl)) k0 bel lt0) trodAll_mk0), rfl, bel.frame _, fun h => by cases h⟩
theorem said : Rows.RunesRepairsUptoSaid :=
  OpenClaim.holds_of_cond 9 Tryd.f9 rfl rfl rfl rfl rfl rfl rfl ⟨rfl, rfl, rfl, rfl, rfl⟩ rfl rfl rfl rfl rfl (by kernel_rfl) Tryd.func9 (by kernel_rfl)
    (of_decide_eq_true (by kernel_rfl)) (by unfold Func.isWrapper; first | (rw [if_pos (by decide +kernel)]; kernel_rfl) | (rw [if_neg (by decide +kernel)]; exact ⟨rfl, rfl⟩))
    (fun os started H enc _ F_ => by rw [OpenClaim.pre_eq_preRow]; exact lifted os started H enc F_)
theorem plain (f : FuncId) (fn : Func) (hf : Tryd.pinned.checked.prog.funcNamed "idiom/idiomlaw01.RunesRepairs" = some f) (hfn : Tryd.pinned.checked.prog.funcs[f]? = some fn) :
    true = Tryd.pinned.checked.prog.looks [] ∧ ∀ (j : Nat) t, fn.params[j]? = some t → Tryd.pinned.checked.prog.wantsStandIn t = false := by
  obtain rfl : f = 9 := Option.some.inj ((show Tryd.prog.funcNamed "idiom/idiomlaw01.RunesRepairs" = some 9 by kernel_rfl).symm.trans hf) |>.symm
  obtain rfl : fn = Tryd.f9 := (Option.some.inj (Tryd.func9.symm.trans hfn)).symm
  refine ⟨by kernel_rfl, fun j t ht => ?_⟩
  rw [Tryd.params9] at ht
  have hm : t ∈ [9] := by simpa using Array.mem_of_getElem? ht
  have hall : ([9].all fun u => !Tryd.prog.wantsStandIn u) = true := by kernel_rfl
  exact (show Tryd.prog.wantsStandIn t = false by simpa using List.all_eq_true.1 hall t hm)
/-- THE CARD. -/
theorem card : Rows.RunesRepairsUptoCardSaid :=
  Claim7.holds_tied_plain_at .later [] _ _ _ _ said (fun _ h => by cases h) (by kernel_rfl) (fun _ h => by cases h) runesRepairsUpto_row_tie rfl ⟨rfl, rfl⟩ (by kernel_rfl) rfl plain (by kernel_rfl)
#print axioms card
end Go.Proofs.YtigikjihagmokaaDoor.lawRunesRepairs
namespace Go.Proofs.YtigikjihagmokaaDoor
/-- The claim, under a short name. -/
theorem runesRepairs_holds : Rows.RunesRepairsUptoCardSaid := lawRunesRepairs.card
end Go.Proofs.YtigikjihagmokaaDoor
