/- Part 1 of 4 of the proof of the law RunesIdents: it is true at every input. Conditions: those of the given row, no others. -/
import Derived.Test.YtigikjihagmokaaDoorWMore
import Derived.WalkKit
import Derived.Laws.IdiomStrings
import Derived.Laws.BytesArg
import Derived.Lib.Hide
import Derived.Laws.BitsLemmas
import Derived.Test.YtigikjihagmokaaDoorProg
import Derived.Below
import Derived.Deep.Draws
import Derived.Deep.AppendLies
import Derived.Maps.AppendAt
import Derived.OwnWalk
import Derived.Laws.MakeOwn
import Derived.Laws.OwnMore
import Derived.Deep.OwnRows
import Derived.Tactics
import Derived.Lib.ConvBytes
import Derived.Laws.Slices
import Derived.KernelRfl
import Derived.RowKit3
import Derived.Deep.LoopGhost
import Derived.Deep.QuietTactic
import Derived.BigQuiet
import Derived.WideLaws
import Derived.Deep.DeepCutAuto
import Derived.Deep.CutBlock
import Derived.Deep.RegionHeld3
import Derived.Laws.Rows
import Derived.Lib.AppendStr
import Derived.ArgAppend
import Derived.Laws.IdiomCopy
import Derived.OrdersHeld
import Derived.RowKit
import Derived.Test.YtigikjihagmokaaDoorWWords
import Derived.Test.YtigikjihagmokaaDoorWLast
import Derived.Laws.StructEq
import Derived.Test.YtigikjihagmokaaDoorWRepsOne
import Derived.Shelf.Strings.Builder1
import Derived.Shelf.Small.Utf8
import Derived.Shelf.Small.Strs
import Derived.Shelf.Strings.BuilderF
import Derived.Shelf.Strings.BuilderK
import Derived.Shelf.Strings.BuilderRune
import Derived.Shelf.Strconv.Itoa0
import Derived.Shelf.Strconv.Itoa1
import Derived.Shelf.LaysM
import Derived.Shelf.Strconv.Itoa2
import Derived.Shelf.Strconv.Itoa3
import Derived.Shelf.Strconv.Itoa4
import Derived.Shelf.Strconv.ParseIntEmpty
import Derived.Shelf.Strconv.Clone
import Derived.Shelf.Strconv.SyntaxError
import Derived.Shelf.LaysC
import Derived.Shelf.Strconv.ToError
import Derived.Shelf.Strconv.Lower
import Derived.Shelf.Strconv.ParseUint10
import Derived.Shelf.Strconv.ParseUint10Empty
import Derived.Shelf.Strconv.ParseUint10Any
import Derived.Shelf.Strconv.ParseInt10
import Derived.Shelf.Strconv.RangeError
import Derived.Shelf.Strconv.ToErrorRange
import Derived.Shelf.Strconv.ParseUintEmpty
import Derived.Shelf.Strconv.ParseUint10b64
import Derived.Shelf.Strconv.ParseUint10b32
import Derived.Shelf.Strconv.ParseUint10b16
import Derived.Shelf.Strconv.ParseUint10b8
import Derived.Shelf.Strconv.ParseUint10At
import Derived.Shelf.Strconv.ParseInt10At64
import Derived.Shelf.Strconv.ParseInt10At32
import Derived.Shelf.Strconv.ParseInt10At16
import Derived.Shelf.Strconv.ParseInt10At8
import Derived.Shelf.Strconv.ParseInt10All
import Derived.Shelf.Strconv.ParseIntPublic10
import Derived.Shelf.Strings.Search1
import Derived.Shelf.Unicode.Decode
import Derived.Shelf.Unicode.DecodeSlow
import Derived.Shelf.Unicode.DecodeAny
import Derived.Shelf.Strings.BuilderCap
import Derived.BigCall
import Derived.Lib.OthersKept
import Derived.Lib.FrozenHead2
import Derived.Lib.TrimUEq
import Derived.Lib.LaidU8
import Derived.Lib.MapLaws
import Derived.Lib.Small
import Derived.Lib.ParseIntBCases
import Derived.Lib.SmallJoins
import Derived.Lib.AppendIntMem
set_option linter.unusedVariables false
namespace Go.Proofs.YtigikjihagmokaaDoor.Aid
open Go.RowKit Go.Proofs.YtigikjihagmokaaDoorW.PrintWords Go.Proofs.YtigikjihagmokaaDoorW.PrintMore

/-- The block B is one of bytes, made since base; its first bytes are l, and may be written. -/
def Bts (w : World) (base B e : Nat) (l : List Int) : Prop :=
  base ≤ B ∧ ∃ cur fz, w.heap[B]? = some (.cells cur e fz) ∧ l.length ≤ fz.1 ∧ l.length ≤ cur.size ∧ ∀ j, j < l.length → cur[j]? = some (.int .u8 (l.getD j 0))

theorem Bts.lt {w : World} {base B e : Nat} {l : List Int} (h : Bts w base B e l) : B < w.heap.size := by
  obtain ⟨_, cur, fz, hb, _⟩ := h
  exact (Array.getElem?_eq_some_iff.1 hb).1
theorem Bts.cell {w : World} {base B e : Nat} {l : List Int} (h : Bts w base B e l) (j : Nat) (hj : j < l.length) : w.cell? ⟨B, j, none⟩ = some (.int .u8 (l.getD j 0)) := by
  obtain ⟨_, cur, fz, hb, _, _, hc⟩ := h
  unfold World.cell?
  rw [hb]
  simpa using hc j hj
theorem Bts.free {w : World} {base B e : Nat} {l : List Int} (h : Bts w base B e l) (j : Nat) (hj : j < l.length) : w.frozen? ⟨B, j, none⟩ = false := by
  obtain ⟨_, cur, fz, hb, hf, _, hc⟩ := h
  unfold World.frozen?
  rw [hb]
  obtain ⟨lo, hi⟩ := fz
  simp only at hf ⊢
  have : ¬ lo ≤ j := by omega
  simp [this]
theorem Bts.set {w : World} {base B e : Nat} {l : List Int} (h : Bts w base B e l) (j : Nat) (v : Int) : Bts (w.setCell ⟨B, j, none⟩ (.int .u8 v)) base B e (l.set j v) := by
  obtain ⟨h0, cur, fz, hb, hf, hs, hc⟩ := h
  have hlt := (Array.getElem?_eq_some_iff.1 hb).1
  have he := (Array.getElem?_eq_some_iff.1 hb).2
  refine ⟨h0, cur.setIfInBounds j (.int .u8 v), fz, ?_, by simpa using hf, by simpa using hs, ?_⟩
  · unfold World.setCell
    simp only [Array.getElem?_modify]
    simp [hb]
  · intro i hi
    simp only [List.length_set] at hi
    rw [Array.getElem?_setIfInBounds]
    by_cases e1 : j = i
    · subst e1
      simp [show j < cur.size by omega, List.getD_eq_getElem?_getD, hi]
    · simp only [if_neg e1]
      rw [hc i hi]
      simp [List.getD_eq_getElem?_getD, e1]
theorem Bts.drew {w : World} {base B e : Nat} {l : List Int} (h : Bts w base B e l) : Bts w.drew base B e l := h
theorem Bts.below {w w1 : World} {base B e : Nat} {l : List Int} (h : Bts w base B e l) (hb : Below w.heap.size w w1) : Bts w1 base B e l := by
  have hl := h.lt
  obtain ⟨h0, cur, fz, hh, r⟩ := h
  exact ⟨h0, cur, fz, (hb.block B hl).trans hh, r⟩

/-- A text's bytes as numbers. -/
def nums8 (s : ByteArray) : List Int := s.data.toList.map fun c => (c.toNat : Int)
theorem nums8_length (s : ByteArray) : (nums8 s).length = s.size := by simp [nums8]
theorem strOf_nums8 (s : ByteArray) : strOfNums (nums8 s) = s := by
  obtain ⟨⟨l⟩⟩ := s
  simp [strOfNums, nums8, Function.comp_def]

/-- What '[]byte(s)' makes. -/
theorem Bts.made (w : World) (e : Nat) (s : ByteArray) (cap : Nat) : Bts (w.drew.alloc (.cells (bytesRow s cap) e ((bytesRow s cap).size, (bytesRow s cap).size + 1))) w.heap.size w.heap.size e (nums8 s) := by
  refine ⟨Nat.le_refl _, bytesRow s cap, _, heap_alloc_new w.drew _, ?_, ?_, ?_⟩
  · rw [nums8_length]; simp [bytesRow]
  · rw [nums8_length]; simp [bytesRow]
  · intro j hj
    have hj' : j < s.data.toList.length := by simpa [nums8] using hj
    have hj2 : j < s.data.size := by simpa using hj'
    unfold bytesRow
    rw [Array.getElem?_append_left (by simpa using hj2)]
    simp [nums8, List.getD_eq_getElem?_getD, Array.getElem?_eq_getElem hj2]
theorem bne_nil (l : List UInt8) : (!l.isEmpty) = (l != []) := by cases l <;> rfl
theorem eq_nil (l : List UInt8) : l.isEmpty = (l == []) := by cases l <;> rfl
theorem empty_of {l : List UInt8} {b : Bool} (h : (l == []) = b) : l.isEmpty = b := (eq_nil l).trans h
theorem R_set_drew {α : Type} {d : Kd α} {e base n : Nat} {w : World} {a : Addr} {v u : Value} {ok : Nat → Prop} {xs : List α} (h : d.R e (w.setCell a v) base ok u xs) : d.R e ((w.drewN n).setCell a v) base ok u xs := Kd.R_drewN h n
theorem V_nil' {k : IntKind} {e base : Nat} {w : World} {ok : Nat → Prop} {v : Value} (h : v = .slice none 0 0) : Kd.V (Kd.int k) e w base ok v [] := h ▸ Kd.V_nil _ _ _ _ _
theorem R_nil' {k : IntKind} {e base : Nat} {w : World} {ok : Nat → Prop} {v : Value} (h : v = .slice none 0 0) : Kd.R (Kd.int k) e w base ok v [] := h ▸ Kd.R_nil _ _ _ _ _
/-- A text of one byte. -/
theorem one_byte (s : ByteArray) (h : s.size = 1) : ∃ c : UInt8, s = ⟨#[c]⟩ ∧ bt s 0 = (c.toNat : Int) := by
  obtain ⟨⟨l⟩⟩ := s
  obtain ⟨c, rfl⟩ := List.length_eq_one_iff.1 h
  exact ⟨c, rfl, rfl⟩
/-- The last six bits of a byte behind 128, as the walk spells them. -/
theorem low6 (x : Int) : Go.bits .or .u8 128 (Go.bits .and .u8 (x % 256) 63) = 128 + x % 64 := by
  have h1 : Go.bits .and .u8 (x % 256) 63 = x % 256 % 64 := u8_and63 _ (by omega) (by omega)
  have h2 : Go.bits .or .u8 128 (x % 256 % 64) = 128 + x % 256 % 64 := u8_or128 _ (by omega) (by omega)
  rw [h1, h2]
  omega
end Go.Proofs.YtigikjihagmokaaDoor.Aid
namespace Go.Proofs.YtigikjihagmokaaDoor.S
open Go.RowKit Go.Proofs.YtigikjihagmokaaDoorW.PrintWords Go.Proofs.YtigikjihagmokaaDoorW.PrintLast Go.Proofs.YtigikjihagmokaaDoorW.PrintMore
attribute [local go_sem] max2_int min2_int max_two min_two max_three min_three max_four min_four   -- for this text's walks alone
set_option linter.unusedVariables false
set_option linter.unusedSimpArgs false



def errW : Option Int → Value
 | none => .nilIface
 | some c => .iface 0 (.int .i64 c)
theorem errW_none : errW none = .nilIface := rfl
theorem errW_some (c : Int) : errW (some c) = .iface 0 (.int .i64 c) := rfl

theorem info9 : (Tryd.prog.info? 9).map (fun i => (i.zero, i.size, i.bytes)) = some (some (.string ⟨#[]⟩), 1, 16) := by kernel_rfl
theorem info21 : (Tryd.prog.info? 21).map (fun i => (i.zero, i.size, i.bytes)) = some (some (.int .i32 0), 1, 4) := by kernel_rfl
end Go.Proofs.YtigikjihagmokaaDoor.S
set_option linter.unusedVariables false
namespace Go.Proofs.YtigikjihagmokaaDoor.Q
open Go.RowKit Go.Proofs.YtigikjihagmokaaDoorW.PrintWords Go.Proofs.YtigikjihagmokaaDoorW.PrintLast Go.Proofs.YtigikjihagmokaaDoorW.PrintMore
theorem ql {p : Prop} (h : p := by (try simp only [List.map_toArray, List.map_cons, List.map_nil]); first | done | rfl | (simp only [List.length_drop, List.length_take]; rfl)) : p := h
theorem qh {b : Nat} {w w1 w2 : World} (B : Aside0 (Below b w w1)) (h : Below b w w1 → Below b w w2 := by intro h_; repeat (first | (with_reducible first | exact h_ | apply below_alloc | apply pw_below_drewN | apply below_drew1 | refine below_set ?_ (Aside0.out (by with_reducible assumption))) | exact h_)) : Below b w w2 := h B.out
theorem qn {w w1 w2 w3 : World} (B : Aside0 (Below w.heap.size w w1)) (hb : Below w2.heap.size w2 w3) (h : Below w.heap.size w w1 → Below w.heap.size w w2 := by intro h_; repeat (first | (with_reducible first | exact h_ | apply below_alloc | apply pw_below_drewN | apply below_drew1 | refine below_set ?_ (Aside0.out (by with_reducible assumption))) | exact h_)) : Aside0 (Below w.heap.size w w3) := ⟨below_step (h B.out) hb⟩
theorem qe {p : Prop} (h : p := by first | rfl | (exact congrArg (fun b => Ending.returned (.bool b)) (Aid.bne_nil _)) | (exact congrArg (fun b => Ending.returned (.bool b)) (Aid.eq_nil _)) | (simp [errW_none, errW_some] <;> rfl) | (simp [*, errW_none, errW_some] <;> rfl)) : p := h
theorem qa {p : Prop} (h : p := by first | (with_reducible assumption) | assumption) : p := h
section
variable {P : Program} {ops : Array Oper} {rest : List Oper} {o : Oper} {a : Act} {Q : Exit → Act → World → Prop} {md : Region.Mode} {S : World → Prop} {ds : List Nat} {T : Bool × List (List Nat × List Nat)} {B : List Nat}
end
end Go.Proofs.YtigikjihagmokaaDoor.Q
namespace Go.Proofs
open Go.Shelf
def Tryd.lays170_ren : Go.Shelf.Ren := ⟨fun | 170 => 37 | n => n, fun | 70 => 40 | 3 => 3 | 0 => 0 | 72 => 43 | 37 => 41 | 5 => 5 | n => n, fun | n => n⟩
theorem Tryd.lays170 : Go.Proofs.Lays.n170 Tryd.prog Tryd.lays170_ren := {
  mixed := by kernel_rfl
  f170 := Tryd.func37.trans (congrArg some (by kernel_rfl))
  t0 := Tryd.underlying0
  a0 := Tryd.isAgg0
  z0 := Tryd.sizeOf0
  v0 := Tryd.zeroValue0
  t3 := Tryd.underlying3
  a3 := Tryd.isAgg3
  z3 := Tryd.sizeOf3
  v3 := Tryd.zeroValue3
  t37 := Tryd.underlying41
  a37 := Tryd.isAgg41
  z37 := Tryd.sizeOf41
  v37 := Tryd.zeroValue41
  t70 := Tryd.underlying40
  a70 := Tryd.isAgg40
  z70 := Tryd.sizeOf40
  v70 := Tryd.zeroValue40
  t72 := Tryd.underlying43
  a72 := Tryd.isAgg43
  z72 := Tryd.sizeOf43
  v72 := Tryd.zeroValue43 }
def Tryd.lays169_ren : Go.Shelf.Ren := ⟨fun | 169 => 39 | n => n, fun | 70 => 40 | 9 => 9 | 0 => 0 | 72 => 43 | 37 => 41 | 127 => 65 | 3 => 3 | 5 => 5 | n => n, fun | n => n⟩
theorem Tryd.lays169 : Go.Proofs.Lays.n169 Tryd.prog Tryd.lays169_ren := {
  mixed := by kernel_rfl
  f169 := Tryd.func39.trans (congrArg some (by kernel_rfl))
  t0 := Tryd.underlying0
  a0 := Tryd.isAgg0
  z0 := Tryd.sizeOf0
  v0 := Tryd.zeroValue0
  t3 := Tryd.underlying3
  a3 := Tryd.isAgg3
  z3 := Tryd.sizeOf3
  v3 := Tryd.zeroValue3
  t9 := Tryd.underlying9
  a9 := Tryd.isAgg9
  z9 := Tryd.sizeOf9
  v9 := Tryd.zeroValue9
  t37 := Tryd.underlying41
  a37 := Tryd.isAgg41
  z37 := Tryd.sizeOf41
  v37 := Tryd.zeroValue41
  t70 := Tryd.underlying40
  a70 := Tryd.isAgg40
  z70 := Tryd.sizeOf40
  v70 := Tryd.zeroValue40
  t72 := Tryd.underlying43
  a72 := Tryd.isAgg43
  z72 := Tryd.sizeOf43
  v72 := Tryd.zeroValue43
  t127 := Tryd.underlying65
  a127 := Tryd.isAgg65
  z127 := Tryd.sizeOf65
  v127 := Tryd.zeroValue65 }
theorem Tryd.Builder_Extra_169 : Builder.Extra Tryd.prog Tryd.lays169_ren := {
  sizeBuilder := by kernel_rfl
  liesBuilder := by kernel_rfl
  t5 := Tryd.underlying5
  a5 := Tryd.isAgg5
  z5 := Tryd.sizeOf5
  v5 := Tryd.zeroValue5
  infoByte := by kernel_rfl
  cellsByte := by kernel_rfl
  sizeByte := by kernel_rfl
  neB5 := by decide }
open Go.RowKit in
theorem Tryd.Builder_Len_f (B b : Nat) (bs : List Value) (w : World) (h : Lib.IsBuilderF 43 5 B b bs w) :
    Calls Tryd.prog 37 #[.pointer (some ⟨b, 0, none⟩)] w fun e w' => e = .returned (.int .i64 bs.length) ∧ w' = w := Any.Builder_Len_f Tryd.lays170 B b bs w h
open Go.RowKit in
theorem Tryd.Builder_String_any_k (B b : Nat) (l : List UInt8) (w : World) (h : Lib.IsBuilderF 43 5 B b (Lib.byteCells l) w) (hBw : B ≤ w.heap.size) :
    Calls Tryd.prog 39 #[.pointer (some ⟨b, 0, none⟩)] w fun e w' => e = .returned (.string ⟨l.toArray⟩) ∧ (Lib.IsBuilderF 43 5 B b (Lib.byteCells l) w' ∧ Below B w w' ∧ Lib.OthersKept 5 (some b) w w') := Any.Builder_String_any_k Tryd.lays169 Tryd.Builder_Extra_169 B b l w h hBw
def Tryd.laysM173_ren : Go.Shelf.Ren := ⟨fun | 173 => 48 | 246 => 58 | 283 => 68 | 284 => 69 | 285 => 70 | 286 => 71 | 129 => 79 | 317 => 78 | 318 => 80 | 319 => 81 | 320 => 82 | 337 => 85 | 338 => 86 | n => n, fun | 2 => 2 | 3 => 3 | 9 => 9 | 4 => 4 | 171 => 83 | 0 => 0 | 53 => 77 | 37 => 41 | 5 => 5 | 173 => 86 | 212 => 98 | 51 => 51 | 20 => 20 | 213 => 99 | 46 => 75 | 232 => 106 | 233 => 107 | n => n, fun | 17 => 4 | 18 => 6 | 19 => 7 | n => n⟩
theorem Tryd.laysM173 : Go.Proofs.LaysM.n173 Tryd.prog Tryd.laysM173_ren := {
  mixed := by kernel_rfl
  f129 := Tryd.func79.trans (congrArg some (by kernel_rfl))
  f173 := Tryd.func48.trans (congrArg some (by kernel_rfl))
  f246 := Tryd.func58.trans (congrArg some (by kernel_rfl))
  f283 := Tryd.func68.trans (congrArg some (by kernel_rfl))
  f284 := Tryd.func69.trans (congrArg some (by kernel_rfl))
  f285 := Tryd.func70.trans (congrArg some (by kernel_rfl))
  f286 := Tryd.func71.trans (congrArg some (by kernel_rfl))
  f317 := Tryd.func78.trans (congrArg some (by kernel_rfl))
  f318 := Tryd.func80.trans (congrArg some (by kernel_rfl))
  f319 := Tryd.func81.trans (congrArg some (by kernel_rfl))
  f320 := Tryd.func82.trans (congrArg some (by kernel_rfl))
  f337 := Tryd.func85.trans (congrArg some (by kernel_rfl))
  f338 := Tryd.func86.trans (congrArg some (by kernel_rfl))
  t0 := Tryd.underlying0
  a0 := Tryd.isAgg0
  z0 := Tryd.sizeOf0
  v0 := Tryd.zeroValue0
  t2 := Tryd.underlying2
  a2 := Tryd.isAgg2
  z2 := Tryd.sizeOf2
  v2 := Tryd.zeroValue2
  t3 := Tryd.underlying3
  a3 := Tryd.isAgg3
  z3 := Tryd.sizeOf3
  v3 := Tryd.zeroValue3
  t4 := Tryd.underlying4
  a4 := Tryd.isAgg4
  z4 := Tryd.sizeOf4
  v4 := Tryd.zeroValue4
  t5 := Tryd.underlying5
  a5 := Tryd.isAgg5
  z5 := Tryd.sizeOf5
  v5 := Tryd.zeroValue5
  t9 := Tryd.underlying9
  a9 := Tryd.isAgg9
  z9 := Tryd.sizeOf9
  v9 := Tryd.zeroValue9
  t20 := Tryd.underlying20
  a20 := Tryd.isAgg20
  z20 := Tryd.sizeOf20
  v20 := Tryd.zeroValue20
  t37 := Tryd.underlying41
  a37 := Tryd.isAgg41
  z37 := Tryd.sizeOf41
  v37 := Tryd.zeroValue41
  t46 := Tryd.underlying75
  a46 := Tryd.isAgg75
  z46 := Tryd.sizeOf75
  v46 := Tryd.zeroValue75
  t51 := Tryd.underlying51
  a51 := Tryd.isAgg51
  z51 := Tryd.sizeOf51
  v51 := Tryd.zeroValue51
  t53 := Tryd.underlying77
  a53 := Tryd.isAgg77
  z53 := Tryd.sizeOf77
  v53 := Tryd.zeroValue77
  t171 := Tryd.underlying83
  a171 := Tryd.isAgg83
  z171 := Tryd.sizeOf83
  v171 := Tryd.zeroValue83
  t173 := Tryd.underlying86
  a173 := Tryd.isAgg86
  z173 := Tryd.sizeOf86
  v173 := Tryd.zeroValue86
  t212 := Tryd.underlying98
  a212 := Tryd.isAgg98
  z212 := Tryd.sizeOf98
  v212 := Tryd.zeroValue98
  t213 := Tryd.underlying99
  a213 := Tryd.isAgg99
  z213 := Tryd.sizeOf99
  t232 := Tryd.underlying106
  a232 := Tryd.isAgg106
  z232 := Tryd.sizeOf106
  v232 := Tryd.zeroValue106
  t233 := Tryd.underlying107
  a233 := Tryd.isAgg107
  z233 := Tryd.sizeOf107
  v233 := Tryd.zeroValue107
  g17 := by kernel_rfl
  g18 := by kernel_rfl
  g19 := by kernel_rfl
  i0 := by kernel_rfl
  i2 := by kernel_rfl
  i3 := by kernel_rfl
  i4 := by kernel_rfl
  i5 := by kernel_rfl
  i9 := by kernel_rfl
  i20 := by kernel_rfl
  i37 := by kernel_rfl
  i46 := by kernel_rfl
  i51 := by kernel_rfl
  i53 := by kernel_rfl
  i171 := by kernel_rfl
  i173 := by kernel_rfl
  i212 := by kernel_rfl
  i232 := by kernel_rfl
  i233 := by kernel_rfl
  m17 := by kernel_rfl
  m18 := by kernel_rfl
  m19 := by kernel_rfl }
open Go.RowKit Go.Sort Go.Lib in
theorem Tryd.strconv_FormatInt_10 (n : Int) (h0 : -9223372036854775808 ≤ n) (h1 : n ≤ 9223372036854775807) (w : World) (htab : Lib.TabIs Tryd.prog w "internal/strconv.uint64pow10" .u64 Lib.pow10Tab) :
    Calls Tryd.prog 48 #[.int .i64 n, .int .i64 10] w fun e w' => e = .returned (.string ⟨(Lib.itoa n).toArray⟩) ∧ ∃ k os, w' = grow (w.drewN k) os := Any.strconv_FormatInt_10 Tryd.laysM173 n h0 h1 w htab
def Tryd.laysC174_ren : Go.Shelf.Ren := ⟨fun | 174 => 47 | 247 => 56 | 245 => 57 | 287 => 63 | 279 => 64 | 280 => 65 | 281 => 66 | 282 => 67 | 321 => 73 | 322 => 74 | 316 => 75 | 171 => 77 | 205 => 76 | 243 => 84 | 246 => 58 | 283 => 68 | 284 => 69 | 285 => 70 | 286 => 71 | 129 => 79 | 317 => 78 | 318 => 80 | 319 => 81 | 320 => 82 | 337 => 85 | 338 => 86 | n => n, fun | 9 => 9 | 3 => 3 | 2 => 2 | 75 => 46 | 85 => 60 | 4 => 4 | 167 => 76 | 5 => 5 | 53 => 77 | 175 => 78 | 46 => 75 | 168 => 80 | 37 => 41 | 0 => 0 | 210 => 94 | 21 => 21 | 127 => 65 | 145 => 104 | 143 => 102 | 171 => 83 | 173 => 86 | 212 => 98 | 51 => 51 | 20 => 20 | 213 => 99 | 232 => 106 | 233 => 107 | 80 => 49 | n => n, fun | 15 => 2 | 16 => 3 | 17 => 4 | 18 => 6 | 19 => 7 | n => n⟩
theorem Tryd.laysC174 : Go.Proofs.LaysC.n174 Tryd.prog Tryd.laysC174_ren := {
  mixed := by kernel_rfl
  f129 := Tryd.func79.trans (congrArg some (by kernel_rfl))
  f171 := Tryd.func77.trans (congrArg some (by kernel_rfl))
  f174 := Tryd.func47.trans (congrArg some (by kernel_rfl))
  f205 := Tryd.func76.trans (congrArg some (by kernel_rfl))
  f243 := Tryd.func84.trans (congrArg some (by kernel_rfl))
  f245 := Tryd.func57.trans (congrArg some (by kernel_rfl))
  f246 := Tryd.func58.trans (congrArg some (by kernel_rfl))
  f247 := Tryd.func56.trans (congrArg some (by kernel_rfl))
  f279 := Tryd.func64.trans (congrArg some (by kernel_rfl))
  f280 := Tryd.func65.trans (congrArg some (by kernel_rfl))
  f281 := Tryd.func66.trans (congrArg some (by kernel_rfl))
  f282 := Tryd.func67.trans (congrArg some (by kernel_rfl))
  f283 := Tryd.func68.trans (congrArg some (by kernel_rfl))
  f284 := Tryd.func69.trans (congrArg some (by kernel_rfl))
  f285 := Tryd.func70.trans (congrArg some (by kernel_rfl))
  f286 := Tryd.func71.trans (congrArg some (by kernel_rfl))
  f287 := Tryd.func63.trans (congrArg some (by kernel_rfl))
  f316 := Tryd.func75.trans (congrArg some (by kernel_rfl))
  f317 := Tryd.func78.trans (congrArg some (by kernel_rfl))
  f318 := Tryd.func80.trans (congrArg some (by kernel_rfl))
  f319 := Tryd.func81.trans (congrArg some (by kernel_rfl))
  f320 := Tryd.func82.trans (congrArg some (by kernel_rfl))
  f321 := Tryd.func73.trans (congrArg some (by kernel_rfl))
  f322 := Tryd.func74.trans (congrArg some (by kernel_rfl))
  f337 := Tryd.func85.trans (congrArg some (by kernel_rfl))
  f338 := Tryd.func86.trans (congrArg some (by kernel_rfl))
  t0 := Tryd.underlying0
  a0 := Tryd.isAgg0
  z0 := Tryd.sizeOf0
  v0 := Tryd.zeroValue0
  t2 := Tryd.underlying2
  a2 := Tryd.isAgg2
  z2 := Tryd.sizeOf2
  v2 := Tryd.zeroValue2
  t3 := Tryd.underlying3
  a3 := Tryd.isAgg3
  z3 := Tryd.sizeOf3
  v3 := Tryd.zeroValue3
  t4 := Tryd.underlying4
  a4 := Tryd.isAgg4
  z4 := Tryd.sizeOf4
  v4 := Tryd.zeroValue4
  t5 := Tryd.underlying5
  a5 := Tryd.isAgg5
  z5 := Tryd.sizeOf5
  v5 := Tryd.zeroValue5
  t9 := Tryd.underlying9
  a9 := Tryd.isAgg9
  z9 := Tryd.sizeOf9
  v9 := Tryd.zeroValue9
  t20 := Tryd.underlying20
  a20 := Tryd.isAgg20
  z20 := Tryd.sizeOf20
  v20 := Tryd.zeroValue20
  t21 := Tryd.underlying21
  a21 := Tryd.isAgg21
  z21 := Tryd.sizeOf21
  v21 := Tryd.zeroValue21
  t37 := Tryd.underlying41
  a37 := Tryd.isAgg41
  z37 := Tryd.sizeOf41
  v37 := Tryd.zeroValue41
  t46 := Tryd.underlying75
  a46 := Tryd.isAgg75
  z46 := Tryd.sizeOf75
  v46 := Tryd.zeroValue75
  t51 := Tryd.underlying51
  a51 := Tryd.isAgg51
  z51 := Tryd.sizeOf51
  v51 := Tryd.zeroValue51
  t53 := Tryd.underlying77
  a53 := Tryd.isAgg77
  z53 := Tryd.sizeOf77
  v53 := Tryd.zeroValue77
  t75 := Tryd.underlying46
  a75 := Tryd.isAgg46
  z75 := Tryd.sizeOf46
  v75 := Tryd.zeroValue46
  t85 := Tryd.underlying60
  a85 := Tryd.isAgg60
  z85 := Tryd.sizeOf60
  v85 := Tryd.zeroValue60
  t127 := Tryd.underlying65
  a127 := Tryd.isAgg65
  z127 := Tryd.sizeOf65
  v127 := Tryd.zeroValue65
  t143 := Tryd.underlying102
  a143 := Tryd.isAgg102
  z143 := Tryd.sizeOf102
  v143 := Tryd.zeroValue102
  t145 := Tryd.underlying104
  a145 := Tryd.isAgg104
  z145 := Tryd.sizeOf104
  v145 := Tryd.zeroValue104
  t167 := Tryd.underlying76
  a167 := Tryd.isAgg76
  z167 := Tryd.sizeOf76
  v167 := Tryd.zeroValue76
  t168 := Tryd.underlying80
  a168 := Tryd.isAgg80
  z168 := Tryd.sizeOf80
  v168 := Tryd.zeroValue80
  t171 := Tryd.underlying83
  a171 := Tryd.isAgg83
  z171 := Tryd.sizeOf83
  v171 := Tryd.zeroValue83
  t173 := Tryd.underlying86
  a173 := Tryd.isAgg86
  z173 := Tryd.sizeOf86
  v173 := Tryd.zeroValue86
  t175 := Tryd.underlying78
  a175 := Tryd.isAgg78
  z175 := Tryd.sizeOf78
  v175 := Tryd.zeroValue78
  t210 := Tryd.underlying94
  a210 := Tryd.isAgg94
  z210 := Tryd.sizeOf94
  v210 := Tryd.zeroValue94
  t212 := Tryd.underlying98
  a212 := Tryd.isAgg98
  z212 := Tryd.sizeOf98
  v212 := Tryd.zeroValue98
  t213 := Tryd.underlying99
  a213 := Tryd.isAgg99
  z213 := Tryd.sizeOf99
  t232 := Tryd.underlying106
  a232 := Tryd.isAgg106
  z232 := Tryd.sizeOf106
  v232 := Tryd.zeroValue106
  t233 := Tryd.underlying107
  a233 := Tryd.isAgg107
  z233 := Tryd.sizeOf107
  v233 := Tryd.zeroValue107
  g15 := by kernel_rfl
  g16 := by kernel_rfl
  g17 := by kernel_rfl
  g18 := by kernel_rfl
  g19 := by kernel_rfl
  t80 := Tryd.underlying49
  a80 := Tryd.isAgg49
  z80 := Tryd.sizeOf49
  v80 := Tryd.zeroValue49
  i0 := by kernel_rfl
  i2 := by kernel_rfl
  i3 := by kernel_rfl
  i4 := by kernel_rfl
  i5 := by kernel_rfl
  i9 := by kernel_rfl
  i20 := by kernel_rfl
  i21 := by kernel_rfl
  i37 := by kernel_rfl
  i46 := by kernel_rfl
  i51 := by kernel_rfl
  i53 := by kernel_rfl
  i75 := by kernel_rfl
  i80 := by kernel_rfl
  i85 := by kernel_rfl
  i127 := by kernel_rfl
  i143 := by kernel_rfl
  i145 := by kernel_rfl
  i167 := by kernel_rfl
  i168 := by kernel_rfl
  i171 := by kernel_rfl
  i173 := by kernel_rfl
  i175 := by kernel_rfl
  i210 := by kernel_rfl
  i212 := by kernel_rfl
  i232 := by kernel_rfl
  i233 := by kernel_rfl
  m15 := by kernel_rfl
  m16 := by kernel_rfl
  m17 := by kernel_rfl
  m18 := by kernel_rfl
  m19 := by kernel_rfl
  c0 := by kernel_rfl
  c2 := by kernel_rfl
  c3 := by kernel_rfl
  c4 := by kernel_rfl
  c5 := by kernel_rfl
  c9 := by kernel_rfl
  c20 := by kernel_rfl
  c21 := by kernel_rfl
  c37 := by kernel_rfl
  c46 := by kernel_rfl
  c51 := by kernel_rfl
  c53 := by kernel_rfl
  c75 := by kernel_rfl
  c80 := by kernel_rfl
  c85 := by kernel_rfl
  c127 := by kernel_rfl
  c143 := by kernel_rfl
  c145 := by kernel_rfl
  c167 := by kernel_rfl
  c168 := by kernel_rfl
  c171 := by kernel_rfl
  c173 := by kernel_rfl
  c175 := by kernel_rfl
  c210 := by kernel_rfl
  c212 := by kernel_rfl
  c213 := by kernel_rfl
  c232 := by kernel_rfl
  c233 := by kernel_rfl }
open Go.RowKit in
theorem Tryd.strconv_ParseInt_10_at32_ok (s : ByteArray) (hmax : s.size ≤ 9223372036854775806) (v : Int) (h : Lib.parseIntB 32 s.data.toList = .ok v) (w : World) :
    Calls Tryd.prog 47 #[.string s, .int .i64 10, .int .i64 32] w fun e w' => e = .returned (.tuple #[.int .i64 v, .nilIface]) ∧ (w' = w ∨ ∃ t, w' = Lib.bytesWorld w 5 t) := Any.strconv_ParseInt_10_at32_ok Tryd.laysC174 s hmax v h w
open Go.RowKit in
theorem Tryd.strconv_ParseInt_10_at32_syntax (s : ByteArray) (hlim : s.size ≤ 281474976710656) (h : Lib.parseIntB 32 s.data.toList = Lib.parseIntB 32 []) (ev : Value) (w : World) (hv : w.cell? ⟨2, 0, none⟩ = some ev) (hev : ev = .nilIface ∨ ∃ te pe, ev = .iface te pe) :
    Calls Tryd.prog 47 #[.string s, .int .i64 10, .int .i64 32] w fun e w' => ∃ N, e = .returned (.tuple #[.int .i64 (0), .iface 80 (.pointer (some ⟨N, 0, none⟩))]) ∧ w.heap.size ≤ N ∧ w'.heap[N]? = some (.cells #[.string ⟨#[80, 97, 114, 115, 101, 73, 110, 116]⟩, .string s, ev] 94 (0, 0)) ∧ Below w.heap.size w w' := Any.strconv_ParseInt_10_at32_syntax Tryd.laysC174 s hlim h ev w hv hev
open Go.RowKit in
theorem Tryd.strconv_ParseInt_10_at32_range (s : ByteArray) (hlim : s.size ≤ 281474976710656) (h : Lib.parseIntB 32 s.data.toList = .range) (ev : Value) (w : World) (hv : w.cell? ⟨3, 0, none⟩ = some ev) (hev : ev = .nilIface ∨ ∃ te pe, ev = .iface te pe) :
    Calls Tryd.prog 47 #[.string s, .int .i64 10, .int .i64 32] w fun e w' => ∃ N, e = .returned (.tuple #[.int .i64 (Lib.intSat 32 s.data.toList), .iface 80 (.pointer (some ⟨N, 0, none⟩))]) ∧ w.heap.size ≤ N ∧ w'.heap[N]? = some (.cells #[.string ⟨#[80, 97, 114, 115, 101, 73, 110, 116]⟩, .string s, ev] 94 (0, 0)) ∧ Below w.heap.size w w' := Any.strconv_ParseInt_10_at32_range Tryd.laysC174 s hlim h ev w hv hev
def Tryd.lays197_ren : Go.Shelf.Ren := ⟨fun | 197 => 49 | 260 => 59 | n => n, fun | 9 => 9 | 21 => 21 | 3 => 3 | 4 => 4 | 5 => 5 | 105 => 63 | 119 => 88 | 0 => 0 | 46 => 75 | 139 => 91 | 138 => 90 | n => n, fun | 3 => 0 | 4 => 1 | n => n⟩
theorem Tryd.lays197 : Go.Proofs.Lays.n197 Tryd.prog Tryd.lays197_ren := {
  mixed := by kernel_rfl
  f197 := Tryd.func49.trans (congrArg some (by kernel_rfl))
  f260 := Tryd.func59.trans (congrArg some (by kernel_rfl))
  t0 := Tryd.underlying0
  a0 := Tryd.isAgg0
  z0 := Tryd.sizeOf0
  v0 := Tryd.zeroValue0
  t3 := Tryd.underlying3
  a3 := Tryd.isAgg3
  z3 := Tryd.sizeOf3
  v3 := Tryd.zeroValue3
  t4 := Tryd.underlying4
  a4 := Tryd.isAgg4
  z4 := Tryd.sizeOf4
  v4 := Tryd.zeroValue4
  t5 := Tryd.underlying5
  a5 := Tryd.isAgg5
  z5 := Tryd.sizeOf5
  v5 := Tryd.zeroValue5
  t9 := Tryd.underlying9
  a9 := Tryd.isAgg9
  z9 := Tryd.sizeOf9
  v9 := Tryd.zeroValue9
  t21 := Tryd.underlying21
  a21 := Tryd.isAgg21
  z21 := Tryd.sizeOf21
  v21 := Tryd.zeroValue21
  t46 := Tryd.underlying75
  a46 := Tryd.isAgg75
  z46 := Tryd.sizeOf75
  v46 := Tryd.zeroValue75
  t105 := Tryd.underlying63
  a105 := Tryd.isAgg63
  z105 := Tryd.sizeOf63
  v105 := Tryd.zeroValue63
  t119 := Tryd.underlying88
  a119 := Tryd.isAgg88
  z119 := Tryd.sizeOf88
  t138 := Tryd.underlying90
  a138 := Tryd.isAgg90
  z138 := Tryd.sizeOf90
  v138 := Tryd.zeroValue90
  t139 := Tryd.underlying91
  a139 := Tryd.isAgg91
  z139 := Tryd.sizeOf91
  v139 := Tryd.zeroValue91
  g3 := by kernel_rfl
  g4 := by kernel_rfl }
def Tryd.lays260_ren : Go.Shelf.Ren := ⟨fun | 260 => 59 | n => n, fun | 9 => 9 | 21 => 21 | 3 => 3 | 4 => 4 | 5 => 5 | 119 => 88 | 0 => 0 | 46 => 75 | 139 => 91 | 138 => 90 | n => n, fun | 3 => 0 | 4 => 1 | n => n⟩
theorem Tryd.lays260 : Go.Proofs.Lays.n260 Tryd.prog Tryd.lays260_ren := {
  mixed := by kernel_rfl
  f260 := Tryd.func59.trans (congrArg some (by kernel_rfl))
  t0 := Tryd.underlying0
  a0 := Tryd.isAgg0
  z0 := Tryd.sizeOf0
  v0 := Tryd.zeroValue0
  t3 := Tryd.underlying3
  a3 := Tryd.isAgg3
  z3 := Tryd.sizeOf3
  v3 := Tryd.zeroValue3
  t4 := Tryd.underlying4
  a4 := Tryd.isAgg4
  z4 := Tryd.sizeOf4
  v4 := Tryd.zeroValue4
  t5 := Tryd.underlying5
  a5 := Tryd.isAgg5
  z5 := Tryd.sizeOf5
  v5 := Tryd.zeroValue5
  t9 := Tryd.underlying9
  a9 := Tryd.isAgg9
  z9 := Tryd.sizeOf9
  v9 := Tryd.zeroValue9
  t21 := Tryd.underlying21
  a21 := Tryd.isAgg21
  z21 := Tryd.sizeOf21
  v21 := Tryd.zeroValue21
  t46 := Tryd.underlying75
  a46 := Tryd.isAgg75
  z46 := Tryd.sizeOf75
  v46 := Tryd.zeroValue75
  t119 := Tryd.underlying88
  a119 := Tryd.isAgg88
  z119 := Tryd.sizeOf88
  t138 := Tryd.underlying90
  a138 := Tryd.isAgg90
  z138 := Tryd.sizeOf90
  v138 := Tryd.zeroValue90
  t139 := Tryd.underlying91
  a139 := Tryd.isAgg91
  z139 := Tryd.sizeOf91
  v139 := Tryd.zeroValue91
  g3 := by kernel_rfl
  g4 := by kernel_rfl }
open Go.RowKit Go.Lib in
theorem Tryd.utf8_DecodeRuneInString (s : ByteArray) (w : World) (hT : Lib.Utf8Tabs 0 1 w) :
    Calls Tryd.prog 49 #[.string s] w fun e w' => e = .returned (.tuple #[.int .i32 (Lib.decodeGo s).1, .int .i64 (Lib.decodeGo s).2]) ∧ Below w.heap.size w w' := Any.utf8_DecodeRuneInString Tryd.lays197 s w hT
end Go.Proofs
set_option linter.unusedVariables false
set_option linter.unusedSimpArgs false
namespace Go.Proofs.YtigikjihagmokaaDoor.Bld
open Go.RowKit

set_option maxHeartbeats 1000000 in
set_option maxRecDepth 100000 in
theorem check_fresh (B b : Nat) (bs : List Value) (w : World) (h : Lib.BuilderAtF 43 5 B b (.pointer none) bs w) :
    Calls Tryd.prog 50 #[.pointer (some ⟨b, 0, none⟩)] w fun e w' => e = .returned (.tuple #[]) ∧ w' = w.setCell ⟨b, 0, none⟩ (.pointer (some ⟨b, 0, none⟩)) := by
  have X := Tryd.Builder_Extra_169
  obtain ⟨j, hj, hjs⟩ := Option.map_eq_some_iff.1 X.sizeBuilder
  have h0 := h.cell0
  have hsh := h.shape
  have hfz := h.frozen0
  go_enter Tryd.func50, Tryd.ntmps50
  go_wp2
  rw [Lib.run_to_unsafe w ⟨b, 0, none⟩ Tryd.underlying40 Tryd.underlying72 hj (by rw [hjs]; decide) hsh (Nat.zero_lt_succ 1)]
  simp only [Result.andThen]
  rw [Oper.upon_value]
  go_wp2
  rw [run_callFunc_extern Tryd.func60 (by kernel_rfl) (by kernel_rfl) (by kernel_rfl) (e := Extern.AbiNoEscape.same) (by kernel_rfl)]
  rw [Lib.run_noEscape]
  simp only [Result.andThen]
  rw [Oper.upon_value]
  go_wp2
  rw [Lib.run_from_unsafe w ⟨b, 0, none⟩ Tryd.underlying72 Tryd.underlying40 hj hsh X.liesBuilder]
  simp only [Result.andThen]
  rw [Oper.upon_value]
  go_wp2
  go_end0
  exact ⟨rfl, rfl⟩
set_option maxHeartbeats 1000000 in
set_option maxRecDepth 100000 in
theorem check_used (B b : Nat) (bs : List Value) (w : World) (h : Lib.BuilderAtF 43 5 B b (.pointer (some ⟨b, 0, none⟩)) bs w) :
    Calls Tryd.prog 50 #[.pointer (some ⟨b, 0, none⟩)] w fun e w' => e = .returned (.tuple #[]) ∧ w' = w := by
  obtain ⟨j, hj, _⟩ := Option.map_eq_some_iff.1 (Tryd.Builder_Extra_169).sizeBuilder
  have h0 := h.cell0
  go_enter Tryd.func50, Tryd.ntmps50
  go_wp2
  rw [Lib.run_neq_ptr_same w _ Tryd.underlying40 hj]
  go_wp2
  go_end0
  exact ⟨rfl, rfl⟩
theorem check (B b : Nat) (bs : List Value) (w : World) (h : Lib.IsBuilderF 43 5 B b bs w) :
    Calls Tryd.prog 50 #[.pointer (some ⟨b, 0, none⟩)] w fun e w' => e = .returned (.tuple #[]) ∧ (Lib.BuilderAtF 43 5 B b (.pointer (some ⟨b, 0, none⟩)) bs w' ∧ Below B w w' ∧ Lib.OthersKept 5 (some b) w w') := by
  rcases h with h | h
  · refine (check_fresh B b bs w h).mono ?_
    rintro e w' ⟨rfl, rfl⟩
    exact ⟨rfl, h.used _, (Below.refl B w).setCell (p := ⟨b, 0, none⟩) h.1 _, (Lib.OthersKept.refl _ _ w).setCell ⟨b, 0, none⟩ rfl _⟩
  · refine (check_used B b bs w h).mono ?_
    rintro e w' ⟨rfl, rfl⟩
    exact ⟨rfl, h, Below.refl B _, Lib.OthersKept.refl _ _ _⟩

set_option maxHeartbeats 2000000 in
set_option maxRecDepth 100000 in
theorem writeString (B b : Nat) (bs : List Value) (s : ByteArray) (w : World) (h : Lib.IsBuilderF 43 5 B b bs w) (hlen : bs.length + s.size ≤ 140737488355328) (hBw : B ≤ w.heap.size) :
    Calls Tryd.prog 38 #[.pointer (some ⟨b, 0, none⟩), .string s] w fun e w' => e = .returned (.tuple #[.int .i64 s.size, .nilIface]) ∧ (Lib.BuilderAtF 43 5 B b (.pointer (some ⟨b, 0, none⟩)) (bs ++ Lib.strCells s) w' ∧ Below B w w' ∧ Lib.OthersKept 5 (some b) w w') := by
  have X := Tryd.Builder_Extra_169
  obtain ⟨i0, hi, hz0, hz1, hz2⟩ := info_parts X.infoByte
  go_enter Tryd.func38, Tryd.ntmps38
  go_wp2_with (go_at_call 50; refine (check B b bs _ h).mono ?_)
  rintro e w1 ⟨rfl, h1, hb1, hk1⟩
  obtain ⟨hB, v, hbk, hown, hne⟩ := h1
  have c0 : w1.cell? ⟨b, 0, none⟩ = some (.pointer (some ⟨b, 0, none⟩)) := by rw [Lib.cell_of_heap hbk]; rfl
  have c1 : w1.cell? ⟨b, 1, none⟩ = some v := by rw [Lib.cell_of_heap hbk]; rfl
  go_wp2_with (at_builtin; refine Lib.wpList_append_own_stringF _ rfl _ _ 41 9 rfl B 5 i0 Tryd.underlying41 Tryd.underlying9 hi hz0 hz1 hz2 _ _ _ rfl hown s rfl ?c3 ?c4 ?c5 ?_)
  case c3 => unfold maxLen; omega
  case c4 => omega
  case c5 => have := hb1.size; omega
  intro v' w2 hown' hgrow _
  have hlt : b < w1.heap.size := by
    rcases Nat.lt_or_ge b w1.heap.size with h' | h'
    · exact h'
    · simp [Array.getElem?_eq_none h'] at hbk
  have hb2 : w2.heap[b]? = some (.cells #[.pointer (some ⟨b, 0, none⟩), v] 43 (0, 0)) := by
    rw [hgrow.block b hlt (fun e => hne e.symm)]
    exact hbk
  have d0 : w2.cell? ⟨b, 0, none⟩ = some (.pointer (some ⟨b, 0, none⟩)) := by rw [Lib.cell_of_heap hb2]; rfl
  have d1 : w2.cell? ⟨b, 1, none⟩ = some v := by rw [Lib.cell_of_heap hb2]; rfl
  have f1 : w2.frozen? ⟨b, 1, none⟩ = false := Lib.frozen_of_heap hb2 1
  obtain ⟨ao, n', cap, rfl⟩ : ∃ ao n' cap, v' = .slice ao n' cap := by
    rcases hown'.2 with ⟨hv, _⟩ | ⟨g, cap, cur, fz, hv, _⟩
    · exact ⟨_, _, _, hv⟩
    · exact ⟨_, _, _, hv⟩
  go_wp2
  go_ret2
  refine ⟨rfl, ?_, ?_, (hk1.grown hgrow (Lib.ownsRowF_kind hown)).setCell ⟨b, 1, none⟩ rfl _⟩
  · exact Lib.BuilderAtF.put (T := 43) (e := 5) hB hb2 (bs' := bs ++ Lib.strCells s) (by simpa [Lib.strCells_length] using hown') (by decide)
  · exact (hb1.grown hgrow (by have := hb1.size; omega) (fun k hk => (hown.lt k hk).1)).setCell (p := ⟨b, 1, none⟩) hB _
end Go.Proofs.YtigikjihagmokaaDoor.Bld
namespace Go.Proofs.YtigikjihagmokaaDoor.Fill
open Go.RowKit Go.Proofs.YtigikjihagmokaaDoorW.PrintWords Go.Proofs.YtigikjihagmokaaDoorW.PrintLast Go.Proofs.YtigikjihagmokaaDoorW.PrintMore Go.Proofs.YtigikjihagmokaaDoor.Aid
set_option linter.unusedVariables false
set_option linter.unusedSimpArgs false
/-- What stands at a place: none: no piece; a piece, and the place behind it. -/
def piece (s : ByteArray) (l : List ByteArray) (x : Int) : Option (ByteArray × Int) :=
  if (s.extract x.toNat (x + 1).toNat).toList = ([123] : List UInt8) then
    if (s.size : Int) < x + 3 then none
    else if bt s (x + 2) ≠ 125 then none
    else if bt s (x + 1) < 48 then none
    else if 57 < bt s (x + 1) then none
    else if (l.length : Int) ≤ bt s (x + 1) - 48 then none
    else some (rdOf ByteArray.empty l (bt s (x + 1) - 48), x + 3)
  else some (s.extract x.toNat (x + 1).toNat, x + 1)
def go (s : ByteArray) (l : List ByteArray) : Nat → Int → List UInt8 → ByteArray × Int
  | 0, _, _ => (⟨#[]⟩, 11)
  | k + 1, x, acc => if x < (s.size : Int) then (match piece s l x with
      | none => (⟨#[]⟩, 11)
      | some (p, y) => if 1048576 - (acc.length : Int) < (p.size : Int) then (⟨#[]⟩, 2) else go s l k y (acc ++ p.data.toList)) else (⟨acc.toArray⟩, 0)
def f (s : ByteArray) (l : List ByteArray) : ByteArray × Int := if (s.size : Int) > 65536 then (⟨#[]⟩, 2) else go s l (s.size + 1) 0 []

theorem bytes_cells (s : ByteArray) : Lib.byteCells s.data.toList = Lib.strCells s := by
  simp [Lib.byteCells, Lib.strCells]
theorem w64' {x : Int} (h0 : -9223372036854775808 ≤ x) (h1 : x ≤ 9223372036854775807) : wrap64 x = x := by unfold wrap64; omega
set_option maxHeartbeats 4000000 in
set_option maxRecDepth 100000 in
theorem calls (a0 : ByteArray) (A1 : Option Addr) (c1 : Nat) (l1 : List ByteArray) (w : World) (hr1 : Kd.C Kd.string w A1 l1.length l1) (hc1 : l1.length ≤ c1) :
    Calls Tryd.prog 19 #[.string a0, .slice A1 l1.length c1] w fun e w' => e = .returned (.tuple #[.string (f a0 l1).1, .int .i64 (f a0 l1).2]) ∧ Below w.heap.size w w' := by
  have HR1 := Aside0.mk hr1
  have HC1 := Aside0.mk hc1
  clear hr1 hc1
  go_enter Tryd.func19, Tryd.ntmps19
  by_cases c : (a0.size : Int) > 65536
  · have cb : decide (65536 < (a0.size : Int)) = true := decide_eq_true c
    have e : f a0 l1 = (⟨#[]⟩, 2) := by unfold f; rw [if_pos c]
    clear c
    rw [e]
    go_wp2
    go_ret2
    exact ⟨rfl, Below.refl _ _⟩
  · have cb : decide (65536 < (a0.size : Int)) = false := decide_eq_false c
    have e : f a0 l1 = go a0 l1 (a0.size + 1) 0 [] := by unfold f; rw [if_neg c]
    have hsz : a0.size ≤ 65536 := by omega
    clear c
    go_wp2
    go_loopw [7] (fun i wr => ∃ (x : Int) (fuel : Nat) (acc : List UInt8), i = .int .i64 x ∧ Aside0 (Lib.IsBuilderF 43 5 w.heap.size w.heap.size (Lib.byteCells acc) wr) ∧ Aside0 (Below w.heap.size w wr) ∧ Aside0 (go a0 l1 fuel x acc = f a0 l1) ∧ Aside0 ((a0.size : Int) + 1 ≤ x + fuel) ∧ Aside0 (0 ≤ x ∧ x ≤ a0.size) ∧ Aside0 (acc.length ≤ 1048576)) (fun i _ => a0.size - (intOf i).toNat)
    case atStart =>
      refine ⟨0, a0.size + 1, [], rfl, ⟨?_⟩, ⟨?_⟩, ⟨e.symm⟩, ⟨by omega⟩, ⟨by omega⟩, ⟨by simp⟩⟩
      · have h1 := Lib.IsBuilderF.of (Lib.fresh_isBuilder 43 5 w)
        exact h1
      · exact (Below.refl _ w).alloc (Nat.le_refl _) _
    case round =>
      obtain ⟨x, fuel, acc, rfl, HI, HB, HG, HF, HJ, HL⟩ := hrel
      clear e
      by_cases hx : x < (a0.size : Int)
      · have b0 : decide (x < (a0.size : Int)) = true := decide_eq_true hx
        have HX := Aside0.mk hx
        obtain ⟨x1, hx1⟩ : ∃ x1 : Int, x + 1 = x1 := ⟨_, rfl⟩
        obtain ⟨x2, hx2⟩ : ∃ x2 : Int, x + 2 = x2 := ⟨_, rfl⟩
        obtain ⟨x3, hx3⟩ : ∃ x3 : Int, x + 3 = x3 := ⟨_, rfl⟩
        have HX1 : Aside0 (x1 = x + 1 ∧ x3 = x + 3 ∧ x < (a0.size : Int)) := ⟨hx1.symm, hx3.symm, hx⟩
        have hj := HJ.out
        have W1 : Aside0 (IntKind.i64.wrap (x + 1) = x1) := ⟨by rw [i64_w, w64' (by omega) (by omega)]; exact hx1⟩
        have W2 : Aside0 (IntKind.i64.wrap (x + 2) = x2) := ⟨by rw [i64_w, w64' (by omega) (by omega)]; exact hx2⟩
        have W3 : Aside0 (IntKind.i64.wrap (x + 3) = x3) := ⟨by rw [i64_w, w64' (by omega) (by omega)]; exact hx3⟩
        have W4 : Aside0 (IntKind.i64.wrap (x2 + 1) = x3) := ⟨by rw [i64_w, w64' (by omega) (by omega)]; omega⟩
        have c0 := eq_true hj.1
        have c1' : (x ≤ x1) = True := eq_true (by omega)
        have c2' : (x1 ≤ (a0.size : Int)) = True := eq_true (by omega)
        have d0 : decide (0 ≤ x) = true := decide_eq_true hj.1
        have d1 : decide (x ≤ x1) = true := decide_eq_true (by omega)
        have d2 : decide (x1 ≤ (a0.size : Int)) = true := decide_eq_true (by omega)
        by_cases h1 : (a0.extract x.toNat x1.toNat).toList = ([123] : List UInt8)
        · have e1 : ((a0.extract x.toNat x1.toNat).toList == ([123] : List UInt8)) = true := beq_iff_eq.mpr h1
          by_cases h2 : (a0.size : Int) < x3
          · have e2 : decide ((a0.size : Int) < x3) = true := decide_eq_true h2
            have HPc : Aside0 (piece a0 l1 x = none) := ⟨by unfold piece; rw [hx1, if_pos h1, hx3, if_pos h2]⟩
            clear h2
            have HR : Aside0 (f a0 l1 = (⟨#[]⟩, 11)) := ⟨by
              rw [← HG.out]
              obtain ⟨k, rfl⟩ : ∃ k, fuel = k + 1 := ⟨fuel - 1, by have := HF.out; have := HJ.out; omega⟩
              simp only [go]; rw [if_pos HX.out, HPc.out]⟩
            clear h1 hx hj hx1 hx2 hx3
            have w1 := W1.out; have w2 := W2.out; have w3 := W3.out; have w4 := W4.out
            go_wp2
            go_ret2
            exact ⟨by rw [HR.out]; rfl, HB.out⟩
          · have e2 : decide ((a0.size : Int) < x3) = false := decide_eq_false h2
            have p2 : (0 ≤ x2) = True := eq_true (by omega)
            have q2 : (x2 < (a0.size : Int)) = True := eq_true (by omega)
            have p1 : (0 ≤ x1) = True := eq_true (by omega)
            have q1 : (x1 < (a0.size : Int)) = True := eq_true (by omega)
            have b2 := bt_at a0 x2
            have b1 := bt_at a0 x1
            have r1 := bt_range a0 x1
            by_cases h3 : bt a0 x2 ≠ 125
            · have e3 : (bt a0 x2 != 125) = true := bne_iff_ne.mpr h3
              have HPc : Aside0 (piece a0 l1 x = none) := ⟨by unfold piece; rw [hx1, if_pos h1, hx3, if_neg h2, hx2, if_pos h3]⟩
              clear h2 h3
              have HR : Aside0 (f a0 l1 = (⟨#[]⟩, 11)) := ⟨by
                rw [← HG.out]
                obtain ⟨k, rfl⟩ : ∃ k, fuel = k + 1 := ⟨fuel - 1, by have := HF.out; have := HJ.out; omega⟩
                simp only [go]; rw [if_pos HX.out, HPc.out]⟩
              clear h1 hx hj hx1 hx2 hx3
              have w1 := W1.out; have w2 := W2.out; have w3 := W3.out; have w4 := W4.out
              go_wp2
              go_ret2
              exact ⟨by rw [HR.out]; rfl, HB.out⟩
            · have e3 : (bt a0 x2 != 125) = false := bne_eq_false_iff_eq.mpr (Classical.not_not.1 h3)
              by_cases h4 : bt a0 x1 < 48
              · have e4 : decide (bt a0 x1 < 48) = true := decide_eq_true h4
                have HPc : Aside0 (piece a0 l1 x = none) := ⟨by unfold piece; rw [hx1, if_pos h1, hx3, if_neg h2, hx2, if_neg h3, if_pos h4]⟩
                clear h2 h3 h4 r1
                have HR : Aside0 (f a0 l1 = (⟨#[]⟩, 11)) := ⟨by
                  rw [← HG.out]
                  obtain ⟨k, rfl⟩ : ∃ k, fuel = k + 1 := ⟨fuel - 1, by have := HF.out; have := HJ.out; omega⟩
                  simp only [go]; rw [if_pos HX.out, HPc.out]⟩
                clear h1 hx hj hx1 hx2 hx3
                have w1 := W1.out; have w2 := W2.out; have w3 := W3.out; have w4 := W4.out
                go_wp2
                go_ret2
                exact ⟨by rw [HR.out]; rfl, HB.out⟩
              · have e4 : decide (bt a0 x1 < 48) = false := decide_eq_false h4
                by_cases h5 : 57 < bt a0 x1
                · have e5 : decide (57 < bt a0 x1) = true := decide_eq_true h5
                  have HPc : Aside0 (piece a0 l1 x = none) := ⟨by unfold piece; rw [hx1, if_pos h1, hx3, if_neg h2, hx2, if_neg h3, if_neg h4, if_pos h5]⟩
                  clear h2 h3 h4 h5 r1
                  have HR : Aside0 (f a0 l1 = (⟨#[]⟩, 11)) := ⟨by
                    rw [← HG.out]
                    obtain ⟨k, rfl⟩ : ∃ k, fuel = k + 1 := ⟨fuel - 1, by have := HF.out; have := HJ.out; omega⟩
                    simp only [go]; rw [if_pos HX.out, HPc.out]⟩
                  clear h1 hx hj hx1 hx2 hx3
                  have w1 := W1.out; have w2 := W2.out; have w3 := W3.out; have w4 := W4.out
                  go_wp2
                  go_ret2
                  exact ⟨by rw [HR.out]; rfl, HB.out⟩
                · have e5 : decide (57 < bt a0 x1) = false := decide_eq_false h5
                  obtain ⟨n, hn⟩ : ∃ n : Int, (bt a0 x1 - 48) % 256 = n := ⟨_, rfl⟩
                  have hn2 : bt a0 x1 - 48 = n := by omega
                  by_cases h6 : (l1.length : Int) ≤ n
                  · have e6 : decide ((l1.length : Int) ≤ n) = true := decide_eq_true h6
                    have HPc : Aside0 (piece a0 l1 x = none) := ⟨by unfold piece; rw [hx1, if_pos h1, hx3, if_neg h2, hx2, if_neg h3, if_neg h4, if_neg h5, hn2, if_pos h6]⟩
                    clear h2 h3 h4 h5 h6 r1 hn2
                    have HR : Aside0 (f a0 l1 = (⟨#[]⟩, 11)) := ⟨by
                      rw [← HG.out]
                      obtain ⟨k, rfl⟩ : ∃ k, fuel = k + 1 := ⟨fuel - 1, by have := HF.out; have := HJ.out; omega⟩
                      simp only [go]; rw [if_pos HX.out, HPc.out]⟩
                    clear h1 hx hj hx1 hx2 hx3
                    have w1 := W1.out; have w2 := W2.out; have w3 := W3.out; have w4 := W4.out
                    go_wp2
                    go_ret2
                    exact ⟨by rw [HR.out]; rfl, HB.out⟩
                  · have e6 : decide ((l1.length : Int) ≤ n) = false := decide_eq_false h6
                    obtain ⟨ad, ead, had⟩ := Kd.at_string HR1.out n (by omega) (by omega)
                    cases ead
                    replace had := (HB.out.cell (World.block_lt_of_cell? w _ had)).trans had
                    have p3 : (0 ≤ n) = True := eq_true (by omega)
                    have q3 : (n < (l1.length : Int)) = True := eq_true (by omega)
                    have HPc : Aside0 (piece a0 l1 x = some (rdOf ByteArray.empty l1 n, x3)) := ⟨by unfold piece; rw [hx1, if_pos h1, hx3, if_neg h2, hx2, if_neg h3, if_neg h4, if_neg h5, hn2, if_neg h6]⟩
                    have HY : Aside0 (x3 ≤ (a0.size : Int)) := ⟨by omega⟩
                    clear h2 h3 h4 h5 h6 r1 hn2
                    obtain ⟨m, Hm⟩ : ∃ m : Int, Aside0 (m = 1048576 - (acc.length : Int)) := ⟨_, ⟨rfl⟩⟩
                    have HM : Aside0 (IntKind.i64.wrap (1048576 - ((Lib.byteCells acc).length : Int)) = m) := ⟨by rw [i64_w, Lib.byteCells_length, w64' (by have := HL.out; omega) (by omega)]; exact Hm.out.symm⟩
                    have hI := HI.out
                    have hsize : w.heap.size ≤ wr.heap.size := HB.out.size
                    clear h1 hx hj hx1 hx2 hx3
                    by_cases h7 : m < ((rdOf ByteArray.empty l1 n).size : Int)
                    · have e7 : decide (m < ((rdOf ByteArray.empty l1 n).size : Int)) = true := decide_eq_true h7
                      have HR : Aside0 (f a0 l1 = (⟨#[]⟩, 2)) := ⟨by
                        rw [← HG.out]
                        obtain ⟨k, rfl⟩ : ∃ k, fuel = k + 1 := ⟨fuel - 1, by have := HF.out; have := HJ.out; omega⟩
                        simp only [go]; rw [if_pos HX.out, HPc.out]; simp only []; rw [if_pos (by have := Hm.out; omega)]⟩
                      clear h7
                      have w1 := W1.out; have w2 := W2.out; have w3 := W3.out; have w4 := W4.out; have hm := HM.out
                      go_wp2_with (go_at_call 37; refine (Tryd.Builder_Len_f w.heap.size w.heap.size _ _ hI).mono ?_)
                      rintro e W1 ⟨rfl, rfl⟩
                      go_wp2
                      go_ret2
                      exact ⟨by rw [HR.out]; rfl, HB.out⟩
                    · have e7 : decide (m < ((rdOf ByteArray.empty l1 n).size : Int)) = false := decide_eq_false h7
                      have HS : Aside0 (acc.length + (rdOf ByteArray.empty l1 n).size ≤ 1048576) := ⟨by have := Hm.out; omega⟩
                      have HSl : Aside0 ((Lib.byteCells acc).length + (rdOf ByteArray.empty l1 n).size ≤ 140737488355328) := ⟨by rw [Lib.byteCells_length]; have := HS.out; omega⟩
                      clear h7
                      have w1 := W1.out; have w2 := W2.out; have w3 := W3.out; have w4 := W4.out; have hm := HM.out
                      go_wp2_with (go_at_call 37; refine (Tryd.Builder_Len_f w.heap.size w.heap.size _ _ hI).mono ?_)
                      rintro e W1 ⟨rfl, rfl⟩
                      go_wp2_with (go_at_call 38; refine (Bld.writeString w.heap.size w.heap.size _ (rdOf ByteArray.empty l1 n) _ hI HSl.out hsize).mono ?_)
                      rintro e W1 ⟨rfl, g1, g2, _⟩
                      go_wp2
                      go_roundw
                      case rel =>
                        clear w1 w2 w3 w4 hm
                        obtain ⟨k, rfl⟩ : ∃ k, fuel = k + 1 := ⟨fuel - 1, by have := HF.out; have := HJ.out; omega⟩
                        refine ⟨x3, k, acc ++ (rdOf ByteArray.empty l1 n).data.toList, rfl, ⟨.inr ?_⟩, ⟨HB.out.trans g2⟩, ⟨?_⟩, ⟨by have := HF.out; have := HX1.out; omega⟩, ⟨by have := HX1.out; have := HJ.out; have := HY.out; omega⟩, ⟨by have := HS.out; simp only [List.length_append, Array.length_toList]; exact this⟩⟩
                        · rw [Lib.byteCells_append, bytes_cells]; exact g1
                        · have := HG.out
                          simp only [go] at this
                          rw [if_pos HX.out, HPc.out] at this
                          simp only [] at this
                          rw [if_neg (by have := HS.out; omega)] at this
                          exact this
                      case measure => clear w1 w2 w3 w4 hm; have := HX1.out; have := HJ.out; simp only [intOf]; omega
        · have e1 : ((a0.extract x.toNat x1.toNat).toList == ([123] : List UInt8)) = false := beq_eq_false_iff_ne.mpr h1
          have HPc : Aside0 (piece a0 l1 x = some (a0.extract x.toNat x1.toNat, x1)) := ⟨by unfold piece; rw [hx1, if_neg h1]⟩
          have HY : Aside0 (x1 ≤ (a0.size : Int)) := ⟨by omega⟩
          have HZ : Aside0 ((a0.extract x.toNat x1.toNat).size = x1.toNat - x.toNat) := ⟨by rw [ByteArray.size_extract]; omega⟩
          obtain ⟨m, Hm⟩ : ∃ m : Int, Aside0 (m = 1048576 - (acc.length : Int)) := ⟨_, ⟨rfl⟩⟩
          have HM : Aside0 (IntKind.i64.wrap (1048576 - ((Lib.byteCells acc).length : Int)) = m) := ⟨by rw [i64_w, Lib.byteCells_length, w64' (by have := HL.out; omega) (by omega)]; exact Hm.out.symm⟩
          have hI := HI.out
          have hsize : w.heap.size ≤ wr.heap.size := HB.out.size
          clear h1 hx hj hx1 hx2 hx3
          by_cases h7 : m < ((a0.extract x.toNat x1.toNat).size : Int)
          · have e7 : decide (m < ((a0.extract x.toNat x1.toNat).size : Int)) = true := decide_eq_true h7
            have e7z : decide (m < ((x1.toNat - x.toNat : Nat) : Int)) = true := by rw [← HZ.out]; exact e7
            have HR : Aside0 (f a0 l1 = (⟨#[]⟩, 2)) := ⟨by
              rw [← HG.out]
              obtain ⟨k, rfl⟩ : ∃ k, fuel = k + 1 := ⟨fuel - 1, by have := HF.out; have := HJ.out; omega⟩
              simp only [go]; rw [if_pos HX.out, HPc.out]; simp only []; rw [if_pos (by have := Hm.out; omega)]⟩
            clear h7
            have w1 := W1.out; have w2 := W2.out; have w3 := W3.out; have w4 := W4.out; have hm := HM.out
            go_wp2_with (go_at_call 37; refine (Tryd.Builder_Len_f w.heap.size w.heap.size _ _ hI).mono ?_)
            rintro e W1 ⟨rfl, rfl⟩
            go_wp2
            go_ret2
            exact ⟨by rw [HR.out]; rfl, HB.out⟩
          · have e7 : decide (m < ((a0.extract x.toNat x1.toNat).size : Int)) = false := decide_eq_false h7
            have e7z : decide (m < ((x1.toNat - x.toNat : Nat) : Int)) = false := by rw [← HZ.out]; exact e7
            have HS : Aside0 (acc.length + (a0.extract x.toNat x1.toNat).size ≤ 1048576) := ⟨by have := Hm.out; omega⟩
            have HSl : Aside0 ((Lib.byteCells acc).length + (a0.extract x.toNat x1.toNat).size ≤ 140737488355328) := ⟨by rw [Lib.byteCells_length]; have := HS.out; omega⟩
            clear h7
            have w1 := W1.out; have w2 := W2.out; have w3 := W3.out; have w4 := W4.out; have hm := HM.out
            go_wp2_with (go_at_call 37; refine (Tryd.Builder_Len_f w.heap.size w.heap.size _ _ hI).mono ?_)
            rintro e W1 ⟨rfl, rfl⟩
            go_wp2_with (go_at_call 38; refine (Bld.writeString w.heap.size w.heap.size _ (a0.extract x.toNat x1.toNat) _ hI HSl.out hsize).mono ?_)
            rintro e W1 ⟨rfl, g1, g2, _⟩
            go_wp2
            go_roundw
            case rel =>
              clear w1 w2 w3 w4 hm
              obtain ⟨k, rfl⟩ : ∃ k, fuel = k + 1 := ⟨fuel - 1, by have := HF.out; have := HJ.out; omega⟩
              refine ⟨x1, k, acc ++ (a0.extract x.toNat x1.toNat).data.toList, rfl, ⟨.inr ?_⟩, ⟨HB.out.trans g2⟩, ⟨?_⟩, ⟨by have := HF.out; have := HX1.out; omega⟩, ⟨by have := HX1.out; have := HJ.out; have := HY.out; omega⟩, ⟨by have := HS.out; simp only [List.length_append, Array.length_toList]; exact this⟩⟩
              · rw [Lib.byteCells_append, bytes_cells]; exact g1
              · have := HG.out
                simp only [go] at this
                rw [if_pos HX.out, HPc.out] at this
                simp only [] at this
                rw [if_neg (by have := HS.out; omega)] at this
                exact this
            case measure => clear w1 w2 w3 w4 hm; have := HX1.out; have := HJ.out; simp only [intOf]; omega
      · have b0 : decide (x < (a0.size : Int)) = false := decide_eq_false hx
        have hr : f a0 l1 = (⟨acc.toArray⟩, 0) := by
          rw [← HG.out]
          cases fuel with
          | zero => have := HF.out; have := HJ.out; omega
          | succ k => simp only [go]; rw [if_neg hx]
        have HR := Aside0.mk hr
        clear hr hx
        have hI := HI.out
        have hsize : w.heap.size ≤ wr.heap.size := HB.out.size
        go_wp2_with (go_at_call 39; refine (Tryd.Builder_String_any_k w.heap.size w.heap.size acc _ hI (by omega)).mono ?_)
        rintro e W1 ⟨rfl, _, b1, _⟩
        go_wp2
        go_ret2
        exact ⟨by rw [HR.out]; rfl, HB.out.trans b1⟩
end Go.Proofs.YtigikjihagmokaaDoor.Fill
namespace Go.Proofs.YtigikjihagmokaaDoor.Stray
open Go.RowKit Go.Proofs.YtigikjihagmokaaDoorW.PrintWords Go.Proofs.YtigikjihagmokaaDoorW.PrintLast Go.Proofs.YtigikjihagmokaaDoorW.PrintMore Go.Proofs.YtigikjihagmokaaDoor.Aid
set_option linter.unusedVariables false
set_option linter.unusedSimpArgs false
/-- Go's tables of UTF-8 lie in a world. -/
abbrev Tabs (w : World) : Prop := Lib.Utf8Tabs 0 1 w
theorem Tabs.below {w w' : World} (h : Tabs w) (hb : Below w.heap.size w w') : Tabs w' := Utf8Tabs_below h hb
/-- Is what stands at a place one byte that is part of no rune? -/
def strayB (s : ByteArray) (pos : Nat) : Bool := decide (Utf8.decode s pos = (65533, 1))
theorem decode_rest (s : ByteArray) (pos : Nat) (h : pos < s.size) : Lib.decodeGo (s.extract pos s.size) = Utf8.decode s pos := by
  have e := Lib.decodeL_drop s pos
  rw [← e]
  have hs : s.extract pos s.size = ⟨(s.data.toList.drop pos).toArray⟩ := by
    apply ByteArray.ext
    rw [ByteArray.data_extract]
    apply Array.toList_inj.1
    rw [Array.toList_extract, List.extract_eq_take_drop]
    simp only []
    rw [List.take_of_length_le]
    rw [List.length_drop, Array.length_toList]
    exact Nat.le_refl _
  rw [hs]
  have h0 : (⟨(s.data.toList.drop pos).toArray⟩ : ByteArray).size ≠ 0 := by
    show (s.data.toList.drop pos).toArray.size ≠ 0
    rw [List.size_toArray, List.length_drop, Array.length_toList]
    have : s.data.size = s.size := rfl
    omega
  unfold Lib.decodeGo
  rw [if_neg h0]
  rfl
theorem width (s : ByteArray) (pos : Nat) (h : pos < s.size) : 1 ≤ (Utf8.decode s pos).2 := by
  by_cases ha : (s[pos]'h).toNat < 128
  · rw [decode_ascii s pos h ha]
    exact Nat.le_refl _
  · exact (decode_high s pos h (by omega)).2
set_option maxHeartbeats 4000000 in
set_option maxRecDepth 100000 in
theorem stray (s : ByteArray) (pos : Nat) (hp : pos < s.size) (hs : s.size ≤ 9223372036854775807) (w : World) (hT : Tabs w) : Calls Tryd.prog 33 #[.string s, .int .i64 pos, .int .i32 (Utf8.decode s pos).1] w fun e w' => e = .returned (.bool (strayB s pos)) ∧ Below w.heap.size w w' := by
  have hrest := decode_rest s pos hp
  go_enter Tryd.func33, Tryd.ntmps33
  by_cases h : (Utf8.decode s pos).1 = 65533
  · have hb : (((Utf8.decode s pos).1 : Int) != 65533) = false := bne_eq_false_iff_eq.mpr (by omega)
    have c := Tryd.utf8_DecodeRuneInString (s.extract pos s.size) w hT
    rw [hrest] at c
    have p1 : (0 ≤ (pos : Int)) = True := eq_true (by omega)
    have p2 : ((pos : Int) ≤ (s.size : Int)) = True := eq_true (by omega)
    have p3 : pos ≤ s.size := by omega
    have hq : strayB s pos = ((((Utf8.decode s pos).2 : Nat) : Int) == 1) := by
      unfold strayB
      rw [Bool.eq_iff_iff, decide_eq_true_eq, beq_iff_eq]
      constructor
      · intro e; rw [e]; rfl
      · intro e
        have e2 : (Utf8.decode s pos).2 = 1 := by omega
        exact Prod.ext h e2
    generalize Utf8.decode s pos = d at *
    clear hrest
    go_wp2_with (go_at_call 49; refine c.mono ?_)
    rintro e W1 ⟨rfl, hb1⟩
    go_wp2
    go_ret
    exact ⟨by rw [hq]; rfl, hb1⟩
  · have hb : (((Utf8.decode s pos).1 : Int) != 65533) = true := bne_iff_ne.mpr (by omega)
    have hq : strayB s pos = false := by
      unfold strayB
      exact decide_eq_false (fun e => h (by rw [e]))
    go_wp2
    go_ret
    exact ⟨by rw [hq]; rfl, Below.refl _ _⟩

end Go.Proofs.YtigikjihagmokaaDoor.Stray
namespace Go.Proofs.YtigikjihagmokaaDoor.Trim
open Go.RowKit Go.Proofs.YtigikjihagmokaaDoorW.PrintWords Go.Proofs.YtigikjihagmokaaDoorW.PrintLast Go.Proofs.YtigikjihagmokaaDoorW.PrintMore Go.Proofs.YtigikjihagmokaaDoor.Stray
set_option linter.unusedVariables false
set_option linter.unusedSimpArgs false
def spaceB (r : Int) : Bool := decide (r = 9 ∨ r = 10 ∨ r = 11 ∨ r = 12 ∨ r = 13 ∨ r = 32 ∨ r = 133 ∨ r = 8206 ∨ r = 8207 ∨ r = 8232 ∨ r = 8233)
set_option maxHeartbeats 4000000 in
set_option maxRecDepth 100000 in
theorem space (r : Int) (w : World) : Calls Tryd.prog 12 #[.int .i32 r] w fun e w' => e = .returned (.bool (spaceB r)) ∧ w' = w := by
  by_cases h : r = 9 ∨ r = 10 ∨ r = 11 ∨ r = 12 ∨ r = 13 ∨ r = 32 ∨ r = 133 ∨ r = 8206 ∨ r = 8207 ∨ r = 8232 ∨ r = 8233
  · have hs : spaceB r = true := decide_eq_true h
    rw [hs]
    rcases h with h | h | h | h | h | h | h | h | h | h | h <;> subst h <;> clear hs <;> (go_enter Tryd.func12, Tryd.ntmps12; go_wp2; go_ret; exact ⟨rfl, rfl⟩)
  · have hs : spaceB r = false := decide_eq_false h
    rw [hs]
    have e1 : (r == 9) = false := beq_eq_false_iff_ne.mpr (by omega)
    have e2 : (r == 10) = false := beq_eq_false_iff_ne.mpr (by omega)
    have e3 : (r == 11) = false := beq_eq_false_iff_ne.mpr (by omega)
    have e4 : (r == 12) = false := beq_eq_false_iff_ne.mpr (by omega)
    have e5 : (r == 13) = false := beq_eq_false_iff_ne.mpr (by omega)
    have e6 : (r == 32) = false := beq_eq_false_iff_ne.mpr (by omega)
    have e7 : (r == 133) = false := beq_eq_false_iff_ne.mpr (by omega)
    have e8 : (r == 8206) = false := beq_eq_false_iff_ne.mpr (by omega)
    have e9 : (r == 8207) = false := beq_eq_false_iff_ne.mpr (by omega)
    have e10 : (r == 8232) = false := beq_eq_false_iff_ne.mpr (by omega)
    have e11 : (r == 8233) = false := beq_eq_false_iff_ne.mpr (by omega)
    clear h hs
    go_enter Tryd.func12, Tryd.ntmps12
    go_wp2
    go_ret
    exact ⟨rfl, rfl⟩
theorem fits (s : ByteArray) (i : Nat) (h : i < s.size) : i + (Utf8.decode s i).2 ≤ s.size := by
  have h2 : s.data.size = s.size := rfl
  have e := Lib.decodeL_le (s.data.toList.drop i) (fun e => by
    have := congrArg List.length e
    rw [List.length_drop, Array.length_toList] at this
    simp at this
    omega)
  rw [Lib.decodeL_drop, List.length_drop, Array.length_toList] at e
  omega

end Go.Proofs.YtigikjihagmokaaDoor.Trim
namespace Go.Proofs.YtigikjihagmokaaDoor.Num
open Go.RowKit Go.Proofs.YtigikjihagmokaaDoorW.PrintWords Go.Proofs.YtigikjihagmokaaDoorW.PrintLast Go.Proofs.YtigikjihagmokaaDoorW.PrintMore Go.Proofs.YtigikjihagmokaaDoor.Stray Go.Proofs.YtigikjihagmokaaDoor.Trim
set_option linter.unusedVariables false
set_option linter.unusedSimpArgs false
/-- Go's tables that the layer reads lie in a world: UTF-8's two, the powers of ten, strconv's two errors. -/
def Tabs (w : World) : Prop := Stray.Tabs w ∧ Lib.TabIs Tryd.prog w "internal/strconv.uint64pow10" .u64 Lib.pow10Tab ∧ (∃ te pe, w.cell? ⟨2, 0, none⟩ = some (.iface te pe)) ∧ (∃ te pe, w.cell? ⟨3, 0, none⟩ = some (.iface te pe))
theorem cell_below {w w' : World} (hb : Below w.heap.size w w') {b j : Nat} {v : Value} (h : w.cell? ⟨b, j, none⟩ = some v) : w'.cell? ⟨b, j, none⟩ = some v := by
  have hlt : b < w.heap.size := by
    refine Decidable.byContradiction fun hn => ?_
    unfold World.cell? at h
    simp only [Array.getElem?_eq_none (Nat.le_of_not_lt hn)] at h
    cases h
  have e := hb.block b hlt
  unfold World.cell? at h ⊢
  simp only [e]
  exact h
theorem Tabs.below {w w' : World} (h : Tabs w) (hb : Below w.heap.size w w') : Tabs w' := by
  obtain ⟨h1, h2, ⟨a, b, h3⟩, ⟨c, d, h4⟩⟩ := h
  exact ⟨Stray.Tabs.below h1 hb, Go.Joins.tab_stays (g := 4) (by kernel_rfl) h2 hb (Nat.le_refl _), ⟨a, b, cell_below hb h3⟩, ⟨c, d, cell_below hb h4⟩⟩
/-- Is a text that begins with a digit a number's name? -/
def numB (s : ByteArray) : Bool := match Lib.parseIntB 32 s.data.toList with
  | .ok v => decide (Lib.itoa v = s.data.toList)
  | _ => false
theorem range_ok (l : List UInt8) (v : Int) (h : Lib.parseIntB 32 l = .ok v) : -9223372036854775808 ≤ v ∧ v ≤ 9223372036854775807 := by
  unfold Lib.parseIntB at h
  cases l with
  | nil => cases h
  | cons c r =>
    simp only [] at h
    generalize (if c.toNat = 43 ∨ c.toNat = 45 then r else c :: r) = m at h
    rcases hu : Lib.parseUintB 32 m with u | _ | _
    · rw [hu] at h
      simp only [] at h
      have hm : u ≤ 4294967295 := by
        unfold Lib.parseUintB at hu
        split at hu
        · cases hu
        · exact Lib.parseUintM_le _ m 0 u (Nat.zero_le _) hu
      split at h
      · cases h
      · split at h
        · cases h
        · simp only [Lib.NumEnd.ok.injEq] at h
          subst h
          split <;> omega
    · rw [hu] at h; cases h
    · rw [hu] at h; cases h
set_option maxHeartbeats 4000000 in
set_option maxRecDepth 100000 in
theorem num_ok (s : ByteArray) (v : Int) (b : Bool) (r1 : -9223372036854775808 ≤ v) (r2 : v ≤ 9223372036854775807) (w : World) (hq : (Lib.itoa v == s.toList) = b)
    (C : Aside0 (Calls Tryd.prog 47 #[.string s, .int .i64 10, .int .i64 32] w fun e w' => e = .returned (.tuple #[.int .i64 v, .nilIface]) ∧ Below w.heap.size w w'))
    (F : Aside0 (∀ w', Below w.heap.size w w' → Calls Tryd.prog 48 #[.int .i64 v, .int .i64 10] w' fun e w'' => e = .returned (.string ⟨(Lib.itoa v).toArray⟩) ∧ Below w.heap.size w w'')) :
    Calls Tryd.prog 32 #[.string s] w fun e w' => e = .returned (.int .i64 (if b = true then 2 else 0)) ∧ Below w.heap.size w w' := by
  cases b with
  | true =>
    rw [if_pos rfl]
    go_enter Tryd.func32, Tryd.ntmps32
    go_wp2_with (first | (go_at_call 47; refine C.out.mono ?_; rintro e w1 ⟨rfl, hb⟩) | (go_at_call 48; refine (F.out _ hb).mono ?_; rintro e w2 ⟨rfl, hb2⟩))
    go_ret
    exact ⟨rfl, hb2⟩
  | false =>
    rw [if_neg Bool.false_ne_true]
    go_enter Tryd.func32, Tryd.ntmps32
    go_wp2_with (first | (go_at_call 47; refine C.out.mono ?_; rintro e w1 ⟨rfl, hb⟩) | (go_at_call 48; refine (F.out _ hb).mono ?_; rintro e w2 ⟨rfl, hb2⟩))
    go_ret
    exact ⟨rfl, hb2⟩
set_option maxHeartbeats 4000000 in
set_option maxRecDepth 100000 in
theorem numeral (s : ByteArray) (hs : s.size ≤ 64) (w : World) (hT : Tabs w) : Calls Tryd.prog 32 #[.string s] w fun e w' => e = .returned (.int .i64 (if numB s = true then 2 else 0)) ∧ Below w.heap.size w w' := by
  obtain ⟨h1, h2, ⟨te, pe, h3⟩, ⟨tf, pf, h4⟩⟩ := hT
  unfold numB
  rcases hp : Lib.parseIntB 32 s.data.toList with v | _ | _
  · have c := Tryd.strconv_ParseInt_10_at32_ok s (by omega) v hp w
    obtain ⟨r1, r2⟩ := range_ok _ v hp
    refine num_ok s v (decide (Lib.itoa v = s.data.toList)) r1 r2 w ?_ ⟨?_⟩ ⟨?_⟩
    · rw [ByteArray.toList_eq]
      by_cases hq : Lib.itoa v = s.data.toList
      · rw [decide_eq_true hq, hq, beq_self_eq_true]
      · rw [decide_eq_false hq, beq_eq_false_iff_ne.2 hq]
    · exact c.mono fun e w' ⟨he, hw⟩ => ⟨he, by
        rcases hw with rfl | ⟨t, rfl⟩
        · exact Below.refl _ _
        · exact Go.Joins.below_bytesWorld _ w 5 t (Nat.le_refl _)⟩
    · exact fun w' hb => (Tryd.strconv_FormatInt_10 v r1 r2 w' (Go.Joins.tab_stays (g := 4) (by kernel_rfl) h2 hb (Nat.le_refl _))).mono fun e w'' ⟨he, k, os, hw⟩ => ⟨he, by
        rw [hw]
        exact hb.trans (Lib.below_grow _ w' hb.size k os)⟩
  · have C := Aside0.mk (Tryd.strconv_ParseInt_10_at32_syntax s (by omega) hp _ w h3 (.inr ⟨te, pe, rfl⟩))
    clear hp h1 h2 h3 h4
    go_enter Tryd.func32, Tryd.ntmps32
    go_wp2_with (first | (go_at_call 47; refine C.out.mono ?_; rintro e w1 ⟨N, rfl, hN, hc, hb⟩))
    go_ret
    exact ⟨rfl, hb⟩
  · have C := Aside0.mk (Tryd.strconv_ParseInt_10_at32_range s (by omega) hp _ w h4 (.inr ⟨tf, pf, rfl⟩))
    clear hp h1 h2 h3 h4
    go_enter Tryd.func32, Tryd.ntmps32
    go_wp2_with (first | (go_at_call 47; refine C.out.mono ?_; rintro e w1 ⟨N, rfl, hN, hc, hb⟩))
    go_ret
    exact ⟨rfl, hb⟩
end Go.Proofs.YtigikjihagmokaaDoor.Num
