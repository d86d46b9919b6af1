/- Part 1 of 3 of the proof of the law RunesUnescapes: it is true at every input. Conditions: those of the given row, no others. -/
import Derived.Test.YtigikjihagmokaaDoorWMore
import Derived.WalkKit
import Derived.Laws.IdiomStrings
import Derived.Laws.BytesArg
import Derived.Lib.Hide
import Derived.Laws.BitsLemmas
import Derived.Test.YtigikjihagmokaaDoorProg
import Derived.Below
import Derived.Deep.Draws
import Derived.Deep.AppendLies
import Derived.Maps.AppendAt
import Derived.OwnWalk
import Derived.Laws.MakeOwn
import Derived.Laws.OwnMore
import Derived.Deep.OwnRows
import Derived.Tactics
import Derived.Lib.ConvBytes
import Derived.Laws.Slices
import Derived.KernelRfl
import Derived.RowKit3
import Derived.Deep.LoopGhost
import Derived.Deep.QuietTactic
import Derived.BigQuiet
import Derived.WideLaws
import Derived.Deep.DeepCutAuto
import Derived.Deep.CutBlock
import Derived.Deep.RegionHeld3
import Derived.Laws.Rows
import Derived.Lib.AppendStr
import Derived.ArgAppend
import Derived.Laws.IdiomCopy
import Derived.OrdersHeld
import Derived.RowKit
import Derived.Test.YtigikjihagmokaaDoorWWords
import Derived.Test.YtigikjihagmokaaDoorWLast
import Derived.Test.YtigikjihagmokaaDoorWApart
import Derived.Test.YtigikjihagmokaaDoorWKept
import Derived.Laws.StructEq
import Derived.Test.YtigikjihagmokaaDoorWRepsOne
import Derived.Shelf.Strings.Builder1
import Derived.Shelf.Small.Utf8
import Derived.Shelf.Small.Strs
import Derived.Shelf.Strings.BuilderF
import Derived.Shelf.Strings.BuilderK
import Derived.Shelf.Strings.BuilderRune
import Derived.Shelf.Strings.Search1
import Derived.Shelf.Unicode.Decode
import Derived.Shelf.Unicode.DecodeSlow
import Derived.Shelf.Unicode.DecodeAny
import Derived.Shelf.Strings.BuilderCap
import Derived.BigCall
import Derived.Lib.OthersKept
import Derived.Lib.FrozenHead2
set_option linter.unusedVariables false
namespace Go.Proofs.YtigikjihagmokaaDoor.Aid
open Go.RowKit Go.Proofs.YtigikjihagmokaaDoorW.PrintWords Go.Proofs.YtigikjihagmokaaDoorW.PrintMore

/-- The block B is one of bytes, made since base; its first bytes are l, and may be written. -/
def Bts (w : World) (base B e : Nat) (l : List Int) : Prop :=
  base ≤ B ∧ ∃ cur fz, w.heap[B]? = some (.cells cur e fz) ∧ l.length ≤ fz.1 ∧ l.length ≤ cur.size ∧ ∀ j, j < l.length → cur[j]? = some (.int .u8 (l.getD j 0))

theorem Bts.lt {w : World} {base B e : Nat} {l : List Int} (h : Bts w base B e l) : B < w.heap.size := by
  obtain ⟨_, cur, fz, hb, _⟩ := h
  exact (Array.getElem?_eq_some_iff.1 hb).1
theorem Bts.cell {w : World} {base B e : Nat} {l : List Int} (h : Bts w base B e l) (j : Nat) (hj : j < l.length) : w.cell? ⟨B, j, none⟩ = some (.int .u8 (l.getD j 0)) := by
  obtain ⟨_, cur, fz, hb, _, _, hc⟩ := h
  unfold World.cell?
  rw [hb]
  simpa using hc j hj
theorem Bts.free {w : World} {base B e : Nat} {l : List Int} (h : Bts w base B e l) (j : Nat) (hj : j < l.length) : w.frozen? ⟨B, j, none⟩ = false := by
  obtain ⟨_, cur, fz, hb, hf, _, hc⟩ := h
  unfold World.frozen?
  rw [hb]
  obtain ⟨lo, hi⟩ := fz
  simp only at hf ⊢
  have : ¬ lo ≤ j := by omega
  simp [this]
theorem Bts.set {w : World} {base B e : Nat} {l : List Int} (h : Bts w base B e l) (j : Nat) (v : Int) : Bts (w.setCell ⟨B, j, none⟩ (.int .u8 v)) base B e (l.set j v) := by
  obtain ⟨h0, cur, fz, hb, hf, hs, hc⟩ := h
  have hlt := (Array.getElem?_eq_some_iff.1 hb).1
  have he := (Array.getElem?_eq_some_iff.1 hb).2
  refine ⟨h0, cur.setIfInBounds j (.int .u8 v), fz, ?_, by simpa using hf, by simpa using hs, ?_⟩
  · unfold World.setCell
    simp only [Array.getElem?_modify]
    simp [hb]
  · intro i hi
    simp only [List.length_set] at hi
    rw [Array.getElem?_setIfInBounds]
    by_cases e1 : j = i
    · subst e1
      simp [show j < cur.size by omega, List.getD_eq_getElem?_getD, hi]
    · simp only [if_neg e1]
      rw [hc i hi]
      simp [List.getD_eq_getElem?_getD, e1]
theorem Bts.drew {w : World} {base B e : Nat} {l : List Int} (h : Bts w base B e l) : Bts w.drew base B e l := h
theorem Bts.below {w w1 : World} {base B e : Nat} {l : List Int} (h : Bts w base B e l) (hb : Below w.heap.size w w1) : Bts w1 base B e l := by
  have hl := h.lt
  obtain ⟨h0, cur, fz, hh, r⟩ := h
  exact ⟨h0, cur, fz, (hb.block B hl).trans hh, r⟩

/-- A text's bytes as numbers. -/
def nums8 (s : ByteArray) : List Int := s.data.toList.map fun c => (c.toNat : Int)
theorem nums8_length (s : ByteArray) : (nums8 s).length = s.size := by simp [nums8]
theorem strOf_nums8 (s : ByteArray) : strOfNums (nums8 s) = s := by
  obtain ⟨⟨l⟩⟩ := s
  simp [strOfNums, nums8, Function.comp_def]

/-- What '[]byte(s)' makes. -/
theorem Bts.made (w : World) (e : Nat) (s : ByteArray) (cap : Nat) : Bts (w.drew.alloc (.cells (bytesRow s cap) e ((bytesRow s cap).size, (bytesRow s cap).size + 1))) w.heap.size w.heap.size e (nums8 s) := by
  refine ⟨Nat.le_refl _, bytesRow s cap, _, heap_alloc_new w.drew _, ?_, ?_, ?_⟩
  · rw [nums8_length]; simp [bytesRow]
  · rw [nums8_length]; simp [bytesRow]
  · intro j hj
    have hj' : j < s.data.toList.length := by simpa [nums8] using hj
    have hj2 : j < s.data.size := by simpa using hj'
    unfold bytesRow
    rw [Array.getElem?_append_left (by simpa using hj2)]
    simp [nums8, List.getD_eq_getElem?_getD, Array.getElem?_eq_getElem hj2]
theorem bne_nil (l : List UInt8) : (!l.isEmpty) = (l != []) := by cases l <;> rfl
theorem eq_nil (l : List UInt8) : l.isEmpty = (l == []) := by cases l <;> rfl
theorem empty_of {l : List UInt8} {b : Bool} (h : (l == []) = b) : l.isEmpty = b := (eq_nil l).trans h
theorem R_set_drew {α : Type} {d : Kd α} {e base n : Nat} {w : World} {a : Addr} {v u : Value} {ok : Nat → Prop} {xs : List α} (h : d.R e (w.setCell a v) base ok u xs) : d.R e ((w.drewN n).setCell a v) base ok u xs := Kd.R_drewN h n
theorem V_nil' {k : IntKind} {e base : Nat} {w : World} {ok : Nat → Prop} {v : Value} (h : v = .slice none 0 0) : Kd.V (Kd.int k) e w base ok v [] := h ▸ Kd.V_nil _ _ _ _ _
theorem R_nil' {k : IntKind} {e base : Nat} {w : World} {ok : Nat → Prop} {v : Value} (h : v = .slice none 0 0) : Kd.R (Kd.int k) e w base ok v [] := h ▸ Kd.R_nil _ _ _ _ _
/-- A text of one byte. -/
theorem one_byte (s : ByteArray) (h : s.size = 1) : ∃ c : UInt8, s = ⟨#[c]⟩ ∧ bt s 0 = (c.toNat : Int) := by
  obtain ⟨⟨l⟩⟩ := s
  obtain ⟨c, rfl⟩ := List.length_eq_one_iff.1 h
  exact ⟨c, rfl, rfl⟩
/-- The last six bits of a byte behind 128, as the walk spells them. -/
theorem low6 (x : Int) : Go.bits .or .u8 128 (Go.bits .and .u8 (x % 256) 63) = 128 + x % 64 := by
  have h1 : Go.bits .and .u8 (x % 256) 63 = x % 256 % 64 := u8_and63 _ (by omega) (by omega)
  have h2 : Go.bits .or .u8 128 (x % 256 % 64) = 128 + x % 256 % 64 := u8_or128 _ (by omega) (by omega)
  rw [h1, h2]
  omega
end Go.Proofs.YtigikjihagmokaaDoor.Aid
namespace Go.Proofs.YtigikjihagmokaaDoor.F
open Go.RowKit Go.Proofs.YtigikjihagmokaaDoorW.PrintWords Go.Proofs.YtigikjihagmokaaDoorW.PrintLast Go.Proofs.YtigikjihagmokaaDoorW.PrintMore
attribute [local go_sem] max2_int min2_int max_two min_two max_three min_three max_four min_four   -- for this text's walks alone
set_option linter.unusedVariables false
set_option linter.unusedSimpArgs false



def errW : Option Int → Value
 | none => .nilIface
 | some c => .iface 0 (.int .i64 c)
theorem errW_none : errW none = .nilIface := rfl
theorem errW_some (c : Int) : errW (some c) = .iface 0 (.int .i64 c) := rfl

theorem info5 : (Tryd.prog.info? 5).map (fun i => (i.zero, i.size, i.bytes)) = some (some (.int .u8 0), 1, 1) := by kernel_rfl
theorem info9 : (Tryd.prog.info? 9).map (fun i => (i.zero, i.size, i.bytes)) = some (some (.string ⟨#[]⟩), 1, 16) := by kernel_rfl
theorem info21 : (Tryd.prog.info? 21).map (fun i => (i.zero, i.size, i.bytes)) = some (some (.int .i32 0), 1, 4) := by kernel_rfl
end Go.Proofs.YtigikjihagmokaaDoor.F
set_option linter.unusedVariables false
namespace Go.Proofs.YtigikjihagmokaaDoor.Q
open Go.RowKit Go.Proofs.YtigikjihagmokaaDoorW.PrintWords Go.Proofs.YtigikjihagmokaaDoorW.PrintLast Go.Proofs.YtigikjihagmokaaDoorW.PrintMore
theorem ql {p : Prop} (h : p := by (try simp only [List.map_toArray, List.map_cons, List.map_nil]); first | done | rfl | (simp only [List.length_drop, List.length_take]; rfl)) : p := h
theorem qh {b : Nat} {w w1 w2 : World} (B : Aside0 (Below b w w1)) (h : Below b w w1 → Below b w w2 := by intro h_; repeat (first | (with_reducible first | exact h_ | apply below_alloc | apply pw_below_drewN | apply below_drew1 | refine below_set ?_ (Aside0.out (by with_reducible assumption))) | exact h_)) : Below b w w2 := h B.out
theorem qn {w w1 w2 w3 : World} (B : Aside0 (Below w.heap.size w w1)) (hb : Below w2.heap.size w2 w3) (h : Below w.heap.size w w1 → Below w.heap.size w w2 := by intro h_; repeat (first | (with_reducible first | exact h_ | apply below_alloc | apply pw_below_drewN | apply below_drew1 | refine below_set ?_ (Aside0.out (by with_reducible assumption))) | exact h_)) : Aside0 (Below w.heap.size w w3) := ⟨below_step (h B.out) hb⟩
theorem qe {p : Prop} (h : p := by first | rfl | (exact congrArg (fun b => Ending.returned (.bool b)) (Aid.bne_nil _)) | (exact congrArg (fun b => Ending.returned (.bool b)) (Aid.eq_nil _)) | (simp [errW_none, errW_some] <;> rfl) | (simp [*, errW_none, errW_some] <;> rfl)) : p := h
theorem qa {p : Prop} (h : p := by first | (with_reducible assumption) | assumption) : p := h
section
variable {P : Program} {ops : Array Oper} {rest : List Oper} {o : Oper} {a : Act} {Q : Exit → Act → World → Prop} {md : Region.Mode} {S : World → Prop} {ds : List Nat} {T : Bool × List (List Nat × List Nat)} {B : List Nat}
end
end Go.Proofs.YtigikjihagmokaaDoor.Q
namespace Go.Proofs
open Go.Shelf
def Tryd.lays170_ren : Go.Shelf.Ren := ⟨fun | 170 => 37 | n => n, fun | 70 => 40 | 3 => 3 | 0 => 0 | 72 => 43 | 37 => 41 | 5 => 5 | n => n, fun | n => n⟩
theorem Tryd.lays170 : Go.Proofs.Lays.n170 Tryd.prog Tryd.lays170_ren := {
  mixed := by kernel_rfl
  f170 := Tryd.func37.trans (congrArg some (by kernel_rfl))
  t0 := Tryd.underlying0
  a0 := Tryd.isAgg0
  z0 := Tryd.sizeOf0
  v0 := Tryd.zeroValue0
  t3 := Tryd.underlying3
  a3 := Tryd.isAgg3
  z3 := Tryd.sizeOf3
  v3 := Tryd.zeroValue3
  t37 := Tryd.underlying41
  a37 := Tryd.isAgg41
  z37 := Tryd.sizeOf41
  v37 := Tryd.zeroValue41
  t70 := Tryd.underlying40
  a70 := Tryd.isAgg40
  z70 := Tryd.sizeOf40
  v70 := Tryd.zeroValue40
  t72 := Tryd.underlying43
  a72 := Tryd.isAgg43
  z72 := Tryd.sizeOf43
  v72 := Tryd.zeroValue43 }
def Tryd.lays169_ren : Go.Shelf.Ren := ⟨fun | 169 => 39 | n => n, fun | 70 => 40 | 9 => 9 | 0 => 0 | 72 => 43 | 37 => 41 | 127 => 65 | 3 => 3 | 5 => 5 | n => n, fun | n => n⟩
theorem Tryd.lays169 : Go.Proofs.Lays.n169 Tryd.prog Tryd.lays169_ren := {
  mixed := by kernel_rfl
  f169 := Tryd.func39.trans (congrArg some (by kernel_rfl))
  t0 := Tryd.underlying0
  a0 := Tryd.isAgg0
  z0 := Tryd.sizeOf0
  v0 := Tryd.zeroValue0
  t3 := Tryd.underlying3
  a3 := Tryd.isAgg3
  z3 := Tryd.sizeOf3
  v3 := Tryd.zeroValue3
  t9 := Tryd.underlying9
  a9 := Tryd.isAgg9
  z9 := Tryd.sizeOf9
  v9 := Tryd.zeroValue9
  t37 := Tryd.underlying41
  a37 := Tryd.isAgg41
  z37 := Tryd.sizeOf41
  v37 := Tryd.zeroValue41
  t70 := Tryd.underlying40
  a70 := Tryd.isAgg40
  z70 := Tryd.sizeOf40
  v70 := Tryd.zeroValue40
  t72 := Tryd.underlying43
  a72 := Tryd.isAgg43
  z72 := Tryd.sizeOf43
  v72 := Tryd.zeroValue43
  t127 := Tryd.underlying65
  a127 := Tryd.isAgg65
  z127 := Tryd.sizeOf65
  v127 := Tryd.zeroValue65 }
theorem Tryd.Builder_Extra_169 : Builder.Extra Tryd.prog Tryd.lays169_ren := {
  sizeBuilder := by kernel_rfl
  liesBuilder := by kernel_rfl
  t5 := Tryd.underlying5
  a5 := Tryd.isAgg5
  z5 := Tryd.sizeOf5
  v5 := Tryd.zeroValue5
  infoByte := by kernel_rfl
  cellsByte := by kernel_rfl
  sizeByte := by kernel_rfl
  neB5 := by decide }
def Tryd.lays137_ren : Go.Shelf.Ren := ⟨fun | 137 => 62 | 217 => 72 | 266 => 83 | n => n, fun | 9 => 9 | 5 => 5 | 3 => 3 | n => n, fun | n => n⟩
theorem Tryd.lays137 : Go.Proofs.Lays.n137 Tryd.prog Tryd.lays137_ren := {
  mixed := by kernel_rfl
  f137 := Tryd.func62.trans (congrArg some (by kernel_rfl))
  f217 := Tryd.func72.trans (congrArg some (by kernel_rfl))
  f266 := Tryd.func83.trans (congrArg some (by kernel_rfl))
  t3 := Tryd.underlying3
  a3 := Tryd.isAgg3
  z3 := Tryd.sizeOf3
  v3 := Tryd.zeroValue3
  t5 := Tryd.underlying5
  a5 := Tryd.isAgg5
  z5 := Tryd.sizeOf5
  v5 := Tryd.zeroValue5
  t9 := Tryd.underlying9
  a9 := Tryd.isAgg9
  z9 := Tryd.sizeOf9
  v9 := Tryd.zeroValue9 }
open Go.RowKit in
theorem Tryd.strings_IndexByte (s : ByteArray) (c : Int) (w : World) :
    Calls Tryd.prog 62 #[.string s, .int .u8 c] w fun e w' => e = .returned (.int .i64 (Lib.indexByte s.data.toList c.toNat.toUInt8)) ∧ w' = w := Any.strings_IndexByte Tryd.lays137 s c w
open Go.RowKit in
theorem Tryd.Builder_Len_f (B b : Nat) (bs : List Value) (w : World) (h : Lib.IsBuilderF 43 5 B b bs w) :
    Calls Tryd.prog 37 #[.pointer (some ⟨b, 0, none⟩)] w fun e w' => e = .returned (.int .i64 bs.length) ∧ w' = w := Any.Builder_Len_f Tryd.lays170 B b bs w h
open Go.RowKit in
theorem Tryd.Builder_String_any_k (B b : Nat) (l : List UInt8) (w : World) (h : Lib.IsBuilderF 43 5 B b (Lib.byteCells l) w) (hBw : B ≤ w.heap.size) :
    Calls Tryd.prog 39 #[.pointer (some ⟨b, 0, none⟩)] w fun e w' => e = .returned (.string ⟨l.toArray⟩) ∧ (Lib.IsBuilderF 43 5 B b (Lib.byteCells l) w' ∧ Below B w w' ∧ Lib.OthersKept 5 (some b) w w') := Any.Builder_String_any_k Tryd.lays169 Tryd.Builder_Extra_169 B b l w h hBw
end Go.Proofs
set_option linter.unusedVariables false
set_option linter.unusedSimpArgs false
namespace Go.Proofs.YtigikjihagmokaaDoor.Bld
open Go.RowKit

set_option maxHeartbeats 1000000 in
set_option maxRecDepth 100000 in
theorem check_fresh (B b : Nat) (bs : List Value) (w : World) (h : Lib.BuilderAtF 43 5 B b (.pointer none) bs w) :
    Calls Tryd.prog 50 #[.pointer (some ⟨b, 0, none⟩)] w fun e w' => e = .returned (.tuple #[]) ∧ w' = w.setCell ⟨b, 0, none⟩ (.pointer (some ⟨b, 0, none⟩)) := by
  have X := Tryd.Builder_Extra_169
  obtain ⟨j, hj, hjs⟩ := Option.map_eq_some_iff.1 X.sizeBuilder
  have h0 := h.cell0
  have hsh := h.shape
  have hfz := h.frozen0
  go_enter Tryd.func50, Tryd.ntmps50
  go_wp2
  rw [Lib.run_to_unsafe w ⟨b, 0, none⟩ Tryd.underlying40 Tryd.underlying72 hj (by rw [hjs]; decide) hsh (Nat.zero_lt_succ 1)]
  simp only [Result.andThen]
  rw [Oper.upon_value]
  go_wp2
  rw [run_callFunc_extern Tryd.func60 (by kernel_rfl) (by kernel_rfl) (by kernel_rfl) (e := Extern.AbiNoEscape.same) (by kernel_rfl)]
  rw [Lib.run_noEscape]
  simp only [Result.andThen]
  rw [Oper.upon_value]
  go_wp2
  rw [Lib.run_from_unsafe w ⟨b, 0, none⟩ Tryd.underlying72 Tryd.underlying40 hj hsh X.liesBuilder]
  simp only [Result.andThen]
  rw [Oper.upon_value]
  go_wp2
  go_end0
  exact ⟨rfl, rfl⟩
set_option maxHeartbeats 1000000 in
set_option maxRecDepth 100000 in
theorem check_used (B b : Nat) (bs : List Value) (w : World) (h : Lib.BuilderAtF 43 5 B b (.pointer (some ⟨b, 0, none⟩)) bs w) :
    Calls Tryd.prog 50 #[.pointer (some ⟨b, 0, none⟩)] w fun e w' => e = .returned (.tuple #[]) ∧ w' = w := by
  obtain ⟨j, hj, _⟩ := Option.map_eq_some_iff.1 (Tryd.Builder_Extra_169).sizeBuilder
  have h0 := h.cell0
  go_enter Tryd.func50, Tryd.ntmps50
  go_wp2
  rw [Lib.run_neq_ptr_same w _ Tryd.underlying40 hj]
  go_wp2
  go_end0
  exact ⟨rfl, rfl⟩
theorem check (B b : Nat) (bs : List Value) (w : World) (h : Lib.IsBuilderF 43 5 B b bs w) :
    Calls Tryd.prog 50 #[.pointer (some ⟨b, 0, none⟩)] w fun e w' => e = .returned (.tuple #[]) ∧ (Lib.BuilderAtF 43 5 B b (.pointer (some ⟨b, 0, none⟩)) bs w' ∧ Below B w w' ∧ Lib.OthersKept 5 (some b) w w') := by
  rcases h with h | h
  · refine (check_fresh B b bs w h).mono ?_
    rintro e w' ⟨rfl, rfl⟩
    exact ⟨rfl, h.used _, (Below.refl B w).setCell (p := ⟨b, 0, none⟩) h.1 _, (Lib.OthersKept.refl _ _ w).setCell ⟨b, 0, none⟩ rfl _⟩
  · refine (check_used B b bs w h).mono ?_
    rintro e w' ⟨rfl, rfl⟩
    exact ⟨rfl, h, Below.refl B _, Lib.OthersKept.refl _ _ _⟩

set_option maxHeartbeats 2000000 in
set_option maxRecDepth 100000 in
theorem writeString (B b : Nat) (bs : List Value) (s : ByteArray) (w : World) (h : Lib.IsBuilderF 43 5 B b bs w) (hlen : bs.length + s.size ≤ 140737488355328) (hBw : B ≤ w.heap.size) :
    Calls Tryd.prog 38 #[.pointer (some ⟨b, 0, none⟩), .string s] w fun e w' => e = .returned (.tuple #[.int .i64 s.size, .nilIface]) ∧ (Lib.BuilderAtF 43 5 B b (.pointer (some ⟨b, 0, none⟩)) (bs ++ Lib.strCells s) w' ∧ Below B w w' ∧ Lib.OthersKept 5 (some b) w w') := by
  have X := Tryd.Builder_Extra_169
  obtain ⟨i0, hi, hz0, hz1, hz2⟩ := info_parts X.infoByte
  go_enter Tryd.func38, Tryd.ntmps38
  go_wp2_with (go_at_call 50; refine (check B b bs _ h).mono ?_)
  rintro e w1 ⟨rfl, h1, hb1, hk1⟩
  obtain ⟨hB, v, hbk, hown, hne⟩ := h1
  have c0 : w1.cell? ⟨b, 0, none⟩ = some (.pointer (some ⟨b, 0, none⟩)) := by rw [Lib.cell_of_heap hbk]; rfl
  have c1 : w1.cell? ⟨b, 1, none⟩ = some v := by rw [Lib.cell_of_heap hbk]; rfl
  go_wp2_with (at_builtin; refine Lib.wpList_append_own_stringF _ rfl _ _ 41 9 rfl B 5 i0 Tryd.underlying41 Tryd.underlying9 hi hz0 hz1 hz2 _ _ _ rfl hown s rfl ?c3 ?c4 ?c5 ?_)
  case c3 => unfold maxLen; omega
  case c4 => omega
  case c5 => have := hb1.size; omega
  intro v' w2 hown' hgrow _
  have hlt : b < w1.heap.size := by
    rcases Nat.lt_or_ge b w1.heap.size with h' | h'
    · exact h'
    · simp [Array.getElem?_eq_none h'] at hbk
  have hb2 : w2.heap[b]? = some (.cells #[.pointer (some ⟨b, 0, none⟩), v] 43 (0, 0)) := by
    rw [hgrow.block b hlt (fun e => hne e.symm)]
    exact hbk
  have d0 : w2.cell? ⟨b, 0, none⟩ = some (.pointer (some ⟨b, 0, none⟩)) := by rw [Lib.cell_of_heap hb2]; rfl
  have d1 : w2.cell? ⟨b, 1, none⟩ = some v := by rw [Lib.cell_of_heap hb2]; rfl
  have f1 : w2.frozen? ⟨b, 1, none⟩ = false := Lib.frozen_of_heap hb2 1
  obtain ⟨ao, n', cap, rfl⟩ : ∃ ao n' cap, v' = .slice ao n' cap := by
    rcases hown'.2 with ⟨hv, _⟩ | ⟨g, cap, cur, fz, hv, _⟩
    · exact ⟨_, _, _, hv⟩
    · exact ⟨_, _, _, hv⟩
  go_wp2
  go_ret2
  refine ⟨rfl, ?_, ?_, (hk1.grown hgrow (Lib.ownsRowF_kind hown)).setCell ⟨b, 1, none⟩ rfl _⟩
  · exact Lib.BuilderAtF.put (T := 43) (e := 5) hB hb2 (bs' := bs ++ Lib.strCells s) (by simpa [Lib.strCells_length] using hown') (by decide)
  · exact (hb1.grown hgrow (by have := hb1.size; omega) (fun k hk => (hown.lt k hk).1)).setCell (p := ⟨b, 1, none⟩) hB _
end Go.Proofs.YtigikjihagmokaaDoor.Bld
namespace Go.Proofs.YtigikjihagmokaaDoor.Fill
open Go.RowKit Go.Proofs.YtigikjihagmokaaDoorW.PrintWords Go.Proofs.YtigikjihagmokaaDoorW.PrintLast Go.Proofs.YtigikjihagmokaaDoorW.PrintMore Go.Proofs.YtigikjihagmokaaDoor.Aid
set_option linter.unusedVariables false
set_option linter.unusedSimpArgs false
/-- What stands at a place: none: no piece; a piece, and the place behind it. -/
def piece (s : ByteArray) (l : List ByteArray) (x : Int) : Option (ByteArray × Int) :=
  if (s.extract x.toNat (x + 1).toNat).toList = ([123] : List UInt8) then
    if (s.size : Int) < x + 3 then none
    else if bt s (x + 2) ≠ 125 then none
    else if bt s (x + 1) < 48 then none
    else if 57 < bt s (x + 1) then none
    else if (l.length : Int) ≤ bt s (x + 1) - 48 then none
    else some (rdOf ByteArray.empty l (bt s (x + 1) - 48), x + 3)
  else some (s.extract x.toNat (x + 1).toNat, x + 1)
def go (s : ByteArray) (l : List ByteArray) : Nat → Int → List UInt8 → ByteArray × Int
  | 0, _, _ => (⟨#[]⟩, 11)
  | k + 1, x, acc => if x < (s.size : Int) then (match piece s l x with
      | none => (⟨#[]⟩, 11)
      | some (p, y) => if 1048576 - (acc.length : Int) < (p.size : Int) then (⟨#[]⟩, 2) else go s l k y (acc ++ p.data.toList)) else (⟨acc.toArray⟩, 0)
def f (s : ByteArray) (l : List ByteArray) : ByteArray × Int := if (s.size : Int) > 65536 then (⟨#[]⟩, 2) else go s l (s.size + 1) 0 []

theorem bytes_cells (s : ByteArray) : Lib.byteCells s.data.toList = Lib.strCells s := by
  simp [Lib.byteCells, Lib.strCells]
theorem w64' {x : Int} (h0 : -9223372036854775808 ≤ x) (h1 : x ≤ 9223372036854775807) : wrap64 x = x := by unfold wrap64; omega
set_option maxHeartbeats 4000000 in
set_option maxRecDepth 100000 in
theorem calls (a0 : ByteArray) (A1 : Option Addr) (c1 : Nat) (l1 : List ByteArray) (w : World) (hr1 : Kd.C Kd.string w A1 l1.length l1) (hc1 : l1.length ≤ c1) :
    Calls Tryd.prog 19 #[.string a0, .slice A1 l1.length c1] w fun e w' => e = .returned (.tuple #[.string (f a0 l1).1, .int .i64 (f a0 l1).2]) ∧ Below w.heap.size w w' := by
  have HR1 := Aside0.mk hr1
  have HC1 := Aside0.mk hc1
  clear hr1 hc1
  go_enter Tryd.func19, Tryd.ntmps19
  by_cases c : (a0.size : Int) > 65536
  · have cb : decide (65536 < (a0.size : Int)) = true := decide_eq_true c
    have e : f a0 l1 = (⟨#[]⟩, 2) := by unfold f; rw [if_pos c]
    clear c
    rw [e]
    go_wp2
    go_ret2
    exact ⟨rfl, Below.refl _ _⟩
  · have cb : decide (65536 < (a0.size : Int)) = false := decide_eq_false c
    have e : f a0 l1 = go a0 l1 (a0.size + 1) 0 [] := by unfold f; rw [if_neg c]
    have hsz : a0.size ≤ 65536 := by omega
    clear c
    go_wp2
    go_loopw [7] (fun i wr => ∃ (x : Int) (fuel : Nat) (acc : List UInt8), i = .int .i64 x ∧ Aside0 (Lib.IsBuilderF 43 5 w.heap.size w.heap.size (Lib.byteCells acc) wr) ∧ Aside0 (Below w.heap.size w wr) ∧ Aside0 (go a0 l1 fuel x acc = f a0 l1) ∧ Aside0 ((a0.size : Int) + 1 ≤ x + fuel) ∧ Aside0 (0 ≤ x ∧ x ≤ a0.size) ∧ Aside0 (acc.length ≤ 1048576)) (fun i _ => a0.size - (intOf i).toNat)
    case atStart =>
      refine ⟨0, a0.size + 1, [], rfl, ⟨?_⟩, ⟨?_⟩, ⟨e.symm⟩, ⟨by omega⟩, ⟨by omega⟩, ⟨by simp⟩⟩
      · have h1 := Lib.IsBuilderF.of (Lib.fresh_isBuilder 43 5 w)
        exact h1
      · exact (Below.refl _ w).alloc (Nat.le_refl _) _
    case round =>
      obtain ⟨x, fuel, acc, rfl, HI, HB, HG, HF, HJ, HL⟩ := hrel
      clear e
      by_cases hx : x < (a0.size : Int)
      · have b0 : decide (x < (a0.size : Int)) = true := decide_eq_true hx
        have HX := Aside0.mk hx
        obtain ⟨x1, hx1⟩ : ∃ x1 : Int, x + 1 = x1 := ⟨_, rfl⟩
        obtain ⟨x2, hx2⟩ : ∃ x2 : Int, x + 2 = x2 := ⟨_, rfl⟩
        obtain ⟨x3, hx3⟩ : ∃ x3 : Int, x + 3 = x3 := ⟨_, rfl⟩
        have HX1 : Aside0 (x1 = x + 1 ∧ x3 = x + 3 ∧ x < (a0.size : Int)) := ⟨hx1.symm, hx3.symm, hx⟩
        have hj := HJ.out
        have W1 : Aside0 (IntKind.i64.wrap (x + 1) = x1) := ⟨by rw [i64_w, w64' (by omega) (by omega)]; exact hx1⟩
        have W2 : Aside0 (IntKind.i64.wrap (x + 2) = x2) := ⟨by rw [i64_w, w64' (by omega) (by omega)]; exact hx2⟩
        have W3 : Aside0 (IntKind.i64.wrap (x + 3) = x3) := ⟨by rw [i64_w, w64' (by omega) (by omega)]; exact hx3⟩
        have W4 : Aside0 (IntKind.i64.wrap (x2 + 1) = x3) := ⟨by rw [i64_w, w64' (by omega) (by omega)]; omega⟩
        have c0 := eq_true hj.1
        have c1' : (x ≤ x1) = True := eq_true (by omega)
        have c2' : (x1 ≤ (a0.size : Int)) = True := eq_true (by omega)
        have d0 : decide (0 ≤ x) = true := decide_eq_true hj.1
        have d1 : decide (x ≤ x1) = true := decide_eq_true (by omega)
        have d2 : decide (x1 ≤ (a0.size : Int)) = true := decide_eq_true (by omega)
        by_cases h1 : (a0.extract x.toNat x1.toNat).toList = ([123] : List UInt8)
        · have e1 : ((a0.extract x.toNat x1.toNat).toList == ([123] : List UInt8)) = true := beq_iff_eq.mpr h1
          by_cases h2 : (a0.size : Int) < x3
          · have e2 : decide ((a0.size : Int) < x3) = true := decide_eq_true h2
            have HPc : Aside0 (piece a0 l1 x = none) := ⟨by unfold piece; rw [hx1, if_pos h1, hx3, if_pos h2]⟩
            clear h2
            have HR : Aside0 (f a0 l1 = (⟨#[]⟩, 11)) := ⟨by
              rw [← HG.out]
              obtain ⟨k, rfl⟩ : ∃ k, fuel = k + 1 := ⟨fuel - 1, by have := HF.out; have := HJ.out; omega⟩
              simp only [go]; rw [if_pos HX.out, HPc.out]⟩
            clear h1 hx hj hx1 hx2 hx3
            have w1 := W1.out; have w2 := W2.out; have w3 := W3.out; have w4 := W4.out
            go_wp2
            go_ret2
            exact ⟨by rw [HR.out]; rfl, HB.out⟩
          · have e2 : decide ((a0.size : Int) < x3) = false := decide_eq_false h2
            have p2 : (0 ≤ x2) = True := eq_true (by omega)
            have q2 : (x2 < (a0.size : Int)) = True := eq_true (by omega)
            have p1 : (0 ≤ x1) = True := eq_true (by omega)
            have q1 : (x1 < (a0.size : Int)) = True := eq_true (by omega)
            have b2 := bt_at a0 x2
            have b1 := bt_at a0 x1
            have r1 := bt_range a0 x1
            by_cases h3 : bt a0 x2 ≠ 125
            · have e3 : (bt a0 x2 != 125) = true := bne_iff_ne.mpr h3
              have HPc : Aside0 (piece a0 l1 x = none) := ⟨by unfold piece; rw [hx1, if_pos h1, hx3, if_neg h2, hx2, if_pos h3]⟩
              clear h2 h3
              have HR : Aside0 (f a0 l1 = (⟨#[]⟩, 11)) := ⟨by
                rw [← HG.out]
                obtain ⟨k, rfl⟩ : ∃ k, fuel = k + 1 := ⟨fuel - 1, by have := HF.out; have := HJ.out; omega⟩
                simp only [go]; rw [if_pos HX.out, HPc.out]⟩
              clear h1 hx hj hx1 hx2 hx3
              have w1 := W1.out; have w2 := W2.out; have w3 := W3.out; have w4 := W4.out
              go_wp2
              go_ret2
              exact ⟨by rw [HR.out]; rfl, HB.out⟩
            · have e3 : (bt a0 x2 != 125) = false := bne_eq_false_iff_eq.mpr (Classical.not_not.1 h3)
              by_cases h4 : bt a0 x1 < 48
              · have e4 : decide (bt a0 x1 < 48) = true := decide_eq_true h4
                have HPc : Aside0 (piece a0 l1 x = none) := ⟨by unfold piece; rw [hx1, if_pos h1, hx3, if_neg h2, hx2, if_neg h3, if_pos h4]⟩
                clear h2 h3 h4 r1
                have HR : Aside0 (f a0 l1 = (⟨#[]⟩, 11)) := ⟨by
                  rw [← HG.out]
                  obtain ⟨k, rfl⟩ : ∃ k, fuel = k + 1 := ⟨fuel - 1, by have := HF.out; have := HJ.out; omega⟩
                  simp only [go]; rw [if_pos HX.out, HPc.out]⟩
                clear h1 hx hj hx1 hx2 hx3
                have w1 := W1.out; have w2 := W2.out; have w3 := W3.out; have w4 := W4.out
                go_wp2
                go_ret2
                exact ⟨by rw [HR.out]; rfl, HB.out⟩
              · have e4 : decide (bt a0 x1 < 48) = false := decide_eq_false h4
                by_cases h5 : 57 < bt a0 x1
                · have e5 : decide (57 < bt a0 x1) = true := decide_eq_true h5
                  have HPc : Aside0 (piece a0 l1 x = none) := ⟨by unfold piece; rw [hx1, if_pos h1, hx3, if_neg h2, hx2, if_neg h3, if_neg h4, if_pos h5]⟩
                  clear h2 h3 h4 h5 r1
                  have HR : Aside0 (f a0 l1 = (⟨#[]⟩, 11)) := ⟨by
                    rw [← HG.out]
                    obtain ⟨k, rfl⟩ : ∃ k, fuel = k + 1 := ⟨fuel - 1, by have := HF.out; have := HJ.out; omega⟩
                    simp only [go]; rw [if_pos HX.out, HPc.out]⟩
                  clear h1 hx hj hx1 hx2 hx3
                  have w1 := W1.out; have w2 := W2.out; have w3 := W3.out; have w4 := W4.out
                  go_wp2
                  go_ret2
                  exact ⟨by rw [HR.out]; rfl, HB.out⟩
                · have e5 : decide (57 < bt a0 x1) = false := decide_eq_false h5
                  obtain ⟨n, hn⟩ : ∃ n : Int, (bt a0 x1 - 48) % 256 = n := ⟨_, rfl⟩
                  have hn2 : bt a0 x1 - 48 = n := by omega
                  by_cases h6 : (l1.length : Int) ≤ n
                  · have e6 : decide ((l1.length : Int) ≤ n) = true := decide_eq_true h6
                    have HPc : Aside0 (piece a0 l1 x = none) := ⟨by unfold piece; rw [hx1, if_pos h1, hx3, if_neg h2, hx2, if_neg h3, if_neg h4, if_neg h5, hn2, if_pos h6]⟩
                    clear h2 h3 h4 h5 h6 r1 hn2
                    have HR : Aside0 (f a0 l1 = (⟨#[]⟩, 11)) := ⟨by
                      rw [← HG.out]
                      obtain ⟨k, rfl⟩ : ∃ k, fuel = k + 1 := ⟨fuel - 1, by have := HF.out; have := HJ.out; omega⟩
                      simp only [go]; rw [if_pos HX.out, HPc.out]⟩
                    clear h1 hx hj hx1 hx2 hx3
                    have w1 := W1.out; have w2 := W2.out; have w3 := W3.out; have w4 := W4.out
                    go_wp2
                    go_ret2
                    exact ⟨by rw [HR.out]; rfl, HB.out⟩
                  · have e6 : decide ((l1.length : Int) ≤ n) = false := decide_eq_false h6
                    obtain ⟨ad, ead, had⟩ := Kd.at_string HR1.out n (by omega) (by omega)
                    cases ead
                    replace had := (HB.out.cell (World.block_lt_of_cell? w _ had)).trans had
                    have p3 : (0 ≤ n) = True := eq_true (by omega)
                    have q3 : (n < (l1.length : Int)) = True := eq_true (by omega)
                    have HPc : Aside0 (piece a0 l1 x = some (rdOf ByteArray.empty l1 n, x3)) := ⟨by unfold piece; rw [hx1, if_pos h1, hx3, if_neg h2, hx2, if_neg h3, if_neg h4, if_neg h5, hn2, if_neg h6]⟩
                    have HY : Aside0 (x3 ≤ (a0.size : Int)) := ⟨by omega⟩
                    clear h2 h3 h4 h5 h6 r1 hn2
                    obtain ⟨m, Hm⟩ : ∃ m : Int, Aside0 (m = 1048576 - (acc.length : Int)) := ⟨_, ⟨rfl⟩⟩
                    have HM : Aside0 (IntKind.i64.wrap (1048576 - ((Lib.byteCells acc).length : Int)) = m) := ⟨by rw [i64_w, Lib.byteCells_length, w64' (by have := HL.out; omega) (by omega)]; exact Hm.out.symm⟩
                    have hI := HI.out
                    have hsize : w.heap.size ≤ wr.heap.size := HB.out.size
                    clear h1 hx hj hx1 hx2 hx3
                    by_cases h7 : m < ((rdOf ByteArray.empty l1 n).size : Int)
                    · have e7 : decide (m < ((rdOf ByteArray.empty l1 n).size : Int)) = true := decide_eq_true h7
                      have HR : Aside0 (f a0 l1 = (⟨#[]⟩, 2)) := ⟨by
                        rw [← HG.out]
                        obtain ⟨k, rfl⟩ : ∃ k, fuel = k + 1 := ⟨fuel - 1, by have := HF.out; have := HJ.out; omega⟩
                        simp only [go]; rw [if_pos HX.out, HPc.out]; simp only []; rw [if_pos (by have := Hm.out; omega)]⟩
                      clear h7
                      have w1 := W1.out; have w2 := W2.out; have w3 := W3.out; have w4 := W4.out; have hm := HM.out
                      go_wp2_with (go_at_call 37; refine (Tryd.Builder_Len_f w.heap.size w.heap.size _ _ hI).mono ?_)
                      rintro e W1 ⟨rfl, rfl⟩
                      go_wp2
                      go_ret2
                      exact ⟨by rw [HR.out]; rfl, HB.out⟩
                    · have e7 : decide (m < ((rdOf ByteArray.empty l1 n).size : Int)) = false := decide_eq_false h7
                      have HS : Aside0 (acc.length + (rdOf ByteArray.empty l1 n).size ≤ 1048576) := ⟨by have := Hm.out; omega⟩
                      have HSl : Aside0 ((Lib.byteCells acc).length + (rdOf ByteArray.empty l1 n).size ≤ 140737488355328) := ⟨by rw [Lib.byteCells_length]; have := HS.out; omega⟩
                      clear h7
                      have w1 := W1.out; have w2 := W2.out; have w3 := W3.out; have w4 := W4.out; have hm := HM.out
                      go_wp2_with (go_at_call 37; refine (Tryd.Builder_Len_f w.heap.size w.heap.size _ _ hI).mono ?_)
                      rintro e W1 ⟨rfl, rfl⟩
                      go_wp2_with (go_at_call 38; refine (Bld.writeString w.heap.size w.heap.size _ (rdOf ByteArray.empty l1 n) _ hI HSl.out hsize).mono ?_)
                      rintro e W1 ⟨rfl, g1, g2, _⟩
                      go_wp2
                      go_roundw
                      case rel =>
                        clear w1 w2 w3 w4 hm
                        obtain ⟨k, rfl⟩ : ∃ k, fuel = k + 1 := ⟨fuel - 1, by have := HF.out; have := HJ.out; omega⟩
                        refine ⟨x3, k, acc ++ (rdOf ByteArray.empty l1 n).data.toList, rfl, ⟨.inr ?_⟩, ⟨HB.out.trans g2⟩, ⟨?_⟩, ⟨by have := HF.out; have := HX1.out; omega⟩, ⟨by have := HX1.out; have := HJ.out; have := HY.out; omega⟩, ⟨by have := HS.out; simp only [List.length_append, Array.length_toList]; exact this⟩⟩
                        · rw [Lib.byteCells_append, bytes_cells]; exact g1
                        · have := HG.out
                          simp only [go] at this
                          rw [if_pos HX.out, HPc.out] at this
                          simp only [] at this
                          rw [if_neg (by have := HS.out; omega)] at this
                          exact this
                      case measure => clear w1 w2 w3 w4 hm; have := HX1.out; have := HJ.out; simp only [intOf]; omega
        · have e1 : ((a0.extract x.toNat x1.toNat).toList == ([123] : List UInt8)) = false := beq_eq_false_iff_ne.mpr h1
          have HPc : Aside0 (piece a0 l1 x = some (a0.extract x.toNat x1.toNat, x1)) := ⟨by unfold piece; rw [hx1, if_neg h1]⟩
          have HY : Aside0 (x1 ≤ (a0.size : Int)) := ⟨by omega⟩
          have HZ : Aside0 ((a0.extract x.toNat x1.toNat).size = x1.toNat - x.toNat) := ⟨by rw [ByteArray.size_extract]; omega⟩
          obtain ⟨m, Hm⟩ : ∃ m : Int, Aside0 (m = 1048576 - (acc.length : Int)) := ⟨_, ⟨rfl⟩⟩
          have HM : Aside0 (IntKind.i64.wrap (1048576 - ((Lib.byteCells acc).length : Int)) = m) := ⟨by rw [i64_w, Lib.byteCells_length, w64' (by have := HL.out; omega) (by omega)]; exact Hm.out.symm⟩
          have hI := HI.out
          have hsize : w.heap.size ≤ wr.heap.size := HB.out.size
          clear h1 hx hj hx1 hx2 hx3
          by_cases h7 : m < ((a0.extract x.toNat x1.toNat).size : Int)
          · have e7 : decide (m < ((a0.extract x.toNat x1.toNat).size : Int)) = true := decide_eq_true h7
            have e7z : decide (m < ((x1.toNat - x.toNat : Nat) : Int)) = true := by rw [← HZ.out]; exact e7
            have HR : Aside0 (f a0 l1 = (⟨#[]⟩, 2)) := ⟨by
              rw [← HG.out]
              obtain ⟨k, rfl⟩ : ∃ k, fuel = k + 1 := ⟨fuel - 1, by have := HF.out; have := HJ.out; omega⟩
              simp only [go]; rw [if_pos HX.out, HPc.out]; simp only []; rw [if_pos (by have := Hm.out; omega)]⟩
            clear h7
            have w1 := W1.out; have w2 := W2.out; have w3 := W3.out; have w4 := W4.out; have hm := HM.out
            go_wp2_with (go_at_call 37; refine (Tryd.Builder_Len_f w.heap.size w.heap.size _ _ hI).mono ?_)
            rintro e W1 ⟨rfl, rfl⟩
            go_wp2
            go_ret2
            exact ⟨by rw [HR.out]; rfl, HB.out⟩
          · have e7 : decide (m < ((a0.extract x.toNat x1.toNat).size : Int)) = false := decide_eq_false h7
            have e7z : decide (m < ((x1.toNat - x.toNat : Nat) : Int)) = false := by rw [← HZ.out]; exact e7
            have HS : Aside0 (acc.length + (a0.extract x.toNat x1.toNat).size ≤ 1048576) := ⟨by have := Hm.out; omega⟩
            have HSl : Aside0 ((Lib.byteCells acc).length + (a0.extract x.toNat x1.toNat).size ≤ 140737488355328) := ⟨by rw [Lib.byteCells_length]; have := HS.out; omega⟩
            clear h7
            have w1 := W1.out; have w2 := W2.out; have w3 := W3.out; have w4 := W4.out; have hm := HM.out
            go_wp2_with (go_at_call 37; refine (Tryd.Builder_Len_f w.heap.size w.heap.size _ _ hI).mono ?_)
            rintro e W1 ⟨rfl, rfl⟩
            go_wp2_with (go_at_call 38; refine (Bld.writeString w.heap.size w.heap.size _ (a0.extract x.toNat x1.toNat) _ hI HSl.out hsize).mono ?_)
            rintro e W1 ⟨rfl, g1, g2, _⟩
            go_wp2
            go_roundw
            case rel =>
              clear w1 w2 w3 w4 hm
              obtain ⟨k, rfl⟩ : ∃ k, fuel = k + 1 := ⟨fuel - 1, by have := HF.out; have := HJ.out; omega⟩
              refine ⟨x1, k, acc ++ (a0.extract x.toNat x1.toNat).data.toList, rfl, ⟨.inr ?_⟩, ⟨HB.out.trans g2⟩, ⟨?_⟩, ⟨by have := HF.out; have := HX1.out; omega⟩, ⟨by have := HX1.out; have := HJ.out; have := HY.out; omega⟩, ⟨by have := HS.out; simp only [List.length_append, Array.length_toList]; exact this⟩⟩
              · rw [Lib.byteCells_append, bytes_cells]; exact g1
              · have := HG.out
                simp only [go] at this
                rw [if_pos HX.out, HPc.out] at this
                simp only [] at this
                rw [if_neg (by have := HS.out; omega)] at this
                exact this
            case measure => clear w1 w2 w3 w4 hm; have := HX1.out; have := HJ.out; simp only [intOf]; omega
      · have b0 : decide (x < (a0.size : Int)) = false := decide_eq_false hx
        have hr : f a0 l1 = (⟨acc.toArray⟩, 0) := by
          rw [← HG.out]
          cases fuel with
          | zero => have := HF.out; have := HJ.out; omega
          | succ k => simp only [go]; rw [if_neg hx]
        have HR := Aside0.mk hr
        clear hr hx
        have hI := HI.out
        have hsize : w.heap.size ≤ wr.heap.size := HB.out.size
        go_wp2_with (go_at_call 39; refine (Tryd.Builder_String_any_k w.heap.size w.heap.size acc _ hI (by omega)).mono ?_)
        rintro e W1 ⟨rfl, _, b1, _⟩
        go_wp2
        go_ret2
        exact ⟨by rw [HR.out]; rfl, HB.out.trans b1⟩
end Go.Proofs.YtigikjihagmokaaDoor.Fill
namespace Go.Proofs.YtigikjihagmokaaDoor.IdentN
open Go.RowKit Go.Proofs.YtigikjihagmokaaDoorW.PrintWords Go.Proofs.YtigikjihagmokaaDoorW.PrintLast Go.Proofs.YtigikjihagmokaaDoorW.PrintMore
set_option linter.unusedVariables false
set_option linter.unusedSimpArgs false
set_option maxHeartbeats 4000000 in
set_option maxRecDepth 100000 in
theorem space (w : World) : Calls Tryd.prog 12 #[.int .i32 110] w fun e w' => e = .returned (.bool false) ∧ w' = w := by
  go_enter Tryd.func12, Tryd.ntmps12
  go_wp2
  go_ret
  exact ⟨rfl, rfl⟩
set_option maxHeartbeats 4000000 in
set_option maxRecDepth 100000 in
theorem syntax_ (w : World) : Calls Tryd.prog 14 #[.int .i32 110] w fun e w' => e = .returned (.bool false) ∧ w' = w := by
  go_enter Tryd.func14, Tryd.ntmps14
  go_wp2
  go_ret
  exact ⟨rfl, rfl⟩
set_option maxHeartbeats 4000000 in
set_option maxRecDepth 100000 in
theorem stray (s : ByteArray) (i : Int) (w : World) : Calls Tryd.prog 33 #[.string s, .int .i64 i, .int .i32 110] w fun e w' => e = .returned (.bool false) ∧ w' = w := by
  go_enter Tryd.func33, Tryd.ntmps33
  go_wp2
  go_ret
  exact ⟨rfl, rfl⟩
theorem dec (pos : Nat) (h : pos < (⟨#[110]⟩ : ByteArray).size) : pos = 0 ∧ Utf8.decode (⟨#[110]⟩ : ByteArray) pos = (110, 1) := by
  have h0 : pos = 0 := by
    have : (⟨#[110]⟩ : ByteArray).size = 1 := rfl
    omega
  subst h0
  have ha : ((⟨#[110]⟩ : ByteArray)[0]'h).toNat < 128 := by show (110 : Nat) < 128; omega
  exact ⟨rfl, decode_ascii _ 0 h ha⟩
set_option maxHeartbeats 4000000 in
set_option maxRecDepth 100000 in
theorem calls (w : World) : Calls Tryd.prog 17 #[.string ⟨#[110]⟩] w fun e w' => e = .returned (.int .i64 1) ∧ Below w.heap.size w w' := by
  go_enter Tryd.func17, Tryd.ntmps17
  go_wp2
  go_loopw [] (fun wr => ∃ (pos : Nat), wr.heap[w.heap.size]? = some (.stringIter ⟨#[110]⟩ pos) ∧ Below w.heap.size w wr) (fun wr => 1 - wr.iterPos w.heap.size)
  case atStart =>
    refine ⟨0, ?_, (Below.refl _ w).alloc (Nat.le_refl _) _⟩
    have := World.iter_heap w (⟨#[110]⟩ : ByteArray) 0
    simpa using this
  case round =>
    obtain ⟨pos, hit, hbw⟩ := hrel
    have hsz : w.heap.size < wr.heap.size := (Array.getElem?_eq_some_iff.1 hit).1
    by_cases hp : pos < (⟨#[110]⟩ : ByteArray).size
    · obtain ⟨h0, hd⟩ := dec pos hp
      have hnx : ∀ ty, (Instr.next (.pointer (some ⟨w.heap.size, 0, none⟩)) true ty).run Tryd.prog wr = _ := fun ty => Lib.run_next_any_at wr w.heap.size _ pos ty hit hp
      have hit2 := Lib.iterAt_heap wr w.heap.size _ pos (pos + (Utf8.decode (⟨#[110]⟩ : ByteArray) pos).2) hit
      have hbw2 := Lib.below_iterAt hbw (k := w.heap.size) (by omega) (⟨#[110]⟩ : ByteArray) (pos + (Utf8.decode (⟨#[110]⟩ : ByteArray) pos).2)
      rw [hd] at hnx hit2 hbw2
      subst h0
      go_wp2_with (first | (go_at_call 12; refine (space _).mono ?_; rintro e W1 ⟨rfl, rfl⟩) | (go_at_call 14; refine (syntax_ _).mono ?_; rintro e W1 ⟨rfl, rfl⟩) | (go_at_call 33; refine (stray _ _ _).mono ?_; rintro e W1 ⟨rfl, rfl⟩))
      go_roundw
      case rel => exact ⟨_, hit2, hbw2⟩
      case measure => simp only [World.iterPos, hit2, hit]; omega
    · have hnx : ∀ ty, (Instr.next (.pointer (some ⟨w.heap.size, 0, none⟩)) true ty).run Tryd.prog wr = _ := fun ty => Lib.run_next_end_at wr w.heap.size _ pos ty hit hp
      go_wp2
      go_ret
      exact ⟨rfl, hbw⟩
end Go.Proofs.YtigikjihagmokaaDoor.IdentN
namespace Go.Proofs.YtigikjihagmokaaDoor.F
open Go.RowKit Go.Proofs.YtigikjihagmokaaDoorW.PrintWords Go.Proofs.YtigikjihagmokaaDoorW.PrintLast Go.Proofs.YtigikjihagmokaaDoorW.PrintMore Go.Proofs.YtigikjihagmokaaDoor.Q
attribute [local go_sem] max2_int min2_int max_two min_two max_three min_three max_four min_four   -- for this text's walks alone
set_option linter.unusedVariables false
set_option linter.unusedSimpArgs false

/-- At the one text that 'awake' asks of. -/
def runes_Ident.f (a0 : ByteArray) : Option (Int) := if a0.toList = [110] then some 1 else none
theorem runes_Ident.calls (a0 : ByteArray) (r : Int) (w : World) (h : runes_Ident.f a0 = some r) :
 Calls Tryd.prog 17 #[.string a0] w fun e w' => e = .returned (.int .i64 r) ∧ Below w.heap.size w w' := by
 unfold runes_Ident.f at h
 split at h
 · rename_i ha
   have e : a0 = ⟨#[110]⟩ := by
    obtain ⟨⟨l⟩⟩ := a0
    rw [ByteArray.toList_eq] at ha
    simp at ha
    rw [ha]
   obtain rfl := Option.some.inj h
   subst e
   exact IdentN.calls w
 · cases h

def runes_Fill.f (a0 : ByteArray) (l1 : List ByteArray) : Option (ByteArray × Int) := some (Fill.f a0 l1)
theorem runes_Fill.calls (a0 : ByteArray) (A1 : Option Addr) (c1 : Nat) (l1 : List ByteArray) (r1 : ByteArray) (r2 : Int) (w : World) (hr1 : Kd.C Kd.string w A1 l1.length l1) (hc1 : l1.length ≤ c1) (h : runes_Fill.f a0 l1 = some (r1, r2)) :
 Calls Tryd.prog 19 #[.string a0, .slice A1 l1.length c1] w fun e w' => e = .returned (.tuple #[.string r1, .int .i64 r2]) ∧ Below w.heap.size w w' := by
 have e : Fill.f a0 l1 = (r1, r2) := Option.some.inj h
 have c := Fill.calls a0 A1 c1 l1 w hr1 hc1
 rw [e] at c
 exact c

def idiomlaw01_awake.f  : Option (Bool) := (runes_Fill.f (⟨#[123, 49, 125, 45, 123, 48, 125]⟩ : ByteArray) (([(⟨#[97]⟩ : ByteArray), (⟨#[98]⟩ : ByteArray)] : List ByteArray))).bind fun bt114 => (if bt114.1.toList = ([98, 45, 97] : List UInt8) then (if bt114.2 = 0 then ((runes_Ident.f (⟨#[110]⟩ : ByteArray)).bind fun t116 => (some (t116 == 1))) else (some false)) else (some false))
set_option maxHeartbeats 8000000 in
set_option maxRecDepth 100000 in
theorem idiomlaw01_awake.calls  (r : Bool) (w : World) (h : idiomlaw01_awake.f  = some r) :
 Calls Tryd.prog 16 #[] w fun e w' => e = .returned (.bool r) ∧ Below w.heap.size w w' := by
 have HB := Aside0.mk (Below.refl w.heap.size w)
 have H : ((runes_Fill.f (⟨#[123, 49, 125, 45, 123, 48, 125]⟩ : ByteArray) (([(⟨#[97]⟩ : ByteArray), (⟨#[98]⟩ : ByteArray)] : List ByteArray))).bind fun bt114 => (if bt114.1.toList = ([98, 45, 97] : List UInt8) then (if bt114.2 = 0 then ((runes_Ident.f (⟨#[110]⟩ : ByteArray)).bind fun t116 => (some (t116 == 1))) else (some false)) else (some false))) = some r := h
 clear h
 obtain ⟨y111, hy111⟩ : ∃ y_ : List ByteArray, y_ = (([(⟨#[97]⟩ : ByteArray), (⟨#[98]⟩ : ByteArray)] : List ByteArray)) := ⟨_, rfl⟩
 replace H : ((runes_Fill.f (⟨#[123, 49, 125, 45, 123, 48, 125]⟩ : ByteArray) y111).bind fun bt114 => (if bt114.1.toList = ([98, 45, 97] : List UInt8) then (if bt114.2 = 0 then ((runes_Ident.f (⟨#[110]⟩ : ByteArray)).bind fun t116 => (some (t116 == 1))) else (some false)) else (some false))) = some r := by first | (rw [hy111]; with_reducible exact H) | (have H2_ := (Option.bind_some _ _).symm.trans H; rw [hy111]; with_reducible exact H2_) | (have H2_ := (Option.bind_some _ _).symm.trans H; with_reducible exact H2_) | with_reducible exact H | (rw [hy111]; exact H) | exact H
 have Ny111 := Aside0.mk hy111
 clear hy111
 replace H := Option.bind_eq_some_iff.mp H
 obtain ⟨⟨t114, t115⟩, A10, H⟩ := H
 replace H : (if t114.toList = ([98, 45, 97] : List UInt8) then (if t115 = 0 then ((runes_Ident.f (⟨#[110]⟩ : ByteArray)).bind fun t116 => (some (t116 == 1))) else (some false)) else (some false)) = some r := H
 have A1 := Aside0.mk A10
 clear A10
 by_cases c2 : t114.toList = ([98, 45, 97] : List UInt8)
 · rw [if_pos c2] at H
   have c2b0 : (t114.toList == ([98, 45, 97] : List UInt8)) = true := beq_iff_eq.mpr c2
   have c2b1 : (t114.toList != ([98, 45, 97] : List UInt8)) = false := bne_eq_false_iff_eq.mpr c2
   clear c2
   by_cases c3 : t115 = 0
   · rw [if_pos c3] at H
     have c3b0 : (t115 == 0) = true := beq_iff_eq.mpr c3
     have c3b1 : (t115 != 0) = false := bne_eq_false_iff_eq.mpr c3
     try have c3b1z := c3b1
     (try simp only [bne] at c3b1z)
     clear c3
     replace H := Option.bind_eq_some_iff.mp H
     obtain ⟨t116, A40, H⟩ := H
     replace H : (some (t116 == 1)) = some r := H
     have A4 := Aside0.mk A40
     clear A40
     obtain rfl := Option.some.inj H
     go_enter Tryd.func16, Tryd.ntmps16
     go_wp2_with (first | ((with_reducible refine gate_dst (N := 4) rfl ?_); refine Kd.R_lit Kd.string _ 9 ?hg (N := 4) ?hd (xs := ([(⟨#[97]⟩ : ByteArray), (⟨#[98]⟩ : ByteArray)] : List ByteArray)) (inner := [.string (⟨#[97]⟩ : ByteArray), .string (⟨#[98]⟩ : ByteArray)]) (ok := fun _ => True) (okp := fun _ => True) ?hr ?hp (fun _ hk => hk) trivial (Below.refl _ _) (Nat.le_refl _) (by simp) ?_; (case hd => rfl); (case hg => rfl); (case hr => first | (go_simp; done) | (go_simp; rfl)); (case hp => exact (Reps.one (show Kd.M Kd.string _ _ _ (⟨#[97]⟩ : ByteArray) [.string (⟨#[97]⟩ : ByteArray)] from rfl) (Reps.one (show Kd.M Kd.string _ _ _ (⟨#[98]⟩ : ByteArray) [.string (⟨#[98]⟩ : ByteArray)] from rfl) (Reps.none _ _)))); intro v112 w5 ho6 hb hg_ hnew_; clear hg_ hnew_; (first | rw [← Ny111.out] at ho6 | (simp only [Int.reduceToNat] at ho6; rw [← Ny111.out] at ho6)); have HO113 := Aside0.mk (Kd.R_lower ho6 (below_size (qh HB))); replace HB := qn HB hb; clear hb ho6; obtain ⟨Ao7, co7, eo7⟩ := Kd.R_slice HO113.out; subst eo7) | ((with_reducible refine gate_callee (f := 19) rfl ?_); refine goesL_ (some 5) rfl rfl Tryd.func19 (by kernel_rfl) rfl #[.string (⟨#[123, 49, 125, 45, 123, 48, 125]⟩ : ByteArray), .slice Ao7 y111.length co7] rfl ql ?_; (with_reducible refine (runes_Fill.calls (⟨#[123, 49, 125, 45, 123, 48, 125]⟩ : ByteArray) _ _ y111 t114 t115 _ ?side1 ?side2 A1.out).mono ?_); (case side1 => repeat (first | exact (Kd.R_reads' HO113.out).2.2 | (with_reducible refine Kd.C_alloc ?_ _) | (with_reducible refine Kd.C_drewN ?_ _) | (with_reducible refine Kd.C_drew ?_))); (case side2 => exact (Kd.R_reads' HO113.out).2.1); rintro e w8 ⟨rfl, hb⟩; refine ⟨_, rfl, ?_⟩; replace HO113 := Aside0.mk (Kd.R_below (by (with_reducible repeat (first | apply Kd.R_alloc | apply Kd.R_drewN | apply Kd.R_drew)); exact HO113.out) hb); replace HB := qn HB hb; (try clear hb); (try clear hb2); (try clear hk); (try clear hi)) | (go_at_call 17; (with_reducible refine (runes_Ident.calls (⟨#[110]⟩ : ByteArray) t116 _ A4.out).mono ?_); rintro e w9 ⟨rfl, hb⟩; replace HO113 := Aside0.mk (Kd.R_below (by (with_reducible repeat (first | apply Kd.R_alloc | apply Kd.R_drewN | apply Kd.R_drew)); exact HO113.out) hb); replace HB := qn HB hb; (try clear hb); (try clear hb2); (try clear hk); (try clear hi)))
     go_ret
     exact ⟨qe, qh HB⟩
   · rw [if_neg c3] at H
     have c3b0 : (t115 == 0) = false := beq_eq_false_iff_ne.mpr c3
     have c3b1 : (t115 != 0) = true := bne_iff_ne.mpr c3
     try have c3b1z := c3b1
     (try simp only [bne] at c3b1z)
     obtain rfl := Option.some.inj H
     go_enter Tryd.func16, Tryd.ntmps16
     go_wp2_with (first | ((with_reducible refine gate_dst (N := 4) rfl ?_); refine Kd.R_lit Kd.string _ 9 ?hg (N := 4) ?hd (xs := ([(⟨#[97]⟩ : ByteArray), (⟨#[98]⟩ : ByteArray)] : List ByteArray)) (inner := [.string (⟨#[97]⟩ : ByteArray), .string (⟨#[98]⟩ : ByteArray)]) (ok := fun _ => True) (okp := fun _ => True) ?hr ?hp (fun _ hk => hk) trivial (Below.refl _ _) (Nat.le_refl _) (by simp) ?_; (case hd => rfl); (case hg => rfl); (case hr => first | (go_simp; done) | (go_simp; rfl)); (case hp => exact (Reps.one (show Kd.M Kd.string _ _ _ (⟨#[97]⟩ : ByteArray) [.string (⟨#[97]⟩ : ByteArray)] from rfl) (Reps.one (show Kd.M Kd.string _ _ _ (⟨#[98]⟩ : ByteArray) [.string (⟨#[98]⟩ : ByteArray)] from rfl) (Reps.none _ _)))); intro v112 w10 ho11 hb hg_ hnew_; clear hg_ hnew_; (first | rw [← Ny111.out] at ho11 | (simp only [Int.reduceToNat] at ho11; rw [← Ny111.out] at ho11)); have HO113 := Aside0.mk (Kd.R_lower ho11 (below_size (qh HB))); replace HB := qn HB hb; clear hb ho11; obtain ⟨Ao12, co12, eo12⟩ := Kd.R_slice HO113.out; subst eo12) | ((with_reducible refine gate_callee (f := 19) rfl ?_); refine goesL_ (some 5) rfl rfl Tryd.func19 (by kernel_rfl) rfl #[.string (⟨#[123, 49, 125, 45, 123, 48, 125]⟩ : ByteArray), .slice Ao12 y111.length co12] rfl ql ?_; (with_reducible refine (runes_Fill.calls (⟨#[123, 49, 125, 45, 123, 48, 125]⟩ : ByteArray) _ _ y111 t114 t115 _ ?side1 ?side2 A1.out).mono ?_); (case side1 => repeat (first | exact (Kd.R_reads' HO113.out).2.2 | (with_reducible refine Kd.C_alloc ?_ _) | (with_reducible refine Kd.C_drewN ?_ _) | (with_reducible refine Kd.C_drew ?_))); (case side2 => exact (Kd.R_reads' HO113.out).2.1); rintro e w13 ⟨rfl, hb⟩; refine ⟨_, rfl, ?_⟩; replace HO113 := Aside0.mk (Kd.R_below (by (with_reducible repeat (first | apply Kd.R_alloc | apply Kd.R_drewN | apply Kd.R_drew)); exact HO113.out) hb); replace HB := qn HB hb; (try clear hb); (try clear hb2); (try clear hk); (try clear hi)))
     go_ret
     exact ⟨qe, qh HB⟩
 · rw [if_neg c2] at H
   have c2b0 : (t114.toList == ([98, 45, 97] : List UInt8)) = false := beq_eq_false_iff_ne.mpr c2
   have c2b1 : (t114.toList != ([98, 45, 97] : List UInt8)) = true := bne_iff_ne.mpr c2
   obtain rfl := Option.some.inj H
   go_enter Tryd.func16, Tryd.ntmps16
   go_wp2_with (first | ((with_reducible refine gate_dst (N := 4) rfl ?_); refine Kd.R_lit Kd.string _ 9 ?hg (N := 4) ?hd (xs := ([(⟨#[97]⟩ : ByteArray), (⟨#[98]⟩ : ByteArray)] : List ByteArray)) (inner := [.string (⟨#[97]⟩ : ByteArray), .string (⟨#[98]⟩ : ByteArray)]) (ok := fun _ => True) (okp := fun _ => True) ?hr ?hp (fun _ hk => hk) trivial (Below.refl _ _) (Nat.le_refl _) (by simp) ?_; (case hd => rfl); (case hg => rfl); (case hr => first | (go_simp; done) | (go_simp; rfl)); (case hp => exact (Reps.one (show Kd.M Kd.string _ _ _ (⟨#[97]⟩ : ByteArray) [.string (⟨#[97]⟩ : ByteArray)] from rfl) (Reps.one (show Kd.M Kd.string _ _ _ (⟨#[98]⟩ : ByteArray) [.string (⟨#[98]⟩ : ByteArray)] from rfl) (Reps.none _ _)))); intro v112 w14 ho15 hb hg_ hnew_; clear hg_ hnew_; (first | rw [← Ny111.out] at ho15 | (simp only [Int.reduceToNat] at ho15; rw [← Ny111.out] at ho15)); have HO113 := Aside0.mk (Kd.R_lower ho15 (below_size (qh HB))); replace HB := qn HB hb; clear hb ho15; obtain ⟨Ao16, co16, eo16⟩ := Kd.R_slice HO113.out; subst eo16) | ((with_reducible refine gate_callee (f := 19) rfl ?_); refine goesL_ (some 5) rfl rfl Tryd.func19 (by kernel_rfl) rfl #[.string (⟨#[123, 49, 125, 45, 123, 48, 125]⟩ : ByteArray), .slice Ao16 y111.length co16] rfl ql ?_; (with_reducible refine (runes_Fill.calls (⟨#[123, 49, 125, 45, 123, 48, 125]⟩ : ByteArray) _ _ y111 t114 t115 _ ?side1 ?side2 A1.out).mono ?_); (case side1 => repeat (first | exact (Kd.R_reads' HO113.out).2.2 | (with_reducible refine Kd.C_alloc ?_ _) | (with_reducible refine Kd.C_drewN ?_ _) | (with_reducible refine Kd.C_drew ?_))); (case side2 => exact (Kd.R_reads' HO113.out).2.1); rintro e w17 ⟨rfl, hb⟩; refine ⟨_, rfl, ?_⟩; replace HO113 := Aside0.mk (Kd.R_below (by (with_reducible repeat (first | apply Kd.R_alloc | apply Kd.R_drewN | apply Kd.R_drew)); exact HO113.out) hb); replace HB := qn HB hb; (try clear hb); (try clear hb2); (try clear hk); (try clear hi)))
   go_ret
   exact ⟨qe, qh HB⟩

end Go.Proofs.YtigikjihagmokaaDoor.F
namespace Go.Proofs.YtigikjihagmokaaDoor.F
open Go.RowKit Go.Proofs.YtigikjihagmokaaDoorW.PrintWords Go.Proofs.YtigikjihagmokaaDoorW.PrintLast Go.Proofs.YtigikjihagmokaaDoorW.PrintMore Go.Proofs.YtigikjihagmokaaDoor.Q
attribute [local go_sem] max2_int min2_int max_two min_two max_three min_three max_four min_four   -- for this text's walks alone
set_option linter.unusedVariables false
set_option linter.unusedSimpArgs false

def utf8_appendRuneNonASCII.j0 : Nat → List Int → Int → Int → Bool → Option (List Int)
 | 0, _, _, _, _ => none
 | k + 1, x0, x1, x5, x25 => if x25 = true then ((some (([Go.bits .or .u8 224 ((x1 / 4096) % 256), Go.bits .or .u8 128 (Go.bits .and .u8 ((x1 / 64) % 256) 63), Go.bits .or .u8 128 (Go.bits .and .u8 ((x1) % 256) 63)] : List Int) : List Int)).bind fun y190 => (if x0.length + y190.length < 140737488355328 then (some (x0 ++ y190)) else (none))) else (if x5 > 65535 then (if x5 ≤ 1114111 then ((some (([Go.bits .or .u8 240 ((x1 / 262144) % 256), Go.bits .or .u8 128 (Go.bits .and .u8 ((x1 / 4096) % 256) 63), Go.bits .or .u8 128 (Go.bits .and .u8 ((x1 / 64) % 256) 63), Go.bits .or .u8 128 (Go.bits .and .u8 ((x1) % 256) 63)] : List Int) : List Int)).bind fun y196 => (if x0.length + y196.length < 140737488355328 then (some (x0 ++ y196)) else (none))) else ((some (([239, 191, 189] : List Int) : List Int)).bind fun y202 => (if x0.length + y202.length < 140737488355328 then (some (x0 ++ y202)) else (none)))) else ((some (([239, 191, 189] : List Int) : List Int)).bind fun y208 => (if x0.length + y208.length < 140737488355328 then (some (x0 ++ y208)) else (none))))
def utf8_appendRuneNonASCII.f (k : Nat) (l0 : List Int) (a1 : Int) : Option (List Int) := if ((a1) % 4294967296) ≤ 2047 then ((some (([Go.bits .or .u8 192 ((a1 / 64) % 256), Go.bits .or .u8 128 (Go.bits .and .u8 ((a1) % 256) 63)] : List Int) : List Int)).bind fun y184 => (if l0.length + y184.length < 140737488355328 then (some (l0 ++ y184)) else (none))) else (if ((a1) % 4294967296) < 55296 then (utf8_appendRuneNonASCII.j0 k l0 a1 ((a1) % 4294967296) (decide (((a1) % 4294967296) < 55296))) else (if 57343 < ((a1) % 4294967296) then (utf8_appendRuneNonASCII.j0 k l0 a1 ((a1) % 4294967296) (decide (((a1) % 4294967296) ≤ 65535))) else (utf8_appendRuneNonASCII.j0 k l0 a1 ((a1) % 4294967296) false)))
theorem utf8_appendRuneNonASCII.mono_l : ∀ k, (∀ y0 y1 y2 y3, LeO (utf8_appendRuneNonASCII.j0 k y0 y1 y2 y3) (utf8_appendRuneNonASCII.j0 (k + 1) y0 y1 y2 y3))
 | 0 => fun _ _ _ _ r h => by simp [utf8_appendRuneNonASCII.j0] at h
 | k + 1 => by
  have ih0 := utf8_appendRuneNonASCII.mono_l k
  · intro y0 y1 y2 y3
    unfold utf8_appendRuneNonASCII.j0
    repeat' first
    | (with_reducible exact ih0 _ _ _ _)
    | (with_reducible exact LeO.refl _)
    | (with_reducible exact LeO.none _)
    | (with_reducible refine LeO.ite ?_ ?_)
    | (with_reducible refine LeO.bind ?_ (fun _ => ?_))
    | exact ih0 _ _ _ _
    | exact LeO.none _
    | refine LeO.ite ?_ ?_
    | refine LeO.bind ?_ (fun _ => ?_)
theorem utf8_appendRuneNonASCII.mono : ∀ a0 a1 k, LeO (utf8_appendRuneNonASCII.f k a0 a1) (utf8_appendRuneNonASCII.f (k + 1) a0 a1) := by
 intro a0 a1 k
 have ih0 := utf8_appendRuneNonASCII.mono_l k
 unfold utf8_appendRuneNonASCII.f
 repeat' first
  | (with_reducible exact ih0 _ _ _ _)
  | (with_reducible exact LeO.refl _)
  | (with_reducible exact LeO.none _)
  | (with_reducible refine LeO.ite ?_ ?_)
  | (with_reducible refine LeO.bind ?_ (fun _ => ?_))
  | exact ih0 _ _ _ _
  | exact LeO.none _
  | refine LeO.ite ?_ ?_
  | refine LeO.bind ?_ (fun _ => ?_)
set_option maxHeartbeats 8000000 in
set_option maxRecDepth 100000 in
theorem utf8_appendRuneNonASCII.calls (k : Nat) (P0_ : Nat → Prop) (u9000_ : Value) (l0 : List Int) (a1 : Int) (r : List Int) (w0 w : World) (hB : Below w0.heap.size w0 w) (ho0 : Kd.R (Kd.int .u8) 5 w w0.heap.size P0_ u9000_ l0) (h : utf8_appendRuneNonASCII.f k l0 a1 = some r) :
 Calls Tryd.prog 61 #[u9000_, .int .i32 a1] w fun e w' => ∃ v0_ : Value, e = .returned (v0_) ∧ Kd.R (Kd.int .u8) 5 w' w0.heap.size (fun k_ => (P0_ k_ ∨ w.heap.size ≤ k_)) v0_ r ∧ Below w0.heap.size w0 w' ∧ Kept w w' (fun k_ => P0_ k_) := by
 have HO0 := Aside0.mk (show Kd.R (Kd.int .u8) 5 w w0.heap.size (fun k_ => (P0_ k_ ∨ w.heap.size ≤ k_)) u9000_ l0 from Kd.R_mono ho0 (fun k_ hk => (.inl hk)))
 have HK := Aside0.mk (Kept.refl w (fun k_ => P0_ k_))
 have HW0 := Aside0.mk hB.size
 have HB := Aside0.mk hB
 clear hB
 have H : (if ((a1) % 4294967296) ≤ 2047 then ((some (([Go.bits .or .u8 192 ((a1 / 64) % 256), Go.bits .or .u8 128 (Go.bits .and .u8 ((a1) % 256) 63)] : List Int) : List Int)).bind fun y184 => (if l0.length + y184.length < 140737488355328 then (some (l0 ++ y184)) else (none))) else (if ((a1) % 4294967296) < 55296 then (utf8_appendRuneNonASCII.j0 k l0 a1 ((a1) % 4294967296) (decide (((a1) % 4294967296) < 55296))) else (if 57343 < ((a1) % 4294967296) then (utf8_appendRuneNonASCII.j0 k l0 a1 ((a1) % 4294967296) (decide (((a1) % 4294967296) ≤ 65535))) else (utf8_appendRuneNonASCII.j0 k l0 a1 ((a1) % 4294967296) false)))) = some r := h
 clear h
 by_cases c3 : ((a1) % 4294967296) ≤ 2047
 · rw [if_pos c3] at H
   have c3b0 : decide (((a1) % 4294967296) ≤ 2047) = true := decide_eq_true c3
   clear c3
   obtain ⟨y184, hy184⟩ : ∃ y_ : List Int, y_ = (([Go.bits .or .u8 192 ((a1 / 64) % 256), Go.bits .or .u8 128 (Go.bits .and .u8 ((a1) % 256) 63)] : List Int)) := ⟨_, rfl⟩
   replace H : (if l0.length + y184.length < 140737488355328 then (some (l0 ++ y184)) else (none)) = some r := by first | (rw [hy184]; with_reducible exact H) | (have H2_ := (Option.bind_some _ _).symm.trans H; rw [hy184]; with_reducible exact H2_) | (have H2_ := (Option.bind_some _ _).symm.trans H; with_reducible exact H2_) | with_reducible exact H | (rw [hy184]; exact H) | exact H
   have Ny184 := Aside0.mk hy184
   clear hy184
   by_cases c4 : l0.length + y184.length < 140737488355328
   · rw [if_pos c4] at H
     have LMc4 := Aside0.mk c4
     clear c4
     obtain ⟨y187, hy187⟩ : ∃ y_ : List Int, y_ = (l0 ++ y184) := ⟨_, rfl⟩
     replace H : (some y187) = some r := by first | (rw [hy187]; with_reducible exact H) | (have H2_ := (Option.bind_some _ _).symm.trans H; rw [hy187]; with_reducible exact H2_) | (have H2_ := (Option.bind_some _ _).symm.trans H; with_reducible exact H2_) | with_reducible exact H | (rw [hy187]; exact H) | exact H
     have Ny187 := Aside0.mk hy187
     clear hy187
     obtain rfl := Option.some.inj H
     go_enter Tryd.func61, Tryd.ntmps61
     go_wp2_with (first | ((with_reducible refine gate_dst (N := 23) rfl ?_); refine Kd.R_lit (Kd.int .u8) _ 5 ?hg (N := 23) ?hd (xs := ([Go.bits .or .u8 192 ((a1 / 64) % 256), Go.bits .or .u8 128 (Go.bits .and .u8 ((a1) % 256) 63)] : List Int)) (inner := [.int .u8 (Go.bits .or .u8 192 ((a1 / 64) % 256)), .int .u8 (Go.bits .or .u8 128 (Go.bits .and .u8 ((a1) % 256) 63))]) (ok := fun _ => True) (okp := fun _ => True) ?hr ?hp (fun _ hk => hk) trivial (Below.refl _ _) (Nat.le_refl _) (by simp) ?_; (case hd => rfl); (case hg => rfl); (case hr => first | (go_simp; done) | (go_simp; rfl) | (simp only [Aid.low6]; go_simp; done) | (simp only [Aid.low6]; go_simp; rfl)); (case hp => exact (Reps.one (show Kd.M (Kd.int .u8) _ _ _ (Go.bits .or .u8 192 ((a1 / 64) % 256)) [.int .u8 (Go.bits .or .u8 192 ((a1 / 64) % 256))] from rfl) (Reps.one (show Kd.M (Kd.int .u8) _ _ _ (Go.bits .or .u8 128 (Go.bits .and .u8 ((a1) % 256) 63)) [.int .u8 (Go.bits .or .u8 128 (Go.bits .and .u8 ((a1) % 256) 63))] from rfl) (Reps.none _ _)))); intro v185 w5 ho6 hb hg_ hnew_; clear hg_ hnew_; (first | rw [← Ny184.out] at ho6 | (simp only [Int.reduceToNat] at ho6; rw [← Ny184.out] at ho6)); have HO186 := Aside0.mk (Kd.R_lower (Kd.R_new' (Kd.R_newM (M := fun k_ => (P0_ k_ ∨ w.heap.size ≤ k_)) ho6 (by first | exact HK.out.1 | exact (show Kept w _ (fun k_ => P0_ k_) from by repeat (first | (with_reducible first | exact HK.out | apply Kept.alloc | apply Kept.drewN | apply Kept.drew) | exact HK.out)).1) (fun k_ h_ => .inr h_)) (Kd.R_lt (by (with_reducible repeat (first | apply Kd.R_alloc | apply Kd.R_drewN | apply Kd.R_drew)); exact HO0.out))) (below_size (qh HB))); replace HO0 := Aside0.mk (Kd.R_elder' (by (with_reducible repeat (first | apply Kd.R_alloc | apply Kd.R_drewN | apply Kd.R_drew)); exact HO0.out) (Kd.R_base ho6) hb); replace HK := Aside0.mk (Kept.below (S := (fun k_ => P0_ k_)) (by repeat (first | (with_reducible first | exact HK.out | apply Kept.alloc | apply Kept.drewN | apply Kept.drew) | exact HK.out)) hb); replace HB := qn HB hb; clear hb ho6; obtain ⟨Ao8, co8, eo8⟩ := Kd.R_slice HO186.out; subst eo8) | ((with_reducible refine gate_builtin (b := .append) (xs := #[.tmp 14, .tmp 23]) rfl ?_); at_builtin; refine Kd.R_append_rows (Kd.int .u8) (w0 := w0) w0.heap.size rfl (.tmp 14) (.tmp 23) 41 5 (.int .u8 0) 1 rfl Tryd.underlying41 info5 rfl (by decide) (by omega) u9000_ l0 y184 _ _ _ (fun k_ => (P0_ k_ ∨ w.heap.size ≤ k_) ∧ some k_ ≠ (.slice Ao8 y184.length co8 : Value).ownBlock) (fun _ => False) rfl rfl ?aO ?aR (fun _ _ h => h) (fun _ h => h.elim) ?aF ?aB ?aS ?aL ?_; (case aR => repeat (first | exact (Kd.R_reads' HO186.out).2.2 | (with_reducible refine Kd.C_alloc ?_ _) | (with_reducible refine Kd.C_drewN ?_ _) | (with_reducible refine Kd.C_drew ?_))); (case aB => exact (qh HB)); (case aF => exact (fun k_ hk => ⟨(.inr (Nat.le_trans (by first | exact HK.out.1 | exact (show Kept w _ (fun k_ => P0_ k_) from by repeat (first | (with_reducible first | exact HK.out | apply Kept.alloc | apply Kept.drewN | apply Kept.drew) | exact HK.out)).1) hk)), Kd.fresh' (Kd.R_lt (by (with_reducible repeat (first | apply Kd.R_alloc | apply Kd.R_drewN | apply Kd.R_drew)); exact HO186.out)) k_ hk⟩)); (case aO => exact (by (with_reducible repeat (first | apply Kd.R_alloc | apply Kd.R_drewN | apply Kd.R_drew)); exact HO0.out)); (case aS => exact (below_size (qh HB))); (case aL => have := LMc4.out; omega); intro v188 w7 ho hb hg hat; rw [← Ny187.out] at ho; have n0_ := Aside0.mk (Kd.R_after (ok := (fun k_ => (P0_ k_ ∨ w.heap.size ≤ k_))) (by (with_reducible repeat (first | apply Kd.R_alloc | apply Kd.R_drewN | apply Kd.R_drew)); exact Kd.R_mono HO186.out (fun _ hk => ⟨hk.1.1, hk.2⟩)) hg hat); have n1_ := Aside0.mk (hb); have n2_ := Aside0.mk (Kept.of_grown (S := (fun k_ => P0_ k_)) hg (by repeat (first | (with_reducible first | exact HK.out | apply Kept.alloc | apply Kept.drewN | apply Kept.drew) | exact HK.out)) (fun k_ e_ => (HO0.out.1 k_ e_).1)); have n3_ := Aside0.mk (ho); clear HO186; clear HB; clear HK; clear HO0; have HO186 := n0_; have HB := n1_; have HK := n2_; have HO189 := n3_; clear n0_ n1_ n2_ n3_; clear ho hb hg hat))
     go_ret
     exact ⟨_, by first | rfl | (simp [errW_none, errW_some] <;> rfl) | (simp [*, errW_none, errW_some] <;> rfl), by (with_reducible repeat (first | apply Kd.R_alloc | apply Kd.R_drewN | apply Kd.R_drew)); exact Kd.R_mono HO189.out (fun _ hk => hk.1), qh HB, by repeat (first | (with_reducible first | exact HK.out | apply Kept.alloc | apply Kept.drewN | apply Kept.drew) | exact HK.out)⟩
   · rw [if_neg c4] at H
     exact absurd H (by simp)
 · rw [if_neg c3] at H
   have c3b0 : decide (((a1) % 4294967296) ≤ 2047) = false := decide_eq_false c3
   clear c3
   have HC9 := Aside0.mk H
   clear H
   go_enter Tryd.func61, Tryd.ntmps61
   go_upto_if 25 with (fail)
   go_cut [25] (fun v25 wc => ∃ (kq : Nat) (x25_8 : Bool), v25 = .bool x25_8 ∧ Aside0 (utf8_appendRuneNonASCII.j0 kq l0 a1 ((a1) % 4294967296) x25_8 = some r) ∧ Aside0 (kq ≤ k) ∧ Aside0 (Kd.R (Kd.int .u8) 5 wc w0.heap.size (fun k_ => (P0_ k_ ∨ w.heap.size ≤ k_)) u9000_ l0) ∧ Aside0 (Kept w wc (fun k_ => P0_ k_)) ∧ Aside0 (Below w0.heap.size w0 wc))
   case first =>
    have H := HC9.out
    clear HC9
    by_cases c10 : ((a1) % 4294967296) < 55296
    · rw [if_pos c10] at H
      have c10b0 : decide (((a1) % 4294967296) < 55296) = true := decide_eq_true c10
      clear c10
      (first | rw [c10b0] | (simp only [i64_w, i32_w]; rw [c10b0]) | skip)
      have H' := Aside0.mk H
      clear H
      go_wp2
      go_meet
      case rel => exact ⟨_, (decide (((a1) % 4294967296) < 55296)), (by first | rfl | (simp; done) | (simp [*]; done)), H', ⟨by first | omega | exact Nat.le_refl _⟩, ⟨by (with_reducible repeat (first | apply Kd.R_alloc | apply Kd.R_drewN | apply Kd.R_drew)); exact HO0.out⟩, ⟨by repeat (first | (with_reducible first | exact HK.out | apply Kept.alloc | apply Kept.drewN | apply Kept.drew) | exact HK.out)⟩, ⟨qh HB⟩⟩
    · rw [if_neg c10] at H
      have c10b0 : decide (((a1) % 4294967296) < 55296) = false := decide_eq_false c10
      clear c10
      (first | rw [c10b0] | (simp only [i64_w, i32_w]; rw [c10b0]) | skip)
      by_cases c11 : 57343 < ((a1) % 4294967296)
      · rw [if_pos c11] at H
        have c11b0 : decide (57343 < ((a1) % 4294967296)) = true := decide_eq_true c11
        clear c11
        have H' := Aside0.mk H
        clear H
        go_wp2
        go_meet
        case rel => exact ⟨_, (decide (((a1) % 4294967296) ≤ 65535)), (by first | rfl | (simp; done) | (simp [*]; done)), H', ⟨by first | omega | exact Nat.le_refl _⟩, ⟨by (with_reducible repeat (first | apply Kd.R_alloc | apply Kd.R_drewN | apply Kd.R_drew)); exact HO0.out⟩, ⟨by repeat (first | (with_reducible first | exact HK.out | apply Kept.alloc | apply Kept.drewN | apply Kept.drew) | exact HK.out)⟩, ⟨qh HB⟩⟩
      · rw [if_neg c11] at H
        have c11b0 : decide (57343 < ((a1) % 4294967296)) = false := decide_eq_false c11
        clear c11
        have H' := Aside0.mk H
        clear H
        go_wp2
        go_meet
        case rel => exact ⟨_, (false), (by first | rfl | (simp; done) | (simp [*]; done)), H', ⟨by first | omega | exact Nat.le_refl _⟩, ⟨by (with_reducible repeat (first | apply Kd.R_alloc | apply Kd.R_drewN | apply Kd.R_drew)); exact HO0.out⟩, ⟨by repeat (first | (with_reducible first | exact HK.out | apply Kept.alloc | apply Kept.drewN | apply Kept.drew) | exact HK.out)⟩, ⟨qh HB⟩⟩
   case rest =>
    clear HC9
    try clear c1
    try clear p2
    try clear c3
    try clear c3b0
    try clear c4
    try clear c6
    try clear c10
    try clear c10b0
    try clear c11
    try clear c11b0
    obtain ⟨kq, x25_8, rfl, HA, HJ8, HO_0, HK, HB⟩ := hcut
    cases kq with
    | zero => exact absurd HA.out (by simp [utf8_appendRuneNonASCII.j0])
    | succ kj8 =>
     have H := HA.out
     clear HA
     simp only [utf8_appendRuneNonASCII.j0] at H
     by_cases c12 : x25_8 = true
     · subst c12
       have H1 : ((some (([Go.bits .or .u8 224 ((a1 / 4096) % 256), Go.bits .or .u8 128 (Go.bits .and .u8 ((a1 / 64) % 256) 63), Go.bits .or .u8 128 (Go.bits .and .u8 ((a1) % 256) 63)] : List Int) : List Int)).bind fun y190 => (if l0.length + y190.length < 140737488355328 then (some (l0 ++ y190)) else (none))) = some r := by rw [if_pos rfl] at H; exact H
       clear H
       have H := H1
       clear H1
       obtain ⟨y190, hy190⟩ : ∃ y_ : List Int, y_ = (([Go.bits .or .u8 224 ((a1 / 4096) % 256), Go.bits .or .u8 128 (Go.bits .and .u8 ((a1 / 64) % 256) 63), Go.bits .or .u8 128 (Go.bits .and .u8 ((a1) % 256) 63)] : List Int)) := ⟨_, rfl⟩
       replace H : (if l0.length + y190.length < 140737488355328 then (some (l0 ++ y190)) else (none)) = some r := by first | (rw [hy190]; with_reducible exact H) | (have H2_ := (Option.bind_some _ _).symm.trans H; rw [hy190]; with_reducible exact H2_) | (have H2_ := (Option.bind_some _ _).symm.trans H; with_reducible exact H2_) | with_reducible exact H | (rw [hy190]; exact H) | exact H
       have Ny190 := Aside0.mk hy190
       clear hy190
       by_cases c13 : l0.length + y190.length < 140737488355328
       · rw [if_pos c13] at H
         have LMc13 := Aside0.mk c13
         clear c13
         obtain ⟨y193, hy193⟩ : ∃ y_ : List Int, y_ = (l0 ++ y190) := ⟨_, rfl⟩
         replace H : (some y193) = some r := by first | (rw [hy193]; with_reducible exact H) | (have H2_ := (Option.bind_some _ _).symm.trans H; rw [hy193]; with_reducible exact H2_) | (have H2_ := (Option.bind_some _ _).symm.trans H; with_reducible exact H2_) | with_reducible exact H | (rw [hy193]; exact H) | exact H
         have Ny193 := Aside0.mk hy193
         clear hy193
         obtain rfl := Option.some.inj H
         go_wp2_with (first | ((with_reducible refine gate_dst (N := 48) rfl ?_); refine Kd.R_lit (Kd.int .u8) _ 5 ?hg (N := 48) ?hd (xs := ([Go.bits .or .u8 224 ((a1 / 4096) % 256), Go.bits .or .u8 128 (Go.bits .and .u8 ((a1 / 64) % 256) 63), Go.bits .or .u8 128 (Go.bits .and .u8 ((a1) % 256) 63)] : List Int)) (inner := [.int .u8 (Go.bits .or .u8 224 ((a1 / 4096) % 256)), .int .u8 (Go.bits .or .u8 128 (Go.bits .and .u8 ((a1 / 64) % 256) 63)), .int .u8 (Go.bits .or .u8 128 (Go.bits .and .u8 ((a1) % 256) 63))]) (ok := fun _ => True) (okp := fun _ => True) ?hr ?hp (fun _ hk => hk) trivial (Below.refl _ _) (Nat.le_refl _) (by simp) ?_; (case hd => rfl); (case hg => rfl); (case hr => first | (go_simp; done) | (go_simp; rfl) | (simp only [Aid.low6]; go_simp; done) | (simp only [Aid.low6]; go_simp; rfl)); (case hp => exact (Reps.one (show Kd.M (Kd.int .u8) _ _ _ (Go.bits .or .u8 224 ((a1 / 4096) % 256)) [.int .u8 (Go.bits .or .u8 224 ((a1 / 4096) % 256))] from rfl) (Reps.one (show Kd.M (Kd.int .u8) _ _ _ (Go.bits .or .u8 128 (Go.bits .and .u8 ((a1 / 64) % 256) 63)) [.int .u8 (Go.bits .or .u8 128 (Go.bits .and .u8 ((a1 / 64) % 256) 63))] from rfl) (Reps.one (show Kd.M (Kd.int .u8) _ _ _ (Go.bits .or .u8 128 (Go.bits .and .u8 ((a1) % 256) 63)) [.int .u8 (Go.bits .or .u8 128 (Go.bits .and .u8 ((a1) % 256) 63))] from rfl) (Reps.none _ _))))); intro v191 w14 ho15 hb hg_ hnew_; clear hg_ hnew_; (first | rw [← Ny190.out] at ho15 | (simp only [Int.reduceToNat] at ho15; rw [← Ny190.out] at ho15)); have HO192 := Aside0.mk (Kd.R_lower (Kd.R_new' (Kd.R_newM (M := fun k_ => (P0_ k_ ∨ w.heap.size ≤ k_)) ho15 (by first | exact HK.out.1 | exact (show Kept w _ (fun k_ => P0_ k_) from by repeat (first | (with_reducible first | exact HK.out | apply Kept.alloc | apply Kept.drewN | apply Kept.drew) | exact HK.out)).1) (fun k_ h_ => .inr h_)) (Kd.R_lt (by (with_reducible repeat (first | apply Kd.R_alloc | apply Kd.R_drewN | apply Kd.R_drew)); exact HO_0.out))) (below_size (qh HB))); replace HO_0 := Aside0.mk (Kd.R_elder' (by (with_reducible repeat (first | apply Kd.R_alloc | apply Kd.R_drewN | apply Kd.R_drew)); exact HO_0.out) (Kd.R_base ho15) hb); replace HK := Aside0.mk (Kept.below (S := (fun k_ => P0_ k_)) (by repeat (first | (with_reducible first | exact HK.out | apply Kept.alloc | apply Kept.drewN | apply Kept.drew) | exact HK.out)) hb); replace HB := qn HB hb; clear hb ho15; obtain ⟨Ao17, co17, eo17⟩ := Kd.R_slice HO192.out; subst eo17) | ((with_reducible refine gate_builtin (b := .append) (xs := #[.tmp 34, .tmp 48]) rfl ?_); at_builtin; refine Kd.R_append_rows (Kd.int .u8) (w0 := w0) w0.heap.size rfl (.tmp 34) (.tmp 48) 41 5 (.int .u8 0) 1 rfl Tryd.underlying41 info5 rfl (by decide) (by omega) u9000_ l0 y190 _ _ _ (fun k_ => (P0_ k_ ∨ w.heap.size ≤ k_) ∧ some k_ ≠ (.slice Ao17 y190.length co17 : Value).ownBlock) (fun _ => False) rfl rfl ?aO ?aR (fun _ _ h => h) (fun _ h => h.elim) ?aF ?aB ?aS ?aL ?_; (case aR => repeat (first | exact (Kd.R_reads' HO192.out).2.2 | (with_reducible refine Kd.C_alloc ?_ _) | (with_reducible refine Kd.C_drewN ?_ _) | (with_reducible refine Kd.C_drew ?_))); (case aB => exact (qh HB)); (case aF => exact (fun k_ hk => ⟨(.inr (Nat.le_trans (by first | exact HK.out.1 | exact (show Kept w _ (fun k_ => P0_ k_) from by repeat (first | (with_reducible first | exact HK.out | apply Kept.alloc | apply Kept.drewN | apply Kept.drew) | exact HK.out)).1) hk)), Kd.fresh' (Kd.R_lt (by (with_reducible repeat (first | apply Kd.R_alloc | apply Kd.R_drewN | apply Kd.R_drew)); exact HO192.out)) k_ hk⟩)); (case aO => exact (by (with_reducible repeat (first | apply Kd.R_alloc | apply Kd.R_drewN | apply Kd.R_drew)); exact HO_0.out)); (case aS => exact (below_size (qh HB))); (case aL => have := LMc13.out; omega); intro v194 w16 ho hb hg hat; rw [← Ny193.out] at ho; have n0_ := Aside0.mk (Kd.R_after (ok := (fun k_ => (P0_ k_ ∨ w.heap.size ≤ k_))) (by (with_reducible repeat (first | apply Kd.R_alloc | apply Kd.R_drewN | apply Kd.R_drew)); exact Kd.R_mono HO192.out (fun _ hk => ⟨hk.1.1, hk.2⟩)) hg hat); have n1_ := Aside0.mk (hb); have n2_ := Aside0.mk (Kept.of_grown (S := (fun k_ => P0_ k_)) hg (by repeat (first | (with_reducible first | exact HK.out | apply Kept.alloc | apply Kept.drewN | apply Kept.drew) | exact HK.out)) (fun k_ e_ => (HO_0.out.1 k_ e_).1)); have n3_ := Aside0.mk (ho); clear HO192; clear HB; clear HK; clear HO_0; have HO192 := n0_; have HB := n1_; have HK := n2_; have HO195 := n3_; clear n0_ n1_ n2_ n3_; clear ho hb hg hat))
         go_ret
         exact ⟨_, by first | rfl | (simp [errW_none, errW_some] <;> rfl) | (simp [*, errW_none, errW_some] <;> rfl), by (with_reducible repeat (first | apply Kd.R_alloc | apply Kd.R_drewN | apply Kd.R_drew)); exact Kd.R_mono HO195.out (fun _ hk => hk.1), qh HB, by repeat (first | (with_reducible first | exact HK.out | apply Kept.alloc | apply Kept.drewN | apply Kept.drew) | exact HK.out)⟩
       · rw [if_neg c13] at H
         exact absurd H (by simp)
     · replace c12 := Bool.eq_false_iff.mpr c12
       subst c12
       have H1 : (if ((a1) % 4294967296) > 65535 then (if ((a1) % 4294967296) ≤ 1114111 then ((some (([Go.bits .or .u8 240 ((a1 / 262144) % 256), Go.bits .or .u8 128 (Go.bits .and .u8 ((a1 / 4096) % 256) 63), Go.bits .or .u8 128 (Go.bits .and .u8 ((a1 / 64) % 256) 63), Go.bits .or .u8 128 (Go.bits .and .u8 ((a1) % 256) 63)] : List Int) : List Int)).bind fun y196 => (if l0.length + y196.length < 140737488355328 then (some (l0 ++ y196)) else (none))) else ((some (([239, 191, 189] : List Int) : List Int)).bind fun y202 => (if l0.length + y202.length < 140737488355328 then (some (l0 ++ y202)) else (none)))) else ((some (([239, 191, 189] : List Int) : List Int)).bind fun y208 => (if l0.length + y208.length < 140737488355328 then (some (l0 ++ y208)) else (none)))) = some r := by rw [if_neg (show ¬ (false = true) by decide)] at H; exact H
       clear H
       have H := H1
       clear H1
       by_cases c18 : ((a1) % 4294967296) > 65535
       · rw [if_pos c18] at H
         have c18b0 : decide (65535 < ((a1) % 4294967296)) = true := decide_eq_true c18
         clear c18
         by_cases c19 : ((a1) % 4294967296) ≤ 1114111
         · rw [if_pos c19] at H
           have c19b0 : decide (((a1) % 4294967296) ≤ 1114111) = true := decide_eq_true c19
           clear c19
           obtain ⟨y196, hy196⟩ : ∃ y_ : List Int, y_ = (([Go.bits .or .u8 240 ((a1 / 262144) % 256), Go.bits .or .u8 128 (Go.bits .and .u8 ((a1 / 4096) % 256) 63), Go.bits .or .u8 128 (Go.bits .and .u8 ((a1 / 64) % 256) 63), Go.bits .or .u8 128 (Go.bits .and .u8 ((a1) % 256) 63)] : List Int)) := ⟨_, rfl⟩
           replace H : (if l0.length + y196.length < 140737488355328 then (some (l0 ++ y196)) else (none)) = some r := by first | (rw [hy196]; with_reducible exact H) | (have H2_ := (Option.bind_some _ _).symm.trans H; rw [hy196]; with_reducible exact H2_) | (have H2_ := (Option.bind_some _ _).symm.trans H; with_reducible exact H2_) | with_reducible exact H | (rw [hy196]; exact H) | exact H
           have Ny196 := Aside0.mk hy196
           clear hy196
           by_cases c20 : l0.length + y196.length < 140737488355328
           · rw [if_pos c20] at H
             have LMc20 := Aside0.mk c20
             clear c20
             obtain ⟨y199, hy199⟩ : ∃ y_ : List Int, y_ = (l0 ++ y196) := ⟨_, rfl⟩
             replace H : (some y199) = some r := by first | (rw [hy199]; with_reducible exact H) | (have H2_ := (Option.bind_some _ _).symm.trans H; rw [hy199]; with_reducible exact H2_) | (have H2_ := (Option.bind_some _ _).symm.trans H; with_reducible exact H2_) | with_reducible exact H | (rw [hy199]; exact H) | exact H
             have Ny199 := Aside0.mk hy199
             clear hy199
             obtain rfl := Option.some.inj H
             go_wp2_with (first | ((with_reducible refine gate_dst (N := 76) rfl ?_); refine Kd.R_lit (Kd.int .u8) _ 5 ?hg (N := 76) ?hd (xs := ([Go.bits .or .u8 240 ((a1 / 262144) % 256), Go.bits .or .u8 128 (Go.bits .and .u8 ((a1 / 4096) % 256) 63), Go.bits .or .u8 128 (Go.bits .and .u8 ((a1 / 64) % 256) 63), Go.bits .or .u8 128 (Go.bits .and .u8 ((a1) % 256) 63)] : List Int)) (inner := [.int .u8 (Go.bits .or .u8 240 ((a1 / 262144) % 256)), .int .u8 (Go.bits .or .u8 128 (Go.bits .and .u8 ((a1 / 4096) % 256) 63)), .int .u8 (Go.bits .or .u8 128 (Go.bits .and .u8 ((a1 / 64) % 256) 63)), .int .u8 (Go.bits .or .u8 128 (Go.bits .and .u8 ((a1) % 256) 63))]) (ok := fun _ => True) (okp := fun _ => True) ?hr ?hp (fun _ hk => hk) trivial (Below.refl _ _) (Nat.le_refl _) (by simp) ?_; (case hd => rfl); (case hg => rfl); (case hr => first | (go_simp; done) | (go_simp; rfl) | (simp only [Aid.low6]; go_simp; done) | (simp only [Aid.low6]; go_simp; rfl)); (case hp => exact (Reps.one (show Kd.M (Kd.int .u8) _ _ _ (Go.bits .or .u8 240 ((a1 / 262144) % 256)) [.int .u8 (Go.bits .or .u8 240 ((a1 / 262144) % 256))] from rfl) (Reps.one (show Kd.M (Kd.int .u8) _ _ _ (Go.bits .or .u8 128 (Go.bits .and .u8 ((a1 / 4096) % 256) 63)) [.int .u8 (Go.bits .or .u8 128 (Go.bits .and .u8 ((a1 / 4096) % 256) 63))] from rfl) (Reps.one (show Kd.M (Kd.int .u8) _ _ _ (Go.bits .or .u8 128 (Go.bits .and .u8 ((a1 / 64) % 256) 63)) [.int .u8 (Go.bits .or .u8 128 (Go.bits .and .u8 ((a1 / 64) % 256) 63))] from rfl) (Reps.one (show Kd.M (Kd.int .u8) _ _ _ (Go.bits .or .u8 128 (Go.bits .and .u8 ((a1) % 256) 63)) [.int .u8 (Go.bits .or .u8 128 (Go.bits .and .u8 ((a1) % 256) 63))] from rfl) (Reps.none _ _)))))); intro v197 w21 ho22 hb hg_ hnew_; clear hg_ hnew_; (first | rw [← Ny196.out] at ho22 | (simp only [Int.reduceToNat] at ho22; rw [← Ny196.out] at ho22)); have HO198 := Aside0.mk (Kd.R_lower (Kd.R_new' (Kd.R_newM (M := fun k_ => (P0_ k_ ∨ w.heap.size ≤ k_)) ho22 (by first | exact HK.out.1 | exact (show Kept w _ (fun k_ => P0_ k_) from by repeat (first | (with_reducible first | exact HK.out | apply Kept.alloc | apply Kept.drewN | apply Kept.drew) | exact HK.out)).1) (fun k_ h_ => .inr h_)) (Kd.R_lt (by (with_reducible repeat (first | apply Kd.R_alloc | apply Kd.R_drewN | apply Kd.R_drew)); exact HO_0.out))) (below_size (qh HB))); replace HO_0 := Aside0.mk (Kd.R_elder' (by (with_reducible repeat (first | apply Kd.R_alloc | apply Kd.R_drewN | apply Kd.R_drew)); exact HO_0.out) (Kd.R_base ho22) hb); replace HK := Aside0.mk (Kept.below (S := (fun k_ => P0_ k_)) (by repeat (first | (with_reducible first | exact HK.out | apply Kept.alloc | apply Kept.drewN | apply Kept.drew) | exact HK.out)) hb); replace HB := qn HB hb; clear hb ho22; obtain ⟨Ao24, co24, eo24⟩ := Kd.R_slice HO198.out; subst eo24) | ((with_reducible refine gate_builtin (b := .append) (xs := #[.tmp 57, .tmp 76]) rfl ?_); at_builtin; refine Kd.R_append_rows (Kd.int .u8) (w0 := w0) w0.heap.size rfl (.tmp 57) (.tmp 76) 41 5 (.int .u8 0) 1 rfl Tryd.underlying41 info5 rfl (by decide) (by omega) u9000_ l0 y196 _ _ _ (fun k_ => (P0_ k_ ∨ w.heap.size ≤ k_) ∧ some k_ ≠ (.slice Ao24 y196.length co24 : Value).ownBlock) (fun _ => False) rfl rfl ?aO ?aR (fun _ _ h => h) (fun _ h => h.elim) ?aF ?aB ?aS ?aL ?_; (case aR => repeat (first | exact (Kd.R_reads' HO198.out).2.2 | (with_reducible refine Kd.C_alloc ?_ _) | (with_reducible refine Kd.C_drewN ?_ _) | (with_reducible refine Kd.C_drew ?_))); (case aB => exact (qh HB)); (case aF => exact (fun k_ hk => ⟨(.inr (Nat.le_trans (by first | exact HK.out.1 | exact (show Kept w _ (fun k_ => P0_ k_) from by repeat (first | (with_reducible first | exact HK.out | apply Kept.alloc | apply Kept.drewN | apply Kept.drew) | exact HK.out)).1) hk)), Kd.fresh' (Kd.R_lt (by (with_reducible repeat (first | apply Kd.R_alloc | apply Kd.R_drewN | apply Kd.R_drew)); exact HO198.out)) k_ hk⟩)); (case aO => exact (by (with_reducible repeat (first | apply Kd.R_alloc | apply Kd.R_drewN | apply Kd.R_drew)); exact HO_0.out)); (case aS => exact (below_size (qh HB))); (case aL => have := LMc20.out; omega); intro v200 w23 ho hb hg hat; rw [← Ny199.out] at ho; have n0_ := Aside0.mk (Kd.R_after (ok := (fun k_ => (P0_ k_ ∨ w.heap.size ≤ k_))) (by (with_reducible repeat (first | apply Kd.R_alloc | apply Kd.R_drewN | apply Kd.R_drew)); exact Kd.R_mono HO198.out (fun _ hk => ⟨hk.1.1, hk.2⟩)) hg hat); have n1_ := Aside0.mk (hb); have n2_ := Aside0.mk (Kept.of_grown (S := (fun k_ => P0_ k_)) hg (by repeat (first | (with_reducible first | exact HK.out | apply Kept.alloc | apply Kept.drewN | apply Kept.drew) | exact HK.out)) (fun k_ e_ => (HO_0.out.1 k_ e_).1)); have n3_ := Aside0.mk (ho); clear HO198; clear HB; clear HK; clear HO_0; have HO198 := n0_; have HB := n1_; have HK := n2_; have HO201 := n3_; clear n0_ n1_ n2_ n3_; clear ho hb hg hat))
             go_ret
             exact ⟨_, by first | rfl | (simp [errW_none, errW_some] <;> rfl) | (simp [*, errW_none, errW_some] <;> rfl), by (with_reducible repeat (first | apply Kd.R_alloc | apply Kd.R_drewN | apply Kd.R_drew)); exact Kd.R_mono HO201.out (fun _ hk => hk.1), qh HB, by repeat (first | (with_reducible first | exact HK.out | apply Kept.alloc | apply Kept.drewN | apply Kept.drew) | exact HK.out)⟩
           · rw [if_neg c20] at H
             exact absurd H (by simp)
         · rw [if_neg c19] at H
           have c19b0 : decide (((a1) % 4294967296) ≤ 1114111) = false := decide_eq_false c19
           clear c19
           obtain ⟨y202, hy202⟩ : ∃ y_ : List Int, y_ = (([239, 191, 189] : List Int)) := ⟨_, rfl⟩
           replace H : (if l0.length + y202.length < 140737488355328 then (some (l0 ++ y202)) else (none)) = some r := by first | (rw [hy202]; with_reducible exact H) | (have H2_ := (Option.bind_some _ _).symm.trans H; rw [hy202]; with_reducible exact H2_) | (have H2_ := (Option.bind_some _ _).symm.trans H; with_reducible exact H2_) | with_reducible exact H | (rw [hy202]; exact H) | exact H
           have Ny202 := Aside0.mk hy202
           clear hy202
           by_cases c25 : l0.length + y202.length < 140737488355328
           · rw [if_pos c25] at H
             have LMc25 := Aside0.mk c25
             clear c25
             obtain ⟨y205, hy205⟩ : ∃ y_ : List Int, y_ = (l0 ++ y202) := ⟨_, rfl⟩
             replace H : (some y205) = some r := by first | (rw [hy205]; with_reducible exact H) | (have H2_ := (Option.bind_some _ _).symm.trans H; rw [hy205]; with_reducible exact H2_) | (have H2_ := (Option.bind_some _ _).symm.trans H; with_reducible exact H2_) | with_reducible exact H | (rw [hy205]; exact H) | exact H
             have Ny205 := Aside0.mk hy205
             clear hy205
             obtain rfl := Option.some.inj H
             go_wp2_with (first | ((with_reducible refine gate_dst (N := 9) rfl ?_); refine Kd.R_lit (Kd.int .u8) _ 5 ?hg (N := 9) ?hd (xs := ([239, 191, 189] : List Int)) (inner := [.int .u8 239, .int .u8 191, .int .u8 189]) (ok := fun _ => True) (okp := fun _ => True) ?hr ?hp (fun _ hk => hk) trivial (Below.refl _ _) (Nat.le_refl _) (by simp) ?_; (case hd => rfl); (case hg => rfl); (case hr => first | (go_simp; done) | (go_simp; rfl)); (case hp => exact (Reps.one (show Kd.M (Kd.int .u8) _ _ _ 239 [.int .u8 239] from rfl) (Reps.one (show Kd.M (Kd.int .u8) _ _ _ 191 [.int .u8 191] from rfl) (Reps.one (show Kd.M (Kd.int .u8) _ _ _ 189 [.int .u8 189] from rfl) (Reps.none _ _))))); intro v203 w26 ho27 hb hg_ hnew_; clear hg_ hnew_; (first | rw [← Ny202.out] at ho27 | (simp only [Int.reduceToNat] at ho27; rw [← Ny202.out] at ho27)); have HO204 := Aside0.mk (Kd.R_lower (Kd.R_new' (Kd.R_newM (M := fun k_ => (P0_ k_ ∨ w.heap.size ≤ k_)) ho27 (by first | exact HK.out.1 | exact (show Kept w _ (fun k_ => P0_ k_) from by repeat (first | (with_reducible first | exact HK.out | apply Kept.alloc | apply Kept.drewN | apply Kept.drew) | exact HK.out)).1) (fun k_ h_ => .inr h_)) (Kd.R_lt (by (with_reducible repeat (first | apply Kd.R_alloc | apply Kd.R_drewN | apply Kd.R_drew)); exact HO_0.out))) (below_size (qh HB))); replace HO_0 := Aside0.mk (Kd.R_elder' (by (with_reducible repeat (first | apply Kd.R_alloc | apply Kd.R_drewN | apply Kd.R_drew)); exact HO_0.out) (Kd.R_base ho27) hb); replace HK := Aside0.mk (Kept.below (S := (fun k_ => P0_ k_)) (by repeat (first | (with_reducible first | exact HK.out | apply Kept.alloc | apply Kept.drewN | apply Kept.drew) | exact HK.out)) hb); replace HB := qn HB hb; clear hb ho27; obtain ⟨Ao29, co29, eo29⟩ := Kd.R_slice HO204.out; subst eo29) | ((with_reducible refine gate_builtin (b := .append) (xs := #[.tmp 8, .tmp 9]) rfl ?_); at_builtin; refine Kd.R_append_rows (Kd.int .u8) (w0 := w0) w0.heap.size rfl (.tmp 8) (.tmp 9) 41 5 (.int .u8 0) 1 rfl Tryd.underlying41 info5 rfl (by decide) (by omega) u9000_ l0 y202 _ _ _ (fun k_ => (P0_ k_ ∨ w.heap.size ≤ k_) ∧ some k_ ≠ (.slice Ao29 y202.length co29 : Value).ownBlock) (fun _ => False) rfl rfl ?aO ?aR (fun _ _ h => h) (fun _ h => h.elim) ?aF ?aB ?aS ?aL ?_; (case aR => repeat (first | exact (Kd.R_reads' HO204.out).2.2 | (with_reducible refine Kd.C_alloc ?_ _) | (with_reducible refine Kd.C_drewN ?_ _) | (with_reducible refine Kd.C_drew ?_))); (case aB => exact (qh HB)); (case aF => exact (fun k_ hk => ⟨(.inr (Nat.le_trans (by first | exact HK.out.1 | exact (show Kept w _ (fun k_ => P0_ k_) from by repeat (first | (with_reducible first | exact HK.out | apply Kept.alloc | apply Kept.drewN | apply Kept.drew) | exact HK.out)).1) hk)), Kd.fresh' (Kd.R_lt (by (with_reducible repeat (first | apply Kd.R_alloc | apply Kd.R_drewN | apply Kd.R_drew)); exact HO204.out)) k_ hk⟩)); (case aO => exact (by (with_reducible repeat (first | apply Kd.R_alloc | apply Kd.R_drewN | apply Kd.R_drew)); exact HO_0.out)); (case aS => exact (below_size (qh HB))); (case aL => have := LMc25.out; omega); intro v206 w28 ho hb hg hat; rw [← Ny205.out] at ho; have n0_ := Aside0.mk (Kd.R_after (ok := (fun k_ => (P0_ k_ ∨ w.heap.size ≤ k_))) (by (with_reducible repeat (first | apply Kd.R_alloc | apply Kd.R_drewN | apply Kd.R_drew)); exact Kd.R_mono HO204.out (fun _ hk => ⟨hk.1.1, hk.2⟩)) hg hat); have n1_ := Aside0.mk (hb); have n2_ := Aside0.mk (Kept.of_grown (S := (fun k_ => P0_ k_)) hg (by repeat (first | (with_reducible first | exact HK.out | apply Kept.alloc | apply Kept.drewN | apply Kept.drew) | exact HK.out)) (fun k_ e_ => (HO_0.out.1 k_ e_).1)); have n3_ := Aside0.mk (ho); clear HO204; clear HB; clear HK; clear HO_0; have HO204 := n0_; have HB := n1_; have HK := n2_; have HO207 := n3_; clear n0_ n1_ n2_ n3_; clear ho hb hg hat))
             go_ret
             exact ⟨_, by first | rfl | (simp [errW_none, errW_some] <;> rfl) | (simp [*, errW_none, errW_some] <;> rfl), by (with_reducible repeat (first | apply Kd.R_alloc | apply Kd.R_drewN | apply Kd.R_drew)); exact Kd.R_mono HO207.out (fun _ hk => hk.1), qh HB, by repeat (first | (with_reducible first | exact HK.out | apply Kept.alloc | apply Kept.drewN | apply Kept.drew) | exact HK.out)⟩
           · rw [if_neg c25] at H
             exact absurd H (by simp)
       · rw [if_neg c18] at H
         have c18b0 : decide (65535 < ((a1) % 4294967296)) = false := decide_eq_false c18
         clear c18
         obtain ⟨y208, hy208⟩ : ∃ y_ : List Int, y_ = (([239, 191, 189] : List Int)) := ⟨_, rfl⟩
         replace H : (if l0.length + y208.length < 140737488355328 then (some (l0 ++ y208)) else (none)) = some r := by first | (rw [hy208]; with_reducible exact H) | (have H2_ := (Option.bind_some _ _).symm.trans H; rw [hy208]; with_reducible exact H2_) | (have H2_ := (Option.bind_some _ _).symm.trans H; with_reducible exact H2_) | with_reducible exact H | (rw [hy208]; exact H) | exact H
         have Ny208 := Aside0.mk hy208
         clear hy208
         by_cases c30 : l0.length + y208.length < 140737488355328
         · rw [if_pos c30] at H
           have LMc30 := Aside0.mk c30
           clear c30
           obtain ⟨y211, hy211⟩ : ∃ y_ : List Int, y_ = (l0 ++ y208) := ⟨_, rfl⟩
           replace H : (some y211) = some r := by first | (rw [hy211]; with_reducible exact H) | (have H2_ := (Option.bind_some _ _).symm.trans H; rw [hy211]; with_reducible exact H2_) | (have H2_ := (Option.bind_some _ _).symm.trans H; with_reducible exact H2_) | with_reducible exact H | (rw [hy211]; exact H) | exact H
           have Ny211 := Aside0.mk hy211
           clear hy211
           obtain rfl := Option.some.inj H
           go_wp2_with (first | ((with_reducible refine gate_dst (N := 9) rfl ?_); refine Kd.R_lit (Kd.int .u8) _ 5 ?hg (N := 9) ?hd (xs := ([239, 191, 189] : List Int)) (inner := [.int .u8 239, .int .u8 191, .int .u8 189]) (ok := fun _ => True) (okp := fun _ => True) ?hr ?hp (fun _ hk => hk) trivial (Below.refl _ _) (Nat.le_refl _) (by simp) ?_; (case hd => rfl); (case hg => rfl); (case hr => first | (go_simp; done) | (go_simp; rfl)); (case hp => exact (Reps.one (show Kd.M (Kd.int .u8) _ _ _ 239 [.int .u8 239] from rfl) (Reps.one (show Kd.M (Kd.int .u8) _ _ _ 191 [.int .u8 191] from rfl) (Reps.one (show Kd.M (Kd.int .u8) _ _ _ 189 [.int .u8 189] from rfl) (Reps.none _ _))))); intro v209 w31 ho32 hb hg_ hnew_; clear hg_ hnew_; (first | rw [← Ny208.out] at ho32 | (simp only [Int.reduceToNat] at ho32; rw [← Ny208.out] at ho32)); have HO210 := Aside0.mk (Kd.R_lower (Kd.R_new' (Kd.R_newM (M := fun k_ => (P0_ k_ ∨ w.heap.size ≤ k_)) ho32 (by first | exact HK.out.1 | exact (show Kept w _ (fun k_ => P0_ k_) from by repeat (first | (with_reducible first | exact HK.out | apply Kept.alloc | apply Kept.drewN | apply Kept.drew) | exact HK.out)).1) (fun k_ h_ => .inr h_)) (Kd.R_lt (by (with_reducible repeat (first | apply Kd.R_alloc | apply Kd.R_drewN | apply Kd.R_drew)); exact HO_0.out))) (below_size (qh HB))); replace HO_0 := Aside0.mk (Kd.R_elder' (by (with_reducible repeat (first | apply Kd.R_alloc | apply Kd.R_drewN | apply Kd.R_drew)); exact HO_0.out) (Kd.R_base ho32) hb); replace HK := Aside0.mk (Kept.below (S := (fun k_ => P0_ k_)) (by repeat (first | (with_reducible first | exact HK.out | apply Kept.alloc | apply Kept.drewN | apply Kept.drew) | exact HK.out)) hb); replace HB := qn HB hb; clear hb ho32; obtain ⟨Ao34, co34, eo34⟩ := Kd.R_slice HO210.out; subst eo34) | ((with_reducible refine gate_builtin (b := .append) (xs := #[.tmp 8, .tmp 9]) rfl ?_); at_builtin; refine Kd.R_append_rows (Kd.int .u8) (w0 := w0) w0.heap.size rfl (.tmp 8) (.tmp 9) 41 5 (.int .u8 0) 1 rfl Tryd.underlying41 info5 rfl (by decide) (by omega) u9000_ l0 y208 _ _ _ (fun k_ => (P0_ k_ ∨ w.heap.size ≤ k_) ∧ some k_ ≠ (.slice Ao34 y208.length co34 : Value).ownBlock) (fun _ => False) rfl rfl ?aO ?aR (fun _ _ h => h) (fun _ h => h.elim) ?aF ?aB ?aS ?aL ?_; (case aR => repeat (first | exact (Kd.R_reads' HO210.out).2.2 | (with_reducible refine Kd.C_alloc ?_ _) | (with_reducible refine Kd.C_drewN ?_ _) | (with_reducible refine Kd.C_drew ?_))); (case aB => exact (qh HB)); (case aF => exact (fun k_ hk => ⟨(.inr (Nat.le_trans (by first | exact HK.out.1 | exact (show Kept w _ (fun k_ => P0_ k_) from by repeat (first | (with_reducible first | exact HK.out | apply Kept.alloc | apply Kept.drewN | apply Kept.drew) | exact HK.out)).1) hk)), Kd.fresh' (Kd.R_lt (by (with_reducible repeat (first | apply Kd.R_alloc | apply Kd.R_drewN | apply Kd.R_drew)); exact HO210.out)) k_ hk⟩)); (case aO => exact (by (with_reducible repeat (first | apply Kd.R_alloc | apply Kd.R_drewN | apply Kd.R_drew)); exact HO_0.out)); (case aS => exact (below_size (qh HB))); (case aL => have := LMc30.out; omega); intro v212 w33 ho hb hg hat; rw [← Ny211.out] at ho; have n0_ := Aside0.mk (Kd.R_after (ok := (fun k_ => (P0_ k_ ∨ w.heap.size ≤ k_))) (by (with_reducible repeat (first | apply Kd.R_alloc | apply Kd.R_drewN | apply Kd.R_drew)); exact Kd.R_mono HO210.out (fun _ hk => ⟨hk.1.1, hk.2⟩)) hg hat); have n1_ := Aside0.mk (hb); have n2_ := Aside0.mk (Kept.of_grown (S := (fun k_ => P0_ k_)) hg (by repeat (first | (with_reducible first | exact HK.out | apply Kept.alloc | apply Kept.drewN | apply Kept.drew) | exact HK.out)) (fun k_ e_ => (HO_0.out.1 k_ e_).1)); have n3_ := Aside0.mk (ho); clear HO210; clear HB; clear HK; clear HO_0; have HO210 := n0_; have HB := n1_; have HK := n2_; have HO213 := n3_; clear n0_ n1_ n2_ n3_; clear ho hb hg hat))
           go_ret
           exact ⟨_, by first | rfl | (simp [errW_none, errW_some] <;> rfl) | (simp [*, errW_none, errW_some] <;> rfl), by (with_reducible repeat (first | apply Kd.R_alloc | apply Kd.R_drewN | apply Kd.R_drew)); exact Kd.R_mono HO213.out (fun _ hk => hk.1), qh HB, by repeat (first | (with_reducible first | exact HK.out | apply Kept.alloc | apply Kept.drewN | apply Kept.drew) | exact HK.out)⟩
         · rw [if_neg c30] at H
           exact absurd H (by simp)

def utf8_AppendRune.f (k : Nat) (l0 : List Int) (a1 : Int) : Option (List Int) := if ((a1) % 4294967296) ≤ 127 then (if l0.length < 140737488355328 then (some (l0 ++ [(a1) % 256])) else (none)) else ((utf8_appendRuneNonASCII.f k l0 a1).bind fun t217 => (some t217))
theorem utf8_AppendRune.mono : ∀ a0 a1 k, LeO (utf8_AppendRune.f k a0 a1) (utf8_AppendRune.f (k + 1) a0 a1) := by
 intro a0 a1 k
 unfold utf8_AppendRune.f
 repeat' first
  | (with_reducible exact utf8_appendRuneNonASCII.mono _ _ _)
  | (with_reducible exact LeO.refl _)
  | (with_reducible exact LeO.none _)
  | (with_reducible refine LeO.ite ?_ ?_)
  | (with_reducible refine LeO.bind ?_ (fun _ => ?_))
  | exact utf8_appendRuneNonASCII.mono _ _ _
  | exact LeO.none _
  | refine LeO.ite ?_ ?_
  | refine LeO.bind ?_ (fun _ => ?_)
set_option maxHeartbeats 8000000 in
set_option maxRecDepth 100000 in
theorem utf8_AppendRune.calls (k : Nat) (P0_ : Nat → Prop) (u9000_ : Value) (l0 : List Int) (a1 : Int) (r : List Int) (w0 w : World) (hB : Below w0.heap.size w0 w) (ho0 : Kd.R (Kd.int .u8) 5 w w0.heap.size P0_ u9000_ l0) (h : utf8_AppendRune.f k l0 a1 = some r) :
 Calls Tryd.prog 51 #[u9000_, .int .i32 a1] w fun e w' => ∃ v0_ : Value, e = .returned (v0_) ∧ Kd.R (Kd.int .u8) 5 w' w0.heap.size (fun k_ => (P0_ k_ ∨ w.heap.size ≤ k_)) v0_ r ∧ Below w0.heap.size w0 w' ∧ Kept w w' (fun k_ => P0_ k_) := by
 have HO0 := Aside0.mk (show Kd.R (Kd.int .u8) 5 w w0.heap.size (fun k_ => (P0_ k_ ∨ w.heap.size ≤ k_)) u9000_ l0 from Kd.R_mono ho0 (fun k_ hk => (.inl hk)))
 have HK := Aside0.mk (Kept.refl w (fun k_ => P0_ k_))
 have HW0 := Aside0.mk hB.size
 have HB := Aside0.mk hB
 clear hB
 have H : (if ((a1) % 4294967296) ≤ 127 then (if l0.length < 140737488355328 then (some (l0 ++ [(a1) % 256])) else (none)) else ((utf8_appendRuneNonASCII.f k l0 a1).bind fun t217 => (some t217))) = some r := h
 clear h
 by_cases c3 : ((a1) % 4294967296) ≤ 127
 · rw [if_pos c3] at H
   have c3b0 : decide (((a1) % 4294967296) ≤ 127) = true := decide_eq_true c3
   clear c3
   by_cases c4 : l0.length < 140737488355328
   · rw [if_pos c4] at H
     have LMc4 := Aside0.mk c4
     clear c4
     obtain ⟨y214, hy214⟩ : ∃ y_ : List Int, y_ = (l0 ++ [(a1) % 256]) := ⟨_, rfl⟩
     replace H : (some y214) = some r := by first | (rw [hy214]; with_reducible exact H) | (have H2_ := (Option.bind_some _ _).symm.trans H; rw [hy214]; with_reducible exact H2_) | (have H2_ := (Option.bind_some _ _).symm.trans H; with_reducible exact H2_) | with_reducible exact H | (rw [hy214]; exact H) | exact H
     have Ny214 := Aside0.mk hy214
     clear hy214
     obtain rfl := Option.some.inj H
     go_enter Tryd.func51, Tryd.ntmps51
     go_wp2_with (first | ((with_reducible refine gate_builtin (b := .append) (xs := #[.tmp 8, .tmp 11]) rfl ?_); at_builtin; refine Kd.R_append (Kd.int .u8) (w0 := w0) w0.heap.size rfl (.tmp 8) (.tmp 11) 41 5 (.int .u8 0) 1 rfl Tryd.underlying41 info5 rfl (by decide) (by omega) u9000_ l0 ((a1) % 256) [.int .u8 ((a1) % 256)] (fun k_ => (P0_ k_ ∨ w.heap.size ≤ k_)) (fun _ => False) rfl rfl ?aP (fun _ hk => hk.elim) ?aF ?aO ?aB ?aS ?aL ?_; (case aP => exact rfl); (case aB => exact (qh HB)); (case aF => exact (fun k_ hk => (.inr (Nat.le_trans (by first | exact HK.out.1 | exact (show Kept w _ (fun k_ => P0_ k_) from by repeat (first | (with_reducible first | exact HK.out | apply Kept.alloc | apply Kept.drewN | apply Kept.drew) | exact HK.out)).1) hk)))); (case aO => exact (by (with_reducible repeat (first | apply Kd.R_alloc | apply Kd.R_drewN | apply Kd.R_drew)); exact HO0.out)); (case aS => exact (below_size (qh HB))); (case aL => have := LMc4.out; omega); intro v215 w5 ho hb hg hat; rw [← Ny214.out] at ho; have n0_ := Aside0.mk (hb); have n1_ := Aside0.mk (Kept.of_grown (S := (fun k_ => P0_ k_)) hg (by repeat (first | (with_reducible first | exact HK.out | apply Kept.alloc | apply Kept.drewN | apply Kept.drew) | exact HK.out)) (fun k_ e_ => (HO0.out.1 k_ e_))); have n2_ := Aside0.mk (ho); clear HB; clear HK; clear HO0; have HB := n0_; have HK := n1_; have HO216 := n2_; clear n0_ n1_ n2_; clear ho hb hg hat))
     go_ret
     exact ⟨_, by first | rfl | (simp [errW_none, errW_some] <;> rfl) | (simp [*, errW_none, errW_some] <;> rfl), by (with_reducible repeat (first | apply Kd.R_alloc | apply Kd.R_drewN | apply Kd.R_drew)); exact HO216.out, qh HB, by repeat (first | (with_reducible first | exact HK.out | apply Kept.alloc | apply Kept.drewN | apply Kept.drew) | exact HK.out)⟩
   · rw [if_neg c4] at H
     exact absurd H (by simp)
 · rw [if_neg c3] at H
   have c3b0 : decide (((a1) % 4294967296) ≤ 127) = false := decide_eq_false c3
   clear c3
   replace H := Option.bind_eq_some_iff.mp H
   obtain ⟨t217, A60, H⟩ := H
   replace H : (some t217) = some r := H
   have A6 := Aside0.mk A60
   clear A60
   obtain rfl := Option.some.inj H
   obtain ⟨Ao7, co7, eo7⟩ := Kd.R_slice HO0.out
   subst eo7
   go_enter Tryd.func51, Tryd.ntmps51
   go_wp2_with (first | ((with_reducible refine gate_callee (f := 61) rfl ?_); refine goesL_ (some 15) rfl rfl Tryd.func61 (by kernel_rfl) rfl #[.slice Ao7 l0.length co7, .int .i32 a1] rfl ql ?_; (with_reducible refine (utf8_appendRuneNonASCII.calls k (fun k_ => some k_ = (.slice Ao7 l0.length co7 : Value).ownBlock) (.slice Ao7 l0.length co7) l0 a1 t217 w0 _ ?side1 ?side2 A6.out).mono ?_); (case side1 => repeat (first | (with_reducible first | exact HB.out | apply below_alloc | apply pw_below_drewN | apply below_drew1) | exact HB.out)); (case side2 => exact Kd.R_tight rfl HO0.out); rintro e w8 ⟨v218, rfl, ho0, hb, hkp⟩; refine ⟨_, rfl, ?_⟩; have n0_ := Aside0.mk (Kd.R_mono (ok' := fun k_ => (P0_ k_ ∨ w.heap.size ≤ k_)) ho0 (fun k_ hk_ => Or.elim hk_ (fun hs_ => (HO0.out.1 k_ (hs_).symm)) (fun hn_ => (.inr (Nat.le_trans (by first | exact HK.out.1 | exact (show Kept w _ (fun k_ => P0_ k_) from by repeat (first | (with_reducible first | exact HK.out | apply Kept.alloc | apply Kept.drewN | apply Kept.drew) | exact HK.out)).1) hn_))))); have n1_ := Aside0.mk (Kept.then_ (S := (fun k_ => P0_ k_)) (by repeat (first | (with_reducible first | exact HK.out | apply Kept.alloc | apply Kept.drewN | apply Kept.drew) | exact HK.out)) hkp (fun k_ hs_ => (fun e_ => (HO0.out.1 k_ e_.symm)) hs_)); have n2_ := Aside0.mk (hb); clear HK; clear HB; clear HO0; have HO219 := n0_; have HK := n1_; have HB := n2_; clear n0_ n1_ n2_; (try clear hb); (try clear hkp); (try clear ho0)))
   go_ret
   exact ⟨_, by first | rfl | (simp [errW_none, errW_some] <;> rfl) | (simp [*, errW_none, errW_some] <;> rfl), by (with_reducible repeat (first | apply Kd.R_alloc | apply Kd.R_drewN | apply Kd.R_drew)); exact HO219.out, qh HB, by repeat (first | (with_reducible first | exact HK.out | apply Kept.alloc | apply Kept.drewN | apply Kept.drew) | exact HK.out)⟩

/-- strings.IndexByte, off the shelf. -/
def strings_IndexByte.f (a0 : ByteArray) (a1 : Int) : Option (Int) := some (Lib.indexByte a0.data.toList a1.toNat.toUInt8)
theorem strings_IndexByte.calls (a0 : ByteArray) (a1 : Int) (r : Int) (w : World) (h : strings_IndexByte.f a0 a1 = some r) :
 Calls Tryd.prog 62 #[.string a0, .int .u8 a1] w fun e w' => e = .returned (.int .i64 r) ∧ Drawn0 w w' := by
 obtain rfl := Option.some.inj h
 exact (Tryd.strings_IndexByte a0 a1 w).mono fun e w' he => ⟨he.1, he.2 ▸ Drawn0.refl _⟩

end Go.Proofs.YtigikjihagmokaaDoor.F
namespace Go.Proofs.YtigikjihagmokaaDoor.F
open Go.RowKit Go.Proofs.YtigikjihagmokaaDoorW.PrintWords Go.Proofs.YtigikjihagmokaaDoorW.PrintLast Go.Proofs.YtigikjihagmokaaDoorW.PrintMore Go.Proofs.YtigikjihagmokaaDoor.Q
attribute [local go_sem] max2_int min2_int max_two min_two max_three min_three max_four min_four   -- for this text's walks alone
set_option linter.unusedVariables false
set_option linter.unusedSimpArgs false

def runes_number.l0 : Nat → ByteArray → Int → Int → Int → Option (Int × Bool)
 | 0, _, _, _, _ => none
 | k + 1, x0, x6, x14, x15 => if x15 < x14 then (if 0 ≤ x15 then (if x15 < (x0.size : Int) then ((strings_IndexByte.f (⟨#[48, 49, 50, 51, 52, 53, 54, 55, 56, 57, 97, 98, 99, 100, 101, 102]⟩ : ByteArray) (Go.bits .or .u8 (bt x0 x15) 32)).bind fun t220 => (if t220 < 0 then (some (0, false)) else (if t220 < 10 then (if (bt x0 x15) = (Go.bits .or .u8 (bt x0 x15) 32) then (runes_number.l0 k x0 (Go.bits .or .i32 (wrap32 (x6 * 16)) (wrap32 (t220))) x14 (wrap64 (x15 + 1))) else (some (0, false))) else (runes_number.l0 k x0 (Go.bits .or .i32 (wrap32 (x6 * 16)) (wrap32 (t220))) x14 (wrap64 (x15 + 1)))))) else (none)) else (none)) else (some (x6, true))
def runes_number.f (k : Nat) (a0 : ByteArray) (a1 : Int) : Option (Int × Bool) := if (a0.size : Int) < a1 then (some (0, false)) else (runes_number.l0 k a0 0 a1 0)
theorem runes_number.mono_l : ∀ k, (∀ y0 y1 y2 y3, LeO (runes_number.l0 k y0 y1 y2 y3) (runes_number.l0 (k + 1) y0 y1 y2 y3))
 | 0 => fun _ _ _ _ r h => by simp [runes_number.l0] at h
 | k + 1 => by
  have ih0 := runes_number.mono_l k
  · intro y0 y1 y2 y3
    unfold runes_number.l0
    repeat' first
    | (with_reducible exact ih0 _ _ _ _)
    | (with_reducible exact LeO.refl _)
    | (with_reducible exact LeO.none _)
    | (with_reducible refine LeO.ite ?_ ?_)
    | (with_reducible refine LeO.bind ?_ (fun _ => ?_))
    | exact ih0 _ _ _ _
    | exact LeO.none _
    | refine LeO.ite ?_ ?_
    | refine LeO.bind ?_ (fun _ => ?_)
theorem runes_number.mono : ∀ a0 a1 k, LeO (runes_number.f k a0 a1) (runes_number.f (k + 1) a0 a1) := by
 intro a0 a1 k
 have ih0 := runes_number.mono_l k
 unfold runes_number.f
 repeat' first
  | (with_reducible exact ih0 _ _ _ _)
  | (with_reducible exact LeO.refl _)
  | (with_reducible exact LeO.none _)
  | (with_reducible refine LeO.ite ?_ ?_)
  | (with_reducible refine LeO.bind ?_ (fun _ => ?_))
  | exact ih0 _ _ _ _
  | exact LeO.none _
  | refine LeO.ite ?_ ?_
  | refine LeO.bind ?_ (fun _ => ?_)
set_option maxHeartbeats 8000000 in
set_option maxRecDepth 100000 in
theorem runes_number.calls (k : Nat) (a0 : ByteArray) (a1 : Int) (r1 : Int) (r2 : Bool) (w : World) (h : runes_number.f k a0 a1 = some (r1, r2)) :
 Calls Tryd.prog 52 #[.string a0, .int .i64 a1] w fun e w' => e = .returned (.tuple #[.int .i32 r1, .bool r2]) ∧ Drawn0 w w' := by
 have H : (if (a0.size : Int) < a1 then (some (0, false)) else (runes_number.l0 k a0 0 a1 0)) = some (r1, r2) := h
 clear h
 by_cases c3 : (a0.size : Int) < a1
 · rw [if_pos c3] at H
   have c3b0 : decide ((a0.size : Int) < a1) = true := decide_eq_true c3
   clear c3
   simp only [Option.some.injEq, Prod.mk.injEq] at H
   obtain ⟨rfl, rfl⟩ := H
   go_enter Tryd.func52, Tryd.ntmps52
   go_wp2
   go_ret2
   exact ⟨by first | rfl | (simp; done) | (simp [*]; done), by repeat (first | exact Drawn0.refl _ | apply Drawn0.step)⟩
 · rw [if_neg c3] at H
   have c3b0 : decide ((a0.size : Int) < a1) = false := decide_eq_false c3
   clear c3
   have H' := Aside0.mk H
   clear H
   go_enter Tryd.func52, Tryd.ntmps52
   go_wp2
   (try simp only [Act.put, List.setIfInBounds_toArray, List.set_cons_zero, List.set_cons_succ])
   go_loopg [6, 15] k (fun kq v6 v15 w' => ∃ (x6_1 : Int) (x15_1 : Int), v6 = .int .i32 x6_1 ∧ v15 = .int .i64 x15_1 ∧ Aside0 (runes_number.l0 kq a0 x6_1 a1 x15_1 = some (r1, r2)) ∧ Aside0 (kq ≤ k) ∧ Drawn0 w w')
   case atStart => exact ⟨(0), (0), (by first | rfl | (simp; done) | (simp [*]; done)), (by first | rfl | (simp; done) | (simp [*]; done)), H', ⟨Nat.le_refl _⟩, by repeat (first | exact Drawn0.refl _ | apply Drawn0.step)⟩
   case round =>
    clear H'
    try clear p2
    try clear c3
    try clear c3b0
    obtain ⟨x6_1, x15_1, rfl, rfl, HA, HK1, ⟨m1, rfl⟩⟩ := hrel
    cases gk with
    | zero => exact absurd HA.out (by simp [runes_number.l0])
    | succ k1 =>
     have H := HA.out
     clear HA
     simp only [runes_number.l0] at H
     by_cases c4 : x15_1 < a1
     · rw [if_pos c4] at H
       have c4b0 : decide (x15_1 < a1) = true := decide_eq_true c4
       clear c4
       by_cases c5 : 0 ≤ x15_1
       · rw [if_pos c5] at H
         have c5b0 : decide (0 ≤ x15_1) = true := decide_eq_true c5
         clear c5
         by_cases c6 : x15_1 < (a0.size : Int)
         · rw [if_pos c6] at H
           have c6b0 : decide (x15_1 < (a0.size : Int)) = true := decide_eq_true c6
           clear c6
           replace H := Option.bind_eq_some_iff.mp H
           obtain ⟨t220, A80, H⟩ := H
           replace H : (if t220 < 0 then (some (0, false)) else (if t220 < 10 then (if (bt a0 x15_1) = (Go.bits .or .u8 (bt a0 x15_1) 32) then (runes_number.l0 k1 a0 (Go.bits .or .i32 (wrap32 (x6_1 * 16)) (wrap32 (t220))) a1 (wrap64 (x15_1 + 1))) else (some (0, false))) else (runes_number.l0 k1 a0 (Go.bits .or .i32 (wrap32 (x6_1 * 16)) (wrap32 (t220))) a1 (wrap64 (x15_1 + 1))))) = some (r1, r2) := H
           have A8 := Aside0.mk A80
           clear A80
           by_cases c9 : t220 < 0
           · rw [if_pos c9] at H
             have c9b0 : decide (t220 < 0) = true := decide_eq_true c9
             clear c9
             simp only [Option.some.injEq, Prod.mk.injEq] at H
             obtain ⟨rfl, rfl⟩ := H
             have p7 : 0 ≤ (x15_1 : Int) := of_decide_eq_true qa
             have q7 : x15_1 < (a0.size : Int) := of_decide_eq_true qa
             have hx7 := bt_at a0 x15_1
             replace p7 := eq_true p7
             replace q7 := eq_true q7
             go_wp2_with (first | ((with_reducible refine gate_callee (f := 62) rfl ?_); refine goesL_ (some 23) rfl rfl Tryd.func62 (by kernel_rfl) rfl #[.string (⟨#[48, 49, 50, 51, 52, 53, 54, 55, 56, 57, 97, 98, 99, 100, 101, 102]⟩ : ByteArray), .int .u8 (Go.bits .or .u8 (bt a0 x15_1) 32)] rfl ql ?_; (with_reducible refine (strings_IndexByte.calls (⟨#[48, 49, 50, 51, 52, 53, 54, 55, 56, 57, 97, 98, 99, 100, 101, 102]⟩ : ByteArray) (Go.bits .or .u8 (bt a0 x15_1) 32) t220 _ A8.out).mono ?_); rintro e w' ⟨rfl, ⟨nd, rfl⟩⟩; refine ⟨_, rfl, ?_⟩))
             go_ret2
             exact ⟨by first | rfl | (simp; done) | (simp [*]; done), by repeat (first | exact Drawn0.refl _ | apply Drawn0.step)⟩
           · rw [if_neg c9] at H
             have c9b0 : decide (t220 < 0) = false := decide_eq_false c9
             clear c9
             by_cases c10 : t220 < 10
             · rw [if_pos c10] at H
               have c10b0 : decide (t220 < 10) = true := decide_eq_true c10
               clear c10
               by_cases c12 : (bt a0 x15_1) = (Go.bits .or .u8 (bt a0 x15_1) 32)
               · rw [if_pos c12] at H
                 have c12b0 : ((bt a0 x15_1) == (Go.bits .or .u8 (bt a0 x15_1) 32)) = true := beq_iff_eq.mpr c12
                 have c12b1 : ((bt a0 x15_1) != (Go.bits .or .u8 (bt a0 x15_1) 32)) = false := bne_eq_false_iff_eq.mpr c12
                 clear c12
                 have H' := Aside0.mk H
                 clear H
                 have p7 : 0 ≤ (x15_1 : Int) := of_decide_eq_true qa
                 have q7 : x15_1 < (a0.size : Int) := of_decide_eq_true qa
                 have hx7 := bt_at a0 x15_1
                 replace p7 := eq_true p7
                 replace q7 := eq_true q7
                 go_wp2_with (first | ((with_reducible refine gate_callee (f := 62) rfl ?_); refine goesL_ (some 23) rfl rfl Tryd.func62 (by kernel_rfl) rfl #[.string (⟨#[48, 49, 50, 51, 52, 53, 54, 55, 56, 57, 97, 98, 99, 100, 101, 102]⟩ : ByteArray), .int .u8 (Go.bits .or .u8 (bt a0 x15_1) 32)] rfl ql ?_; (with_reducible refine (strings_IndexByte.calls (⟨#[48, 49, 50, 51, 52, 53, 54, 55, 56, 57, 97, 98, 99, 100, 101, 102]⟩ : ByteArray) (Go.bits .or .u8 (bt a0 x15_1) 32) t220 _ A8.out).mono ?_); rintro e w' ⟨rfl, ⟨nd, rfl⟩⟩; refine ⟨_, rfl, ?_⟩; have p11 : 0 ≤ (x15_1 : Int) := of_decide_eq_true qa; have q11 : x15_1 < (a0.size : Int) := of_decide_eq_true qa; have hx11 := bt_at a0 x15_1; replace p11 := eq_true p11; replace q11 := eq_true q11))
                 go_roundg k1
                 case measure => have := HK1.out; omega
                 case rel => exact ⟨(Go.bits .or .i32 (wrap32 (x6_1 * 16)) (wrap32 (t220))), (wrap64 (x15_1 + 1)), (by first | rfl | (simp; done) | (simp [*]; done)), (by first | rfl | (simp; done) | (simp [*]; done)), H', ⟨by have := HK1.out; omega⟩, by repeat (first | exact Drawn0.refl _ | apply Drawn0.step)⟩
               · rw [if_neg c12] at H
                 have c12b0 : ((bt a0 x15_1) == (Go.bits .or .u8 (bt a0 x15_1) 32)) = false := beq_eq_false_iff_ne.mpr c12
                 have c12b1 : ((bt a0 x15_1) != (Go.bits .or .u8 (bt a0 x15_1) 32)) = true := bne_iff_ne.mpr c12
                 simp only [Option.some.injEq, Prod.mk.injEq] at H
                 obtain ⟨rfl, rfl⟩ := H
                 have p7 : 0 ≤ (x15_1 : Int) := of_decide_eq_true qa
                 have q7 : x15_1 < (a0.size : Int) := of_decide_eq_true qa
                 have hx7 := bt_at a0 x15_1
                 replace p7 := eq_true p7
                 replace q7 := eq_true q7
                 go_wp2_with (first | ((with_reducible refine gate_callee (f := 62) rfl ?_); refine goesL_ (some 23) rfl rfl Tryd.func62 (by kernel_rfl) rfl #[.string (⟨#[48, 49, 50, 51, 52, 53, 54, 55, 56, 57, 97, 98, 99, 100, 101, 102]⟩ : ByteArray), .int .u8 (Go.bits .or .u8 (bt a0 x15_1) 32)] rfl ql ?_; (with_reducible refine (strings_IndexByte.calls (⟨#[48, 49, 50, 51, 52, 53, 54, 55, 56, 57, 97, 98, 99, 100, 101, 102]⟩ : ByteArray) (Go.bits .or .u8 (bt a0 x15_1) 32) t220 _ A8.out).mono ?_); rintro e w' ⟨rfl, ⟨nd, rfl⟩⟩; refine ⟨_, rfl, ?_⟩; have p11 : 0 ≤ (x15_1 : Int) := of_decide_eq_true qa; have q11 : x15_1 < (a0.size : Int) := of_decide_eq_true qa; have hx11 := bt_at a0 x15_1; replace p11 := eq_true p11; replace q11 := eq_true q11))
                 go_ret2
                 exact ⟨by first | rfl | (simp; done) | (simp [*]; done), by repeat (first | exact Drawn0.refl _ | apply Drawn0.step)⟩
             · rw [if_neg c10] at H
               have c10b0 : decide (t220 < 10) = false := decide_eq_false c10
               clear c10
               have H' := Aside0.mk H
               clear H
               have p7 : 0 ≤ (x15_1 : Int) := of_decide_eq_true qa
               have q7 : x15_1 < (a0.size : Int) := of_decide_eq_true qa
               have hx7 := bt_at a0 x15_1
               replace p7 := eq_true p7
               replace q7 := eq_true q7
               go_wp2_with (first | ((with_reducible refine gate_callee (f := 62) rfl ?_); refine goesL_ (some 23) rfl rfl Tryd.func62 (by kernel_rfl) rfl #[.string (⟨#[48, 49, 50, 51, 52, 53, 54, 55, 56, 57, 97, 98, 99, 100, 101, 102]⟩ : ByteArray), .int .u8 (Go.bits .or .u8 (bt a0 x15_1) 32)] rfl ql ?_; (with_reducible refine (strings_IndexByte.calls (⟨#[48, 49, 50, 51, 52, 53, 54, 55, 56, 57, 97, 98, 99, 100, 101, 102]⟩ : ByteArray) (Go.bits .or .u8 (bt a0 x15_1) 32) t220 _ A8.out).mono ?_); rintro e w' ⟨rfl, ⟨nd, rfl⟩⟩; refine ⟨_, rfl, ?_⟩))
               go_roundg k1
               case measure => have := HK1.out; omega
               case rel => exact ⟨(Go.bits .or .i32 (wrap32 (x6_1 * 16)) (wrap32 (t220))), (wrap64 (x15_1 + 1)), (by first | rfl | (simp; done) | (simp [*]; done)), (by first | rfl | (simp; done) | (simp [*]; done)), H', ⟨by have := HK1.out; omega⟩, by repeat (first | exact Drawn0.refl _ | apply Drawn0.step)⟩
         · rw [if_neg c6] at H
           exact absurd H (by simp)
       · rw [if_neg c5] at H
         exact absurd H (by simp)
     · rw [if_neg c4] at H
       have c4b0 : decide (x15_1 < a1) = false := decide_eq_false c4
       clear c4
       simp only [Option.some.injEq, Prod.mk.injEq] at H
       obtain ⟨rfl, rfl⟩ := H
       go_wp2
       go_ret2
       exact ⟨by first | rfl | (simp; done) | (simp [*]; done), by repeat (first | exact Drawn0.refl _ | apply Drawn0.step)⟩

def utf8_ValidRune.j0 : Nat → Int → Bool → Option (Bool)
 | 0, _, _ => none
 | k + 1, x0, x3 => if x3 = true then (some true) else (if 57343 < x0 then (if x0 ≤ 1114111 then (some true) else (some false)) else (some false))
def utf8_ValidRune.f (k : Nat) (a0 : Int) : Option (Bool) := if 0 ≤ a0 then (utf8_ValidRune.j0 k a0 (decide (a0 < 55296))) else (utf8_ValidRune.j0 k a0 false)
theorem utf8_ValidRune.mono_l : ∀ k, (∀ y0 y1, LeO (utf8_ValidRune.j0 k y0 y1) (utf8_ValidRune.j0 (k + 1) y0 y1))
 | 0 => fun _ _ r h => by simp [utf8_ValidRune.j0] at h
 | k + 1 => by
  have ih0 := utf8_ValidRune.mono_l k
  · intro y0 y1
    unfold utf8_ValidRune.j0
    repeat' first
    | (with_reducible exact ih0 _ _)
    | (with_reducible exact LeO.refl _)
    | (with_reducible exact LeO.none _)
    | (with_reducible refine LeO.ite ?_ ?_)
    | (with_reducible refine LeO.bind ?_ (fun _ => ?_))
    | exact ih0 _ _
    | exact LeO.none _
    | refine LeO.ite ?_ ?_
    | refine LeO.bind ?_ (fun _ => ?_)
theorem utf8_ValidRune.mono : ∀ a0 k, LeO (utf8_ValidRune.f k a0) (utf8_ValidRune.f (k + 1) a0) := by
 intro a0 k
 have ih0 := utf8_ValidRune.mono_l k
 unfold utf8_ValidRune.f
 repeat' first
  | (with_reducible exact ih0 _ _)
  | (with_reducible exact LeO.refl _)
  | (with_reducible exact LeO.none _)
  | (with_reducible refine LeO.ite ?_ ?_)
  | (with_reducible refine LeO.bind ?_ (fun _ => ?_))
  | exact ih0 _ _
  | exact LeO.none _
  | refine LeO.ite ?_ ?_
  | refine LeO.bind ?_ (fun _ => ?_)
set_option maxHeartbeats 8000000 in
set_option maxRecDepth 100000 in
theorem utf8_ValidRune.calls (k : Nat) (a0 : Int) (r : Bool) (w : World) (h : utf8_ValidRune.f k a0 = some r) :
 Calls Tryd.prog 53 #[.int .i32 a0] w fun e w' => e = .returned (.bool r) ∧ Drawn0 w w' := by
 have H : (if 0 ≤ a0 then (utf8_ValidRune.j0 k a0 (decide (a0 < 55296))) else (utf8_ValidRune.j0 k a0 false)) = some r := h
 clear h
 have HC2 := Aside0.mk H
 clear H
 go_enter Tryd.func53, Tryd.ntmps53
 go_upto_region 1 with (fail)
 go_cut [3] (fun v3 wc => ∃ (kq : Nat) (x3_1 : Bool), v3 = .bool x3_1 ∧ Aside0 (utf8_ValidRune.j0 kq a0 x3_1 = some r) ∧ Aside0 (kq ≤ k) ∧ Drawn0 w wc)
 case first =>
  have H := HC2.out
  clear HC2
  by_cases c3 : 0 ≤ a0
  · rw [if_pos c3] at H
    have c3b0 : decide (0 ≤ a0) = true := decide_eq_true c3
    clear c3
    (first | rw [c3b0] | (simp only [i64_w, i32_w]; rw [c3b0]) | skip)
    have H' := Aside0.mk H
    clear H
    go_wp2
    go_meet
    case rel => exact ⟨_, (decide (a0 < 55296)), (by first | rfl | (simp; done) | (simp [*]; done)), H', ⟨by first | omega | exact Nat.le_refl _⟩, by repeat (first | exact Drawn0.refl _ | apply Drawn0.step)⟩
  · rw [if_neg c3] at H
    have c3b0 : decide (0 ≤ a0) = false := decide_eq_false c3
    clear c3
    (first | rw [c3b0] | (simp only [i64_w, i32_w]; rw [c3b0]) | skip)
    have H' := Aside0.mk H
    clear H
    go_wp2
    go_meet
    case rel => exact ⟨_, (false), (by first | rfl | (simp; done) | (simp [*]; done)), H', ⟨by first | omega | exact Nat.le_refl _⟩, by repeat (first | exact Drawn0.refl _ | apply Drawn0.step)⟩
 case rest =>
  clear HC2
  try clear p2
  try clear c3
  try clear c3b0
  obtain ⟨kq, x3_1, rfl, HA, HJ1, ⟨mc1, rfl⟩⟩ := hcut
  cases kq with
  | zero => exact absurd HA.out (by simp [utf8_ValidRune.j0])
  | succ kj1 =>
   have H := HA.out
   clear HA
   simp only [utf8_ValidRune.j0] at H
   by_cases c4 : x3_1 = true
   · subst c4
     have H1 : (some true) = some r := by rw [if_pos rfl] at H; exact H
     clear H
     have H := H1
     clear H1
     obtain rfl := Option.some.inj H
     go_wp2
     go_ret
     exact ⟨by first | rfl | (simp; done) | (simp [*]; done), by repeat (first | exact Drawn0.refl _ | apply Drawn0.step)⟩
   · replace c4 := Bool.eq_false_iff.mpr c4
     subst c4
     have H1 : (if 57343 < a0 then (if a0 ≤ 1114111 then (some true) else (some false)) else (some false)) = some r := by rw [if_neg (show ¬ (false = true) by decide)] at H; exact H
     clear H
     have H := H1
     clear H1
     by_cases c5 : 57343 < a0
     · rw [if_pos c5] at H
       have c5b0 : decide (57343 < a0) = true := decide_eq_true c5
       clear c5
       by_cases c6 : a0 ≤ 1114111
       · rw [if_pos c6] at H
         have c6b0 : decide (a0 ≤ 1114111) = true := decide_eq_true c6
         clear c6
         obtain rfl := Option.some.inj H
         go_wp2
         go_ret
         exact ⟨by first | rfl | (simp; done) | (simp [*]; done), by repeat (first | exact Drawn0.refl _ | apply Drawn0.step)⟩
       · rw [if_neg c6] at H
         have c6b0 : decide (a0 ≤ 1114111) = false := decide_eq_false c6
         clear c6
         obtain rfl := Option.some.inj H
         go_wp2
         go_ret
         exact ⟨by first | rfl | (simp; done) | (simp [*]; done), by repeat (first | exact Drawn0.refl _ | apply Drawn0.step)⟩
     · rw [if_neg c5] at H
       have c5b0 : decide (57343 < a0) = false := decide_eq_false c5
       clear c5
       obtain rfl := Option.some.inj H
       go_wp2
       go_ret
       exact ⟨by first | rfl | (simp; done) | (simp [*]; done), by repeat (first | exact Drawn0.refl _ | apply Drawn0.step)⟩

end Go.Proofs.YtigikjihagmokaaDoor.F
