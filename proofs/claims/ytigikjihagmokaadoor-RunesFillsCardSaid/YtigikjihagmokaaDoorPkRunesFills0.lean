/- Part 1 of 1 of the proof of the law RunesFills: it is true at every input. Conditions: those of the given row, no others. -/
import Derived.Test.YtigikjihagmokaaDoorWMore
import Derived.WalkKit
import Derived.Laws.IdiomStrings
import Derived.Laws.BytesArg
import Derived.Lib.Hide
import Derived.Test.YtigikjihagmokaaDoorWLast
import Derived.Test.YtigikjihagmokaaDoorWWords
import Derived.Shelf.Strings.Builder1
import Derived.Shelf.Small.Utf8
import Derived.Shelf.Small.Strs
import Derived.Shelf.Strings.BuilderF
import Derived.Shelf.Strings.BuilderK
import Derived.Shelf.Strings.BuilderRune
import Derived.Shelf.Strconv.Itoa0
import Derived.Shelf.Strconv.Itoa1
import Derived.Shelf.LaysM
import Derived.Shelf.Strconv.Itoa2
import Derived.Shelf.Strconv.Itoa3
import Derived.Shelf.Strings.Search1
import Derived.Shelf.Unicode.Decode
import Derived.Shelf.Unicode.DecodeSlow
import Derived.Shelf.Unicode.DecodeAny
import Derived.Shelf.Strings.BuilderCap
import Derived.Test.YtigikjihagmokaaDoorProg
import Derived.BigCall
import Derived.Lib.OthersKept
import Derived.Lib.FrozenHead2
import Derived.Below
import Derived.Deep.Draws
import Derived.Deep.AppendLies
import Derived.Maps.AppendAt
import Derived.OwnWalk
import Derived.Laws.MakeOwn
import Derived.Laws.OwnMore
import Derived.Deep.OwnRows
import Derived.Tactics
import Derived.Lib.ConvBytes
import Derived.Laws.Slices
import Derived.KernelRfl
import Derived.RowKit3
import Derived.Deep.LoopGhost
import Derived.Deep.QuietTactic
import Derived.BigQuiet
import Derived.WideLaws
import Derived.Deep.DeepCutAuto
import Derived.Deep.CutBlock
import Derived.Deep.RegionHeld3
import Derived.Laws.Rows
import Derived.Lib.AppendStr
import Derived.ArgAppend
import Derived.Laws.IdiomCopy
import Derived.OrdersHeld
import Derived.Laws.BitsLemmas
import Derived.RowKit
import Derived.Laws.StructEq
import Derived.Test.YtigikjihagmokaaDoorWRepsOne
import Derived.Test.YtigikjihagmokaaDoorWGuard
import Derived.SliceStrings
import Derived.SizedLaws
import Derived.Test.YtigikjihagmokaaDoorCards
import Derived.Test.YtigikjihagmokaaDoorTie
import Derived.ProofKit
import Derived.OpenShut
import Derived.ShutString
import Derived.ChangeOld
import Derived.Carry
import Derived.Lib.SmallJoins
import Derived.PinnedBridge
import Derived.Lay
import Derived.LaidOnce
import Derived.SevenTiedAt
set_option linter.unusedVariables false
namespace Go.Proofs.YtigikjihagmokaaDoor.Aid
open Go.RowKit Go.Proofs.YtigikjihagmokaaDoorW.PrintWords Go.Proofs.YtigikjihagmokaaDoorW.PrintMore

/-- The block B is one of bytes, made since base; its first bytes are l, and may be written. -/
def Bts (w : World) (base B e : Nat) (l : List Int) : Prop :=
  base ≤ B ∧ ∃ cur fz, w.heap[B]? = some (.cells cur e fz) ∧ l.length ≤ fz.1 ∧ l.length ≤ cur.size ∧ ∀ j, j < l.length → cur[j]? = some (.int .u8 (l.getD j 0))

theorem Bts.lt {w : World} {base B e : Nat} {l : List Int} (h : Bts w base B e l) : B < w.heap.size := by
  obtain ⟨_, cur, fz, hb, _⟩ := h
  exact (Array.getElem?_eq_some_iff.1 hb).1
theorem Bts.cell {w : World} {base B e : Nat} {l : List Int} (h : Bts w base B e l) (j : Nat) (hj : j < l.length) : w.cell? ⟨B, j, none⟩ = some (.int .u8 (l.getD j 0)) := by
  obtain ⟨_, cur, fz, hb, _, _, hc⟩ := h
  unfold World.cell?
  rw [hb]
  simpa using hc j hj
theorem Bts.free {w : World} {base B e : Nat} {l : List Int} (h : Bts w base B e l) (j : Nat) (hj : j < l.length) : w.frozen? ⟨B, j, none⟩ = false := by
  obtain ⟨_, cur, fz, hb, hf, _, hc⟩ := h
  unfold World.frozen?
  rw [hb]
  obtain ⟨lo, hi⟩ := fz
  simp only at hf ⊢
  have : ¬ lo ≤ j := by omega
  simp [this]
theorem Bts.set {w : World} {base B e : Nat} {l : List Int} (h : Bts w base B e l) (j : Nat) (v : Int) : Bts (w.setCell ⟨B, j, none⟩ (.int .u8 v)) base B e (l.set j v) := by
  obtain ⟨h0, cur, fz, hb, hf, hs, hc⟩ := h
  have hlt := (Array.getElem?_eq_some_iff.1 hb).1
  have he := (Array.getElem?_eq_some_iff.1 hb).2
  refine ⟨h0, cur.setIfInBounds j (.int .u8 v), fz, ?_, by simpa using hf, by simpa using hs, ?_⟩
  · unfold World.setCell
    simp only [Array.getElem?_modify]
    simp [hb]
  · intro i hi
    simp only [List.length_set] at hi
    rw [Array.getElem?_setIfInBounds]
    by_cases e1 : j = i
    · subst e1
      simp [show j < cur.size by omega, List.getD_eq_getElem?_getD, hi]
    · simp only [if_neg e1]
      rw [hc i hi]
      simp [List.getD_eq_getElem?_getD, e1]
theorem Bts.drew {w : World} {base B e : Nat} {l : List Int} (h : Bts w base B e l) : Bts w.drew base B e l := h
theorem Bts.below {w w1 : World} {base B e : Nat} {l : List Int} (h : Bts w base B e l) (hb : Below w.heap.size w w1) : Bts w1 base B e l := by
  have hl := h.lt
  obtain ⟨h0, cur, fz, hh, r⟩ := h
  exact ⟨h0, cur, fz, (hb.block B hl).trans hh, r⟩

/-- A text's bytes as numbers. -/
def nums8 (s : ByteArray) : List Int := s.data.toList.map fun c => (c.toNat : Int)
theorem nums8_length (s : ByteArray) : (nums8 s).length = s.size := by simp [nums8]
theorem strOf_nums8 (s : ByteArray) : strOfNums (nums8 s) = s := by
  obtain ⟨⟨l⟩⟩ := s
  simp [strOfNums, nums8, Function.comp_def]

/-- What '[]byte(s)' makes. -/
theorem Bts.made (w : World) (e : Nat) (s : ByteArray) (cap : Nat) : Bts (w.drew.alloc (.cells (bytesRow s cap) e ((bytesRow s cap).size, (bytesRow s cap).size + 1))) w.heap.size w.heap.size e (nums8 s) := by
  refine ⟨Nat.le_refl _, bytesRow s cap, _, heap_alloc_new w.drew _, ?_, ?_, ?_⟩
  · rw [nums8_length]; simp [bytesRow]
  · rw [nums8_length]; simp [bytesRow]
  · intro j hj
    have hj' : j < s.data.toList.length := by simpa [nums8] using hj
    have hj2 : j < s.data.size := by simpa using hj'
    unfold bytesRow
    rw [Array.getElem?_append_left (by simpa using hj2)]
    simp [nums8, List.getD_eq_getElem?_getD, Array.getElem?_eq_getElem hj2]
theorem bne_nil (l : List UInt8) : (!l.isEmpty) = (l != []) := by cases l <;> rfl
theorem eq_nil (l : List UInt8) : l.isEmpty = (l == []) := by cases l <;> rfl
theorem empty_of {l : List UInt8} {b : Bool} (h : (l == []) = b) : l.isEmpty = b := (eq_nil l).trans h
theorem R_set_drew {α : Type} {d : Kd α} {e base n : Nat} {w : World} {a : Addr} {v u : Value} {ok : Nat → Prop} {xs : List α} (h : d.R e (w.setCell a v) base ok u xs) : d.R e ((w.drewN n).setCell a v) base ok u xs := Kd.R_drewN h n
theorem V_nil' {k : IntKind} {e base : Nat} {w : World} {ok : Nat → Prop} {v : Value} (h : v = .slice none 0 0) : Kd.V (Kd.int k) e w base ok v [] := h ▸ Kd.V_nil _ _ _ _ _
theorem R_nil' {k : IntKind} {e base : Nat} {w : World} {ok : Nat → Prop} {v : Value} (h : v = .slice none 0 0) : Kd.R (Kd.int k) e w base ok v [] := h ▸ Kd.R_nil _ _ _ _ _
/-- A text of one byte. -/
theorem one_byte (s : ByteArray) (h : s.size = 1) : ∃ c : UInt8, s = ⟨#[c]⟩ ∧ bt s 0 = (c.toNat : Int) := by
  obtain ⟨⟨l⟩⟩ := s
  obtain ⟨c, rfl⟩ := List.length_eq_one_iff.1 h
  exact ⟨c, rfl, rfl⟩
end Go.Proofs.YtigikjihagmokaaDoor.Aid
set_option linter.unusedVariables false
namespace Go.Proofs.YtigikjihagmokaaDoor.Q
open Go.RowKit Go.Proofs.YtigikjihagmokaaDoorW.PrintWords Go.Proofs.YtigikjihagmokaaDoorW.PrintLast Go.Proofs.YtigikjihagmokaaDoorW.PrintMore
theorem ql {p : Prop} (h : p := by (try simp only [List.map_toArray, List.map_cons, List.map_nil]); first | done | rfl | (simp only [List.length_drop, List.length_take]; rfl)) : p := h
theorem qh {b : Nat} {w w1 w2 : World} (B : Aside0 (Below b w w1)) (h : Below b w w1 → Below b w w2 := by intro h_; repeat (first | (with_reducible first | exact h_ | apply below_alloc | apply pw_below_drewN | apply below_drew1 | refine below_set ?_ (Aside0.out (by with_reducible assumption))) | exact h_)) : Below b w w2 := h B.out
theorem qn {w w1 w2 w3 : World} (B : Aside0 (Below w.heap.size w w1)) (hb : Below w2.heap.size w2 w3) (h : Below w.heap.size w w1 → Below w.heap.size w w2 := by intro h_; repeat (first | (with_reducible first | exact h_ | apply below_alloc | apply pw_below_drewN | apply below_drew1 | refine below_set ?_ (Aside0.out (by with_reducible assumption))) | exact h_)) : Aside0 (Below w.heap.size w w3) := ⟨below_step (h B.out) hb⟩
theorem qe {p : Prop} (h : p := by first | rfl | (exact congrArg (fun b => Ending.returned (.bool b)) (Aid.bne_nil _)) | (exact congrArg (fun b => Ending.returned (.bool b)) (Aid.eq_nil _)) | (simp [errW_none, errW_some] <;> rfl) | (simp [*, errW_none, errW_some] <;> rfl)) : p := h
theorem qa {p : Prop} (h : p := by first | (with_reducible assumption) | assumption) : p := h
section
variable {P : Program} {ops : Array Oper} {rest : List Oper} {o : Oper} {a : Act} {Q : Exit → Act → World → Prop} {md : Region.Mode} {S : World → Prop} {ds : List Nat} {T : Bool × List (List Nat × List Nat)} {B : List Nat}
end
end Go.Proofs.YtigikjihagmokaaDoor.Q
namespace Go.Proofs
open Go.Shelf
def Tryd.lays170_ren : Go.Shelf.Ren := ⟨fun | 170 => 37 | n => n, fun | 70 => 40 | 3 => 3 | 0 => 0 | 72 => 43 | 37 => 41 | 5 => 5 | n => n, fun | n => n⟩
theorem Tryd.lays170 : Go.Proofs.Lays.n170 Tryd.prog Tryd.lays170_ren := {
  mixed := by kernel_rfl
  f170 := Tryd.func37.trans (congrArg some (by kernel_rfl))
  t0 := Tryd.underlying0
  a0 := Tryd.isAgg0
  z0 := Tryd.sizeOf0
  v0 := Tryd.zeroValue0
  t3 := Tryd.underlying3
  a3 := Tryd.isAgg3
  z3 := Tryd.sizeOf3
  v3 := Tryd.zeroValue3
  t37 := Tryd.underlying41
  a37 := Tryd.isAgg41
  z37 := Tryd.sizeOf41
  v37 := Tryd.zeroValue41
  t70 := Tryd.underlying40
  a70 := Tryd.isAgg40
  z70 := Tryd.sizeOf40
  v70 := Tryd.zeroValue40
  t72 := Tryd.underlying43
  a72 := Tryd.isAgg43
  z72 := Tryd.sizeOf43
  v72 := Tryd.zeroValue43 }
def Tryd.lays169_ren : Go.Shelf.Ren := ⟨fun | 169 => 39 | n => n, fun | 70 => 40 | 9 => 9 | 0 => 0 | 72 => 43 | 37 => 41 | 127 => 65 | 3 => 3 | 5 => 5 | n => n, fun | n => n⟩
theorem Tryd.lays169 : Go.Proofs.Lays.n169 Tryd.prog Tryd.lays169_ren := {
  mixed := by kernel_rfl
  f169 := Tryd.func39.trans (congrArg some (by kernel_rfl))
  t0 := Tryd.underlying0
  a0 := Tryd.isAgg0
  z0 := Tryd.sizeOf0
  v0 := Tryd.zeroValue0
  t3 := Tryd.underlying3
  a3 := Tryd.isAgg3
  z3 := Tryd.sizeOf3
  v3 := Tryd.zeroValue3
  t9 := Tryd.underlying9
  a9 := Tryd.isAgg9
  z9 := Tryd.sizeOf9
  v9 := Tryd.zeroValue9
  t37 := Tryd.underlying41
  a37 := Tryd.isAgg41
  z37 := Tryd.sizeOf41
  v37 := Tryd.zeroValue41
  t70 := Tryd.underlying40
  a70 := Tryd.isAgg40
  z70 := Tryd.sizeOf40
  v70 := Tryd.zeroValue40
  t72 := Tryd.underlying43
  a72 := Tryd.isAgg43
  z72 := Tryd.sizeOf43
  v72 := Tryd.zeroValue43
  t127 := Tryd.underlying65
  a127 := Tryd.isAgg65
  z127 := Tryd.sizeOf65
  v127 := Tryd.zeroValue65 }
theorem Tryd.Builder_Extra_169 : Builder.Extra Tryd.prog Tryd.lays169_ren := {
  sizeBuilder := by kernel_rfl
  liesBuilder := by kernel_rfl
  t5 := Tryd.underlying5
  a5 := Tryd.isAgg5
  z5 := Tryd.sizeOf5
  v5 := Tryd.zeroValue5
  infoByte := by kernel_rfl
  cellsByte := by kernel_rfl
  sizeByte := by kernel_rfl
  neB5 := by decide }
open Go.RowKit in
theorem Tryd.Builder_Len_f (B b : Nat) (bs : List Value) (w : World) (h : Lib.IsBuilderF 43 5 B b bs w) :
    Calls Tryd.prog 37 #[.pointer (some ⟨b, 0, none⟩)] w fun e w' => e = .returned (.int .i64 bs.length) ∧ w' = w := Any.Builder_Len_f Tryd.lays170 B b bs w h
open Go.RowKit in
theorem Tryd.Builder_String_any_k (B b : Nat) (l : List UInt8) (w : World) (h : Lib.IsBuilderF 43 5 B b (Lib.byteCells l) w) (hBw : B ≤ w.heap.size) :
    Calls Tryd.prog 39 #[.pointer (some ⟨b, 0, none⟩)] w fun e w' => e = .returned (.string ⟨l.toArray⟩) ∧ (Lib.IsBuilderF 43 5 B b (Lib.byteCells l) w' ∧ Below B w w' ∧ Lib.OthersKept 5 (some b) w w') := Any.Builder_String_any_k Tryd.lays169 Tryd.Builder_Extra_169 B b l w h hBw
end Go.Proofs
set_option linter.unusedVariables false
set_option linter.unusedSimpArgs false
namespace Go.Proofs.YtigikjihagmokaaDoor.Bld
open Go.RowKit

set_option maxHeartbeats 1000000 in
set_option maxRecDepth 100000 in
theorem check_fresh (B b : Nat) (bs : List Value) (w : World) (h : Lib.BuilderAtF 43 5 B b (.pointer none) bs w) :
    Calls Tryd.prog 50 #[.pointer (some ⟨b, 0, none⟩)] w fun e w' => e = .returned (.tuple #[]) ∧ w' = w.setCell ⟨b, 0, none⟩ (.pointer (some ⟨b, 0, none⟩)) := by
  have X := Tryd.Builder_Extra_169
  obtain ⟨j, hj, hjs⟩ := Option.map_eq_some_iff.1 X.sizeBuilder
  have h0 := h.cell0
  have hsh := h.shape
  have hfz := h.frozen0
  go_enter Tryd.func50, Tryd.ntmps50
  go_wp2
  rw [Lib.run_to_unsafe w ⟨b, 0, none⟩ Tryd.underlying40 Tryd.underlying72 hj (by rw [hjs]; decide) hsh (Nat.zero_lt_succ 1)]
  simp only [Result.andThen]
  rw [Oper.upon_value]
  go_wp2
  rw [run_callFunc_extern Tryd.func60 (by kernel_rfl) (by kernel_rfl) (by kernel_rfl) (e := Extern.AbiNoEscape.same) (by kernel_rfl)]
  rw [Lib.run_noEscape]
  simp only [Result.andThen]
  rw [Oper.upon_value]
  go_wp2
  rw [Lib.run_from_unsafe w ⟨b, 0, none⟩ Tryd.underlying72 Tryd.underlying40 hj hsh X.liesBuilder]
  simp only [Result.andThen]
  rw [Oper.upon_value]
  go_wp2
  go_end0
  exact ⟨rfl, rfl⟩
set_option maxHeartbeats 1000000 in
set_option maxRecDepth 100000 in
theorem check_used (B b : Nat) (bs : List Value) (w : World) (h : Lib.BuilderAtF 43 5 B b (.pointer (some ⟨b, 0, none⟩)) bs w) :
    Calls Tryd.prog 50 #[.pointer (some ⟨b, 0, none⟩)] w fun e w' => e = .returned (.tuple #[]) ∧ w' = w := by
  obtain ⟨j, hj, _⟩ := Option.map_eq_some_iff.1 (Tryd.Builder_Extra_169).sizeBuilder
  have h0 := h.cell0
  go_enter Tryd.func50, Tryd.ntmps50
  go_wp2
  rw [Lib.run_neq_ptr_same w _ Tryd.underlying40 hj]
  go_wp2
  go_end0
  exact ⟨rfl, rfl⟩
theorem check (B b : Nat) (bs : List Value) (w : World) (h : Lib.IsBuilderF 43 5 B b bs w) :
    Calls Tryd.prog 50 #[.pointer (some ⟨b, 0, none⟩)] w fun e w' => e = .returned (.tuple #[]) ∧ (Lib.BuilderAtF 43 5 B b (.pointer (some ⟨b, 0, none⟩)) bs w' ∧ Below B w w' ∧ Lib.OthersKept 5 (some b) w w') := by
  rcases h with h | h
  · refine (check_fresh B b bs w h).mono ?_
    rintro e w' ⟨rfl, rfl⟩
    exact ⟨rfl, h.used _, (Below.refl B w).setCell (p := ⟨b, 0, none⟩) h.1 _, (Lib.OthersKept.refl _ _ w).setCell ⟨b, 0, none⟩ rfl _⟩
  · refine (check_used B b bs w h).mono ?_
    rintro e w' ⟨rfl, rfl⟩
    exact ⟨rfl, h, Below.refl B _, Lib.OthersKept.refl _ _ _⟩

set_option maxHeartbeats 2000000 in
set_option maxRecDepth 100000 in
theorem writeString (B b : Nat) (bs : List Value) (s : ByteArray) (w : World) (h : Lib.IsBuilderF 43 5 B b bs w) (hlen : bs.length + s.size ≤ 140737488355328) (hBw : B ≤ w.heap.size) :
    Calls Tryd.prog 38 #[.pointer (some ⟨b, 0, none⟩), .string s] w fun e w' => e = .returned (.tuple #[.int .i64 s.size, .nilIface]) ∧ (Lib.BuilderAtF 43 5 B b (.pointer (some ⟨b, 0, none⟩)) (bs ++ Lib.strCells s) w' ∧ Below B w w' ∧ Lib.OthersKept 5 (some b) w w') := by
  have X := Tryd.Builder_Extra_169
  obtain ⟨i0, hi, hz0, hz1, hz2⟩ := info_parts X.infoByte
  go_enter Tryd.func38, Tryd.ntmps38
  go_wp2_with (go_at_call 50; refine (check B b bs _ h).mono ?_)
  rintro e w1 ⟨rfl, h1, hb1, hk1⟩
  obtain ⟨hB, v, hbk, hown, hne⟩ := h1
  have c0 : w1.cell? ⟨b, 0, none⟩ = some (.pointer (some ⟨b, 0, none⟩)) := by rw [Lib.cell_of_heap hbk]; rfl
  have c1 : w1.cell? ⟨b, 1, none⟩ = some v := by rw [Lib.cell_of_heap hbk]; rfl
  go_wp2_with (at_builtin; refine Lib.wpList_append_own_stringF _ rfl _ _ 41 9 rfl B 5 i0 Tryd.underlying41 Tryd.underlying9 hi hz0 hz1 hz2 _ _ _ rfl hown s rfl ?c3 ?c4 ?c5 ?_)
  case c3 => unfold maxLen; omega
  case c4 => omega
  case c5 => have := hb1.size; omega
  intro v' w2 hown' hgrow _
  have hlt : b < w1.heap.size := by
    rcases Nat.lt_or_ge b w1.heap.size with h' | h'
    · exact h'
    · simp [Array.getElem?_eq_none h'] at hbk
  have hb2 : w2.heap[b]? = some (.cells #[.pointer (some ⟨b, 0, none⟩), v] 43 (0, 0)) := by
    rw [hgrow.block b hlt (fun e => hne e.symm)]
    exact hbk
  have d0 : w2.cell? ⟨b, 0, none⟩ = some (.pointer (some ⟨b, 0, none⟩)) := by rw [Lib.cell_of_heap hb2]; rfl
  have d1 : w2.cell? ⟨b, 1, none⟩ = some v := by rw [Lib.cell_of_heap hb2]; rfl
  have f1 : w2.frozen? ⟨b, 1, none⟩ = false := Lib.frozen_of_heap hb2 1
  obtain ⟨ao, n', cap, rfl⟩ : ∃ ao n' cap, v' = .slice ao n' cap := by
    rcases hown'.2 with ⟨hv, _⟩ | ⟨g, cap, cur, fz, hv, _⟩
    · exact ⟨_, _, _, hv⟩
    · exact ⟨_, _, _, hv⟩
  go_wp2
  go_ret2
  refine ⟨rfl, ?_, ?_, (hk1.grown hgrow (Lib.ownsRowF_kind hown)).setCell ⟨b, 1, none⟩ rfl _⟩
  · exact Lib.BuilderAtF.put (T := 43) (e := 5) hB hb2 (bs' := bs ++ Lib.strCells s) (by simpa [Lib.strCells_length] using hown') (by decide)
  · exact (hb1.grown hgrow (by have := hb1.size; omega) (fun k hk => (hown.lt k hk).1)).setCell (p := ⟨b, 1, none⟩) hB _
end Go.Proofs.YtigikjihagmokaaDoor.Bld
namespace Go.Proofs.YtigikjihagmokaaDoor.Fill
open Go.RowKit Go.Proofs.YtigikjihagmokaaDoorW.PrintWords Go.Proofs.YtigikjihagmokaaDoorW.PrintLast Go.Proofs.YtigikjihagmokaaDoorW.PrintMore Go.Proofs.YtigikjihagmokaaDoor.Aid
set_option linter.unusedVariables false
set_option linter.unusedSimpArgs false
/-- What stands at a place: none: no piece; a piece, and the place behind it. -/
def piece (s : ByteArray) (l : List ByteArray) (x : Int) : Option (ByteArray × Int) :=
  if (s.extract x.toNat (x + 1).toNat).toList = ([123] : List UInt8) then
    if (s.size : Int) < x + 3 then none
    else if bt s (x + 2) ≠ 125 then none
    else if bt s (x + 1) < 48 then none
    else if 57 < bt s (x + 1) then none
    else if (l.length : Int) ≤ bt s (x + 1) - 48 then none
    else some (rdOf ByteArray.empty l (bt s (x + 1) - 48), x + 3)
  else some (s.extract x.toNat (x + 1).toNat, x + 1)
def go (s : ByteArray) (l : List ByteArray) : Nat → Int → List UInt8 → ByteArray × Int
  | 0, _, _ => (⟨#[]⟩, 11)
  | k + 1, x, acc => if x < (s.size : Int) then (match piece s l x with
      | none => (⟨#[]⟩, 11)
      | some (p, y) => if 1048576 - (acc.length : Int) < (p.size : Int) then (⟨#[]⟩, 2) else go s l k y (acc ++ p.data.toList)) else (⟨acc.toArray⟩, 0)
def f (s : ByteArray) (l : List ByteArray) : ByteArray × Int := if (s.size : Int) > 65536 then (⟨#[]⟩, 2) else go s l (s.size + 1) 0 []

theorem bytes_cells (s : ByteArray) : Lib.byteCells s.data.toList = Lib.strCells s := by
  simp [Lib.byteCells, Lib.strCells]
theorem w64' {x : Int} (h0 : -9223372036854775808 ≤ x) (h1 : x ≤ 9223372036854775807) : wrap64 x = x := by unfold wrap64; omega
set_option maxHeartbeats 4000000 in
set_option maxRecDepth 100000 in
theorem calls (a0 : ByteArray) (A1 : Option Addr) (c1 : Nat) (l1 : List ByteArray) (w : World) (hr1 : Kd.C Kd.string w A1 l1.length l1) (hc1 : l1.length ≤ c1) :
    Calls Tryd.prog 19 #[.string a0, .slice A1 l1.length c1] w fun e w' => e = .returned (.tuple #[.string (f a0 l1).1, .int .i64 (f a0 l1).2]) ∧ Below w.heap.size w w' := by
  have HR1 := Aside0.mk hr1
  have HC1 := Aside0.mk hc1
  clear hr1 hc1
  go_enter Tryd.func19, Tryd.ntmps19
  by_cases c : (a0.size : Int) > 65536
  · have cb : decide (65536 < (a0.size : Int)) = true := decide_eq_true c
    have e : f a0 l1 = (⟨#[]⟩, 2) := by unfold f; rw [if_pos c]
    clear c
    rw [e]
    go_wp2
    go_ret2
    exact ⟨rfl, Below.refl _ _⟩
  · have cb : decide (65536 < (a0.size : Int)) = false := decide_eq_false c
    have e : f a0 l1 = go a0 l1 (a0.size + 1) 0 [] := by unfold f; rw [if_neg c]
    have hsz : a0.size ≤ 65536 := by omega
    clear c
    go_wp2
    go_loopw [7] (fun i wr => ∃ (x : Int) (fuel : Nat) (acc : List UInt8), i = .int .i64 x ∧ Aside0 (Lib.IsBuilderF 43 5 w.heap.size w.heap.size (Lib.byteCells acc) wr) ∧ Aside0 (Below w.heap.size w wr) ∧ Aside0 (go a0 l1 fuel x acc = f a0 l1) ∧ Aside0 ((a0.size : Int) + 1 ≤ x + fuel) ∧ Aside0 (0 ≤ x ∧ x ≤ a0.size) ∧ Aside0 (acc.length ≤ 1048576)) (fun i _ => a0.size - (intOf i).toNat)
    case atStart =>
      refine ⟨0, a0.size + 1, [], rfl, ⟨?_⟩, ⟨?_⟩, ⟨e.symm⟩, ⟨by omega⟩, ⟨by omega⟩, ⟨by simp⟩⟩
      · have h1 := Lib.IsBuilderF.of (Lib.fresh_isBuilder 43 5 w)
        exact h1
      · exact (Below.refl _ w).alloc (Nat.le_refl _) _
    case round =>
      obtain ⟨x, fuel, acc, rfl, HI, HB, HG, HF, HJ, HL⟩ := hrel
      clear e
      by_cases hx : x < (a0.size : Int)
      · have b0 : decide (x < (a0.size : Int)) = true := decide_eq_true hx
        have HX := Aside0.mk hx
        obtain ⟨x1, hx1⟩ : ∃ x1 : Int, x + 1 = x1 := ⟨_, rfl⟩
        obtain ⟨x2, hx2⟩ : ∃ x2 : Int, x + 2 = x2 := ⟨_, rfl⟩
        obtain ⟨x3, hx3⟩ : ∃ x3 : Int, x + 3 = x3 := ⟨_, rfl⟩
        have HX1 : Aside0 (x1 = x + 1 ∧ x3 = x + 3 ∧ x < (a0.size : Int)) := ⟨hx1.symm, hx3.symm, hx⟩
        have hj := HJ.out
        have W1 : Aside0 (IntKind.i64.wrap (x + 1) = x1) := ⟨by rw [i64_w, w64' (by omega) (by omega)]; exact hx1⟩
        have W2 : Aside0 (IntKind.i64.wrap (x + 2) = x2) := ⟨by rw [i64_w, w64' (by omega) (by omega)]; exact hx2⟩
        have W3 : Aside0 (IntKind.i64.wrap (x + 3) = x3) := ⟨by rw [i64_w, w64' (by omega) (by omega)]; exact hx3⟩
        have W4 : Aside0 (IntKind.i64.wrap (x2 + 1) = x3) := ⟨by rw [i64_w, w64' (by omega) (by omega)]; omega⟩
        have c0 := eq_true hj.1
        have c1' : (x ≤ x1) = True := eq_true (by omega)
        have c2' : (x1 ≤ (a0.size : Int)) = True := eq_true (by omega)
        have d0 : decide (0 ≤ x) = true := decide_eq_true hj.1
        have d1 : decide (x ≤ x1) = true := decide_eq_true (by omega)
        have d2 : decide (x1 ≤ (a0.size : Int)) = true := decide_eq_true (by omega)
        by_cases h1 : (a0.extract x.toNat x1.toNat).toList = ([123] : List UInt8)
        · have e1 : ((a0.extract x.toNat x1.toNat).toList == ([123] : List UInt8)) = true := beq_iff_eq.mpr h1
          by_cases h2 : (a0.size : Int) < x3
          · have e2 : decide ((a0.size : Int) < x3) = true := decide_eq_true h2
            have HPc : Aside0 (piece a0 l1 x = none) := ⟨by unfold piece; rw [hx1, if_pos h1, hx3, if_pos h2]⟩
            clear h2
            have HR : Aside0 (f a0 l1 = (⟨#[]⟩, 11)) := ⟨by
              rw [← HG.out]
              obtain ⟨k, rfl⟩ : ∃ k, fuel = k + 1 := ⟨fuel - 1, by have := HF.out; have := HJ.out; omega⟩
              simp only [go]; rw [if_pos HX.out, HPc.out]⟩
            clear h1 hx hj hx1 hx2 hx3
            have w1 := W1.out; have w2 := W2.out; have w3 := W3.out; have w4 := W4.out
            go_wp2
            go_ret2
            exact ⟨by rw [HR.out]; rfl, HB.out⟩
          · have e2 : decide ((a0.size : Int) < x3) = false := decide_eq_false h2
            have p2 : (0 ≤ x2) = True := eq_true (by omega)
            have q2 : (x2 < (a0.size : Int)) = True := eq_true (by omega)
            have p1 : (0 ≤ x1) = True := eq_true (by omega)
            have q1 : (x1 < (a0.size : Int)) = True := eq_true (by omega)
            have b2 := bt_at a0 x2
            have b1 := bt_at a0 x1
            have r1 := bt_range a0 x1
            by_cases h3 : bt a0 x2 ≠ 125
            · have e3 : (bt a0 x2 != 125) = true := bne_iff_ne.mpr h3
              have HPc : Aside0 (piece a0 l1 x = none) := ⟨by unfold piece; rw [hx1, if_pos h1, hx3, if_neg h2, hx2, if_pos h3]⟩
              clear h2 h3
              have HR : Aside0 (f a0 l1 = (⟨#[]⟩, 11)) := ⟨by
                rw [← HG.out]
                obtain ⟨k, rfl⟩ : ∃ k, fuel = k + 1 := ⟨fuel - 1, by have := HF.out; have := HJ.out; omega⟩
                simp only [go]; rw [if_pos HX.out, HPc.out]⟩
              clear h1 hx hj hx1 hx2 hx3
              have w1 := W1.out; have w2 := W2.out; have w3 := W3.out; have w4 := W4.out
              go_wp2
              go_ret2
              exact ⟨by rw [HR.out]; rfl, HB.out⟩
            · have e3 : (bt a0 x2 != 125) = false := bne_eq_false_iff_eq.mpr (Classical.not_not.1 h3)
              by_cases h4 : bt a0 x1 < 48
              · have e4 : decide (bt a0 x1 < 48) = true := decide_eq_true h4
                have HPc : Aside0 (piece a0 l1 x = none) := ⟨by unfold piece; rw [hx1, if_pos h1, hx3, if_neg h2, hx2, if_neg h3, if_pos h4]⟩
                clear h2 h3 h4 r1
                have HR : Aside0 (f a0 l1 = (⟨#[]⟩, 11)) := ⟨by
                  rw [← HG.out]
                  obtain ⟨k, rfl⟩ : ∃ k, fuel = k + 1 := ⟨fuel - 1, by have := HF.out; have := HJ.out; omega⟩
                  simp only [go]; rw [if_pos HX.out, HPc.out]⟩
                clear h1 hx hj hx1 hx2 hx3
                have w1 := W1.out; have w2 := W2.out; have w3 := W3.out; have w4 := W4.out
                go_wp2
                go_ret2
                exact ⟨by rw [HR.out]; rfl, HB.out⟩
              · have e4 : decide (bt a0 x1 < 48) = false := decide_eq_false h4
                by_cases h5 : 57 < bt a0 x1
                · have e5 : decide (57 < bt a0 x1) = true := decide_eq_true h5
                  have HPc : Aside0 (piece a0 l1 x = none) := ⟨by unfold piece; rw [hx1, if_pos h1, hx3, if_neg h2, hx2, if_neg h3, if_neg h4, if_pos h5]⟩
                  clear h2 h3 h4 h5 r1
                  have HR : Aside0 (f a0 l1 = (⟨#[]⟩, 11)) := ⟨by
                    rw [← HG.out]
                    obtain ⟨k, rfl⟩ : ∃ k, fuel = k + 1 := ⟨fuel - 1, by have := HF.out; have := HJ.out; omega⟩
                    simp only [go]; rw [if_pos HX.out, HPc.out]⟩
                  clear h1 hx hj hx1 hx2 hx3
                  have w1 := W1.out; have w2 := W2.out; have w3 := W3.out; have w4 := W4.out
                  go_wp2
                  go_ret2
                  exact ⟨by rw [HR.out]; rfl, HB.out⟩
                · have e5 : decide (57 < bt a0 x1) = false := decide_eq_false h5
                  obtain ⟨n, hn⟩ : ∃ n : Int, (bt a0 x1 - 48) % 256 = n := ⟨_, rfl⟩
                  have hn2 : bt a0 x1 - 48 = n := by omega
                  by_cases h6 : (l1.length : Int) ≤ n
                  · have e6 : decide ((l1.length : Int) ≤ n) = true := decide_eq_true h6
                    have HPc : Aside0 (piece a0 l1 x = none) := ⟨by unfold piece; rw [hx1, if_pos h1, hx3, if_neg h2, hx2, if_neg h3, if_neg h4, if_neg h5, hn2, if_pos h6]⟩
                    clear h2 h3 h4 h5 h6 r1 hn2
                    have HR : Aside0 (f a0 l1 = (⟨#[]⟩, 11)) := ⟨by
                      rw [← HG.out]
                      obtain ⟨k, rfl⟩ : ∃ k, fuel = k + 1 := ⟨fuel - 1, by have := HF.out; have := HJ.out; omega⟩
                      simp only [go]; rw [if_pos HX.out, HPc.out]⟩
                    clear h1 hx hj hx1 hx2 hx3
                    have w1 := W1.out; have w2 := W2.out; have w3 := W3.out; have w4 := W4.out
                    go_wp2
                    go_ret2
                    exact ⟨by rw [HR.out]; rfl, HB.out⟩
                  · have e6 : decide ((l1.length : Int) ≤ n) = false := decide_eq_false h6
                    obtain ⟨ad, ead, had⟩ := Kd.at_string HR1.out n (by omega) (by omega)
                    cases ead
                    replace had := (HB.out.cell (World.block_lt_of_cell? w _ had)).trans had
                    have p3 : (0 ≤ n) = True := eq_true (by omega)
                    have q3 : (n < (l1.length : Int)) = True := eq_true (by omega)
                    have HPc : Aside0 (piece a0 l1 x = some (rdOf ByteArray.empty l1 n, x3)) := ⟨by unfold piece; rw [hx1, if_pos h1, hx3, if_neg h2, hx2, if_neg h3, if_neg h4, if_neg h5, hn2, if_neg h6]⟩
                    have HY : Aside0 (x3 ≤ (a0.size : Int)) := ⟨by omega⟩
                    clear h2 h3 h4 h5 h6 r1 hn2
                    obtain ⟨m, Hm⟩ : ∃ m : Int, Aside0 (m = 1048576 - (acc.length : Int)) := ⟨_, ⟨rfl⟩⟩
                    have HM : Aside0 (IntKind.i64.wrap (1048576 - ((Lib.byteCells acc).length : Int)) = m) := ⟨by rw [i64_w, Lib.byteCells_length, w64' (by have := HL.out; omega) (by omega)]; exact Hm.out.symm⟩
                    have hI := HI.out
                    have hsize : w.heap.size ≤ wr.heap.size := HB.out.size
                    clear h1 hx hj hx1 hx2 hx3
                    by_cases h7 : m < ((rdOf ByteArray.empty l1 n).size : Int)
                    · have e7 : decide (m < ((rdOf ByteArray.empty l1 n).size : Int)) = true := decide_eq_true h7
                      have HR : Aside0 (f a0 l1 = (⟨#[]⟩, 2)) := ⟨by
                        rw [← HG.out]
                        obtain ⟨k, rfl⟩ : ∃ k, fuel = k + 1 := ⟨fuel - 1, by have := HF.out; have := HJ.out; omega⟩
                        simp only [go]; rw [if_pos HX.out, HPc.out]; simp only []; rw [if_pos (by have := Hm.out; omega)]⟩
                      clear h7
                      have w1 := W1.out; have w2 := W2.out; have w3 := W3.out; have w4 := W4.out; have hm := HM.out
                      go_wp2_with (go_at_call 37; refine (Tryd.Builder_Len_f w.heap.size w.heap.size _ _ hI).mono ?_)
                      rintro e W1 ⟨rfl, rfl⟩
                      go_wp2
                      go_ret2
                      exact ⟨by rw [HR.out]; rfl, HB.out⟩
                    · have e7 : decide (m < ((rdOf ByteArray.empty l1 n).size : Int)) = false := decide_eq_false h7
                      have HS : Aside0 (acc.length + (rdOf ByteArray.empty l1 n).size ≤ 1048576) := ⟨by have := Hm.out; omega⟩
                      have HSl : Aside0 ((Lib.byteCells acc).length + (rdOf ByteArray.empty l1 n).size ≤ 140737488355328) := ⟨by rw [Lib.byteCells_length]; have := HS.out; omega⟩
                      clear h7
                      have w1 := W1.out; have w2 := W2.out; have w3 := W3.out; have w4 := W4.out; have hm := HM.out
                      go_wp2_with (go_at_call 37; refine (Tryd.Builder_Len_f w.heap.size w.heap.size _ _ hI).mono ?_)
                      rintro e W1 ⟨rfl, rfl⟩
                      go_wp2_with (go_at_call 38; refine (Bld.writeString w.heap.size w.heap.size _ (rdOf ByteArray.empty l1 n) _ hI HSl.out hsize).mono ?_)
                      rintro e W1 ⟨rfl, g1, g2, _⟩
                      go_wp2
                      go_roundw
                      case rel =>
                        clear w1 w2 w3 w4 hm
                        obtain ⟨k, rfl⟩ : ∃ k, fuel = k + 1 := ⟨fuel - 1, by have := HF.out; have := HJ.out; omega⟩
                        refine ⟨x3, k, acc ++ (rdOf ByteArray.empty l1 n).data.toList, rfl, ⟨.inr ?_⟩, ⟨HB.out.trans g2⟩, ⟨?_⟩, ⟨by have := HF.out; have := HX1.out; omega⟩, ⟨by have := HX1.out; have := HJ.out; have := HY.out; omega⟩, ⟨by have := HS.out; simp only [List.length_append, Array.length_toList]; exact this⟩⟩
                        · rw [Lib.byteCells_append, bytes_cells]; exact g1
                        · have := HG.out
                          simp only [go] at this
                          rw [if_pos HX.out, HPc.out] at this
                          simp only [] at this
                          rw [if_neg (by have := HS.out; omega)] at this
                          exact this
                      case measure => clear w1 w2 w3 w4 hm; have := HX1.out; have := HJ.out; simp only [intOf]; omega
        · have e1 : ((a0.extract x.toNat x1.toNat).toList == ([123] : List UInt8)) = false := beq_eq_false_iff_ne.mpr h1
          have HPc : Aside0 (piece a0 l1 x = some (a0.extract x.toNat x1.toNat, x1)) := ⟨by unfold piece; rw [hx1, if_neg h1]⟩
          have HY : Aside0 (x1 ≤ (a0.size : Int)) := ⟨by omega⟩
          have HZ : Aside0 ((a0.extract x.toNat x1.toNat).size = x1.toNat - x.toNat) := ⟨by rw [ByteArray.size_extract]; omega⟩
          obtain ⟨m, Hm⟩ : ∃ m : Int, Aside0 (m = 1048576 - (acc.length : Int)) := ⟨_, ⟨rfl⟩⟩
          have HM : Aside0 (IntKind.i64.wrap (1048576 - ((Lib.byteCells acc).length : Int)) = m) := ⟨by rw [i64_w, Lib.byteCells_length, w64' (by have := HL.out; omega) (by omega)]; exact Hm.out.symm⟩
          have hI := HI.out
          have hsize : w.heap.size ≤ wr.heap.size := HB.out.size
          clear h1 hx hj hx1 hx2 hx3
          by_cases h7 : m < ((a0.extract x.toNat x1.toNat).size : Int)
          · have e7 : decide (m < ((a0.extract x.toNat x1.toNat).size : Int)) = true := decide_eq_true h7
            have e7z : decide (m < ((x1.toNat - x.toNat : Nat) : Int)) = true := by rw [← HZ.out]; exact e7
            have HR : Aside0 (f a0 l1 = (⟨#[]⟩, 2)) := ⟨by
              rw [← HG.out]
              obtain ⟨k, rfl⟩ : ∃ k, fuel = k + 1 := ⟨fuel - 1, by have := HF.out; have := HJ.out; omega⟩
              simp only [go]; rw [if_pos HX.out, HPc.out]; simp only []; rw [if_pos (by have := Hm.out; omega)]⟩
            clear h7
            have w1 := W1.out; have w2 := W2.out; have w3 := W3.out; have w4 := W4.out; have hm := HM.out
            go_wp2_with (go_at_call 37; refine (Tryd.Builder_Len_f w.heap.size w.heap.size _ _ hI).mono ?_)
            rintro e W1 ⟨rfl, rfl⟩
            go_wp2
            go_ret2
            exact ⟨by rw [HR.out]; rfl, HB.out⟩
          · have e7 : decide (m < ((a0.extract x.toNat x1.toNat).size : Int)) = false := decide_eq_false h7
            have e7z : decide (m < ((x1.toNat - x.toNat : Nat) : Int)) = false := by rw [← HZ.out]; exact e7
            have HS : Aside0 (acc.length + (a0.extract x.toNat x1.toNat).size ≤ 1048576) := ⟨by have := Hm.out; omega⟩
            have HSl : Aside0 ((Lib.byteCells acc).length + (a0.extract x.toNat x1.toNat).size ≤ 140737488355328) := ⟨by rw [Lib.byteCells_length]; have := HS.out; omega⟩
            clear h7
            have w1 := W1.out; have w2 := W2.out; have w3 := W3.out; have w4 := W4.out; have hm := HM.out
            go_wp2_with (go_at_call 37; refine (Tryd.Builder_Len_f w.heap.size w.heap.size _ _ hI).mono ?_)
            rintro e W1 ⟨rfl, rfl⟩
            go_wp2_with (go_at_call 38; refine (Bld.writeString w.heap.size w.heap.size _ (a0.extract x.toNat x1.toNat) _ hI HSl.out hsize).mono ?_)
            rintro e W1 ⟨rfl, g1, g2, _⟩
            go_wp2
            go_roundw
            case rel =>
              clear w1 w2 w3 w4 hm
              obtain ⟨k, rfl⟩ : ∃ k, fuel = k + 1 := ⟨fuel - 1, by have := HF.out; have := HJ.out; omega⟩
              refine ⟨x1, k, acc ++ (a0.extract x.toNat x1.toNat).data.toList, rfl, ⟨.inr ?_⟩, ⟨HB.out.trans g2⟩, ⟨?_⟩, ⟨by have := HF.out; have := HX1.out; omega⟩, ⟨by have := HX1.out; have := HJ.out; have := HY.out; omega⟩, ⟨by have := HS.out; simp only [List.length_append, Array.length_toList]; exact this⟩⟩
              · rw [Lib.byteCells_append, bytes_cells]; exact g1
              · have := HG.out
                simp only [go] at this
                rw [if_pos HX.out, HPc.out] at this
                simp only [] at this
                rw [if_neg (by have := HS.out; omega)] at this
                exact this
            case measure => clear w1 w2 w3 w4 hm; have := HX1.out; have := HJ.out; simp only [intOf]; omega
      · have b0 : decide (x < (a0.size : Int)) = false := decide_eq_false hx
        have hr : f a0 l1 = (⟨acc.toArray⟩, 0) := by
          rw [← HG.out]
          cases fuel with
          | zero => have := HF.out; have := HJ.out; omega
          | succ k => simp only [go]; rw [if_neg hx]
        have HR := Aside0.mk hr
        clear hr hx
        have hI := HI.out
        have hsize : w.heap.size ≤ wr.heap.size := HB.out.size
        go_wp2_with (go_at_call 39; refine (Tryd.Builder_String_any_k w.heap.size w.heap.size acc _ hI (by omega)).mono ?_)
        rintro e W1 ⟨rfl, _, b1, _⟩
        go_wp2
        go_ret2
        exact ⟨by rw [HR.out]; rfl, HB.out.trans b1⟩
end Go.Proofs.YtigikjihagmokaaDoor.Fill
namespace Go.Proofs.YtigikjihagmokaaDoor.IdentN
open Go.RowKit Go.Proofs.YtigikjihagmokaaDoorW.PrintWords Go.Proofs.YtigikjihagmokaaDoorW.PrintLast Go.Proofs.YtigikjihagmokaaDoorW.PrintMore
set_option linter.unusedVariables false
set_option linter.unusedSimpArgs false
set_option maxHeartbeats 4000000 in
set_option maxRecDepth 100000 in
theorem space (w : World) : Calls Tryd.prog 12 #[.int .i32 110] w fun e w' => e = .returned (.bool false) ∧ w' = w := by
  go_enter Tryd.func12, Tryd.ntmps12
  go_wp2
  go_ret
  exact ⟨rfl, rfl⟩
set_option maxHeartbeats 4000000 in
set_option maxRecDepth 100000 in
theorem syntax_ (w : World) : Calls Tryd.prog 14 #[.int .i32 110] w fun e w' => e = .returned (.bool false) ∧ w' = w := by
  go_enter Tryd.func14, Tryd.ntmps14
  go_wp2
  go_ret
  exact ⟨rfl, rfl⟩
set_option maxHeartbeats 4000000 in
set_option maxRecDepth 100000 in
theorem stray (s : ByteArray) (i : Int) (w : World) : Calls Tryd.prog 33 #[.string s, .int .i64 i, .int .i32 110] w fun e w' => e = .returned (.bool false) ∧ w' = w := by
  go_enter Tryd.func33, Tryd.ntmps33
  go_wp2
  go_ret
  exact ⟨rfl, rfl⟩
theorem dec (pos : Nat) (h : pos < (⟨#[110]⟩ : ByteArray).size) : pos = 0 ∧ Utf8.decode (⟨#[110]⟩ : ByteArray) pos = (110, 1) := by
  have h0 : pos = 0 := by
    have : (⟨#[110]⟩ : ByteArray).size = 1 := rfl
    omega
  subst h0
  have ha : ((⟨#[110]⟩ : ByteArray)[0]'h).toNat < 128 := by show (110 : Nat) < 128; omega
  exact ⟨rfl, decode_ascii _ 0 h ha⟩
set_option maxHeartbeats 4000000 in
set_option maxRecDepth 100000 in
theorem calls (w : World) : Calls Tryd.prog 17 #[.string ⟨#[110]⟩] w fun e w' => e = .returned (.int .i64 1) ∧ Below w.heap.size w w' := by
  go_enter Tryd.func17, Tryd.ntmps17
  go_wp2
  go_loopw [] (fun wr => ∃ (pos : Nat), wr.heap[w.heap.size]? = some (.stringIter ⟨#[110]⟩ pos) ∧ Below w.heap.size w wr) (fun wr => 1 - wr.iterPos w.heap.size)
  case atStart =>
    refine ⟨0, ?_, (Below.refl _ w).alloc (Nat.le_refl _) _⟩
    have := World.iter_heap w (⟨#[110]⟩ : ByteArray) 0
    simpa using this
  case round =>
    obtain ⟨pos, hit, hbw⟩ := hrel
    have hsz : w.heap.size < wr.heap.size := (Array.getElem?_eq_some_iff.1 hit).1
    by_cases hp : pos < (⟨#[110]⟩ : ByteArray).size
    · obtain ⟨h0, hd⟩ := dec pos hp
      have hnx : ∀ ty, (Instr.next (.pointer (some ⟨w.heap.size, 0, none⟩)) true ty).run Tryd.prog wr = _ := fun ty => Lib.run_next_any_at wr w.heap.size _ pos ty hit hp
      have hit2 := Lib.iterAt_heap wr w.heap.size _ pos (pos + (Utf8.decode (⟨#[110]⟩ : ByteArray) pos).2) hit
      have hbw2 := Lib.below_iterAt hbw (k := w.heap.size) (by omega) (⟨#[110]⟩ : ByteArray) (pos + (Utf8.decode (⟨#[110]⟩ : ByteArray) pos).2)
      rw [hd] at hnx hit2 hbw2
      subst h0
      go_wp2_with (first | (go_at_call 12; refine (space _).mono ?_; rintro e W1 ⟨rfl, rfl⟩) | (go_at_call 14; refine (syntax_ _).mono ?_; rintro e W1 ⟨rfl, rfl⟩) | (go_at_call 33; refine (stray _ _ _).mono ?_; rintro e W1 ⟨rfl, rfl⟩))
      go_roundw
      case rel => exact ⟨_, hit2, hbw2⟩
      case measure => simp only [World.iterPos, hit2, hit]; omega
    · have hnx : ∀ ty, (Instr.next (.pointer (some ⟨w.heap.size, 0, none⟩)) true ty).run Tryd.prog wr = _ := fun ty => Lib.run_next_end_at wr w.heap.size _ pos ty hit hp
      go_wp2
      go_ret
      exact ⟨rfl, hbw⟩
end Go.Proofs.YtigikjihagmokaaDoor.IdentN
namespace Go.Proofs.YtigikjihagmokaaDoor.F
open Go.RowKit Go.Proofs.YtigikjihagmokaaDoorW.PrintWords Go.Proofs.YtigikjihagmokaaDoorW.PrintLast Go.Proofs.YtigikjihagmokaaDoorW.PrintMore
attribute [local go_sem] max2_int min2_int max_two min_two max_three min_three max_four min_four   -- for this text's walks alone
set_option linter.unusedVariables false
set_option linter.unusedSimpArgs false



def errW : Option Int → Value
 | none => .nilIface
 | some c => .iface 0 (.int .i64 c)
theorem errW_none : errW none = .nilIface := rfl
theorem errW_some (c : Int) : errW (some c) = .iface 0 (.int .i64 c) := rfl

theorem info5 : (Tryd.prog.info? 5).map (fun i => (i.zero, i.size, i.bytes)) = some (some (.int .u8 0), 1, 1) := by kernel_rfl
theorem info9 : (Tryd.prog.info? 9).map (fun i => (i.zero, i.size, i.bytes)) = some (some (.string ⟨#[]⟩), 1, 16) := by kernel_rfl
theorem info21 : (Tryd.prog.info? 21).map (fun i => (i.zero, i.size, i.bytes)) = some (some (.int .i32 0), 1, 4) := by kernel_rfl
end Go.Proofs.YtigikjihagmokaaDoor.F
namespace Go.Proofs.YtigikjihagmokaaDoor.F
open Go.RowKit Go.Proofs.YtigikjihagmokaaDoorW.PrintWords Go.Proofs.YtigikjihagmokaaDoorW.PrintLast Go.Proofs.YtigikjihagmokaaDoorW.PrintMore Go.Proofs.YtigikjihagmokaaDoor.Q
attribute [local go_sem] max2_int min2_int max_two min_two max_three min_three max_four min_four   -- for this text's walks alone
set_option linter.unusedVariables false
set_option linter.unusedSimpArgs false

/-- At the one text that 'awake' asks of. -/
def runes_Ident.f (a0 : ByteArray) : Option (Int) := if a0.toList = [110] then some 1 else none
theorem runes_Ident.calls (a0 : ByteArray) (r : Int) (w : World) (h : runes_Ident.f a0 = some r) :
 Calls Tryd.prog 17 #[.string a0] w fun e w' => e = .returned (.int .i64 r) ∧ Below w.heap.size w w' := by
 unfold runes_Ident.f at h
 split at h
 · rename_i ha
   have e : a0 = ⟨#[110]⟩ := by
    obtain ⟨⟨l⟩⟩ := a0
    rw [ByteArray.toList_eq] at ha
    simp at ha
    rw [ha]
   obtain rfl := Option.some.inj h
   subst e
   exact IdentN.calls w
 · cases h

def runes_Fill.f (a0 : ByteArray) (l1 : List ByteArray) : Option (ByteArray × Int) := some (Fill.f a0 l1)
theorem runes_Fill.calls (a0 : ByteArray) (A1 : Option Addr) (c1 : Nat) (l1 : List ByteArray) (r1 : ByteArray) (r2 : Int) (w : World) (hr1 : Kd.C Kd.string w A1 l1.length l1) (hc1 : l1.length ≤ c1) (h : runes_Fill.f a0 l1 = some (r1, r2)) :
 Calls Tryd.prog 19 #[.string a0, .slice A1 l1.length c1] w fun e w' => e = .returned (.tuple #[.string r1, .int .i64 r2]) ∧ Below w.heap.size w w' := by
 have e : Fill.f a0 l1 = (r1, r2) := Option.some.inj h
 have c := Fill.calls a0 A1 c1 l1 w hr1 hc1
 rw [e] at c
 exact c

def idiomlaw01_awake.f  : Option (Bool) := (runes_Fill.f (⟨#[123, 49, 125, 45, 123, 48, 125]⟩ : ByteArray) (([(⟨#[97]⟩ : ByteArray), (⟨#[98]⟩ : ByteArray)] : List ByteArray))).bind fun bt114 => (if bt114.1.toList = ([98, 45, 97] : List UInt8) then (if bt114.2 = 0 then ((runes_Ident.f (⟨#[110]⟩ : ByteArray)).bind fun t116 => (some (t116 == 1))) else (some false)) else (some false))
set_option maxHeartbeats 8000000 in
set_option maxRecDepth 100000 in
theorem idiomlaw01_awake.calls  (r : Bool) (w : World) (h : idiomlaw01_awake.f  = some r) :
 Calls Tryd.prog 16 #[] w fun e w' => e = .returned (.bool r) ∧ Below w.heap.size w w' := by
 have HB := Aside0.mk (Below.refl w.heap.size w)
 have H : ((runes_Fill.f (⟨#[123, 49, 125, 45, 123, 48, 125]⟩ : ByteArray) (([(⟨#[97]⟩ : ByteArray), (⟨#[98]⟩ : ByteArray)] : List ByteArray))).bind fun bt114 => (if bt114.1.toList = ([98, 45, 97] : List UInt8) then (if bt114.2 = 0 then ((runes_Ident.f (⟨#[110]⟩ : ByteArray)).bind fun t116 => (some (t116 == 1))) else (some false)) else (some false))) = some r := h
 clear h
 obtain ⟨y111, hy111⟩ : ∃ y_ : List ByteArray, y_ = (([(⟨#[97]⟩ : ByteArray), (⟨#[98]⟩ : ByteArray)] : List ByteArray)) := ⟨_, rfl⟩
 replace H : ((runes_Fill.f (⟨#[123, 49, 125, 45, 123, 48, 125]⟩ : ByteArray) y111).bind fun bt114 => (if bt114.1.toList = ([98, 45, 97] : List UInt8) then (if bt114.2 = 0 then ((runes_Ident.f (⟨#[110]⟩ : ByteArray)).bind fun t116 => (some (t116 == 1))) else (some false)) else (some false))) = some r := by first | (rw [hy111]; with_reducible exact H) | (have H2_ := (Option.bind_some _ _).symm.trans H; rw [hy111]; with_reducible exact H2_) | (have H2_ := (Option.bind_some _ _).symm.trans H; with_reducible exact H2_) | with_reducible exact H | (rw [hy111]; exact H) | exact H
 have Ny111 := Aside0.mk hy111
 clear hy111
 replace H := Option.bind_eq_some_iff.mp H
 obtain ⟨⟨t114, t115⟩, A10, H⟩ := H
 replace H : (if t114.toList = ([98, 45, 97] : List UInt8) then (if t115 = 0 then ((runes_Ident.f (⟨#[110]⟩ : ByteArray)).bind fun t116 => (some (t116 == 1))) else (some false)) else (some false)) = some r := H
 have A1 := Aside0.mk A10
 clear A10
 by_cases c2 : t114.toList = ([98, 45, 97] : List UInt8)
 · rw [if_pos c2] at H
   have c2b0 : (t114.toList == ([98, 45, 97] : List UInt8)) = true := beq_iff_eq.mpr c2
   have c2b1 : (t114.toList != ([98, 45, 97] : List UInt8)) = false := bne_eq_false_iff_eq.mpr c2
   clear c2
   by_cases c3 : t115 = 0
   · rw [if_pos c3] at H
     have c3b0 : (t115 == 0) = true := beq_iff_eq.mpr c3
     have c3b1 : (t115 != 0) = false := bne_eq_false_iff_eq.mpr c3
     try have c3b1z := c3b1
     (try simp only [bne] at c3b1z)
     clear c3
     replace H := Option.bind_eq_some_iff.mp H
     obtain ⟨t116, A40, H⟩ := H
     replace H : (some (t116 == 1)) = some r := H
     have A4 := Aside0.mk A40
     clear A40
     obtain rfl := Option.some.inj H
     go_enter Tryd.func16, Tryd.ntmps16
     go_wp2_with (first | ((with_reducible refine gate_dst (N := 4) rfl ?_); refine Kd.R_lit Kd.string _ 9 ?hg (N := 4) ?hd (xs := ([(⟨#[97]⟩ : ByteArray), (⟨#[98]⟩ : ByteArray)] : List ByteArray)) (inner := [.string (⟨#[97]⟩ : ByteArray), .string (⟨#[98]⟩ : ByteArray)]) (ok := fun _ => True) (okp := fun _ => True) ?hr ?hp (fun _ hk => hk) trivial (Below.refl _ _) (Nat.le_refl _) (by simp) ?_; (case hd => rfl); (case hg => rfl); (case hr => first | (go_simp; done) | (go_simp; rfl)); (case hp => exact (Reps.one (show Kd.M Kd.string _ _ _ (⟨#[97]⟩ : ByteArray) [.string (⟨#[97]⟩ : ByteArray)] from rfl) (Reps.one (show Kd.M Kd.string _ _ _ (⟨#[98]⟩ : ByteArray) [.string (⟨#[98]⟩ : ByteArray)] from rfl) (Reps.none _ _)))); intro v112 w5 ho6 hb hg_ hnew_; clear hg_ hnew_; (first | rw [← Ny111.out] at ho6 | (simp only [Int.reduceToNat] at ho6; rw [← Ny111.out] at ho6)); have HO113 := Aside0.mk (Kd.R_lower ho6 (below_size (qh HB))); replace HB := qn HB hb; clear hb ho6; obtain ⟨Ao7, co7, eo7⟩ := Kd.R_slice HO113.out; subst eo7) | ((with_reducible refine gate_callee (f := 19) rfl ?_); refine goesL_ (some 5) rfl rfl Tryd.func19 (by kernel_rfl) rfl #[.string (⟨#[123, 49, 125, 45, 123, 48, 125]⟩ : ByteArray), .slice Ao7 y111.length co7] rfl ql ?_; (with_reducible refine (runes_Fill.calls (⟨#[123, 49, 125, 45, 123, 48, 125]⟩ : ByteArray) _ _ y111 t114 t115 _ ?side1 ?side2 A1.out).mono ?_); (case side1 => repeat (first | exact (Kd.R_reads' HO113.out).2.2 | (with_reducible refine Kd.C_alloc ?_ _) | (with_reducible refine Kd.C_drewN ?_ _) | (with_reducible refine Kd.C_drew ?_))); (case side2 => exact (Kd.R_reads' HO113.out).2.1); rintro e w8 ⟨rfl, hb⟩; refine ⟨_, rfl, ?_⟩; replace HO113 := Aside0.mk (Kd.R_below (by (with_reducible repeat (first | apply Kd.R_alloc | apply Kd.R_drewN | apply Kd.R_drew)); exact HO113.out) hb); replace HB := qn HB hb; (try clear hb); (try clear hb2); (try clear hk); (try clear hi)) | (go_at_call 17; (with_reducible refine (runes_Ident.calls (⟨#[110]⟩ : ByteArray) t116 _ A4.out).mono ?_); rintro e w9 ⟨rfl, hb⟩; replace HO113 := Aside0.mk (Kd.R_below (by (with_reducible repeat (first | apply Kd.R_alloc | apply Kd.R_drewN | apply Kd.R_drew)); exact HO113.out) hb); replace HB := qn HB hb; (try clear hb); (try clear hb2); (try clear hk); (try clear hi)))
     go_ret
     exact ⟨qe, qh HB⟩
   · rw [if_neg c3] at H
     have c3b0 : (t115 == 0) = false := beq_eq_false_iff_ne.mpr c3
     have c3b1 : (t115 != 0) = true := bne_iff_ne.mpr c3
     try have c3b1z := c3b1
     (try simp only [bne] at c3b1z)
     obtain rfl := Option.some.inj H
     go_enter Tryd.func16, Tryd.ntmps16
     go_wp2_with (first | ((with_reducible refine gate_dst (N := 4) rfl ?_); refine Kd.R_lit Kd.string _ 9 ?hg (N := 4) ?hd (xs := ([(⟨#[97]⟩ : ByteArray), (⟨#[98]⟩ : ByteArray)] : List ByteArray)) (inner := [.string (⟨#[97]⟩ : ByteArray), .string (⟨#[98]⟩ : ByteArray)]) (ok := fun _ => True) (okp := fun _ => True) ?hr ?hp (fun _ hk => hk) trivial (Below.refl _ _) (Nat.le_refl _) (by simp) ?_; (case hd => rfl); (case hg => rfl); (case hr => first | (go_simp; done) | (go_simp; rfl)); (case hp => exact (Reps.one (show Kd.M Kd.string _ _ _ (⟨#[97]⟩ : ByteArray) [.string (⟨#[97]⟩ : ByteArray)] from rfl) (Reps.one (show Kd.M Kd.string _ _ _ (⟨#[98]⟩ : ByteArray) [.string (⟨#[98]⟩ : ByteArray)] from rfl) (Reps.none _ _)))); intro v112 w10 ho11 hb hg_ hnew_; clear hg_ hnew_; (first | rw [← Ny111.out] at ho11 | (simp only [Int.reduceToNat] at ho11; rw [← Ny111.out] at ho11)); have HO113 := Aside0.mk (Kd.R_lower ho11 (below_size (qh HB))); replace HB := qn HB hb; clear hb ho11; obtain ⟨Ao12, co12, eo12⟩ := Kd.R_slice HO113.out; subst eo12) | ((with_reducible refine gate_callee (f := 19) rfl ?_); refine goesL_ (some 5) rfl rfl Tryd.func19 (by kernel_rfl) rfl #[.string (⟨#[123, 49, 125, 45, 123, 48, 125]⟩ : ByteArray), .slice Ao12 y111.length co12] rfl ql ?_; (with_reducible refine (runes_Fill.calls (⟨#[123, 49, 125, 45, 123, 48, 125]⟩ : ByteArray) _ _ y111 t114 t115 _ ?side1 ?side2 A1.out).mono ?_); (case side1 => repeat (first | exact (Kd.R_reads' HO113.out).2.2 | (with_reducible refine Kd.C_alloc ?_ _) | (with_reducible refine Kd.C_drewN ?_ _) | (with_reducible refine Kd.C_drew ?_))); (case side2 => exact (Kd.R_reads' HO113.out).2.1); rintro e w13 ⟨rfl, hb⟩; refine ⟨_, rfl, ?_⟩; replace HO113 := Aside0.mk (Kd.R_below (by (with_reducible repeat (first | apply Kd.R_alloc | apply Kd.R_drewN | apply Kd.R_drew)); exact HO113.out) hb); replace HB := qn HB hb; (try clear hb); (try clear hb2); (try clear hk); (try clear hi)))
     go_ret
     exact ⟨qe, qh HB⟩
 · rw [if_neg c2] at H
   have c2b0 : (t114.toList == ([98, 45, 97] : List UInt8)) = false := beq_eq_false_iff_ne.mpr c2
   have c2b1 : (t114.toList != ([98, 45, 97] : List UInt8)) = true := bne_iff_ne.mpr c2
   obtain rfl := Option.some.inj H
   go_enter Tryd.func16, Tryd.ntmps16
   go_wp2_with (first | ((with_reducible refine gate_dst (N := 4) rfl ?_); refine Kd.R_lit Kd.string _ 9 ?hg (N := 4) ?hd (xs := ([(⟨#[97]⟩ : ByteArray), (⟨#[98]⟩ : ByteArray)] : List ByteArray)) (inner := [.string (⟨#[97]⟩ : ByteArray), .string (⟨#[98]⟩ : ByteArray)]) (ok := fun _ => True) (okp := fun _ => True) ?hr ?hp (fun _ hk => hk) trivial (Below.refl _ _) (Nat.le_refl _) (by simp) ?_; (case hd => rfl); (case hg => rfl); (case hr => first | (go_simp; done) | (go_simp; rfl)); (case hp => exact (Reps.one (show Kd.M Kd.string _ _ _ (⟨#[97]⟩ : ByteArray) [.string (⟨#[97]⟩ : ByteArray)] from rfl) (Reps.one (show Kd.M Kd.string _ _ _ (⟨#[98]⟩ : ByteArray) [.string (⟨#[98]⟩ : ByteArray)] from rfl) (Reps.none _ _)))); intro v112 w14 ho15 hb hg_ hnew_; clear hg_ hnew_; (first | rw [← Ny111.out] at ho15 | (simp only [Int.reduceToNat] at ho15; rw [← Ny111.out] at ho15)); have HO113 := Aside0.mk (Kd.R_lower ho15 (below_size (qh HB))); replace HB := qn HB hb; clear hb ho15; obtain ⟨Ao16, co16, eo16⟩ := Kd.R_slice HO113.out; subst eo16) | ((with_reducible refine gate_callee (f := 19) rfl ?_); refine goesL_ (some 5) rfl rfl Tryd.func19 (by kernel_rfl) rfl #[.string (⟨#[123, 49, 125, 45, 123, 48, 125]⟩ : ByteArray), .slice Ao16 y111.length co16] rfl ql ?_; (with_reducible refine (runes_Fill.calls (⟨#[123, 49, 125, 45, 123, 48, 125]⟩ : ByteArray) _ _ y111 t114 t115 _ ?side1 ?side2 A1.out).mono ?_); (case side1 => repeat (first | exact (Kd.R_reads' HO113.out).2.2 | (with_reducible refine Kd.C_alloc ?_ _) | (with_reducible refine Kd.C_drewN ?_ _) | (with_reducible refine Kd.C_drew ?_))); (case side2 => exact (Kd.R_reads' HO113.out).2.1); rintro e w17 ⟨rfl, hb⟩; refine ⟨_, rfl, ?_⟩; replace HO113 := Aside0.mk (Kd.R_below (by (with_reducible repeat (first | apply Kd.R_alloc | apply Kd.R_drewN | apply Kd.R_drew)); exact HO113.out) hb); replace HB := qn HB hb; (try clear hb); (try clear hb2); (try clear hk); (try clear hi)))
   go_ret
   exact ⟨qe, qh HB⟩

def idiomref01_Digit.f (a0 : Int) : Option (Bool) := if a0 ≥ 48 then (some (decide (a0 ≤ 57))) else (some false)
set_option maxHeartbeats 8000000 in
set_option maxRecDepth 100000 in
theorem idiomref01_Digit.calls (a0 : Int) (r : Bool) (w : World) (h : idiomref01_Digit.f a0 = some r) :
 Calls Tryd.prog 35 #[.int .u8 a0] w fun e w' => e = .returned (.bool r) ∧ Drawn0 w w' := by
 have H : (if a0 ≥ 48 then (some (decide (a0 ≤ 57))) else (some false)) = some r := h
 clear h
 by_cases c2 : a0 ≥ 48
 · rw [if_pos c2] at H
   have c2b0 : decide (48 ≤ a0) = true := decide_eq_true c2
   clear c2
   obtain rfl := Option.some.inj H
   go_enter Tryd.func35, Tryd.ntmps35
   go_wp2
   go_ret
   exact ⟨by first | rfl | (simp; done) | (simp [*]; done), by repeat (first | exact Drawn0.refl _ | apply Drawn0.step)⟩
 · rw [if_neg c2] at H
   have c2b0 : decide (48 ≤ a0) = false := decide_eq_false c2
   clear c2
   obtain rfl := Option.some.inj H
   go_enter Tryd.func35, Tryd.ntmps35
   go_wp2
   go_ret
   exact ⟨by first | rfl | (simp; done) | (simp [*]; done), by repeat (first | exact Drawn0.refl _ | apply Drawn0.step)⟩

end Go.Proofs.YtigikjihagmokaaDoor.F
namespace Go.Proofs.YtigikjihagmokaaDoor.F
open Go.RowKit Go.Proofs.YtigikjihagmokaaDoorW.PrintWords Go.Proofs.YtigikjihagmokaaDoorW.PrintLast Go.Proofs.YtigikjihagmokaaDoorW.PrintMore Go.Proofs.YtigikjihagmokaaDoor.Q
attribute [local go_sem] max2_int min2_int max_two min_two max_three min_three max_four min_four   -- for this text's walks alone
set_option linter.unusedVariables false
set_option linter.unusedSimpArgs false

mutual
def idiomref01_Fill.l0 : Nat → ByteArray → List ByteArray → List Int → Int → Option (ByteArray × Int)
 | 0, _, _, _, _ => none
 | k + 1, x0, x1, x6, x7 => if x7 < (x0.size : Int) then (if 0 ≤ x7 then (if x7 ≤ (wrap64 (x7 + 1)) then (if (wrap64 (x7 + 1)) ≤ (x0.size : Int) then (if (bt x0 x7) = 123 then (if (wrap64 (x7 + 2)) ≥ (x0.size : Int) then (idiomref01_Fill.j1 k x0 x1 x6 x7 true) else (if 0 ≤ (wrap64 (x7 + 1)) then (if (wrap64 (x7 + 1)) < (x0.size : Int) then ((idiomref01_Digit.f (bt x0 (wrap64 (x7 + 1)))).bind fun t135 => (if t135 = true then (if 0 ≤ (wrap64 (x7 + 2)) then (if (wrap64 (x7 + 2)) < (x0.size : Int) then (if (bt x0 (wrap64 (x7 + 2))) = 125 then (idiomref01_Fill.j1 k x0 x1 x6 x7 (decide ((((bt x0 (wrap64 (x7 + 1))) - 48) % 256) ≥ (x1.length : Int)))) else (idiomref01_Fill.j1 k x0 x1 x6 x7 true)) else (none)) else (none)) else (idiomref01_Fill.j1 k x0 x1 x6 x7 true))) else (none)) else (none))) else (if ((x0.extract (x7 : Int).toNat ((wrap64 (x7 + 1)) : Int).toNat).size : Int) > (wrap64 (1048576 - (x6.length : Int))) then (some ((⟨#[]⟩ : ByteArray), 2)) else (if x6.length + (x0.extract (x7 : Int).toNat ((wrap64 (x7 + 1)) : Int).toNat).size < 140737488355328 then (idiomref01_Fill.l0 k x0 x1 (x6 ++ bytesOf (x0.extract (x7 : Int).toNat ((wrap64 (x7 + 1)) : Int).toNat)) (wrap64 (x7 + 1))) else (none)))) else (none)) else (none)) else (none)) else (some (strOfNums x6, 0))
def idiomref01_Fill.j1 : Nat → ByteArray → List ByteArray → List Int → Int → Bool → Option (ByteArray × Int)
 | 0, _, _, _, _, _ => none
 | k + 1, x0, x1, x6, x7, x57 => if x57 = true then (some ((⟨#[]⟩ : ByteArray), 11)) else (if 0 ≤ (wrap64 (x7 + 1)) then (if (wrap64 (x7 + 1)) < (x0.size : Int) then (if 0 ≤ (((bt x0 (wrap64 (x7 + 1))) - 48) % 256) then (if (((bt x0 (wrap64 (x7 + 1))) - 48) % 256) < (x1.length : Int) then (if ((rdOf ByteArray.empty x1 (((bt x0 (wrap64 (x7 + 1))) - 48) % 256)).size : Int) > (wrap64 (1048576 - (x6.length : Int))) then (some ((⟨#[]⟩ : ByteArray), 2)) else (if x6.length + (rdOf ByteArray.empty x1 (((bt x0 (wrap64 (x7 + 1))) - 48) % 256)).size < 140737488355328 then (idiomref01_Fill.l0 k x0 x1 (x6 ++ bytesOf (rdOf ByteArray.empty x1 (((bt x0 (wrap64 (x7 + 1))) - 48) % 256))) (wrap64 (x7 + 3))) else (none))) else (none)) else (none)) else (none)) else (none))
end
def idiomref01_Fill.f (k : Nat) (a0 : ByteArray) (l1 : List ByteArray) : Option (ByteArray × Int) := if (a0.size : Int) > 65536 then (some ((⟨#[]⟩ : ByteArray), 2)) else (idiomref01_Fill.l0 k a0 l1 (([] : List Int)) 0)
theorem idiomref01_Fill.mono_l : ∀ k, (∀ y0 y1 y2 y3, LeO (idiomref01_Fill.l0 k y0 y1 y2 y3) (idiomref01_Fill.l0 (k + 1) y0 y1 y2 y3)) ∧ (∀ y0 y1 y2 y3 y4, LeO (idiomref01_Fill.j1 k y0 y1 y2 y3 y4) (idiomref01_Fill.j1 (k + 1) y0 y1 y2 y3 y4))
 | 0 => ⟨fun _ _ _ _ r h => by simp [idiomref01_Fill.l0] at h, fun _ _ _ _ _ r h => by simp [idiomref01_Fill.j1] at h⟩
 | k + 1 => by
  obtain ⟨ih0, ih1⟩ := idiomref01_Fill.mono_l k
  refine ⟨?_, ?_⟩
  · intro y0 y1 y2 y3
    unfold idiomref01_Fill.l0
    repeat' first
    | (with_reducible exact ih0 _ _ _ _)
    | (with_reducible exact ih1 _ _ _ _ _)
    | (with_reducible exact LeO.refl _)
    | (with_reducible exact LeO.none _)
    | (with_reducible refine LeO.ite ?_ ?_)
    | (with_reducible refine LeO.bind ?_ (fun _ => ?_))
    | exact ih0 _ _ _ _
    | exact ih1 _ _ _ _ _
    | exact LeO.none _
    | refine LeO.ite ?_ ?_
    | refine LeO.bind ?_ (fun _ => ?_)
  · intro y0 y1 y2 y3 y4
    unfold idiomref01_Fill.j1
    repeat' first
    | (with_reducible exact ih0 _ _ _ _)
    | (with_reducible exact ih1 _ _ _ _ _)
    | (with_reducible exact LeO.refl _)
    | (with_reducible exact LeO.none _)
    | (with_reducible refine LeO.ite ?_ ?_)
    | (with_reducible refine LeO.bind ?_ (fun _ => ?_))
    | exact ih0 _ _ _ _
    | exact ih1 _ _ _ _ _
    | exact LeO.none _
    | refine LeO.ite ?_ ?_
    | refine LeO.bind ?_ (fun _ => ?_)
theorem idiomref01_Fill.mono : ∀ a0 a1 k, LeO (idiomref01_Fill.f k a0 a1) (idiomref01_Fill.f (k + 1) a0 a1) := by
 intro a0 a1 k
 obtain ⟨ih0, ih1⟩ := idiomref01_Fill.mono_l k
 unfold idiomref01_Fill.f
 repeat' first
  | (with_reducible exact ih0 _ _ _ _)
  | (with_reducible exact ih1 _ _ _ _ _)
  | (with_reducible exact LeO.refl _)
  | (with_reducible exact LeO.none _)
  | (with_reducible refine LeO.ite ?_ ?_)
  | (with_reducible refine LeO.bind ?_ (fun _ => ?_))
  | exact ih0 _ _ _ _
  | exact ih1 _ _ _ _ _
  | exact LeO.none _
  | refine LeO.ite ?_ ?_
  | refine LeO.bind ?_ (fun _ => ?_)
set_option maxHeartbeats 8000000 in
set_option maxRecDepth 100000 in
theorem idiomref01_Fill.calls (k : Nat) (a0 : ByteArray) (A1 : Option Addr) (c1 : Nat) (l1 : List ByteArray) (r1 : ByteArray) (r2 : Int) (w : World) (hr1 : Kd.C Kd.string w A1 l1.length l1) (hc1 : l1.length ≤ c1) (h : idiomref01_Fill.f k a0 l1 = some (r1, r2)) :
 Calls Tryd.prog 20 #[.string a0, .slice A1 l1.length c1] w fun e w' => e = .returned (.tuple #[.string r1, .int .i64 r2]) ∧ Below w.heap.size w w' := by
 have HR1 := Aside0.mk hr1
 have HC1 := Aside0.mk hc1
 clear hr1 hc1
 have HB := Aside0.mk (Below.refl w.heap.size w)
 have H : (if (a0.size : Int) > 65536 then (some ((⟨#[]⟩ : ByteArray), 2)) else (idiomref01_Fill.l0 k a0 l1 (([] : List Int)) 0)) = some (r1, r2) := h
 clear h
 by_cases c3 : (a0.size : Int) > 65536
 · rw [if_pos c3] at H
   have c3b0 : decide (65536 < (a0.size : Int)) = true := decide_eq_true c3
   have c3b1 : decide (65536 < a0.size) = true := decide_eq_true (by omega)
   clear c3
   simp only [Option.some.injEq, Prod.mk.injEq] at H
   obtain ⟨rfl, rfl⟩ := H
   go_enter Tryd.func20, Tryd.ntmps20
   go_wp2
   go_ret2
   exact ⟨qe, qh HB⟩
 · rw [if_neg c3] at H
   have c3b0 : decide (65536 < (a0.size : Int)) = false := decide_eq_false c3
   have c3b1 : decide (65536 < a0.size) = false := decide_eq_false (by omega)
   clear c3
   obtain ⟨y132, hy132⟩ : ∃ y_ : List Int, y_ = (([] : List Int)) := ⟨_, rfl⟩
   replace H : (idiomref01_Fill.l0 k a0 l1 y132 0) = some (r1, r2) := by first | (rw [hy132]; with_reducible exact H) | (have H2_ := (Option.bind_some _ _).symm.trans H; rw [hy132]; with_reducible exact H2_) | (have H2_ := (Option.bind_some _ _).symm.trans H; with_reducible exact H2_) | with_reducible exact H | (rw [hy132]; exact H) | exact H
   have Ny132 := Aside0.mk hy132
   clear hy132
   have H' := Aside0.mk H
   clear H
   go_enter Tryd.func20, Tryd.ntmps20
   go_wp2_with (first | ((with_reducible refine gate_dst (N := 13) rfl ?_); (try (refine gate_guard (by rfl) ?_; dsimp only)); refine Kd.R_lit (Kd.int .u8) _ 5 ?hg (N := 13) ?hd (xs := ([] : List Int)) (inner := []) (ok := fun _ => True) (okp := fun _ => True) ?hr ?hp (fun _ hk => hk) trivial (Below.refl _ _) (Nat.le_refl _) (by simp) ?_; (case hd => rfl); (case hg => rfl); (case hr => first | (go_simp; done) | (go_simp; rfl)); (case hp => exact (Reps.none _ _)); intro v133 w4 ho5 hb hg_ hnew_; clear hg_ hnew_; (first | rw [← Ny132.out] at ho5 | (simp only [Int.reduceToNat] at ho5; rw [← Ny132.out] at ho5)); have HO134 := Aside0.mk (Kd.R_lower ho5 (below_size (qh HB))); replace HB := qn HB hb; clear hb ho5))
   (try simp only [Act.put, List.setIfInBounds_toArray, List.set_cons_zero, List.set_cons_succ])
   go_loopg [6, 7] k (fun kq v6 v7 w' => ∃ (x6_1 : List Int) (x7_1 : Int), v7 = .int .i64 x7_1 ∧ Aside0 (idiomref01_Fill.l0 kq a0 l1 x6_1 x7_1 = some (r1, r2)) ∧ Aside0 (kq ≤ k) ∧ Aside0 (Kd.R (Kd.int .u8) 5 w' w.heap.size (fun _ => True) v6 x6_1) ∧ Aside0 (Below w.heap.size w w'))
   case atStart => exact ⟨(y132), (0), (by first | rfl | (simp; done) | (simp [*]; done)), H', ⟨Nat.le_refl _⟩, ⟨by (with_reducible repeat (first | apply Kd.R_alloc | apply Kd.R_drewN | apply Kd.R_drew)); exact HO134.out⟩, ⟨qh HB⟩⟩
   case round =>
    clear H'
    try clear c1
    try clear c2
    try clear p2
    try clear c3
    try clear c3b0
    try clear c3b1
    obtain ⟨x6_1, x7_1, rfl, HA, HK1, HO_6, HB⟩ := hrel
    cases gk with
    | zero => exact absurd HA.out (by simp [idiomref01_Fill.l0])
    | succ k1 =>
     have H := HA.out
     clear HA
     simp only [idiomref01_Fill.l0] at H
     by_cases c6 : x7_1 < (a0.size : Int)
     · rw [if_pos c6] at H
       have c6b0 : decide (x7_1 < (a0.size : Int)) = true := decide_eq_true c6
       clear c6
       by_cases c7 : 0 ≤ x7_1
       · rw [if_pos c7] at H
         have c7b0 := eq_true c7
         have c7b1 : decide (0 ≤ x7_1) = true := decide_eq_true c7
         clear c7
         by_cases c8 : x7_1 ≤ (wrap64 (x7_1 + 1))
         · rw [if_pos c8] at H
           have c8b0 := eq_true c8
           have c8b1 : decide (x7_1 ≤ (wrap64 (x7_1 + 1))) = true := decide_eq_true c8
           by_cases c9 : (wrap64 (x7_1 + 1)) ≤ (a0.size : Int)
           · rw [if_pos c9] at H
             have c9b0 := eq_true c9
             have c9b1 : decide ((wrap64 (x7_1 + 1)) ≤ (a0.size : Int)) = true := decide_eq_true c9
             by_cases c11 : (bt a0 x7_1) = 123
             · rw [if_pos c11] at H
               have c11b0 : ((bt a0 x7_1) == 123) = true := beq_iff_eq.mpr c11
               have c11b1 : ((bt a0 x7_1) != 123) = false := bne_eq_false_iff_eq.mpr c11
               clear c11
               have HC12 := Aside0.mk H
               clear H
               have p10 : 0 ≤ (x7_1 : Int) := of_decide_eq_true qa
               have q10 : x7_1 < (a0.size : Int) := of_decide_eq_true qa
               have hx10 := bt_at a0 x7_1
               replace p10 := eq_true p10
               replace q10 := eq_true q10
               go_upto_region 8 with (fail)
               go_cut [57] (fun v57 wc => ∃ (kq : Nat) (x57_11 : Bool), v57 = .bool x57_11 ∧ Aside0 (idiomref01_Fill.j1 kq a0 l1 x6_1 x7_1 x57_11 = some (r1, r2)) ∧ Aside0 (kq ≤ k1) ∧ Aside0 (Kd.R (Kd.int .u8) 5 wc w.heap.size (fun _ => True) u6 x6_1) ∧ Aside0 (Below w.heap.size w wc))
               case first =>
                have H := HC12.out
                clear HC12
                by_cases c13 : (wrap64 (x7_1 + 2)) ≥ (a0.size : Int)
                · rw [if_pos c13] at H
                  have c13b0 : decide ((a0.size : Int) ≤ (wrap64 (x7_1 + 2))) = true := decide_eq_true c13
                  clear c13
                  (first | rw [c13b0] | (simp only [i64_w, i32_w]; rw [c13b0]) | skip)
                  have H' := Aside0.mk H
                  clear H
                  go_wp2
                  go_meet
                  case rel => exact ⟨_, (true), (by first | rfl | (simp; done) | (simp [*]; done)), H', ⟨by have := HK1.out; first | omega | exact Nat.le_refl _⟩, ⟨by (with_reducible repeat (first | apply Kd.R_alloc | apply Kd.R_drewN | apply Kd.R_drew)); exact HO_6.out⟩, ⟨qh HB⟩⟩
                · rw [if_neg c13] at H
                  have c13b0 : decide ((a0.size : Int) ≤ (wrap64 (x7_1 + 2))) = false := decide_eq_false c13
                  clear c13
                  (first | rw [c13b0] | (simp only [i64_w, i32_w]; rw [c13b0]) | skip)
                  obtain ⟨ji14, hji14⟩ : ∃ j_ : Int, (wrap64 (x7_1 + 1)) = j_ := ⟨_, rfl⟩
                  replace H : (if 0 ≤ (ji14) then (if (ji14) < (a0.size : Int) then ((idiomref01_Digit.f (bt a0 (ji14))).bind fun t135 => (if t135 = true then (if 0 ≤ (wrap64 (x7_1 + 2)) then (if (wrap64 (x7_1 + 2)) < (a0.size : Int) then (if (bt a0 (wrap64 (x7_1 + 2))) = 125 then (idiomref01_Fill.j1 k1 a0 l1 x6_1 x7_1 (decide ((((bt a0 (ji14)) - 48) % 256) ≥ (l1.length : Int)))) else (idiomref01_Fill.j1 k1 a0 l1 x6_1 x7_1 true)) else (none)) else (none)) else (idiomref01_Fill.j1 k1 a0 l1 x6_1 x7_1 true))) else (none)) else (none)) = some (r1, r2) := by first | (rw [hji14] at H; exact H) | (simp only [hji14] at H ⊢; exact H)
                  (try rw [hji14] at c8b0)
                  (try rw [hji14] at c8b1)
                  (try rw [hji14] at c8)
                  (try rw [hji14] at c9b0)
                  (try rw [hji14] at c9b1)
                  (try rw [hji14] at c9)
                  have hji14w : (IntKind.i64.wrap (x7_1 + 1)) = ji14 := (i64_w _).trans hji14
                  by_cases c15 : 0 ≤ (ji14)
                  · rw [if_pos c15] at H
                    have c15b0 : decide (0 ≤ (ji14)) = true := decide_eq_true c15
                    clear c15
                    by_cases c16 : (ji14) < (a0.size : Int)
                    · rw [if_pos c16] at H
                      have c16b0 : decide ((ji14) < (a0.size : Int)) = true := decide_eq_true c16
                      clear c16
                      replace H := Option.bind_eq_some_iff.mp H
                      obtain ⟨t135, A180, H⟩ := H
                      replace H : (if t135 = true then (if 0 ≤ (wrap64 (x7_1 + 2)) then (if (wrap64 (x7_1 + 2)) < (a0.size : Int) then (if (bt a0 (wrap64 (x7_1 + 2))) = 125 then (idiomref01_Fill.j1 k1 a0 l1 x6_1 x7_1 (decide ((((bt a0 (ji14)) - 48) % 256) ≥ (l1.length : Int)))) else (idiomref01_Fill.j1 k1 a0 l1 x6_1 x7_1 true)) else (none)) else (none)) else (idiomref01_Fill.j1 k1 a0 l1 x6_1 x7_1 true)) = some (r1, r2) := H
                      have A18 := Aside0.mk A180
                      clear A180
                      by_cases c19 : t135 = true
                      · subst c19
                        have H1 : (if 0 ≤ (wrap64 (x7_1 + 2)) then (if (wrap64 (x7_1 + 2)) < (a0.size : Int) then (if (bt a0 (wrap64 (x7_1 + 2))) = 125 then (idiomref01_Fill.j1 k1 a0 l1 x6_1 x7_1 (decide ((((bt a0 (ji14)) - 48) % 256) ≥ (l1.length : Int)))) else (idiomref01_Fill.j1 k1 a0 l1 x6_1 x7_1 true)) else (none)) else (none)) = some (r1, r2) := by rw [if_pos rfl] at H; exact H
                        clear H
                        have H := H1
                        clear H1
                        obtain ⟨ji20, hji20⟩ : ∃ j_ : Int, (wrap64 (x7_1 + 2)) = j_ := ⟨_, rfl⟩
                        replace H : (if 0 ≤ (ji20) then (if (ji20) < (a0.size : Int) then (if (bt a0 (ji20)) = 125 then (idiomref01_Fill.j1 k1 a0 l1 x6_1 x7_1 (decide ((((bt a0 (ji14)) - 48) % 256) ≥ (l1.length : Int)))) else (idiomref01_Fill.j1 k1 a0 l1 x6_1 x7_1 true)) else (none)) else (none)) = some (r1, r2) := by first | (rw [hji20] at H; exact H) | (simp only [hji20] at H ⊢; exact H)
                        (try rw [hji20] at c13b0)
                        (try rw [hji20] at A18)
                        have hji20w : (IntKind.i64.wrap (x7_1 + 2)) = ji20 := (i64_w _).trans hji20
                        by_cases c21 : 0 ≤ (ji20)
                        · rw [if_pos c21] at H
                          have c21b0 : decide (0 ≤ (ji20)) = true := decide_eq_true c21
                          clear c21
                          by_cases c22 : (ji20) < (a0.size : Int)
                          · rw [if_pos c22] at H
                            have c22b0 : decide ((ji20) < (a0.size : Int)) = true := decide_eq_true c22
                            clear c22
                            by_cases c24 : (bt a0 (ji20)) = 125
                            · rw [if_pos c24] at H
                              have c24b0 : ((bt a0 (ji20)) == 125) = true := beq_iff_eq.mpr c24
                              have c24b1 : ((bt a0 (ji20)) != 125) = false := bne_eq_false_iff_eq.mpr c24
                              clear c24
                              have H' := Aside0.mk H
                              clear H
                              have p17 : 0 ≤ ((ji14) : Int) := of_decide_eq_true qa
                              have q17 : (ji14) < (a0.size : Int) := of_decide_eq_true qa
                              have hx17 := bt_at a0 (ji14)
                              replace p17 := eq_true p17
                              replace q17 := eq_true q17
                              go_wp2_with (first | (go_at_call 35; (with_reducible refine (idiomref01_Digit.calls (bt a0 (ji14)) true _ A18.out).mono ?_); rintro e w' ⟨rfl, ⟨nd, rfl⟩⟩; have p23 : 0 ≤ ((ji20) : Int) := of_decide_eq_true qa; have q23 : (ji20) < (a0.size : Int) := of_decide_eq_true qa; have hx23 := bt_at a0 (ji20); replace p23 := eq_true p23; replace q23 := eq_true q23; have p25 : 0 ≤ ((ji14) : Int) := of_decide_eq_true qa; have q25 : (ji14) < (a0.size : Int) := of_decide_eq_true qa; have hx25 := bt_at a0 (ji14); replace p25 := eq_true p25; replace q25 := eq_true q25))
                              first | go_meet | (simp only [← hji14, ← hji20]; go_meet)
                              case rel => exact ⟨_, (decide ((((bt a0 (ji14)) - 48) % 256) ≥ (l1.length : Int))), (by first | rfl | (simp; done) | (simp only [← hji14] <;> (first | rfl | simp)) | (simp [*]; done)), H', ⟨by have := HK1.out; first | omega | exact Nat.le_refl _⟩, ⟨by (with_reducible repeat (first | apply Kd.R_alloc | apply Kd.R_drewN | apply Kd.R_drew)); exact HO_6.out⟩, ⟨qh HB⟩⟩
                            · rw [if_neg c24] at H
                              have c24b0 : ((bt a0 (ji20)) == 125) = false := beq_eq_false_iff_ne.mpr c24
                              have c24b1 : ((bt a0 (ji20)) != 125) = true := bne_iff_ne.mpr c24
                              have H' := Aside0.mk H
                              clear H
                              have p17 : 0 ≤ ((ji14) : Int) := of_decide_eq_true qa
                              have q17 : (ji14) < (a0.size : Int) := of_decide_eq_true qa
                              have hx17 := bt_at a0 (ji14)
                              replace p17 := eq_true p17
                              replace q17 := eq_true q17
                              go_wp2_with (first | (go_at_call 35; (with_reducible refine (idiomref01_Digit.calls (bt a0 (ji14)) true _ A18.out).mono ?_); rintro e w' ⟨rfl, ⟨nd, rfl⟩⟩; have p23 : 0 ≤ ((ji20) : Int) := of_decide_eq_true qa; have q23 : (ji20) < (a0.size : Int) := of_decide_eq_true qa; have hx23 := bt_at a0 (ji20); replace p23 := eq_true p23; replace q23 := eq_true q23))
                              first | go_meet | (simp only [← hji14, ← hji20]; go_meet)
                              case rel => exact ⟨_, (true), (by first | rfl | (simp; done) | (simp [*]; done)), H', ⟨by have := HK1.out; first | omega | exact Nat.le_refl _⟩, ⟨by (with_reducible repeat (first | apply Kd.R_alloc | apply Kd.R_drewN | apply Kd.R_drew)); exact HO_6.out⟩, ⟨qh HB⟩⟩
                          · rw [if_neg c22] at H
                            exact absurd H (by simp)
                        · rw [if_neg c21] at H
                          exact absurd H (by simp)
                      · replace c19 := Bool.eq_false_iff.mpr c19
                        subst c19
                        have H1 : (idiomref01_Fill.j1 k1 a0 l1 x6_1 x7_1 true) = some (r1, r2) := by rw [if_neg (show ¬ (false = true) by decide)] at H; exact H
                        clear H
                        have H := H1
                        clear H1
                        have H' := Aside0.mk H
                        clear H
                        have p17 : 0 ≤ ((ji14) : Int) := of_decide_eq_true qa
                        have q17 : (ji14) < (a0.size : Int) := of_decide_eq_true qa
                        have hx17 := bt_at a0 (ji14)
                        replace p17 := eq_true p17
                        replace q17 := eq_true q17
                        go_wp2_with (first | (go_at_call 35; (with_reducible refine (idiomref01_Digit.calls (bt a0 (ji14)) false _ A18.out).mono ?_); rintro e w' ⟨rfl, ⟨nd, rfl⟩⟩))
                        first | go_meet | (simp only [← hji14]; go_meet)
                        case rel => exact ⟨_, (true), (by first | rfl | (simp; done) | (simp [*]; done)), H', ⟨by have := HK1.out; first | omega | exact Nat.le_refl _⟩, ⟨by (with_reducible repeat (first | apply Kd.R_alloc | apply Kd.R_drewN | apply Kd.R_drew)); exact HO_6.out⟩, ⟨qh HB⟩⟩
                    · rw [if_neg c16] at H
                      exact absurd H (by simp)
                  · rw [if_neg c15] at H
                    exact absurd H (by simp)
               case rest =>
                clear HC12
                try clear c1
                try clear p1
                try clear q1
                try clear hx1
                try clear c2
                try clear p2
                try clear q2
                try clear hx2
                try clear c3
                try clear c3b0
                try clear c3b1
                try clear c6
                try clear c6b0
                try clear p6
                try clear c7
                try clear c7b0
                try clear c7b1
                try clear c8
                try clear c8b0
                try clear c8b1
                try clear c9
                try clear c9b0
                try clear c9b1
                try clear p10
                try clear q10
                try clear hx10
                try clear c11
                try clear c11b0
                try clear c11b1
                try clear c13
                try clear c13b0
                try clear c15
                try clear c15b0
                try clear c16
                try clear c16b0
                try clear p17
                try clear q17
                try clear hx17
                try clear c19
                try clear c20
                try clear c21
                try clear c21b0
                try clear c22
                try clear c22b0
                try clear p23
                try clear q23
                try clear hx23
                try clear c24
                try clear c24b0
                try clear c24b1
                try clear p25
                try clear q25
                try clear hx25
                try clear p10
                try clear p17
                try clear p2
                try clear p23
                try clear p25
                try clear q10
                try clear q17
                try clear q23
                try clear q25
                obtain ⟨kq, x57_11, rfl, HA, HJ11, HO_6, HB⟩ := hcut
                cases kq with
                | zero => exact absurd HA.out (by simp [idiomref01_Fill.j1])
                | succ kj11 =>
                 have H := HA.out
                 clear HA
                 simp only [idiomref01_Fill.j1] at H
                 by_cases c26 : x57_11 = true
                 · subst c26
                   have H1 : (some ((⟨#[]⟩ : ByteArray), 11)) = some (r1, r2) := by rw [if_pos rfl] at H; exact H
                   clear H
                   have H := H1
                   clear H1
                   simp only [Option.some.injEq, Prod.mk.injEq] at H
                   obtain ⟨rfl, rfl⟩ := H
                   go_wp2
                   go_ret2
                   exact ⟨qe, qh HB⟩
                 · replace c26 := Bool.eq_false_iff.mpr c26
                   subst c26
                   have H1 : (if 0 ≤ (wrap64 (x7_1 + 1)) then (if (wrap64 (x7_1 + 1)) < (a0.size : Int) then (if 0 ≤ (((bt a0 (wrap64 (x7_1 + 1))) - 48) % 256) then (if (((bt a0 (wrap64 (x7_1 + 1))) - 48) % 256) < (l1.length : Int) then (if ((rdOf ByteArray.empty l1 (((bt a0 (wrap64 (x7_1 + 1))) - 48) % 256)).size : Int) > (wrap64 (1048576 - (x6_1.length : Int))) then (some ((⟨#[]⟩ : ByteArray), 2)) else (if x6_1.length + (rdOf ByteArray.empty l1 (((bt a0 (wrap64 (x7_1 + 1))) - 48) % 256)).size < 140737488355328 then (idiomref01_Fill.l0 kj11 a0 l1 (x6_1 ++ bytesOf (rdOf ByteArray.empty l1 (((bt a0 (wrap64 (x7_1 + 1))) - 48) % 256))) (wrap64 (x7_1 + 3))) else (none))) else (none)) else (none)) else (none)) else (none)) = some (r1, r2) := by rw [if_neg (show ¬ (false = true) by decide)] at H; exact H
                   clear H
                   have H := H1
                   clear H1
                   obtain ⟨ji27, hji27⟩ : ∃ j_ : Int, (wrap64 (x7_1 + 1)) = j_ := ⟨_, rfl⟩
                   replace H : (if 0 ≤ (ji27) then (if (ji27) < (a0.size : Int) then (if 0 ≤ (((bt a0 (ji27)) - 48) % 256) then (if (((bt a0 (ji27)) - 48) % 256) < (l1.length : Int) then (if ((rdOf ByteArray.empty l1 (((bt a0 (ji27)) - 48) % 256)).size : Int) > (wrap64 (1048576 - (x6_1.length : Int))) then (some ((⟨#[]⟩ : ByteArray), 2)) else (if x6_1.length + (rdOf ByteArray.empty l1 (((bt a0 (ji27)) - 48) % 256)).size < 140737488355328 then (idiomref01_Fill.l0 kj11 a0 l1 (x6_1 ++ bytesOf (rdOf ByteArray.empty l1 (((bt a0 (ji27)) - 48) % 256))) (wrap64 (x7_1 + 3))) else (none))) else (none)) else (none)) else (none)) else (none)) = some (r1, r2) := by first | (rw [hji27] at H; exact H) | (simp only [hji27] at H ⊢; exact H)
                   (try rw [hji27] at c8b0)
                   (try rw [hji27] at c8b1)
                   (try rw [hji27] at c8)
                   (try rw [hji27] at c9b0)
                   (try rw [hji27] at c9b1)
                   (try rw [hji27] at c9)
                   have hji27w : (IntKind.i64.wrap (x7_1 + 1)) = ji27 := (i64_w _).trans hji27
                   by_cases c28 : 0 ≤ (ji27)
                   · rw [if_pos c28] at H
                     have c28b0 : decide (0 ≤ (ji27)) = true := decide_eq_true c28
                     clear c28
                     by_cases c29 : (ji27) < (a0.size : Int)
                     · rw [if_pos c29] at H
                       have c29b0 : decide ((ji27) < (a0.size : Int)) = true := decide_eq_true c29
                       clear c29
                       obtain ⟨ji31, hji31⟩ : ∃ j_ : Int, (((bt a0 (ji27)) - 48) % 256) = j_ := ⟨_, rfl⟩
                       replace H : (if 0 ≤ (ji31) then (if (ji31) < (l1.length : Int) then (if ((rdOf ByteArray.empty l1 (ji31)).size : Int) > (wrap64 (1048576 - (x6_1.length : Int))) then (some ((⟨#[]⟩ : ByteArray), 2)) else (if x6_1.length + (rdOf ByteArray.empty l1 (ji31)).size < 140737488355328 then (idiomref01_Fill.l0 kj11 a0 l1 (x6_1 ++ bytesOf (rdOf ByteArray.empty l1 (ji31))) (wrap64 (x7_1 + 3))) else (none))) else (none)) else (none)) = some (r1, r2) := by first | (rw [hji31] at H; exact H) | (simp only [hji31] at H ⊢; exact H)
                       by_cases c32 : 0 ≤ (ji31)
                       · rw [if_pos c32] at H
                         have c32b0 : decide (0 ≤ (ji31)) = true := decide_eq_true c32
                         clear c32
                         by_cases c33 : (ji31) < (l1.length : Int)
                         · rw [if_pos c33] at H
                           have c33b0 : decide ((ji31) < (l1.length : Int)) = true := decide_eq_true c33
                           clear c33
                           by_cases c34 : ((rdOf ByteArray.empty l1 (ji31)).size : Int) > (wrap64 (1048576 - (x6_1.length : Int)))
                           · rw [if_pos c34] at H
                             have c34b0 : decide ((wrap64 (1048576 - (x6_1.length : Int))) < ((rdOf ByteArray.empty l1 (ji31)).size : Int)) = true := decide_eq_true c34
                             clear c34
                             simp only [Option.some.injEq, Prod.mk.injEq] at H
                             obtain ⟨rfl, rfl⟩ := H
                             have p30 : 0 ≤ ((ji27) : Int) := of_decide_eq_true qa
                             have q30 : (ji27) < (a0.size : Int) := of_decide_eq_true qa
                             have hx30 := bt_at a0 (ji27)
                             replace p30 := eq_true p30
                             replace q30 := eq_true q30
                             have p136 : 0 ≤ ((ji31) : Int) := of_decide_eq_true qa
                             have q136 : (ji31) < (l1.length : Int) := of_decide_eq_true qa
                             obtain ⟨ad136, e136, hx136_0⟩ := Kd.at_string HR1.out (ji31) p136 q136
                             cases e136
                             replace hx136_0 := (HB.out.cell (World.block_lt_of_cell? w _ hx136_0)).trans hx136_0
                             replace p136 := eq_true p136
                             replace q136 := eq_true q136
                             obtain ⟨Ao35, co35, eo35⟩ := Kd.R_slice HO_6.out
                             subst eo35
                             go_wp2
                             go_ret2
                             exact ⟨by first | rfl | (exact congrArg (fun b => Ending.returned (.bool b)) (Aid.bne_nil _)) | (exact congrArg (fun b => Ending.returned (.bool b)) (Aid.eq_nil _)) | (simp [errW_none, errW_some] <;> rfl) | (simp only [← hji27, ← hji31]; first | rfl | (simp [errW_none, errW_some] <;> rfl)) | (simp [*, errW_none, errW_some] <;> rfl), qh HB⟩
                           · rw [if_neg c34] at H
                             have c34b0 : decide ((wrap64 (1048576 - (x6_1.length : Int))) < ((rdOf ByteArray.empty l1 (ji31)).size : Int)) = false := decide_eq_false c34
                             clear c34
                             by_cases c36 : x6_1.length + (rdOf ByteArray.empty l1 (ji31)).size < 140737488355328
                             · rw [if_pos c36] at H
                               have LMc36 := Aside0.mk c36
                               clear c36
                               obtain ⟨y137, hy137⟩ : ∃ y_ : List Int, y_ = (x6_1 ++ bytesOf (rdOf ByteArray.empty l1 (ji31))) := ⟨_, rfl⟩
                               replace H : (idiomref01_Fill.l0 kj11 a0 l1 y137 (wrap64 (x7_1 + 3))) = some (r1, r2) := by first | (rw [hy137]; with_reducible exact H) | (have H2_ := (Option.bind_some _ _).symm.trans H; rw [hy137]; with_reducible exact H2_) | (have H2_ := (Option.bind_some _ _).symm.trans H; with_reducible exact H2_) | with_reducible exact H | (rw [hy137]; exact H) | exact H
                               have Ny137 := Aside0.mk hy137
                               clear hy137
                               have H' := Aside0.mk H
                               clear H
                               have p30 : 0 ≤ ((ji27) : Int) := of_decide_eq_true qa
                               have q30 : (ji27) < (a0.size : Int) := of_decide_eq_true qa
                               have hx30 := bt_at a0 (ji27)
                               replace p30 := eq_true p30
                               replace q30 := eq_true q30
                               have p136 : 0 ≤ ((ji31) : Int) := of_decide_eq_true qa
                               have q136 : (ji31) < (l1.length : Int) := of_decide_eq_true qa
                               obtain ⟨ad136, e136, hx136_0⟩ := Kd.at_string HR1.out (ji31) p136 q136
                               cases e136
                               replace hx136_0 := (HB.out.cell (World.block_lt_of_cell? w _ hx136_0)).trans hx136_0
                               replace p136 := eq_true p136
                               replace q136 := eq_true q136
                               obtain ⟨Ao37, co37, eo37⟩ := Kd.R_slice HO_6.out
                               subst eo37
                               go_wp2_with (first | (at_builtin; refine print_append_str (w0 := w) w.heap.size rfl (.tmp 73) _ 41 9 5 rfl Tryd.underlying41 Tryd.underlying9 info5 (.slice Ao37 x6_1.length co37) x6_1 (rdOf ByteArray.empty l1 (ji31)) rfl rfl ?aO ?aB ?aS ?aL ?_; (case aB => exact (qh HB)); (case aO => exact (Kd.own_of_R (by (with_reducible repeat (first | apply Kd.R_alloc | apply Kd.R_drewN | apply Kd.R_drew)); exact HO_6.out))); (case aS => exact (below_size (qh HB))); (case aL => have := LMc36.out; omega); intro v138 w38 ho0 hb hg; have ho := Kd.R_of_own (h1 := fun _ => rfl) (ok := fun _ => True) ho0 (fun _ _ => trivial); clear ho0; have hat := True.intro; rw [← Ny137.out] at ho; change Kd.R (Kd.int .u8) 5 w38 w.heap.size (fun _ => True) v138 y137 at ho; have n0_ := Aside0.mk (hb); have n1_ := Aside0.mk (ho); clear HB; clear HO_6; have HB := n0_; have HO139 := n1_; clear n0_ n1_; clear ho hb hg hat))
                               go_roundg kj11
                               case measure => have := HK1.out; have := HJ11.out; omega
                               case rel => exact ⟨(y137), (wrap64 (x7_1 + 3)), (by first | rfl | (simp; done) | (simp [*]; done)), H', ⟨by have := HK1.out; have := HJ11.out; omega⟩, ⟨by (with_reducible repeat (first | apply Kd.R_alloc | apply Kd.R_drewN | apply Kd.R_drew)); exact HO139.out⟩, ⟨qh HB⟩⟩
                             · rw [if_neg c36] at H
                               exact absurd H (by simp)
                         · rw [if_neg c33] at H
                           exact absurd H (by simp)
                       · rw [if_neg c32] at H
                         exact absurd H (by simp)
                     · rw [if_neg c29] at H
                       exact absurd H (by simp)
                   · rw [if_neg c28] at H
                     exact absurd H (by simp)
             · rw [if_neg c11] at H
               have c11b0 : ((bt a0 x7_1) == 123) = false := beq_eq_false_iff_ne.mpr c11
               have c11b1 : ((bt a0 x7_1) != 123) = true := bne_iff_ne.mpr c11
               by_cases c39 : ((a0.extract (x7_1 : Int).toNat ((wrap64 (x7_1 + 1)) : Int).toNat).size : Int) > (wrap64 (1048576 - (x6_1.length : Int)))
               · rw [if_pos c39] at H
                 have c39b0 : decide ((wrap64 (1048576 - (x6_1.length : Int))) < ((a0.extract (x7_1 : Int).toNat ((wrap64 (x7_1 + 1)) : Int).toNat).size : Int)) = true := decide_eq_true c39
                 try have c39b0z := c39b0
                 (try simp only [go_sem, ByteArray.size_extract, ByteArray.size_append, Nat.min_self, Int.natCast_add] at c39b0z)
                 try have c39b0y := c39b0z
                 (try rw [Nat.min_eq_left (show ((wrap64 (x7_1 + 1)) : Int).toNat ≤ a0.size from Int.toNat_le.2 (by assumption))] at c39b0y)
                 clear c39
                 simp only [Option.some.injEq, Prod.mk.injEq] at H
                 obtain ⟨rfl, rfl⟩ := H
                 have p10 : 0 ≤ (x7_1 : Int) := of_decide_eq_true qa
                 have q10 : x7_1 < (a0.size : Int) := of_decide_eq_true qa
                 have hx10 := bt_at a0 x7_1
                 replace p10 := eq_true p10
                 replace q10 := eq_true q10
                 obtain ⟨Ao40, co40, eo40⟩ := Kd.R_slice HO_6.out
                 subst eo40
                 go_wp2
                 go_ret2
                 exact ⟨qe, qh HB⟩
               · rw [if_neg c39] at H
                 have c39b0 : decide ((wrap64 (1048576 - (x6_1.length : Int))) < ((a0.extract (x7_1 : Int).toNat ((wrap64 (x7_1 + 1)) : Int).toNat).size : Int)) = false := decide_eq_false c39
                 try have c39b0z := c39b0
                 (try simp only [go_sem, ByteArray.size_extract, ByteArray.size_append, Nat.min_self, Int.natCast_add] at c39b0z)
                 try have c39b0y := c39b0z
                 (try rw [Nat.min_eq_left (show ((wrap64 (x7_1 + 1)) : Int).toNat ≤ a0.size from Int.toNat_le.2 (by assumption))] at c39b0y)
                 clear c39
                 by_cases c41 : x6_1.length + (a0.extract (x7_1 : Int).toNat ((wrap64 (x7_1 + 1)) : Int).toNat).size < 140737488355328
                 · rw [if_pos c41] at H
                   have LMc41 := Aside0.mk c41
                   clear c41
                   obtain ⟨y140, hy140⟩ : ∃ y_ : List Int, y_ = (x6_1 ++ bytesOf (a0.extract (x7_1 : Int).toNat ((wrap64 (x7_1 + 1)) : Int).toNat)) := ⟨_, rfl⟩
                   replace H : (idiomref01_Fill.l0 k1 a0 l1 y140 (wrap64 (x7_1 + 1))) = some (r1, r2) := by first | (rw [hy140]; with_reducible exact H) | (have H2_ := (Option.bind_some _ _).symm.trans H; rw [hy140]; with_reducible exact H2_) | (have H2_ := (Option.bind_some _ _).symm.trans H; with_reducible exact H2_) | with_reducible exact H | (rw [hy140]; exact H) | exact H
                   have Ny140 := Aside0.mk hy140
                   clear hy140
                   have H' := Aside0.mk H
                   clear H
                   have p10 : 0 ≤ (x7_1 : Int) := of_decide_eq_true qa
                   have q10 : x7_1 < (a0.size : Int) := of_decide_eq_true qa
                   have hx10 := bt_at a0 x7_1
                   replace p10 := eq_true p10
                   replace q10 := eq_true q10
                   obtain ⟨Ao42, co42, eo42⟩ := Kd.R_slice HO_6.out
                   subst eo42
                   go_wp2_with (first | (at_builtin; refine print_append_str (w0 := w) w.heap.size rfl (.tmp 73) _ 41 9 5 rfl Tryd.underlying41 Tryd.underlying9 info5 (.slice Ao42 x6_1.length co42) x6_1 (a0.extract (x7_1 : Int).toNat ((wrap64 (x7_1 + 1)) : Int).toNat) rfl rfl ?aO ?aB ?aS ?aL ?_; (case aB => exact (qh HB)); (case aO => exact (Kd.own_of_R (by (with_reducible repeat (first | apply Kd.R_alloc | apply Kd.R_drewN | apply Kd.R_drew)); exact HO_6.out))); (case aS => exact (below_size (qh HB))); (case aL => have := LMc41.out; omega); intro v141 w43 ho0 hb hg; have ho := Kd.R_of_own (h1 := fun _ => rfl) (ok := fun _ => True) ho0 (fun _ _ => trivial); clear ho0; have hat := True.intro; rw [← Ny140.out] at ho; change Kd.R (Kd.int .u8) 5 w43 w.heap.size (fun _ => True) v141 y140 at ho; have n0_ := Aside0.mk (hb); have n1_ := Aside0.mk (ho); clear HB; clear HO_6; have HB := n0_; have HO142 := n1_; clear n0_ n1_; clear ho hb hg hat))
                   go_roundg k1
                   case measure => have := HK1.out; omega
                   case rel => exact ⟨(y140), (wrap64 (x7_1 + 1)), (by first | rfl | (simp; done) | (simp [*]; done)), H', ⟨by have := HK1.out; omega⟩, ⟨by (with_reducible repeat (first | apply Kd.R_alloc | apply Kd.R_drewN | apply Kd.R_drew)); exact HO142.out⟩, ⟨qh HB⟩⟩
                 · rw [if_neg c41] at H
                   exact absurd H (by simp)
           · rw [if_neg c9] at H
             exact absurd H (by simp)
         · rw [if_neg c8] at H
           exact absurd H (by simp)
       · rw [if_neg c7] at H
         exact absurd H (by simp)
     · rw [if_neg c6] at H
       have c6b0 : decide (x7_1 < (a0.size : Int)) = false := decide_eq_false c6
       clear c6
       simp only [Option.some.injEq, Prod.mk.injEq] at H
       obtain ⟨rfl, rfl⟩ := H
       have hcv44 := own_string (P := Tryd.prog) Tryd.underlying41 Tryd.underlying5 Tryd.underlying9 (Kd.own_of_R HO_6.out)
       go_wp2
       go_ret2
       exact ⟨qe, qh HB⟩

end Go.Proofs.YtigikjihagmokaaDoor.F
namespace Go.Proofs.YtigikjihagmokaaDoor.F
open Go.RowKit Go.Proofs.YtigikjihagmokaaDoorW.PrintWords Go.Proofs.YtigikjihagmokaaDoorW.PrintLast Go.Proofs.YtigikjihagmokaaDoorW.PrintMore Go.Proofs.YtigikjihagmokaaDoor.Q
attribute [local go_sem] max2_int min2_int max_two min_two max_three min_three max_four min_four   -- for this text's walks alone
set_option linter.unusedVariables false
set_option linter.unusedSimpArgs false

mutual
def idiomlaw01_RunesFills.l0 : Nat → ByteArray → List ByteArray → List ByteArray → Int → Option (Bool)
 | 0, _, _, _, _ => none
 | k + 1, x0, x1, x5, x6 => if x6 < (x1.length : Int) then (if 0 ≤ x6 then (if x5.length < 8796093022208 then (idiomlaw01_RunesFills.l0 k x0 x1 (x5 ++ [rdOf ByteArray.empty x1 x6]) (wrap64 (x6 + 1))) else (none)) else (none)) else ((runes_Fill.f x0 x5).bind fun bt150 => ((idiomref01_Fill.f k x0 x1).bind fun bt152 => (if (x5.length : Int) = (x1.length : Int) then (idiomlaw01_RunesFills.l1 k x1 x5 bt150.1 bt150.2 bt152.1 bt152.2 0) else (none))))
def idiomlaw01_RunesFills.l1 : Nat → List ByteArray → List ByteArray → ByteArray → Int → ByteArray → Int → Int → Option (Bool)
 | 0, _, _, _, _, _, _, _ => none
 | k + 1, x1, x5, x7, x8, x9, x10, x11 => if x11 < (x1.length : Int) then (if 0 ≤ x11 then (if x11 < (x5.length : Int) then (if (rdOf ByteArray.empty x5 x11).toList = (rdOf ByteArray.empty x1 x11).toList then (idiomlaw01_RunesFills.l1 k x1 x5 x7 x8 x9 x10 (wrap64 (x11 + 1))) else (none)) else (none)) else (none)) else (if x7.toList = x9.toList then (if x8 = x10 then ((idiomlaw01_awake.f).bind fun t156 => (some t156)) else (none)) else (none))
end
def idiomlaw01_RunesFills.f (k : Nat) (a0 : ByteArray) (l1 : List ByteArray) : Option (Bool) := idiomlaw01_RunesFills.l0 k a0 l1 (([] : List ByteArray)) 0
theorem idiomlaw01_RunesFills.mono_l : ∀ k, (∀ y0 y1 y2 y3, LeO (idiomlaw01_RunesFills.l0 k y0 y1 y2 y3) (idiomlaw01_RunesFills.l0 (k + 1) y0 y1 y2 y3)) ∧ (∀ y0 y1 y2 y3 y4 y5 y6, LeO (idiomlaw01_RunesFills.l1 k y0 y1 y2 y3 y4 y5 y6) (idiomlaw01_RunesFills.l1 (k + 1) y0 y1 y2 y3 y4 y5 y6))
 | 0 => ⟨fun _ _ _ _ r h => by simp [idiomlaw01_RunesFills.l0] at h, fun _ _ _ _ _ _ _ r h => by simp [idiomlaw01_RunesFills.l1] at h⟩
 | k + 1 => by
  obtain ⟨ih0, ih1⟩ := idiomlaw01_RunesFills.mono_l k
  refine ⟨?_, ?_⟩
  · intro y0 y1 y2 y3
    unfold idiomlaw01_RunesFills.l0
    repeat' first
    | (with_reducible exact ih0 _ _ _ _)
    | (with_reducible exact ih1 _ _ _ _ _ _ _)
    | (with_reducible exact idiomref01_Fill.mono _ _ _)
    | (with_reducible exact LeO.refl _)
    | (with_reducible exact LeO.none _)
    | (with_reducible refine LeO.ite ?_ ?_)
    | (with_reducible refine LeO.bind ?_ (fun _ => ?_))
    | exact ih0 _ _ _ _
    | exact ih1 _ _ _ _ _ _ _
    | exact idiomref01_Fill.mono _ _ _
    | exact LeO.none _
    | refine LeO.ite ?_ ?_
    | refine LeO.bind ?_ (fun _ => ?_)
  · intro y0 y1 y2 y3 y4 y5 y6
    unfold idiomlaw01_RunesFills.l1
    repeat' first
    | (with_reducible exact ih0 _ _ _ _)
    | (with_reducible exact ih1 _ _ _ _ _ _ _)
    | (with_reducible exact idiomref01_Fill.mono _ _ _)
    | (with_reducible exact LeO.refl _)
    | (with_reducible exact LeO.none _)
    | (with_reducible refine LeO.ite ?_ ?_)
    | (with_reducible refine LeO.bind ?_ (fun _ => ?_))
    | exact ih0 _ _ _ _
    | exact ih1 _ _ _ _ _ _ _
    | exact idiomref01_Fill.mono _ _ _
    | exact LeO.none _
    | refine LeO.ite ?_ ?_
    | refine LeO.bind ?_ (fun _ => ?_)
theorem idiomlaw01_RunesFills.mono : ∀ a0 a1 k, LeO (idiomlaw01_RunesFills.f k a0 a1) (idiomlaw01_RunesFills.f (k + 1) a0 a1) := by
 intro a0 a1 k
 obtain ⟨ih0, ih1⟩ := idiomlaw01_RunesFills.mono_l k
 unfold idiomlaw01_RunesFills.f
 repeat' first
  | (with_reducible exact ih0 _ _ _ _)
  | (with_reducible exact ih1 _ _ _ _ _ _ _)
  | (with_reducible exact idiomref01_Fill.mono _ _ _)
  | (with_reducible exact LeO.refl _)
  | (with_reducible exact LeO.none _)
  | (with_reducible refine LeO.ite ?_ ?_)
  | (with_reducible refine LeO.bind ?_ (fun _ => ?_))
  | exact ih0 _ _ _ _
  | exact ih1 _ _ _ _ _ _ _
  | exact idiomref01_Fill.mono _ _ _
  | exact LeO.none _
  | refine LeO.ite ?_ ?_
  | refine LeO.bind ?_ (fun _ => ?_)
set_option maxHeartbeats 8000000 in
set_option maxRecDepth 100000 in
theorem idiomlaw01_RunesFills.calls (k : Nat) (a0 : ByteArray) (A1 : Option Addr) (c1 : Nat) (l1 : List ByteArray) (r : Bool) (w : World) (hr1 : Kd.C Kd.string w A1 l1.length l1) (hc1 : l1.length ≤ c1) (h : idiomlaw01_RunesFills.f k a0 l1 = some r) :
 Calls Tryd.prog 5 #[.string a0, .slice A1 l1.length c1] w fun e w' => e = .returned (.bool r) ∧ Below w.heap.size w w' := by
 have HR1 := Aside0.mk hr1
 have HC1 := Aside0.mk hc1
 clear hr1 hc1
 have HB := Aside0.mk (Below.refl w.heap.size w)
 have H : (idiomlaw01_RunesFills.l0 k a0 l1 (([] : List ByteArray)) 0) = some r := h
 clear h
 obtain ⟨y143, hy143⟩ : ∃ y_ : List ByteArray, y_ = (([] : List ByteArray)) := ⟨_, rfl⟩
 replace H : (idiomlaw01_RunesFills.l0 k a0 l1 y143 0) = some r := by first | (rw [hy143]; with_reducible exact H) | (have H2_ := (Option.bind_some _ _).symm.trans H; rw [hy143]; with_reducible exact H2_) | (have H2_ := (Option.bind_some _ _).symm.trans H; with_reducible exact H2_) | with_reducible exact H | (rw [hy143]; exact H) | exact H
 have Ny143 := Aside0.mk hy143
 clear hy143
 have H' := Aside0.mk H
 clear H
 go_enter Tryd.func5, Tryd.ntmps5
 go_wp2_with (first | ((with_reducible refine gate_dst (N := 12) rfl ?_); refine Kd.R_lit Kd.string _ 9 ?hg (N := 12) ?hd (xs := ([] : List ByteArray)) (inner := []) (ok := fun _ => True) (okp := fun _ => True) ?hr ?hp (fun _ hk => hk) trivial (Below.refl _ _) (Nat.le_refl _) (by simp) ?_; (case hd => rfl); (case hg => rfl); (case hr => first | (go_simp; done) | (go_simp; rfl)); (case hp => exact (Reps.none _ _)); intro v144 w3 ho4 hb hg_ hnew_; clear hg_ hnew_; (first | rw [← Ny143.out] at ho4 | (simp only [Int.reduceToNat] at ho4; rw [← Ny143.out] at ho4)); have HO145 := Aside0.mk (Kd.R_lower ho4 (below_size (qh HB))); replace HB := qn HB hb; clear hb ho4))
 repeat (go_quiet (first | ((with_reducible refine gate_dst (N := 12) rfl ?_); refine Kd.R_lit Kd.string _ 9 ?hg (N := 12) ?hd (xs := ([] : List ByteArray)) (inner := []) (ok := fun _ => True) (okp := fun _ => True) ?hr ?hp (fun _ hk => hk) trivial (Below.refl _ _) (Nat.le_refl _) (by simp) ?_; (case hd => rfl); (case hg => rfl); (case hr => first | (go_simp; done) | (go_simp; rfl)); (case hp => exact (Reps.none _ _)); intro v144 w3 ho4 hb hg_ hnew_; clear hg_ hnew_; (first | rw [← Ny143.out] at ho4 | (simp only [Int.reduceToNat] at ho4; rw [← Ny143.out] at ho4)); have HO145 := Aside0.mk (Kd.R_lower ho4 (below_size (qh HB))); replace HB := qn HB hb; clear hb ho4)); try go_wp2_with (first | ((with_reducible refine gate_dst (N := 12) rfl ?_); refine Kd.R_lit Kd.string _ 9 ?hg (N := 12) ?hd (xs := ([] : List ByteArray)) (inner := []) (ok := fun _ => True) (okp := fun _ => True) ?hr ?hp (fun _ hk => hk) trivial (Below.refl _ _) (Nat.le_refl _) (by simp) ?_; (case hd => rfl); (case hg => rfl); (case hr => first | (go_simp; done) | (go_simp; rfl)); (case hp => exact (Reps.none _ _)); intro v144 w3 ho4 hb hg_ hnew_; clear hg_ hnew_; (first | rw [← Ny143.out] at ho4 | (simp only [Int.reduceToNat] at ho4; rw [← Ny143.out] at ho4)); have HO145 := Aside0.mk (Kd.R_lower ho4 (below_size (qh HB))); replace HB := qn HB hb; clear hb ho4)))
 (try simp only [Act.put, List.setIfInBounds_toArray, List.set_cons_zero, List.set_cons_succ])
 go_loopg [5, 6] k (fun kq v5 v6 w' => ∃ (x5_1 : List ByteArray) (x6_1 : Int), v6 = .int .i64 x6_1 ∧ Aside0 (idiomlaw01_RunesFills.l0 kq a0 l1 x5_1 x6_1 = some r) ∧ Aside0 (kq ≤ k) ∧ Aside0 (Kd.R Kd.string 9 w' w.heap.size (fun _ => True) v5 x5_1) ∧ Aside0 (Below w.heap.size w w'))
 case atStart => exact ⟨(y143), (0), (by first | rfl | (simp; done) | (simp [*]; done)), H', ⟨Nat.le_refl _⟩, ⟨by (with_reducible repeat (first | apply Kd.R_alloc | apply Kd.R_drewN | apply Kd.R_drew)); exact HO145.out⟩, ⟨qh HB⟩⟩
 case round =>
  clear H'
  try clear c1
  try clear p2
  obtain ⟨x5_1, x6_1, rfl, HA, HK1, HO_5, HB⟩ := hrel
  cases gk with
  | zero => exact absurd HA.out (by simp [idiomlaw01_RunesFills.l0])
  | succ k1 =>
   have H := HA.out
   clear HA
   simp only [idiomlaw01_RunesFills.l0] at H
   by_cases c5 : x6_1 < (l1.length : Int)
   · rw [if_pos c5] at H
     have c5b0 : decide (x6_1 < (l1.length : Int)) = true := decide_eq_true c5
     clear c5
     by_cases c6 : 0 ≤ x6_1
     · rw [if_pos c6] at H
       have c6b0 : decide (0 ≤ x6_1) = true := decide_eq_true c6
       clear c6
       by_cases c7 : x5_1.length < 8796093022208
       · rw [if_pos c7] at H
         have LMc7 := Aside0.mk c7
         clear c7
         obtain ⟨y147, hy147⟩ : ∃ y_ : List ByteArray, y_ = (x5_1 ++ [rdOf ByteArray.empty l1 x6_1]) := ⟨_, rfl⟩
         replace H : (idiomlaw01_RunesFills.l0 k1 a0 l1 y147 (wrap64 (x6_1 + 1))) = some r := by first | (rw [hy147]; with_reducible exact H) | (have H2_ := (Option.bind_some _ _).symm.trans H; rw [hy147]; with_reducible exact H2_) | (have H2_ := (Option.bind_some _ _).symm.trans H; with_reducible exact H2_) | with_reducible exact H | (rw [hy147]; exact H) | exact H
         have Ny147 := Aside0.mk hy147
         clear hy147
         have H' := Aside0.mk H
         clear H
         have p146 : 0 ≤ (x6_1 : Int) := of_decide_eq_true qa
         have q146 : x6_1 < (l1.length : Int) := of_decide_eq_true qa
         obtain ⟨ad146, e146, hx146_0⟩ := Kd.at_string HR1.out x6_1 p146 q146
         cases e146
         replace hx146_0 := (HB.out.cell (World.block_lt_of_cell? w _ hx146_0)).trans hx146_0
         replace p146 := eq_true p146
         replace q146 := eq_true q146
         go_wp2_with (first | ((with_reducible refine gate_builtin (b := .append) (xs := #[.tmp 19, .tmp 24]) rfl ?_); at_builtin; refine Kd.R_append Kd.string (w0 := w) w.heap.size rfl (.tmp 19) (.tmp 24) 26 9 (.string ⟨#[]⟩) 16 rfl Tryd.underlying26 info9 rfl (by decide) (by omega) u5 x5_1 (rdOf ByteArray.empty l1 x6_1) [.string (rdOf ByteArray.empty l1 x6_1)] (fun _ => True) (fun _ => False) rfl rfl ?aP (fun _ hk => hk.elim) ?aF ?aO ?aB ?aS ?aL ?_; (case aP => exact rfl); (case aB => exact (qh HB)); (case aF => exact (fun _ _ => trivial)); (case aO => exact (by (with_reducible repeat (first | apply Kd.R_alloc | apply Kd.R_drewN | apply Kd.R_drew)); exact HO_5.out)); (case aS => exact (below_size (qh HB))); (case aL => have := LMc7.out; omega); intro v148 w8 ho hb hg hat; rw [← Ny147.out] at ho; have n0_ := Aside0.mk (hb); have n1_ := Aside0.mk (ho); clear HB; clear HO_5; have HB := n0_; have HO149 := n1_; clear n0_ n1_; clear ho hb hg hat))
         repeat (go_quiet (first | ((with_reducible refine gate_builtin (b := .append) (xs := #[.tmp 19, .tmp 24]) rfl ?_); at_builtin; refine Kd.R_append Kd.string (w0 := w) w.heap.size rfl (.tmp 19) (.tmp 24) 26 9 (.string ⟨#[]⟩) 16 rfl Tryd.underlying26 info9 rfl (by decide) (by omega) u5 x5_1 (rdOf ByteArray.empty l1 x6_1) [.string (rdOf ByteArray.empty l1 x6_1)] (fun _ => True) (fun _ => False) rfl rfl ?aP (fun _ hk => hk.elim) ?aF ?aO ?aB ?aS ?aL ?_; (case aP => exact rfl); (case aB => exact (qh HB)); (case aF => exact (fun _ _ => trivial)); (case aO => exact (by (with_reducible repeat (first | apply Kd.R_alloc | apply Kd.R_drewN | apply Kd.R_drew)); exact HO_5.out)); (case aS => exact (below_size (qh HB))); (case aL => have := LMc7.out; omega); intro v148 w8 ho hb hg hat; rw [← Ny147.out] at ho; have n0_ := Aside0.mk (hb); have n1_ := Aside0.mk (ho); clear HB; clear HO_5; have HB := n0_; have HO149 := n1_; clear n0_ n1_; clear ho hb hg hat)); try go_wp2_with (first | ((with_reducible refine gate_builtin (b := .append) (xs := #[.tmp 19, .tmp 24]) rfl ?_); at_builtin; refine Kd.R_append Kd.string (w0 := w) w.heap.size rfl (.tmp 19) (.tmp 24) 26 9 (.string ⟨#[]⟩) 16 rfl Tryd.underlying26 info9 rfl (by decide) (by omega) u5 x5_1 (rdOf ByteArray.empty l1 x6_1) [.string (rdOf ByteArray.empty l1 x6_1)] (fun _ => True) (fun _ => False) rfl rfl ?aP (fun _ hk => hk.elim) ?aF ?aO ?aB ?aS ?aL ?_; (case aP => exact rfl); (case aB => exact (qh HB)); (case aF => exact (fun _ _ => trivial)); (case aO => exact (by (with_reducible repeat (first | apply Kd.R_alloc | apply Kd.R_drewN | apply Kd.R_drew)); exact HO_5.out)); (case aS => exact (below_size (qh HB))); (case aL => have := LMc7.out; omega); intro v148 w8 ho hb hg hat; rw [← Ny147.out] at ho; have n0_ := Aside0.mk (hb); have n1_ := Aside0.mk (ho); clear HB; clear HO_5; have HB := n0_; have HO149 := n1_; clear n0_ n1_; clear ho hb hg hat)))
         go_roundg k1
         case measure => have := HK1.out; omega
         case rel => exact ⟨(y147), (wrap64 (x6_1 + 1)), (by first | rfl | (simp; done) | (simp [*]; done)), H', ⟨by have := HK1.out; omega⟩, ⟨by (with_reducible repeat (first | apply Kd.R_alloc | apply Kd.R_drewN | apply Kd.R_drew)); exact HO149.out⟩, ⟨qh HB⟩⟩
       · rw [if_neg c7] at H
         exact absurd H (by simp)
     · rw [if_neg c6] at H
       exact absurd H (by simp)
   · rw [if_neg c5] at H
     have c5b0 : decide (x6_1 < (l1.length : Int)) = false := decide_eq_false c5
     clear c5
     replace H := Option.bind_eq_some_iff.mp H
     obtain ⟨⟨t150, t151⟩, A90, H⟩ := H
     replace H : ((idiomref01_Fill.f k1 a0 l1).bind fun bt152 => (if (x5_1.length : Int) = (l1.length : Int) then (idiomlaw01_RunesFills.l1 k1 l1 x5_1 t150 t151 bt152.1 bt152.2 0) else (none))) = some r := H
     have A9 := Aside0.mk A90
     clear A90
     replace H := Option.bind_eq_some_iff.mp H
     obtain ⟨⟨t152, t153⟩, A100, H⟩ := H
     replace H : (if (x5_1.length : Int) = (l1.length : Int) then (idiomlaw01_RunesFills.l1 k1 l1 x5_1 t150 t151 t152 t153 0) else (none)) = some r := H
     have A10 := Aside0.mk A100
     clear A100
     by_cases c11 : (x5_1.length : Int) = (l1.length : Int)
     · rw [if_pos c11] at H
       have c11b0 : ((x5_1.length : Int) == (l1.length : Int)) = true := beq_iff_eq.mpr c11
       have c11b1 : ((x5_1.length : Int) != (l1.length : Int)) = false := bne_eq_false_iff_eq.mpr c11
       try have c11b1z := c11b1
       (try simp only [bne] at c11b1z)
       have c11b2 : (x5_1.length == l1.length) = true := by first | simpa using c11 | (simp at c11 ⊢; omega)
       clear c11
       have H' := Aside0.mk H
       clear H
       obtain ⟨Ao12, co12, eo12⟩ := Kd.R_slice HO_5.out
       subst eo12
       go_wp2_with (first | (go_at_call 19; (with_reducible refine (runes_Fill.calls a0 _ _ x5_1 t150 t151 _ ?side1 ?side2 A9.out).mono ?_); (case side1 => repeat (first | exact (Kd.R_reads' HO_5.out).2.2 | (with_reducible refine Kd.C_alloc ?_ _) | (with_reducible refine Kd.C_drewN ?_ _) | (with_reducible refine Kd.C_drew ?_))); (case side2 => exact (Kd.R_reads' HO_5.out).2.1); rintro e w13 ⟨rfl, hb⟩; replace HO_5 := Aside0.mk (Kd.R_below (by (with_reducible repeat (first | apply Kd.R_alloc | apply Kd.R_drewN | apply Kd.R_drew)); exact HO_5.out) hb); replace HB := qn HB hb; (try clear hb); (try clear hb2); (try clear hk); (try clear hi)) | (go_at_call 20; (with_reducible refine (idiomref01_Fill.calls k1 a0 _ _ l1 t152 t153 _ ?side1 ?side2 A10.out).mono ?_); (case side1 => repeat (first | exact (Kd.C_below HR1.out HB.out) | (with_reducible refine Kd.C_alloc ?_ _) | (with_reducible refine Kd.C_drewN ?_ _) | (with_reducible refine Kd.C_drew ?_))); (case side2 => exact HC1.out); rintro e w14 ⟨rfl, hb⟩; replace HO_5 := Aside0.mk (Kd.R_below (by (with_reducible repeat (first | apply Kd.R_alloc | apply Kd.R_drewN | apply Kd.R_drew)); exact HO_5.out) hb); replace HB := qn HB hb; (try clear hb); (try clear hb2); (try clear hk); (try clear hi)))
       repeat (go_quiet (first | (go_at_call 19; (with_reducible refine (runes_Fill.calls a0 _ _ x5_1 t150 t151 _ ?side1 ?side2 A9.out).mono ?_); (case side1 => repeat (first | exact (Kd.R_reads' HO_5.out).2.2 | (with_reducible refine Kd.C_alloc ?_ _) | (with_reducible refine Kd.C_drewN ?_ _) | (with_reducible refine Kd.C_drew ?_))); (case side2 => exact (Kd.R_reads' HO_5.out).2.1); rintro e w13 ⟨rfl, hb⟩; replace HO_5 := Aside0.mk (Kd.R_below (by (with_reducible repeat (first | apply Kd.R_alloc | apply Kd.R_drewN | apply Kd.R_drew)); exact HO_5.out) hb); replace HB := qn HB hb; (try clear hb); (try clear hb2); (try clear hk); (try clear hi)) | (go_at_call 20; (with_reducible refine (idiomref01_Fill.calls k1 a0 _ _ l1 t152 t153 _ ?side1 ?side2 A10.out).mono ?_); (case side1 => repeat (first | exact (Kd.C_below HR1.out HB.out) | (with_reducible refine Kd.C_alloc ?_ _) | (with_reducible refine Kd.C_drewN ?_ _) | (with_reducible refine Kd.C_drew ?_))); (case side2 => exact HC1.out); rintro e w14 ⟨rfl, hb⟩; replace HO_5 := Aside0.mk (Kd.R_below (by (with_reducible repeat (first | apply Kd.R_alloc | apply Kd.R_drewN | apply Kd.R_drew)); exact HO_5.out) hb); replace HB := qn HB hb; (try clear hb); (try clear hb2); (try clear hk); (try clear hi))); try go_wp2_with (first | (go_at_call 19; (with_reducible refine (runes_Fill.calls a0 _ _ x5_1 t150 t151 _ ?side1 ?side2 A9.out).mono ?_); (case side1 => repeat (first | exact (Kd.R_reads' HO_5.out).2.2 | (with_reducible refine Kd.C_alloc ?_ _) | (with_reducible refine Kd.C_drewN ?_ _) | (with_reducible refine Kd.C_drew ?_))); (case side2 => exact (Kd.R_reads' HO_5.out).2.1); rintro e w13 ⟨rfl, hb⟩; replace HO_5 := Aside0.mk (Kd.R_below (by (with_reducible repeat (first | apply Kd.R_alloc | apply Kd.R_drewN | apply Kd.R_drew)); exact HO_5.out) hb); replace HB := qn HB hb; (try clear hb); (try clear hb2); (try clear hk); (try clear hi)) | (go_at_call 20; (with_reducible refine (idiomref01_Fill.calls k1 a0 _ _ l1 t152 t153 _ ?side1 ?side2 A10.out).mono ?_); (case side1 => repeat (first | exact (Kd.C_below HR1.out HB.out) | (with_reducible refine Kd.C_alloc ?_ _) | (with_reducible refine Kd.C_drewN ?_ _) | (with_reducible refine Kd.C_drew ?_))); (case side2 => exact HC1.out); rintro e w14 ⟨rfl, hb⟩; replace HO_5 := Aside0.mk (Kd.R_below (by (with_reducible repeat (first | apply Kd.R_alloc | apply Kd.R_drewN | apply Kd.R_drew)); exact HO_5.out) hb); replace HB := qn HB hb; (try clear hb); (try clear hb2); (try clear hk); (try clear hi))))
       (try simp only [Act.put, List.setIfInBounds_toArray, List.set_cons_zero, List.set_cons_succ])
       go_loopg [11] k1 (fun kq v11 w' => ∃ (x11_2 : Int), v11 = .int .i64 x11_2 ∧ Aside0 (idiomlaw01_RunesFills.l1 kq l1 x5_1 t150 t151 t152 t153 x11_2 = some r) ∧ Aside0 (kq ≤ k1) ∧ Aside0 (Kd.R Kd.string 9 w' w.heap.size (fun _ => True) (.slice Ao12 x5_1.length co12) x5_1) ∧ Aside0 (Below w.heap.size w w'))
       case atStart => exact ⟨(0), (by first | rfl | (simp; done) | (simp [*]; done)), H', ⟨Nat.le_refl _⟩, ⟨by (with_reducible repeat (first | apply Kd.R_alloc | apply Kd.R_drewN | apply Kd.R_drew)); exact HO_5.out⟩, ⟨qh HB⟩⟩
       case round =>
        clear H'
        try clear c1
        try clear p1
        try clear q1
        try clear hx1
        try clear p2
        try clear c5
        try clear c5b0
        try clear c6
        try clear c6b0
        try clear p6
        try clear c7
        try clear c11
        try clear c11b0
        try clear c11b1
        try clear c11b2
        try clear p14
        try clear q14
        try clear hx14
        try clear hx146_0
        try clear p146
        try clear p2
        try clear q146
        obtain ⟨x11_2, rfl, HA, HK2, HO_5, HB⟩ := hrel
        cases gk with
        | zero => exact absurd HA.out (by simp [idiomlaw01_RunesFills.l1])
        | succ k2 =>
         have H := HA.out
         clear HA
         simp only [idiomlaw01_RunesFills.l1] at H
         by_cases c15 : x11_2 < (l1.length : Int)
         · rw [if_pos c15] at H
           have c15b0 : decide (x11_2 < (l1.length : Int)) = true := decide_eq_true c15
           clear c15
           by_cases c16 : 0 ≤ x11_2
           · rw [if_pos c16] at H
             have c16b0 : decide (0 ≤ x11_2) = true := decide_eq_true c16
             clear c16
             by_cases c17 : x11_2 < (x5_1.length : Int)
             · rw [if_pos c17] at H
               have c17b0 : decide (x11_2 < (x5_1.length : Int)) = true := decide_eq_true c17
               clear c17
               by_cases c18 : (rdOf ByteArray.empty x5_1 x11_2).toList = (rdOf ByteArray.empty l1 x11_2).toList
               · rw [if_pos c18] at H
                 have c18b0 : ((rdOf ByteArray.empty x5_1 x11_2).toList == (rdOf ByteArray.empty l1 x11_2).toList) = true := beq_iff_eq.mpr c18
                 have c18b1 : ((rdOf ByteArray.empty x5_1 x11_2).toList != (rdOf ByteArray.empty l1 x11_2).toList) = false := bne_eq_false_iff_eq.mpr c18
                 clear c18
                 have H' := Aside0.mk H
                 clear H
                 have p154 : 0 ≤ (x11_2 : Int) := of_decide_eq_true qa
                 have q154 : x11_2 < (x5_1.length : Int) := of_decide_eq_true qa
                 obtain ⟨ad154, e154, hx154_0⟩ := Kd.at_string (Kd.R_reads' HO_5.out).2.2 x11_2 p154 q154
                 cases e154
                 replace p154 := eq_true p154
                 replace q154 := eq_true q154
                 have p155 : 0 ≤ (x11_2 : Int) := of_decide_eq_true qa
                 have q155 : x11_2 < (l1.length : Int) := of_decide_eq_true qa
                 obtain ⟨ad155, e155, hx155_0⟩ := Kd.at_string HR1.out x11_2 p155 q155
                 cases e155
                 replace hx155_0 := (HB.out.cell (World.block_lt_of_cell? w _ hx155_0)).trans hx155_0
                 replace p155 := eq_true p155
                 replace q155 := eq_true q155
                 go_wp2
                 repeat (go_quiet (fail); try go_wp2)
                 go_roundg k2
                 case measure => have := HK1.out; have := HK2.out; omega
                 case rel => exact ⟨(wrap64 (x11_2 + 1)), (by first | rfl | (simp; done) | (simp [*]; done)), H', ⟨by have := HK1.out; have := HK2.out; omega⟩, ⟨by (with_reducible repeat (first | apply Kd.R_alloc | apply Kd.R_drewN | apply Kd.R_drew)); exact HO_5.out⟩, ⟨qh HB⟩⟩
               · rw [if_neg c18] at H
                 exact absurd H (by simp)
             · rw [if_neg c17] at H
               exact absurd H (by simp)
           · rw [if_neg c16] at H
             exact absurd H (by simp)
         · rw [if_neg c15] at H
           have c15b0 : decide (x11_2 < (l1.length : Int)) = false := decide_eq_false c15
           clear c15
           by_cases c19 : t150.toList = t152.toList
           · rw [if_pos c19] at H
             have c19b0 : (t150.toList == t152.toList) = true := beq_iff_eq.mpr c19
             have c19b1 : (t150.toList != t152.toList) = false := bne_eq_false_iff_eq.mpr c19
             clear c19
             by_cases c20 : t151 = t153
             · rw [if_pos c20] at H
               have c20b0 : (t151 == t153) = true := beq_iff_eq.mpr c20
               have c20b1 : (t151 != t153) = false := bne_eq_false_iff_eq.mpr c20
               try have c20b1z := c20b1
               (try simp only [bne] at c20b1z)
               clear c20
               replace H := Option.bind_eq_some_iff.mp H
               obtain ⟨t156, A210, H⟩ := H
               replace H : (some t156) = some r := H
               have A21 := Aside0.mk A210
               clear A210
               obtain rfl := Option.some.inj H
               go_wp2_with (first | (go_at_call 16; (with_reducible refine (idiomlaw01_awake.calls  t156 _ A21.out).mono ?_); rintro e w22 ⟨rfl, hb⟩; replace HO_5 := Aside0.mk (Kd.R_below (by (with_reducible repeat (first | apply Kd.R_alloc | apply Kd.R_drewN | apply Kd.R_drew)); exact HO_5.out) hb); replace HB := qn HB hb; (try clear hb); (try clear hb2); (try clear hk); (try clear hi)))
               repeat (go_quiet (first | (go_at_call 16; (with_reducible refine (idiomlaw01_awake.calls  t156 _ A21.out).mono ?_); rintro e w22 ⟨rfl, hb⟩; replace HO_5 := Aside0.mk (Kd.R_below (by (with_reducible repeat (first | apply Kd.R_alloc | apply Kd.R_drewN | apply Kd.R_drew)); exact HO_5.out) hb); replace HB := qn HB hb; (try clear hb); (try clear hb2); (try clear hk); (try clear hi))); try go_wp2_with (first | (go_at_call 16; (with_reducible refine (idiomlaw01_awake.calls  t156 _ A21.out).mono ?_); rintro e w22 ⟨rfl, hb⟩; replace HO_5 := Aside0.mk (Kd.R_below (by (with_reducible repeat (first | apply Kd.R_alloc | apply Kd.R_drewN | apply Kd.R_drew)); exact HO_5.out) hb); replace HB := qn HB hb; (try clear hb); (try clear hb2); (try clear hk); (try clear hi))))
               go_ret
               exact ⟨qe, qh HB⟩
             · rw [if_neg c20] at H
               exact absurd H (by simp)
           · rw [if_neg c19] at H
             exact absurd H (by simp)
     · rw [if_neg c11] at H
       exact absurd H (by simp)

end Go.Proofs.YtigikjihagmokaaDoor.F
set_option linter.unusedVariables false
set_option linter.unusedSimpArgs false
namespace Go.Proofs.YtigikjihagmokaaDoor.RunesAwake
open Go.RowKit Go.Proofs.YtigikjihagmokaaDoorW.PrintWords Go.Proofs.YtigikjihagmokaaDoorW.PrintLast Go.Proofs.YtigikjihagmokaaDoorW.PrintMore Go.Proofs.YtigikjihagmokaaDoor.F
theorem Ev.some {α : Type} {g : Nat → Option α} {r : α} (h : ∀ k, g (k + 1) = some r) : Ev g r := Ev.step (f := fun _ => Option.some r) h (Ev.now r)
theorem w64 {x : Int} (h0 : -9223372036854775808 ≤ x) (h1 : x ≤ 9223372036854775807) : wrap64 x = x := by unfold wrap64; omega
theorem toL (l : Array UInt8) : (⟨l⟩ : ByteArray).toList = l.toList := by rw [ByteArray.toList_eq]
theorem awake : idiomlaw01_awake.f = some true := by
  have p0 : Fill.piece ⟨#[123, 49, 125, 45, 123, 48, 125]⟩ [(⟨#[97]⟩ : ByteArray), ⟨#[98]⟩] 0 = some (⟨#[98]⟩, 3) := by
    unfold Fill.piece
    rw [if_pos (by rw [ByteArray.toList_eq]; rfl)]
    rfl
  have p3 : Fill.piece ⟨#[123, 49, 125, 45, 123, 48, 125]⟩ [(⟨#[97]⟩ : ByteArray), ⟨#[98]⟩] 3 = some (⟨#[45]⟩, 4) := by
    unfold Fill.piece
    rw [if_neg (by rw [ByteArray.toList_eq]; decide)]
    rfl
  have p4 : Fill.piece ⟨#[123, 49, 125, 45, 123, 48, 125]⟩ [(⟨#[97]⟩ : ByteArray), ⟨#[98]⟩] 4 = some (⟨#[97]⟩, 7) := by
    unfold Fill.piece
    rw [if_pos (by rw [ByteArray.toList_eq]; rfl)]
    rfl
  have sz : ((⟨#[123, 49, 125, 45, 123, 48, 125]⟩ : ByteArray).size : Int) = 7 := rfl
  have s1 : ((⟨#[98]⟩ : ByteArray).size : Int) = 1 := rfl
  have s2 : ((⟨#[45]⟩ : ByteArray).size : Int) = 1 := rfl
  have s3 : ((⟨#[97]⟩ : ByteArray).size : Int) = 1 := rfl
  have e : Fill.f ⟨#[123, 49, 125, 45, 123, 48, 125]⟩ [(⟨#[97]⟩ : ByteArray), ⟨#[98]⟩] = (⟨#[98, 45, 97]⟩, 0) := by
    unfold Fill.f
    rw [sz, if_neg (by decide), show (⟨#[123, 49, 125, 45, 123, 48, 125]⟩ : ByteArray).size + 1 = 8 from rfl]
    simp only [Fill.go]
    rw [sz, if_pos (by decide), p0]
    simp only []
    rw [s1, if_neg (by decide), if_pos (by decide), p3]
    simp only []
    rw [s2, if_neg (by decide), if_pos (by decide), p4]
    simp only []
    rw [s3, if_neg (by decide), if_neg (by decide)]
    rfl
  unfold idiomlaw01_awake.f runes_Fill.f
  rw [e, Option.bind_some]
  simp only []
  rw [if_pos (by rw [toL])]
  simp only [if_true]
  unfold runes_Ident.f
  rw [if_pos (by rw [toL])]
  rfl
theorem awake_ev : Ev (fun _ : Nat => idiomlaw01_awake.f.bind fun t => some t) true := by rw [awake]; exact Ev.now _
end Go.Proofs.YtigikjihagmokaaDoor.RunesAwake
set_option linter.unusedVariables false
set_option linter.unusedSimpArgs false
namespace Go.Proofs.YtigikjihagmokaaDoor.RunesFills
open Go.RowKit Go.Proofs.YtigikjihagmokaaDoorW.PrintWords Go.Proofs.YtigikjihagmokaaDoorW.PrintLast Go.Proofs.YtigikjihagmokaaDoorW.PrintMore Go.Proofs.YtigikjihagmokaaDoor.F Go.Proofs.YtigikjihagmokaaDoor.RunesAwake
def ints (l : List UInt8) : List Int := l.map fun c => (c.toNat : Int)
theorem ints_length (l : List UInt8) : (ints l).length = l.length := by simp [ints]
theorem str_ints (l : List UInt8) : strOfNums (ints l) = ⟨l.toArray⟩ := by
  simp [strOfNums, ints, Function.comp_def]
theorem len_app (acc : List UInt8) (p : ByteArray) : (acc ++ p.data.toList).length = acc.length + p.size := by
  rw [List.length_append, show p.data.toList.length = p.size from Array.length_toList]
theorem bytesOf_ints (p : ByteArray) : bytesOf p = ints p.data.toList := by
  simp [bytesOf, ints]
theorem ext_one (s : ByteArray) (x : Int) (h0 : 0 ≤ x) (h1 : x < (s.size : Int)) : (s.extract x.toNat (x + 1).toNat).size = 1 ∧ ((s.extract x.toNat (x + 1).toNat).toList = ([123] : List UInt8) ↔ bt s x = 123) := by
  obtain ⟨i, rfl⟩ := Int.eq_ofNat_of_zero_le h0
  have hi : i < s.size := by omega
  have e1 : ((i : Int) + 1).toNat = i + 1 := by omega
  have e2 : ((i : Int)).toNat = i := by omega
  have hd : (s.extract i (i + 1)).data.toList = [s[i]'hi] := by
    rw [ByteArray.data_extract, Array.toList_extract, List.extract_eq_take_drop]
    have hl : i < s.data.toList.length := by rw [Array.length_toList]; exact hi
    rw [show i + 1 - i = 1 by omega, List.drop_eq_getElem_cons hl]
    rfl
  rw [e1, e2]
  constructor
  · rw [ByteArray.size_extract]; omega
  · rw [ByteArray.toList_eq, hd]
    have hb : bt s (i : Int) = ((s[i]'hi).toNat : Int) := by
      have := bt_at s (i : Int) (by rw [e2]; exact hi)
      rw [← this]
      congr 2
    rw [hb]
    constructor
    · intro h
      injection h with h
      rw [h]; rfl
    · intro h
      congr 1
      apply UInt8.toNat_inj.1
      have : (s[i]'hi).toNat = 123 := by omega
      rw [this]; rfl
theorem ref_ev (s : ByteArray) (l : List ByteArray) (hs : s.size ≤ 65536) (hl : l.length ≤ 140737488355328) : ∀ (fuel : Nat) (x : Int) (acc : List UInt8), 0 ≤ x → x ≤ (s.size : Int) → (s.size : Int) + 1 ≤ x + fuel → acc.length ≤ 1048576 →
    Ev (fun k => idiomref01_Fill.l0 k s l (ints acc) x) (Fill.go s l fuel x acc) := by
  intro fuel
  induction fuel with
  | zero => intro x acc h0 h1 h2 h3; omega
  | succ fuel ih =>
    intro x acc h0 h1 h2 h3
    simp only [Fill.go]
    by_cases hx : x < (s.size : Int)
    · rw [if_pos hx]
      obtain ⟨z1, z2⟩ := ext_one s x h0 hx
      have w1 : wrap64 (x + 1) = x + 1 := w64 (by omega) (by omega)
      have w2 : wrap64 (x + 2) = x + 2 := w64 (by omega) (by omega)
      have w3 : wrap64 (x + 3) = x + 3 := w64 (by omega) (by omega)
      have w4 : wrap64 (1048576 - ((ints acc).length : Int)) = 1048576 - (acc.length : Int) := by rw [ints_length, w64 (by omega) (by omega)]
      by_cases hb : bt s x = 123
      · have err : ∀ g : Nat → Option (ByteArray × Int), (∀ k, g k = idiomref01_Fill.j1 k s l (ints acc) x true) → Ev g (⟨#[]⟩, 11) := by
          intro g hg
          refine Ev.congr hg (Ev.some fun k => ?_)
          simp only [idiomref01_Fill.j1]
          rw [if_pos trivial]
        have first : ∀ k, idiomref01_Fill.l0 (k + 1) s l (ints acc) x = if x + 2 ≥ (s.size : Int) then idiomref01_Fill.j1 k s l (ints acc) x true else (idiomref01_Digit.f (bt s (x + 1))).bind fun t162 => if t162 = true then (if bt s (x + 2) = 125 then idiomref01_Fill.j1 k s l (ints acc) x (decide (((bt s (x + 1)) - 48) % 256 ≥ (l.length : Int))) else idiomref01_Fill.j1 k s l (ints acc) x true) else idiomref01_Fill.j1 k s l (ints acc) x true := by
          intro k
          simp only [idiomref01_Fill.l0]
          rw [w1, w2, if_pos hx, if_pos h0, if_pos (by omega), if_pos (by omega), if_pos hb]
          by_cases h : x + 2 ≥ (s.size : Int)
          · rw [if_pos h, if_pos h]
          · rw [if_neg h, if_neg h, if_pos (by omega), if_pos (by omega)]
            congr 1
            funext t
            by_cases ht : t = true
            · rw [if_pos ht, if_pos ht, if_pos (by omega), if_pos (by omega)]
            · rw [if_neg ht, if_neg ht]
        refine Ev.step first ?_
        unfold Fill.piece
        rw [if_pos (z2.2 hb)]
        by_cases h3' : (s.size : Int) < x + 3
        · rw [if_pos h3']
          exact err _ (fun k => if_pos (by omega))
        rw [if_neg h3']
        refine Ev.congr (fun k => if_neg (by omega)) ?_
        have dg : idiomref01_Digit.f (bt s (x + 1)) = some (decide (48 ≤ bt s (x + 1) ∧ bt s (x + 1) ≤ 57)) := by
          unfold idiomref01_Digit.f
          by_cases a : bt s (x + 1) ≥ 48
          · rw [if_pos a]; congr 1; simp; omega
          · rw [if_neg a]; congr 1; simp; omega
        rw [dg]
        refine Ev.congr (fun k => Option.bind_some _ _) ?_
        by_cases d : 48 ≤ bt s (x + 1) ∧ bt s (x + 1) ≤ 57
        · refine Ev.congr (fun k => if_pos (by simp [d])) ?_
          by_cases h125 : bt s (x + 2) = 125
          · rw [if_neg (by simp [h125]), if_neg (by omega), if_neg (by omega)]
            refine Ev.congr (fun k => if_pos h125) ?_
            by_cases hn : (l.length : Int) ≤ bt s (x + 1) - 48
            · rw [if_pos hn]
              exact err _ (fun k => by rw [decide_eq_true (by omega)])
            · rw [if_neg hn]
              have e256 : (bt s (x + 1) - 48) % 256 = bt s (x + 1) - 48 := by omega
              refine Ev.congr (fun k => by rw [decide_eq_false (by omega)]) ?_
              simp only []
              have hP : ∀ p : ByteArray, rdOf ByteArray.empty l (bt s (x + 1) - 48) = p → Ev (fun k => idiomref01_Fill.j1 k s l (ints acc) x false) (if 1048576 - (acc.length : Int) < (p.size : Int) then (⟨#[]⟩, 2) else Fill.go s l fuel (x + 3) (acc ++ p.data.toList)) := by
                intro p hp
                by_cases hbig : 1048576 - (acc.length : Int) < (p.size : Int)
                · rw [if_pos hbig]
                  refine Ev.some fun k => ?_
                  simp only [idiomref01_Fill.j1]
                  rw [w1, e256, if_neg (by decide), if_pos (by omega), if_pos (by omega), if_pos (by omega), if_pos (by omega), w4, hp, if_pos (by omega)]
                · rw [if_neg hbig]
                  have next := ih (x + 3) (acc ++ p.data.toList) (by omega) (by omega) (by omega) (by rw [len_app]; omega)
                  refine Ev.step (fun k => ?_) next
                  simp only [idiomref01_Fill.j1]
                  rw [w1, e256, if_neg (by decide), if_pos (by omega), if_pos (by omega), if_pos (by omega), if_pos (by omega), w4, hp, if_neg (by omega), if_pos (by rw [ints_length]; omega), w3, bytesOf_ints]
                  rw [show ints acc ++ ints p.data.toList = ints (acc ++ p.data.toList) by simp [ints]]
              exact hP _ rfl
          · rw [if_pos (by simp [h125])]
            exact err _ (fun k => if_neg h125)
        · refine Ev.congr (fun k => if_neg (by simp [d])) ?_
          have e : (if bt s (x + 2) ≠ 125 then (none : Option (ByteArray × Int)) else if bt s (x + 1) < 48 then none else if 57 < bt s (x + 1) then none else if (l.length : Int) ≤ bt s (x + 1) - 48 then none else some (rdOf ByteArray.empty l (bt s (x + 1) - 48), x + 3)) = none := by
            by_cases a : bt s (x + 2) ≠ 125
            · rw [if_pos a]
            · rw [if_neg a]
              by_cases b : bt s (x + 1) < 48
              · rw [if_pos b]
              · rw [if_neg b, if_pos (by omega)]
          rw [e]
          exact err _ (fun k => rfl)
      · unfold Fill.piece
        rw [if_neg (fun h => hb (z2.1 h))]
        simp only []
        obtain ⟨p, hp⟩ : ∃ p, s.extract x.toNat (x + 1).toNat = p := ⟨_, rfl⟩
        rw [hp] at z1 ⊢
        by_cases hbig : 1048576 - (acc.length : Int) < (p.size : Int)
        · rw [if_pos hbig]
          refine Ev.some fun k => ?_
          simp only [idiomref01_Fill.l0]
          rw [w1, if_pos hx, if_pos h0, if_pos (by omega), if_pos (by omega), if_neg hb, w4, hp, if_pos (by omega)]
        · rw [if_neg hbig]
          have next := ih (x + 1) (acc ++ p.data.toList) (by omega) (by omega) (by omega) (by rw [len_app]; omega)
          refine Ev.step (fun k => ?_) next
          simp only [idiomref01_Fill.l0]
          rw [w1, if_pos hx, if_pos h0, if_pos (by omega), if_pos (by omega), if_neg hb, w4, hp, if_neg (by omega), if_pos (by rw [ints_length]; omega), bytesOf_ints]
          rw [show ints acc ++ ints p.data.toList = ints (acc ++ p.data.toList) by simp [ints]]
    · rw [if_neg hx]
      refine Ev.some fun k => ?_
      simp only [idiomref01_Fill.l0]
      rw [if_neg hx, str_ints]
theorem fill_ev (s : ByteArray) (l : List ByteArray) (hl : l.length ≤ 140737488355328) : Ev (fun k => idiomref01_Fill.f k s l) (Fill.f s l) := by
  unfold Fill.f
  by_cases h : (s.size : Int) > 65536
  · rw [if_pos h]
    refine Ev.congr (fun k => ?_) (Ev.now _)
    simp only [idiomref01_Fill.f]
    rw [if_pos h]
  · rw [if_neg h]
    have := ref_ev s l (by omega) hl (s.size + 1) 0 [] (by omega) (by omega) (by omega) (by simp)
    refine Ev.congr (fun k => ?_) this
    simp only [idiomref01_Fill.f]
    rw [if_neg h]
    rfl
theorem rd_get (l : List ByteArray) (i : Nat) : rdOf ByteArray.empty l (i : Int) = l.getD i ByteArray.empty := by
  unfold rdOf; rw [Int.toNat_natCast]
theorem law (s : ByteArray) (l : List ByteArray) (hs : s.size ≤ 140737488351232) (hl : l.length * 16 ≤ 140737488351232) : ∃ k, idiomlaw01_RunesFills.f k s l = some true := by
  apply Ev.rounds (g := fun k => idiomlaw01_RunesFills.f k s l)
  have last : ∀ (m i : Nat), l.length - i = m → i ≤ l.length → Ev (fun k => idiomlaw01_RunesFills.l1 k l l (Fill.f s l).1 (Fill.f s l).2 (Fill.f s l).1 (Fill.f s l).2 (i : Int)) true := by
    intro m
    induction m with
    | zero =>
      intro i h1 h2
      refine Ev.step (fun k => ?_) awake_ev
      simp only [idiomlaw01_RunesFills.l1]
      rw [if_neg (by omega), if_pos trivial, if_pos trivial]
    | succ m ih =>
      intro i h1 h2
      refine Ev.step (fun k => ?_) (ih (i + 1) (by omega) (by omega))
      simp only [idiomlaw01_RunesFills.l1]
      have w1 : wrap64 ((i : Int) + 1) = ((i + 1 : Nat) : Int) := by rw [w64 (by omega) (by omega)]; omega
      rw [w1, if_pos (by omega), if_pos (by omega), if_pos (by omega), if_pos trivial]
  have copy : ∀ (m i : Nat), l.length - i = m → i ≤ l.length → Ev (fun k => idiomlaw01_RunesFills.l0 k s l (l.take i) (i : Int)) true := by
    intro m
    induction m with
    | zero =>
      intro i h1 h2
      have e : i = l.length := by omega
      refine Ev.step (f := fun k => (runes_Fill.f s l).bind fun bt150 => ((idiomref01_Fill.f k s l).bind fun bt152 => (if (l.length : Int) = (l.length : Int) then (idiomlaw01_RunesFills.l1 k l l bt150.1 bt150.2 bt152.1 bt152.2 0) else none))) (fun k => ?_) ?_
      · simp only [idiomlaw01_RunesFills.l0]
        rw [if_neg (by omega), List.take_of_length_le (by omega)]
        simp only [if_true]
      · refine Ev.bind (Ev.now (Fill.f s l)) (Ev.bind (fill_ev s l (by omega)) ?_)
        exact Ev.congr (fun k => by rw [if_pos rfl]) (show Ev (fun k => idiomlaw01_RunesFills.l1 k l l (Fill.f s l).1 (Fill.f s l).2 (Fill.f s l).1 (Fill.f s l).2 0) true from last l.length 0 (by omega) (by omega))
    | succ m ih =>
      intro i h1 h2
      refine Ev.step (fun k => ?_) (ih (i + 1) (by omega) (by omega))
      simp only [idiomlaw01_RunesFills.l0]
      have w1 : wrap64 ((i : Int) + 1) = ((i + 1 : Nat) : Int) := by rw [w64 (by omega) (by omega)]; omega
      have e : l.take i ++ [l.getD i ByteArray.empty] = l.take (i + 1) := by
        rw [List.take_add_one, List.getElem?_eq_getElem (by omega), List.getD_eq_getElem?_getD, List.getElem?_eq_getElem (by omega)]
        rfl
      rw [w1, if_pos (by omega), if_pos (by omega), if_pos (by rw [List.length_take]; omega), rd_get, e]
  exact copy l.length 0 (by omega) (by omega)
end Go.Proofs.YtigikjihagmokaaDoor.RunesFills
namespace Go.Proofs.YtigikjihagmokaaDoor.Strs
open Go.ChangeShapes Go.WideShapes Go.RowKit Go.Proofs.YtigikjihagmokaaDoorW.PrintWords
set_option linter.unusedVariables false
theorem opened {H : Type} {enc : TypeId × Value → H} {P : Program} {w : World} {base : Nat} {held : Bool} {t e : TypeId} {a : Option Addr} {len cap : Nat} {d : DataW H} {ps : List MemPlace} {ts : List TypeId} {ds : List (DataW H)} {j : Nat} (ht : P.underlying t = some (.slice e)) (he : P.underlying e = some .string) (hc : P.cellsOf e = 1)
    (h : ∃ fuel, DataW.trod enc P w base (fun _ => true) held fuel t (Value.cells (.slice a len cap)).toList = some (d, ps)) (hsz : (DataW.weightsEach P ts ds).all (· ≤ reachBytes) = true) (htj : ts[j]? = some t) (hdj : ds[j]? = some d) (hb : P.bytesOf e = 16) :
    ∃ zs : List ByteArray, zs.length = len ∧ Kd.C Kd.string w a zs.length zs ∧ zs.length ≤ cap ∧ zs.length * 16 ≤ 140737488351232 := by
  obtain ⟨fuel, hf⟩ := h
  rcases open_strings ht he hc hf with ⟨hcs, _⟩ | ⟨x, l, c, ss, hcs, _, hl, hm, hz, hx, hcell, _⟩
  · simp [Value.cells] at hcs
    obtain ⟨rfl, rfl, rfl⟩ := hcs
    exact ⟨[], rfl, Kd.C_nil _ _, by simp, by simp⟩
  · simp [Value.cells] at hcs
    obtain ⟨rfl, rfl, rfl⟩ := hcs
    have hzl : ss.length = cap := by simpa using hz
    have htl : (ss.take len).length = len := by rw [List.length_take]; omega
    refine ⟨ss.take len, htl, Kd.C_of_reads (d := ByteArray.empty) ⟨rfl, ?_, fun hn => ⟨x, rfl, fun j hj => ?_⟩⟩, by omega, ?_⟩
    · unfold maxLen at hm; omega
    · have e : (ss.take len).getD j ByteArray.empty = ss.getD j ByteArray.empty := by
        rw [List.getD_eq_getElem?_getD, List.getElem?_take_of_lt (by omega), ← List.getD_eq_getElem?_getD]
      rw [e]
      exact hcell j (by omega)
    · obtain ⟨rfl, _⟩ := Prod.mk.inj hx
      have z := sized_slice hsz htj hdj ht
      rw [hb] at z
      simp only [strs, List.length_map, List.length_take, List.length_drop] at z
      have : reachBytes = 140737488351232 := by decide
      rw [htl]
      omega
end Go.Proofs.YtigikjihagmokaaDoor.Strs
set_option linter.unusedVariables false
set_option linter.unusedSimpArgs false
namespace Go.Proofs.YtigikjihagmokaaDoor.lawRunesFills
open Go.ChangeShapes Go.WideShapes Go.ChangeAt Go.RowKit
open Go.ChangeMaps (open_string shut_string)
theorem own : ownKnob Tryd.prog.godebug = none := by kernel_rfl
theorem laidOut : laidOutB Tryd.prog = true := by kernel_rfl
set_option maxRecDepth 100000 in
theorem lifted (os : Os) (started : os.Started) (H : Type) (enc : TypeId × Value → H) :
    ReturnsInHanded {} Tryd.checked os 5 .any (fun w args => (Rows.runesFillsSpec.pre enc Tryd.prog Tryd.f5 [] false w args ∧ laidMetH Tryd.prog Rows.runesFillsRow.laid w) ∧ sizedMet enc Tryd.prog Tryd.f5 (OpenSpec.ofChange Rows.runesFillsSpec) false w args)
      (Rows.runesFillsSpec.post enc Tryd.prog Tryd.f5 false true false false) := by
  refine returnsInHanded_of_change_and (C := Tryd.checked) (X := (fun w _ => laidMetH Tryd.prog Rows.runesFillsRow.laid w)) (fun _ _ _ hh h => h.of_heap hh) own started (by kernel_rfl) Tryd.func5
    (ChangeSpec.witness_shaped (enc := enc) (C := Tryd.checked) (os := os) (X := (fun w _ => laidMetH Tryd.prog Rows.runesFillsRow.laid w)) false (World.laidAll Tryd.prog os Rows.runesFillsRow.laid) #[.string ByteArray.empty, .slice none 0 0] 12 (World.laidAll_os _ _ _)
      (World.shaped_of_ZipB (by kernel_rfl) (by kernel_rfl)) (by kernel_rfl) (by kernel_rfl) (by kernel_rfl)
      (by rw [MakeChecks.laidMetH_plain _ _ _ (by kernel_rfl)]; exact laidMet_laidAll _ (by kernel_rfl) (by kernel_rfl))) ?_
  intro W base args ds gs before hval0 hW _ hsz0 hL0 _
  have hsz : (DataW.weightsEach Tryd.prog (Tryd.f5.params.toList ++ Rows.runesFillsSpec.plain.varTypes Tryd.prog) (ds ++ gs)).all (· ≤ reachBytes) = true := hsz0
  have hval : ∀ (j : Nat) t v, Tryd.f5.params[j]? = some t → args[j]? = some v → Value.okWide Tryd.prog W .any base t v := hval0
  have hW' := hW
  obtain ⟨p, q, hA0, hV, rfl, hfz, hnd⟩ := hW
  have hA : DataW.TrodAll enc Tryd.prog W 0 (fun _ => true) true Tryd.f5.params.toList args.toList ds p := hA0
  rw [Tryd.params5] at hA hval hsz
  obtain ⟨v0, vs0, d0, ds0, p0, q0, hargs, rfl, rfl, h0, r0⟩ := trodAll_cons hA
  obtain ⟨v1, vs1, d1, ds1, p1, q1, rfl, rfl, rfl, h1, r1⟩ := trodAll_cons r0
  obtain ⟨rfl, rfl, rfl⟩ := trodAll_nil r1
  obtain rfl : args = #[v0, v1] := by cases args; simp_all
  obtain ⟨rfl, rfl⟩ := trodVars_none hV
  have k0 := h0
  have lt0 : ∀ x ∈ p0, x.block < W.heap.size := by obtain ⟨m, hm⟩ := k0; exact DataW.trod_lt m _ _ _ hm
  have k1 := h1
  have lt1 : ∀ x ∈ p1, x.block < W.heap.size := by obtain ⟨m, hm⟩ := k1; exact DataW.trod_lt m _ _ _ hm
  obtain ⟨a0, rfl, rfl, rfl, y0⟩ := open_string Tryd.underlying9 (hval 0 9 v0 rfl rfl) h0
  have w0 : a0.size ≤ 140737488351232 := by
    have z := sized_string hsz (j := 0) (t := 9) rfl rfl
    rw [Array.length_toList] at z
    exact z
  obtain ⟨p1_, len1, cap1, rfl⟩ := okWide_slice Tryd.underlying26 (hval 1 26 v1 rfl rfl)
  obtain ⟨z1, zl1, zk1, zc1, w1⟩ := Strs.opened Tryd.underlying26 Tryd.underlying9 (by kernel_rfl) h1 hsz (j := 1) rfl rfl (by kernel_rfl)
  subst zl1
  obtain ⟨k, hk⟩ := RunesFills.law a0 z1 w0 w1
  refine (F.idiomlaw01_RunesFills.calls k a0 p1_ cap1 z1 true W zk1 zc1 hk).mono fun e W' ⟨he, bel0⟩ => ?_
  have bel : Below W.heap.size W W' := by first | exact bel0 | exact YtigikjihagmokaaDoorW.PrintWords.Drawn0.below bel0
  subst he
  exact ⟨_, rfl, _, _, _, [], _, [], hW', trodAll_mk1 (shut_bool Tryd.underlying4 _), (trodAll_cons_mk (Below.trod laidOut (by kernel_rfl) (of_decide_eq_true (by kernel_rfl)) k0 bel lt0) (trodAll_cons_mk (Below.trod laidOut (by kernel_rfl) (of_decide_eq_true (by kernel_rfl)) k1 bel lt1) trodAll_mk0)), rfl, bel.frame _, fun h => by cases h⟩
theorem said : Rows.runesFillsRow.holds Tryd.pinned (OpenSpec.ofChange Rows.runesFillsSpec) :=
  OpenClaim.holds_of_wide 5 Tryd.f5 rfl rfl rfl rfl rfl rfl rfl ⟨rfl, rfl, rfl, rfl, rfl⟩ rfl rfl rfl rfl rfl (by kernel_rfl) Tryd.func5 (by kernel_rfl)
    (of_decide_eq_true (by kernel_rfl)) (by unfold Func.isWrapper; first | (rw [if_pos (by decide +kernel)]; kernel_rfl) | (rw [if_neg (by decide +kernel)]; exact ⟨rfl, rfl⟩))
    (fun os started H enc _ => lifted os started H enc)
theorem plain (f : FuncId) (fn : Func) (hf : Tryd.pinned.checked.prog.funcNamed "idiom/idiomlaw01.RunesFills" = some f) (hfn : Tryd.pinned.checked.prog.funcs[f]? = some fn) :
    true = Tryd.pinned.checked.prog.looks [] ∧ ∀ (j : Nat) t, fn.params[j]? = some t → Tryd.pinned.checked.prog.wantsStandIn t = false := by
  obtain rfl : f = 5 := Option.some.inj ((show Tryd.prog.funcNamed "idiom/idiomlaw01.RunesFills" = some 5 by kernel_rfl).symm.trans hf) |>.symm
  obtain rfl : fn = Tryd.f5 := (Option.some.inj (Tryd.func5.symm.trans hfn)).symm
  refine ⟨by kernel_rfl, fun j t ht => ?_⟩
  rw [Tryd.params5] at ht
  have hm : t ∈ [9, 26] := by simpa using Array.mem_of_getElem? ht
  have hall : ([9, 26].all fun u => !Tryd.prog.wantsStandIn u) = true := by kernel_rfl
  exact (show Tryd.prog.wantsStandIn t = false by simpa using List.all_eq_true.1 hall t hm)
/-- THE CARD. -/
theorem card : Rows.RunesFillsCardSaid :=
  Claim7.holds_tied_plain_at .later [] _ _ _ _ said (fun _ h => by cases h) (by kernel_rfl) (fun _ h => by cases h) runesFills_row_tie rfl ⟨rfl, rfl⟩ (by kernel_rfl) rfl plain (by kernel_rfl)
#print axioms card
end Go.Proofs.YtigikjihagmokaaDoor.lawRunesFills
namespace Go.Proofs.YtigikjihagmokaaDoor
/-- The claim, under a short name. -/
theorem runesFills_holds : Rows.RunesFillsCardSaid := lawRunesFills.card
end Go.Proofs.YtigikjihagmokaaDoor
