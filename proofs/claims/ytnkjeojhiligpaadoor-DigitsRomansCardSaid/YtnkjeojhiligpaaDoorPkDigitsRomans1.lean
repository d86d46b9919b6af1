/- Part 2 of 3 of the proof of the law DigitsRomans: it is true at every input. Conditions: those of the given row, no others. -/
import Derived.Test.YtnkjeojhiligpaaDoorPkDigitsRomans0
import Derived.Shelf.Strings.Builder1
import Derived.Shelf.Strings.Builder2
import Derived.Shelf.Strings.OnBuilder
import Derived.Shelf.Strings.Trim
import Derived.Shelf.Small.Utf8
import Derived.Shelf.Small.Strs
import Derived.Shelf.Strings.BuilderF
import Derived.Shelf.Strings.BuilderK
import Derived.Shelf.Strings.BuilderRune
import Derived.Shelf.Strings.Builder2Cap
import Derived.Shelf.Strconv.Itoa0
import Derived.Shelf.Strings.Search1
import Derived.Shelf.Strings.Prefix
import Derived.Shelf.Unicode.Latin
import Derived.Shelf.Unicode.Decode
import Derived.Shelf.Strings.Runes
import Derived.Shelf.Strings.AsciiSet
import Derived.Shelf.Bits.Mul64
import Derived.Shelf.Strings.Repeat
import Derived.Shelf.Unicode.DecodeSlow
import Derived.Shelf.Unicode.DecodeAny
import Derived.Shelf.Unicode.DecodeLast
import Derived.Shelf.Unicode.CaseLookup
import Derived.Shelf.Unicode.CaseConvert
import Derived.Shelf.Unicode.CaseTo
import Derived.Shelf.Unicode.CaseLaid
import Derived.Shelf.Strings.BuilderCap
import Derived.Test.YtnkjeojhiligpaaDoorProg
import Derived.Below
import Derived.Deep.Draws
import Derived.Deep.AppendLies
import Derived.Maps.AppendAt
import Derived.OwnWalk
import Derived.Laws.BytesArg
import Derived.Laws.MakeOwn
import Derived.Laws.OwnMore
import Derived.Deep.OwnRows
import Derived.Tactics
import Derived.Lib.ConvBytes
import Derived.Laws.Slices
import Derived.WalkKit
import Derived.KernelRfl
import Derived.RowKit3
import Derived.Deep.LoopGhost
import Derived.Deep.QuietTactic
import Derived.BigQuiet
import Derived.WideLaws
import Derived.Deep.DeepCutAuto
import Derived.Deep.CutBlock
import Derived.Deep.RegionHeld3
import Derived.Laws.Rows
import Derived.Lib.AppendStr
import Derived.ArgAppend
import Derived.Laws.IdiomCopy
import Derived.OrdersHeld
import Derived.Laws.BitsLemmas
import Derived.RowKit
import Derived.Test.YtnkjeojhiligpaaDoorWWords
import Derived.Test.YtnkjeojhiligpaaDoorWLast
import Derived.Laws.StructEq
import Derived.Test.YtnkjeojhiligpaaDoorWMore
import Derived.Laws.IdiomStrings
import Derived.Lib.OthersKept
import Derived.Maps.OwnSet
import Derived.Shelf.Strings.SlTrimAscii
import Derived.Lib.Case
import Derived.Lib.SlTrimSet
namespace Go.Proofs.YtnkjeojhiligpaaDoor.H
open Go.RowKit Go.Proofs.YtnkjeojhiligpaaDoorW.PrintWords Go.Proofs.YtnkjeojhiligpaaDoorW.PrintLast Go.Proofs.YtnkjeojhiligpaaDoorW.PrintMore Go.Proofs.YtnkjeojhiligpaaDoor.Q
attribute [local go_sem] max2_int min2_int max_two min_two max_three min_three max_four min_four   -- for this text's walks alone
set_option linter.unusedVariables false
set_option linter.unusedSimpArgs false

def digits_Render.f (a0 : ByteArray) (a1 : ByteArray) : Option (ByteArray × Int) := some (Rend.f a0 a1)
theorem digits_Render.calls (a0 : ByteArray) (a1 : ByteArray) (r1 : ByteArray) (r2 : Int) (w : World) (h : digits_Render.f a0 a1 = some (r1, r2)) :
 Calls Tryd.prog 10 #[.string a0, .string a1] w fun e w' => e = .returned (.tuple #[.string r1, .int .i64 r2]) ∧ Below w.heap.size w w' := by
 have e : Rend.f a0 a1 = (r1, r2) := Option.some.inj h
 have c := Rend.calls a0 a1 w
 rw [e] at c
 exact c

def digits_Read.f (a0 : ByteArray) (a1 : ByteArray) : Option (ByteArray × Int × Int) := if a1.size ≤ 140737488355328 then some (Read8.f a0 a1) else none
theorem digits_Read.calls (a0 : ByteArray) (a1 : ByteArray) (r1 : ByteArray) (r2 : Int) (r3 : Int) (w : World) (h : digits_Read.f a0 a1 = some (r1, r2, r3)) (hG_ : Stray.Tabs w) :
 Calls Tryd.prog 13 #[.string a0, .string a1] w fun e w' => e = .returned (.tuple #[.string r1, .int .i64 r2, .int .i64 r3]) ∧ Below w.heap.size w w' := by
 unfold digits_Read.f at h
 split at h
 · rename_i hs
   have e : Read8.f a0 a1 = (r1, r2, r3) := Option.some.inj h
   have c := Read8.calls a0 a1 hs w hG_
   rw [e] at c
   exact c
 · cases h

/-- strings.ToLower of ASCII text. -/
def strings_ToLower.f (a0 : ByteArray) : Option (ByteArray) := if a0.size ≤ 140737488355328 ∧ (∀ b ∈ a0.data.toList, b.toNat < 128) then some ⟨(Lib.toLowerA a0.data.toList).toArray⟩ else none
theorem strings_ToLower.calls (a0 : ByteArray) (r : ByteArray) (w : World) (h : strings_ToLower.f a0 = some r) :
 Calls Tryd.prog 30 #[.string a0] w fun e w' => e = .returned (.string r) ∧ Below w.heap.size w w' := by
 unfold strings_ToLower.f at h
 split at h
 · rename_i hs
   obtain rfl := Option.some.inj h
   exact Tryd.strings_ToLower_ascii a0 w hs.1 (fun j b hb => hs.2 b (List.mem_of_getElem? hb))
 · cases h

/-- strings.Repeat: what it tells where the count is no less than 0 and the text is not too long. -/
def strings_Repeat.f (a0 : ByteArray) (a1 : Int) : Option (ByteArray) := if 0 ≤ a1 ∧ a1 ≤ 9223372036854775807 ∧ a0.size * a1.toNat ≤ 140737488355328 then some ⟨(Lib.repeatL a0.data.toList a1.toNat).toArray⟩ else none
theorem strings_Repeat.calls (a0 : ByteArray) (a1 : Int) (r : ByteArray) (w : World) (h : strings_Repeat.f a0 a1 = some r) :
 Calls Tryd.prog 45 #[.string a0, .int .i64 a1] w fun e w' => e = .returned (.string r) ∧ Below w.heap.size w w' := by
 unfold strings_Repeat.f at h
 split at h
 · rename_i hc
   obtain ⟨h0, h1, h2⟩ := hc
   obtain ⟨n, rfl⟩ := Int.eq_ofNat_of_zero_le h0
   obtain rfl := Option.some.inj h
   exact Tryd.strings_Repeat a0 n w (by omega) (by simpa using h2)
 · cases h

def digits_piece.f (a0 : Int) (a1 : ByteArray) (a2 : ByteArray) (a3 : ByteArray) : Option (ByteArray) := if a0 = 9 then (if a1.size + a3.size ≤ 9223372036854775807 then (some (a1 ++ a3)) else (none)) else (if a0 ≥ 5 then ((strings_Repeat.f a1 (wrap64 (a0 - 5))).bind fun t101 => (if a2.size + t101.size ≤ 9223372036854775807 then (some (a2 ++ t101)) else (none))) else (if a0 = 4 then (if a1.size + a2.size ≤ 9223372036854775807 then (some (a1 ++ a2)) else (none)) else ((strings_Repeat.f a1 a0).bind fun t102 => (some t102))))
set_option maxHeartbeats 8000000 in
set_option maxRecDepth 100000 in
theorem digits_piece.calls (a0 : Int) (a1 : ByteArray) (a2 : ByteArray) (a3 : ByteArray) (r : ByteArray) (w : World) (h : digits_piece.f a0 a1 a2 a3 = some r) :
 Calls Tryd.prog 46 #[.int .i64 a0, .string a1, .string a2, .string a3] w fun e w' => e = .returned (.string r) ∧ Below w.heap.size w w' := by
 have HB := Aside0.mk (Below.refl w.heap.size w)
 have H : (if a0 = 9 then (if a1.size + a3.size ≤ 9223372036854775807 then (some (a1 ++ a3)) else (none)) else (if a0 ≥ 5 then ((strings_Repeat.f a1 (wrap64 (a0 - 5))).bind fun t101 => (if a2.size + t101.size ≤ 9223372036854775807 then (some (a2 ++ t101)) else (none))) else (if a0 = 4 then (if a1.size + a2.size ≤ 9223372036854775807 then (some (a1 ++ a2)) else (none)) else ((strings_Repeat.f a1 a0).bind fun t102 => (some t102))))) = some r := h
 clear h
 by_cases c5 : a0 = 9
 · rw [if_pos c5] at H
   have c5b0 : (a0 == 9) = true := beq_iff_eq.mpr c5
   have c5b1 : (a0 != 9) = false := bne_eq_false_iff_eq.mpr c5
   try have c5b1z := c5b1
   (try simp only [bne] at c5b1z)
   clear c5
   by_cases c6 : a1.size + a3.size ≤ 9223372036854775807
   · rw [if_pos c6] at H
     have c6b0 := eq_true c6
     have c6b1 : decide (a1.size + a3.size ≤ 9223372036854775807) = true := decide_eq_true c6
     try have c6b2 : (9223372036854775807 < a1.size + a3.size) = False := eq_false (Nat.not_lt.2 c6)
     obtain rfl := Option.some.inj H
     go_enter Tryd.func46, Tryd.ntmps46
     go_wp2
     go_ret
     exact ⟨qe, qh HB⟩
   · rw [if_neg c6] at H
     exact absurd H (by simp)
 · rw [if_neg c5] at H
   have c5b0 : (a0 == 9) = false := beq_eq_false_iff_ne.mpr c5
   have c5b1 : (a0 != 9) = true := bne_iff_ne.mpr c5
   try have c5b1z := c5b1
   (try simp only [bne] at c5b1z)
   by_cases c7 : a0 ≥ 5
   · rw [if_pos c7] at H
     have c7b0 : decide (5 ≤ a0) = true := decide_eq_true c7
     clear c7
     replace H := Option.bind_eq_some_iff.mp H
     obtain ⟨t101, A80, H⟩ := H
     replace H : (if a2.size + t101.size ≤ 9223372036854775807 then (some (a2 ++ t101)) else (none)) = some r := H
     have A8 := Aside0.mk A80
     clear A80
     by_cases c9 : a2.size + t101.size ≤ 9223372036854775807
     · rw [if_pos c9] at H
       have c9b0 := eq_true c9
       have c9b1 : decide (a2.size + t101.size ≤ 9223372036854775807) = true := decide_eq_true c9
       try have c9b2 : (9223372036854775807 < a2.size + t101.size) = False := eq_false (Nat.not_lt.2 c9)
       obtain rfl := Option.some.inj H
       go_enter Tryd.func46, Tryd.ntmps46
       go_wp2_with (first | ((with_reducible refine gate_callee (f := 45) rfl ?_); refine goesL_ (some 22) rfl rfl Tryd.func45 (by kernel_rfl) rfl #[.string a1, .int .i64 (wrap64 (a0 - 5))] rfl ql ?_; (with_reducible refine (strings_Repeat.calls a1 (wrap64 (a0 - 5)) t101 _ A8.out).mono ?_); rintro e w10 ⟨rfl, hb⟩; refine ⟨_, rfl, ?_⟩; replace HB := qn HB hb; (try clear hb); (try clear hb2); (try clear hk); (try clear hi)))
       go_ret
       exact ⟨qe, qh HB⟩
     · rw [if_neg c9] at H
       exact absurd H (by simp)
   · rw [if_neg c7] at H
     have c7b0 : decide (5 ≤ a0) = false := decide_eq_false c7
     clear c7
     by_cases c11 : a0 = 4
     · rw [if_pos c11] at H
       have c11b0 : (a0 == 4) = true := beq_iff_eq.mpr c11
       have c11b1 : (a0 != 4) = false := bne_eq_false_iff_eq.mpr c11
       try have c11b1z := c11b1
       (try simp only [bne] at c11b1z)
       clear c11
       by_cases c12 : a1.size + a2.size ≤ 9223372036854775807
       · rw [if_pos c12] at H
         have c12b0 := eq_true c12
         have c12b1 : decide (a1.size + a2.size ≤ 9223372036854775807) = true := decide_eq_true c12
         try have c12b2 : (9223372036854775807 < a1.size + a2.size) = False := eq_false (Nat.not_lt.2 c12)
         obtain rfl := Option.some.inj H
         go_enter Tryd.func46, Tryd.ntmps46
         go_wp2
         go_ret
         exact ⟨qe, qh HB⟩
       · rw [if_neg c12] at H
         exact absurd H (by simp)
     · rw [if_neg c11] at H
       have c11b0 : (a0 == 4) = false := beq_eq_false_iff_ne.mpr c11
       have c11b1 : (a0 != 4) = true := bne_iff_ne.mpr c11
       try have c11b1z := c11b1
       (try simp only [bne] at c11b1z)
       replace H := Option.bind_eq_some_iff.mp H
       obtain ⟨t102, A130, H⟩ := H
       replace H : (some t102) = some r := H
       have A13 := Aside0.mk A130
       clear A130
       obtain rfl := Option.some.inj H
       go_enter Tryd.func46, Tryd.ntmps46
       go_wp2_with (first | ((with_reducible refine gate_callee (f := 45) rfl ?_); refine goesL_ (some 32) rfl rfl Tryd.func45 (by kernel_rfl) rfl #[.string a1, .int .i64 a0] rfl ql ?_; (with_reducible refine (strings_Repeat.calls a1 a0 t102 _ A13.out).mono ?_); rintro e w14 ⟨rfl, hb⟩; refine ⟨_, rfl, ?_⟩; replace HB := qn HB hb; (try clear hb); (try clear hb2); (try clear hk); (try clear hi)))
       go_ret
       exact ⟨qe, qh HB⟩

def digits_roman.f (a0 : Int) : Option (ByteArray) := (strings_Repeat.f (⟨#[77]⟩ : ByteArray) (wrap64 (Int.tdiv a0 1000))).bind fun t103 => ((digits_piece.f (Int.tmod (wrap64 (Int.tdiv a0 100)) 10) (⟨#[67]⟩ : ByteArray) (⟨#[68]⟩ : ByteArray) (⟨#[77]⟩ : ByteArray)).bind fun t104 => (if t103.size + t104.size ≤ 9223372036854775807 then ((digits_piece.f (Int.tmod (wrap64 (Int.tdiv a0 10)) 10) (⟨#[88]⟩ : ByteArray) (⟨#[76]⟩ : ByteArray) (⟨#[67]⟩ : ByteArray)).bind fun t105 => (if (t103 ++ t104).size + t105.size ≤ 9223372036854775807 then ((digits_piece.f (Int.tmod a0 10) (⟨#[73]⟩ : ByteArray) (⟨#[86]⟩ : ByteArray) (⟨#[88]⟩ : ByteArray)).bind fun t106 => (if ((t103 ++ t104) ++ t105).size + t106.size ≤ 9223372036854775807 then (some (((t103 ++ t104) ++ t105) ++ t106)) else (none))) else (none))) else (none)))
set_option maxHeartbeats 8000000 in
set_option maxRecDepth 100000 in
theorem digits_roman.calls (a0 : Int) (r : ByteArray) (w : World) (h : digits_roman.f a0 = some r) :
 Calls Tryd.prog 31 #[.int .i64 a0] w fun e w' => e = .returned (.string r) ∧ Below w.heap.size w w' := by
 have HB := Aside0.mk (Below.refl w.heap.size w)
 have H : ((strings_Repeat.f (⟨#[77]⟩ : ByteArray) (wrap64 (Int.tdiv a0 1000))).bind fun t103 => ((digits_piece.f (Int.tmod (wrap64 (Int.tdiv a0 100)) 10) (⟨#[67]⟩ : ByteArray) (⟨#[68]⟩ : ByteArray) (⟨#[77]⟩ : ByteArray)).bind fun t104 => (if t103.size + t104.size ≤ 9223372036854775807 then ((digits_piece.f (Int.tmod (wrap64 (Int.tdiv a0 10)) 10) (⟨#[88]⟩ : ByteArray) (⟨#[76]⟩ : ByteArray) (⟨#[67]⟩ : ByteArray)).bind fun t105 => (if (t103 ++ t104).size + t105.size ≤ 9223372036854775807 then ((digits_piece.f (Int.tmod a0 10) (⟨#[73]⟩ : ByteArray) (⟨#[86]⟩ : ByteArray) (⟨#[88]⟩ : ByteArray)).bind fun t106 => (if ((t103 ++ t104) ++ t105).size + t106.size ≤ 9223372036854775807 then (some (((t103 ++ t104) ++ t105) ++ t106)) else (none))) else (none))) else (none)))) = some r := h
 clear h
 replace H := Option.bind_eq_some_iff.mp H
 obtain ⟨t103, A20, H⟩ := H
 replace H : ((digits_piece.f (Int.tmod (wrap64 (Int.tdiv a0 100)) 10) (⟨#[67]⟩ : ByteArray) (⟨#[68]⟩ : ByteArray) (⟨#[77]⟩ : ByteArray)).bind fun t104 => (if t103.size + t104.size ≤ 9223372036854775807 then ((digits_piece.f (Int.tmod (wrap64 (Int.tdiv a0 10)) 10) (⟨#[88]⟩ : ByteArray) (⟨#[76]⟩ : ByteArray) (⟨#[67]⟩ : ByteArray)).bind fun t105 => (if (t103 ++ t104).size + t105.size ≤ 9223372036854775807 then ((digits_piece.f (Int.tmod a0 10) (⟨#[73]⟩ : ByteArray) (⟨#[86]⟩ : ByteArray) (⟨#[88]⟩ : ByteArray)).bind fun t106 => (if ((t103 ++ t104) ++ t105).size + t106.size ≤ 9223372036854775807 then (some (((t103 ++ t104) ++ t105) ++ t106)) else (none))) else (none))) else (none))) = some r := H
 have A2 := Aside0.mk A20
 clear A20
 replace H := Option.bind_eq_some_iff.mp H
 obtain ⟨t104, A30, H⟩ := H
 replace H : (if t103.size + t104.size ≤ 9223372036854775807 then ((digits_piece.f (Int.tmod (wrap64 (Int.tdiv a0 10)) 10) (⟨#[88]⟩ : ByteArray) (⟨#[76]⟩ : ByteArray) (⟨#[67]⟩ : ByteArray)).bind fun t105 => (if (t103 ++ t104).size + t105.size ≤ 9223372036854775807 then ((digits_piece.f (Int.tmod a0 10) (⟨#[73]⟩ : ByteArray) (⟨#[86]⟩ : ByteArray) (⟨#[88]⟩ : ByteArray)).bind fun t106 => (if ((t103 ++ t104) ++ t105).size + t106.size ≤ 9223372036854775807 then (some (((t103 ++ t104) ++ t105) ++ t106)) else (none))) else (none))) else (none)) = some r := H
 have A3 := Aside0.mk A30
 clear A30
 by_cases c4 : t103.size + t104.size ≤ 9223372036854775807
 · rw [if_pos c4] at H
   have c4b0 := eq_true c4
   have c4b1 : decide (t103.size + t104.size ≤ 9223372036854775807) = true := decide_eq_true c4
   try have c4b2 : (9223372036854775807 < t103.size + t104.size) = False := eq_false (Nat.not_lt.2 c4)
   replace H := Option.bind_eq_some_iff.mp H
   obtain ⟨t105, A50, H⟩ := H
   replace H : (if (t103 ++ t104).size + t105.size ≤ 9223372036854775807 then ((digits_piece.f (Int.tmod a0 10) (⟨#[73]⟩ : ByteArray) (⟨#[86]⟩ : ByteArray) (⟨#[88]⟩ : ByteArray)).bind fun t106 => (if ((t103 ++ t104) ++ t105).size + t106.size ≤ 9223372036854775807 then (some (((t103 ++ t104) ++ t105) ++ t106)) else (none))) else (none)) = some r := H
   have A5 := Aside0.mk A50
   clear A50
   by_cases c6 : (t103 ++ t104).size + t105.size ≤ 9223372036854775807
   · rw [if_pos c6] at H
     have c6b0 := eq_true c6
     try have c6b0z := c6b0
     (try simp only [go_sem, ByteArray.size_extract, ByteArray.size_append, Nat.min_self, Int.natCast_add] at c6b0z)
     have c6b1 : decide ((t103 ++ t104).size + t105.size ≤ 9223372036854775807) = true := decide_eq_true c6
     try have c6b1z := c6b1
     (try simp only [go_sem, ByteArray.size_extract, ByteArray.size_append, Nat.min_self, Int.natCast_add] at c6b1z)
     try have c6b2 : (9223372036854775807 < (t103 ++ t104).size + t105.size) = False := eq_false (Nat.not_lt.2 c6)
     try have c6b2z := c6b2
     (try simp only [go_sem, ByteArray.size_extract, ByteArray.size_append, Nat.min_self, Int.natCast_add] at c6b2z)
     replace H := Option.bind_eq_some_iff.mp H
     obtain ⟨t106, A70, H⟩ := H
     replace H : (if ((t103 ++ t104) ++ t105).size + t106.size ≤ 9223372036854775807 then (some (((t103 ++ t104) ++ t105) ++ t106)) else (none)) = some r := H
     have A7 := Aside0.mk A70
     clear A70
     by_cases c8 : ((t103 ++ t104) ++ t105).size + t106.size ≤ 9223372036854775807
     · rw [if_pos c8] at H
       have c8b0 := eq_true c8
       try have c8b0z := c8b0
       (try simp only [go_sem, ByteArray.size_extract, ByteArray.size_append, Nat.min_self, Int.natCast_add] at c8b0z)
       have c8b1 : decide (((t103 ++ t104) ++ t105).size + t106.size ≤ 9223372036854775807) = true := decide_eq_true c8
       try have c8b1z := c8b1
       (try simp only [go_sem, ByteArray.size_extract, ByteArray.size_append, Nat.min_self, Int.natCast_add] at c8b1z)
       try have c8b2 : (9223372036854775807 < ((t103 ++ t104) ++ t105).size + t106.size) = False := eq_false (Nat.not_lt.2 c8)
       try have c8b2z := c8b2
       (try simp only [go_sem, ByteArray.size_extract, ByteArray.size_append, Nat.min_self, Int.natCast_add] at c8b2z)
       obtain rfl := Option.some.inj H
       go_enter Tryd.func31, Tryd.ntmps31
       go_wp2_with (first | ((with_reducible refine gate_callee (f := 45) rfl ?_); refine goesL_ (some 5) rfl rfl Tryd.func45 (by kernel_rfl) rfl #[.string (⟨#[77]⟩ : ByteArray), .int .i64 (wrap64 (Int.tdiv a0 1000))] rfl ql ?_; (with_reducible refine (strings_Repeat.calls (⟨#[77]⟩ : ByteArray) (wrap64 (Int.tdiv a0 1000)) t103 _ A2.out).mono ?_); rintro e w9 ⟨rfl, hb⟩; refine ⟨_, rfl, ?_⟩; replace HB := qn HB hb; (try clear hb); (try clear hb2); (try clear hk); (try clear hi)) | ((with_reducible refine gate_callee (f := 46) rfl ?_); refine goesL_ (some 9) rfl rfl Tryd.func46 (by kernel_rfl) rfl #[.int .i64 (Int.tmod (wrap64 (Int.tdiv a0 100)) 10), .string (⟨#[67]⟩ : ByteArray), .string (⟨#[68]⟩ : ByteArray), .string (⟨#[77]⟩ : ByteArray)] rfl ql ?_; (with_reducible refine (digits_piece.calls (Int.tmod (wrap64 (Int.tdiv a0 100)) 10) (⟨#[67]⟩ : ByteArray) (⟨#[68]⟩ : ByteArray) (⟨#[77]⟩ : ByteArray) t104 _ A3.out).mono ?_); rintro e w10 ⟨rfl, hb⟩; refine ⟨_, rfl, ?_⟩; replace HB := qn HB hb; (try clear hb); (try clear hb2); (try clear hk); (try clear hi)) | ((with_reducible refine gate_callee (f := 46) rfl ?_); refine goesL_ (some 14) rfl rfl Tryd.func46 (by kernel_rfl) rfl #[.int .i64 (Int.tmod (wrap64 (Int.tdiv a0 10)) 10), .string (⟨#[88]⟩ : ByteArray), .string (⟨#[76]⟩ : ByteArray), .string (⟨#[67]⟩ : ByteArray)] rfl ql ?_; (with_reducible refine (digits_piece.calls (Int.tmod (wrap64 (Int.tdiv a0 10)) 10) (⟨#[88]⟩ : ByteArray) (⟨#[76]⟩ : ByteArray) (⟨#[67]⟩ : ByteArray) t105 _ A5.out).mono ?_); rintro e w11 ⟨rfl, hb⟩; refine ⟨_, rfl, ?_⟩; replace HB := qn HB hb; (try clear hb); (try clear hb2); (try clear hk); (try clear hi)) | ((with_reducible refine gate_callee (f := 46) rfl ?_); refine goesL_ (some 18) rfl rfl Tryd.func46 (by kernel_rfl) rfl #[.int .i64 (Int.tmod a0 10), .string (⟨#[73]⟩ : ByteArray), .string (⟨#[86]⟩ : ByteArray), .string (⟨#[88]⟩ : ByteArray)] rfl ql ?_; (with_reducible refine (digits_piece.calls (Int.tmod a0 10) (⟨#[73]⟩ : ByteArray) (⟨#[86]⟩ : ByteArray) (⟨#[88]⟩ : ByteArray) t106 _ A7.out).mono ?_); rintro e w12 ⟨rfl, hb⟩; refine ⟨_, rfl, ?_⟩; replace HB := qn HB hb; (try clear hb); (try clear hb2); (try clear hk); (try clear hi)))
       go_ret
       exact ⟨qe, qh HB⟩
     · rw [if_neg c8] at H
       exact absurd H (by simp)
   · rw [if_neg c6] at H
     exact absurd H (by simp)
 · rw [if_neg c4] at H
   exact absurd H (by simp)

def digits_Roman.j0 : Nat → Int → Bool → Bool → Option (ByteArray × Int)
 | 0, _, _, _ => none
 | k + 1, x0, x1, x11 => if x11 = true then (some ((⟨#[]⟩ : ByteArray), 82)) else (if x1 = true then ((digits_roman.f x0).bind fun t107 => ((strings_ToLower.f t107).bind fun t108 => (some (t108, 0)))) else ((digits_roman.f x0).bind fun t109 => (some (t109, 0))))
def digits_Roman.f (k : Nat) (a0 : Int) (a1 : Bool) : Option (ByteArray × Int) := if a0 < 1 then (digits_Roman.j0 k a0 a1 true) else (digits_Roman.j0 k a0 a1 (decide (a0 > 3999)))
theorem digits_Roman.mono_l : ∀ k, (∀ y0 y1 y2, LeO (digits_Roman.j0 k y0 y1 y2) (digits_Roman.j0 (k + 1) y0 y1 y2))
 | 0 => fun _ _ _ r h => by simp [digits_Roman.j0] at h
 | k + 1 => by
  have ih0 := digits_Roman.mono_l k
  · intro y0 y1 y2
    unfold digits_Roman.j0
    repeat' first
    | (with_reducible exact ih0 _ _ _)
    | (with_reducible exact LeO.refl _)
    | (with_reducible exact LeO.none _)
    | (with_reducible refine LeO.ite ?_ ?_)
    | (with_reducible refine LeO.bind ?_ (fun _ => ?_))
    | exact ih0 _ _ _
    | exact LeO.none _
    | refine LeO.ite ?_ ?_
    | refine LeO.bind ?_ (fun _ => ?_)
theorem digits_Roman.mono : ∀ a0 a1 k, LeO (digits_Roman.f k a0 a1) (digits_Roman.f (k + 1) a0 a1) := by
 intro a0 a1 k
 have ih0 := digits_Roman.mono_l k
 unfold digits_Roman.f
 repeat' first
  | (with_reducible exact ih0 _ _ _)
  | (with_reducible exact LeO.refl _)
  | (with_reducible exact LeO.none _)
  | (with_reducible refine LeO.ite ?_ ?_)
  | (with_reducible refine LeO.bind ?_ (fun _ => ?_))
  | exact ih0 _ _ _
  | exact LeO.none _
  | refine LeO.ite ?_ ?_
  | refine LeO.bind ?_ (fun _ => ?_)
set_option maxHeartbeats 8000000 in
set_option maxRecDepth 100000 in
theorem digits_Roman.calls (k : Nat) (a0 : Int) (a1 : Bool) (r1 : ByteArray) (r2 : Int) (w : World) (h : digits_Roman.f k a0 a1 = some (r1, r2)) :
 Calls Tryd.prog 15 #[.int .i64 a0, .bool a1] w fun e w' => e = .returned (.tuple #[.string r1, .int .i64 r2]) ∧ Below w.heap.size w w' := by
 have HB := Aside0.mk (Below.refl w.heap.size w)
 have H : (if a0 < 1 then (digits_Roman.j0 k a0 a1 true) else (digits_Roman.j0 k a0 a1 (decide (a0 > 3999)))) = some (r1, r2) := h
 clear h
 have HC3 := Aside0.mk H
 clear H
 go_enter Tryd.func15, Tryd.ntmps15
 go_upto_region 1 with (fail)
 go_cut [11] (fun v11 wc => ∃ (kq : Nat) (x11_2 : Bool), v11 = .bool x11_2 ∧ Aside0 (digits_Roman.j0 kq a0 a1 x11_2 = some (r1, r2)) ∧ Aside0 (kq ≤ k) ∧ Aside0 (Below w.heap.size w wc))
 case first =>
  have H := HC3.out
  clear HC3
  by_cases c4 : a0 < 1
  · rw [if_pos c4] at H
    have c4b0 : decide (a0 < 1) = true := decide_eq_true c4
    clear c4
    (first | rw [c4b0] | (simp only [i64_w, i32_w]; rw [c4b0]) | skip)
    have H' := Aside0.mk H
    clear H
    go_wp2
    go_meet
    case rel => exact ⟨_, (true), (by first | rfl | (simp; done) | (simp [*]; done)), H', ⟨by first | omega | exact Nat.le_refl _⟩, ⟨qh HB⟩⟩
  · rw [if_neg c4] at H
    have c4b0 : decide (a0 < 1) = false := decide_eq_false c4
    clear c4
    (first | rw [c4b0] | (simp only [i64_w, i32_w]; rw [c4b0]) | skip)
    have H' := Aside0.mk H
    clear H
    go_wp2
    go_meet
    case rel => exact ⟨_, (decide (a0 > 3999)), (by first | rfl | (simp; done) | (simp [*]; done)), H', ⟨by first | omega | exact Nat.le_refl _⟩, ⟨qh HB⟩⟩
 case rest =>
  clear HC3
  try clear c1
  try clear p2
  try clear c4
  try clear c4b0
  obtain ⟨kq, x11_2, rfl, HA, HJ2, HB⟩ := hcut
  cases kq with
  | zero => exact absurd HA.out (by simp [digits_Roman.j0])
  | succ kj2 =>
   have H := HA.out
   clear HA
   simp only [digits_Roman.j0] at H
   by_cases c5 : x11_2 = true
   · subst c5
     have H1 : (some ((⟨#[]⟩ : ByteArray), 82)) = some (r1, r2) := by rw [if_pos rfl] at H; exact H
     clear H
     have H := H1
     clear H1
     simp only [Option.some.injEq, Prod.mk.injEq] at H
     obtain ⟨rfl, rfl⟩ := H
     go_wp2
     go_ret2
     exact ⟨qe, qh HB⟩
   · replace c5 := Bool.eq_false_iff.mpr c5
     subst c5
     have H1 : (if a1 = true then ((digits_roman.f a0).bind fun t107 => ((strings_ToLower.f t107).bind fun t108 => (some (t108, 0)))) else ((digits_roman.f a0).bind fun t109 => (some (t109, 0)))) = some (r1, r2) := by rw [if_neg (show ¬ (false = true) by decide)] at H; exact H
     clear H
     have H := H1
     clear H1
     by_cases c6 : a1 = true
     · subst c6
       have H1 : ((digits_roman.f a0).bind fun t107 => ((strings_ToLower.f t107).bind fun t108 => (some (t108, 0)))) = some (r1, r2) := by rw [if_pos rfl] at H; exact H
       clear H
       have H := H1
       clear H1
       replace H := Option.bind_eq_some_iff.mp H
       obtain ⟨t107, A70, H⟩ := H
       replace H : ((strings_ToLower.f t107).bind fun t108 => (some (t108, 0))) = some (r1, r2) := H
       have A7 := Aside0.mk A70
       clear A70
       replace H := Option.bind_eq_some_iff.mp H
       obtain ⟨t108, A80, H⟩ := H
       replace H : (some (t108, 0)) = some (r1, r2) := H
       have A8 := Aside0.mk A80
       clear A80
       simp only [Option.some.injEq, Prod.mk.injEq] at H
       obtain ⟨rfl, rfl⟩ := H
       go_wp2_with (first | ((with_reducible refine gate_callee (f := 31) rfl ?_); refine goesL_ (some 14) rfl rfl Tryd.func31 (by kernel_rfl) rfl #[.int .i64 a0] rfl ql ?_; (with_reducible refine (digits_roman.calls a0 t107 _ A7.out).mono ?_); rintro e w9 ⟨rfl, hb⟩; refine ⟨_, rfl, ?_⟩; replace HB := qn HB hb; (try clear hb); (try clear hb2); (try clear hk); (try clear hi)) | ((with_reducible refine gate_callee (f := 30) rfl ?_); refine goesL_ (some 15) rfl rfl Tryd.func30 (by kernel_rfl) rfl #[.string t107] rfl ql ?_; (with_reducible refine (strings_ToLower.calls t107 t108 _ A8.out).mono ?_); rintro e w10 ⟨rfl, hb⟩; refine ⟨_, rfl, ?_⟩; replace HB := qn HB hb; (try clear hb); (try clear hb2); (try clear hk); (try clear hi)))
       go_ret2
       exact ⟨qe, qh HB⟩
     · replace c6 := Bool.eq_false_iff.mpr c6
       subst c6
       have H1 : ((digits_roman.f a0).bind fun t109 => (some (t109, 0))) = some (r1, r2) := by rw [if_neg (show ¬ (false = true) by decide)] at H; exact H
       clear H
       have H := H1
       clear H1
       replace H := Option.bind_eq_some_iff.mp H
       obtain ⟨t109, A110, H⟩ := H
       replace H : (some (t109, 0)) = some (r1, r2) := H
       have A11 := Aside0.mk A110
       clear A110
       simp only [Option.some.injEq, Prod.mk.injEq] at H
       obtain ⟨rfl, rfl⟩ := H
       go_wp2_with (first | ((with_reducible refine gate_callee (f := 31) rfl ?_); refine goesL_ (some 17) rfl rfl Tryd.func31 (by kernel_rfl) rfl #[.int .i64 a0] rfl ql ?_; (with_reducible refine (digits_roman.calls a0 t109 _ A11.out).mono ?_); rintro e w12 ⟨rfl, hb⟩; refine ⟨_, rfl, ?_⟩; replace HB := qn HB hb; (try clear hb); (try clear hb2); (try clear hk); (try clear hi)))
       go_ret2
       exact ⟨qe, qh HB⟩

def idiomlaw08_awake.f (k : Nat)  : Option (Bool) := (digits_Render.f (⟨#[97, 114, 97, 98]⟩ : ByteArray) (⟨#[49, 48]⟩ : ByteArray)).bind fun bt110 => ((digits_Read.f (⟨#[108, 97, 116, 110]⟩ : ByteArray) (⟨#[49, 50, 32, 120]⟩ : ByteArray)).bind fun bt112 => ((digits_Roman.f k 1994 false).bind fun bt115 => (if bt110.1.toList = ([217, 161, 217, 160] : List UInt8) then (if bt110.2 = 0 then (if bt112.1.toList = ([49, 50] : List UInt8) then (if bt112.2.1 = 2 then (if bt112.2.2 = 0 then (if bt115.1.toList = ([77, 67, 77, 88, 67, 73, 86] : List UInt8) then (some (bt115.2 == 0)) else (some false)) else (some false)) else (some false)) else (some false)) else (some false)) else (some false))))
theorem idiomlaw08_awake.mono : ∀ k, LeO (idiomlaw08_awake.f k ) (idiomlaw08_awake.f (k + 1) ) := by
 intro  k
 unfold idiomlaw08_awake.f
 repeat' first
  | (with_reducible exact digits_Roman.mono _ _ _)
  | (with_reducible exact LeO.refl _)
  | (with_reducible exact LeO.none _)
  | (with_reducible refine LeO.ite ?_ ?_)
  | (with_reducible refine LeO.bind ?_ (fun _ => ?_))
  | exact digits_Roman.mono _ _ _
  | exact LeO.none _
  | refine LeO.ite ?_ ?_
  | refine LeO.bind ?_ (fun _ => ?_)
set_option maxHeartbeats 8000000 in
set_option maxRecDepth 100000 in
theorem idiomlaw08_awake.calls (k : Nat)  (r : Bool) (w : World) (h : idiomlaw08_awake.f k  = some r) (hG_ : Stray.Tabs w) :
 Calls Tryd.prog 12 #[] w fun e w' => e = .returned (.bool r) ∧ Below w.heap.size w w' := by
 have HG := Aside0.mk hG_
 clear hG_
 have HB := Aside0.mk (Below.refl w.heap.size w)
 have H : ((digits_Render.f (⟨#[97, 114, 97, 98]⟩ : ByteArray) (⟨#[49, 48]⟩ : ByteArray)).bind fun bt110 => ((digits_Read.f (⟨#[108, 97, 116, 110]⟩ : ByteArray) (⟨#[49, 50, 32, 120]⟩ : ByteArray)).bind fun bt112 => ((digits_Roman.f k 1994 false).bind fun bt115 => (if bt110.1.toList = ([217, 161, 217, 160] : List UInt8) then (if bt110.2 = 0 then (if bt112.1.toList = ([49, 50] : List UInt8) then (if bt112.2.1 = 2 then (if bt112.2.2 = 0 then (if bt115.1.toList = ([77, 67, 77, 88, 67, 73, 86] : List UInt8) then (some (bt115.2 == 0)) else (some false)) else (some false)) else (some false)) else (some false)) else (some false)) else (some false))))) = some r := h
 clear h
 replace H := Option.bind_eq_some_iff.mp H
 obtain ⟨⟨t110, t111⟩, A10, H⟩ := H
 replace H : ((digits_Read.f (⟨#[108, 97, 116, 110]⟩ : ByteArray) (⟨#[49, 50, 32, 120]⟩ : ByteArray)).bind fun bt112 => ((digits_Roman.f k 1994 false).bind fun bt115 => (if t110.toList = ([217, 161, 217, 160] : List UInt8) then (if t111 = 0 then (if bt112.1.toList = ([49, 50] : List UInt8) then (if bt112.2.1 = 2 then (if bt112.2.2 = 0 then (if bt115.1.toList = ([77, 67, 77, 88, 67, 73, 86] : List UInt8) then (some (bt115.2 == 0)) else (some false)) else (some false)) else (some false)) else (some false)) else (some false)) else (some false)))) = some r := H
 have A1 := Aside0.mk A10
 clear A10
 replace H := Option.bind_eq_some_iff.mp H
 obtain ⟨⟨t112, t113, t114⟩, A20, H⟩ := H
 replace H : ((digits_Roman.f k 1994 false).bind fun bt115 => (if t110.toList = ([217, 161, 217, 160] : List UInt8) then (if t111 = 0 then (if t112.toList = ([49, 50] : List UInt8) then (if t113 = 2 then (if t114 = 0 then (if bt115.1.toList = ([77, 67, 77, 88, 67, 73, 86] : List UInt8) then (some (bt115.2 == 0)) else (some false)) else (some false)) else (some false)) else (some false)) else (some false)) else (some false))) = some r := H
 have A2 := Aside0.mk A20
 clear A20
 replace H := Option.bind_eq_some_iff.mp H
 obtain ⟨⟨t115, t116⟩, A30, H⟩ := H
 replace H : (if t110.toList = ([217, 161, 217, 160] : List UInt8) then (if t111 = 0 then (if t112.toList = ([49, 50] : List UInt8) then (if t113 = 2 then (if t114 = 0 then (if t115.toList = ([77, 67, 77, 88, 67, 73, 86] : List UInt8) then (some (t116 == 0)) else (some false)) else (some false)) else (some false)) else (some false)) else (some false)) else (some false)) = some r := H
 have A3 := Aside0.mk A30
 clear A30
 by_cases c4 : t110.toList = ([217, 161, 217, 160] : List UInt8)
 · rw [if_pos c4] at H
   have c4b0 : (t110.toList == ([217, 161, 217, 160] : List UInt8)) = true := beq_iff_eq.mpr c4
   have c4b1 : (t110.toList != ([217, 161, 217, 160] : List UInt8)) = false := bne_eq_false_iff_eq.mpr c4
   clear c4
   by_cases c5 : t111 = 0
   · rw [if_pos c5] at H
     have c5b0 : (t111 == 0) = true := beq_iff_eq.mpr c5
     have c5b1 : (t111 != 0) = false := bne_eq_false_iff_eq.mpr c5
     try have c5b1z := c5b1
     (try simp only [bne] at c5b1z)
     clear c5
     by_cases c6 : t112.toList = ([49, 50] : List UInt8)
     · rw [if_pos c6] at H
       have c6b0 : (t112.toList == ([49, 50] : List UInt8)) = true := beq_iff_eq.mpr c6
       have c6b1 : (t112.toList != ([49, 50] : List UInt8)) = false := bne_eq_false_iff_eq.mpr c6
       clear c6
       by_cases c7 : t113 = 2
       · rw [if_pos c7] at H
         have c7b0 : (t113 == 2) = true := beq_iff_eq.mpr c7
         have c7b1 : (t113 != 2) = false := bne_eq_false_iff_eq.mpr c7
         try have c7b1z := c7b1
         (try simp only [bne] at c7b1z)
         clear c7
         by_cases c8 : t114 = 0
         · rw [if_pos c8] at H
           have c8b0 : (t114 == 0) = true := beq_iff_eq.mpr c8
           have c8b1 : (t114 != 0) = false := bne_eq_false_iff_eq.mpr c8
           try have c8b1z := c8b1
           (try simp only [bne] at c8b1z)
           clear c8
           by_cases c9 : t115.toList = ([77, 67, 77, 88, 67, 73, 86] : List UInt8)
           · rw [if_pos c9] at H
             have c9b0 : (t115.toList == ([77, 67, 77, 88, 67, 73, 86] : List UInt8)) = true := beq_iff_eq.mpr c9
             have c9b1 : (t115.toList != ([77, 67, 77, 88, 67, 73, 86] : List UInt8)) = false := bne_eq_false_iff_eq.mpr c9
             clear c9
             obtain rfl := Option.some.inj H
             go_enter Tryd.func12, Tryd.ntmps12
             go_wp2_with (first | ((with_reducible refine gate_callee (f := 10) rfl ?_); refine goesL_ (some 9) rfl rfl Tryd.func10 (by kernel_rfl) rfl #[.string (⟨#[97, 114, 97, 98]⟩ : ByteArray), .string (⟨#[49, 48]⟩ : ByteArray)] rfl ql ?_; (with_reducible refine (digits_Render.calls (⟨#[97, 114, 97, 98]⟩ : ByteArray) (⟨#[49, 48]⟩ : ByteArray) t110 t111 _ A1.out).mono ?_); rintro e w10 ⟨rfl, hb⟩; refine ⟨_, rfl, ?_⟩; replace HB := qn HB hb; (try clear hb); (try clear hb2); (try clear hk); (try clear hi)) | ((with_reducible refine gate_callee (f := 13) rfl ?_); refine goesL_ (some 13) rfl rfl Tryd.func13 (by kernel_rfl) rfl #[.string (⟨#[108, 97, 116, 110]⟩ : ByteArray), .string (⟨#[49, 50, 32, 120]⟩ : ByteArray)] rfl ql ?_; (with_reducible refine (digits_Read.calls (⟨#[108, 97, 116, 110]⟩ : ByteArray) (⟨#[49, 50, 32, 120]⟩ : ByteArray) t112 t113 t114 _ A2.out (by first | exact HG.out | exact HG.out.below HB.out | exact HG.out.below (pw_below_drewN HB.out _) | exact HG.out.below (below_drew HB.out) | exact HG.out.below (by assumption))).mono ?_); rintro e w11 ⟨rfl, hb⟩; refine ⟨_, rfl, ?_⟩; replace HB := qn HB hb; (try clear hb); (try clear hb2); (try clear hk); (try clear hi)) | ((with_reducible refine gate_callee (f := 15) rfl ?_); refine goesL_ (some 18) rfl rfl Tryd.func15 (by kernel_rfl) rfl #[.int .i64 1994, .bool false] rfl ql ?_; (with_reducible refine (digits_Roman.calls k 1994 false t115 t116 _ A3.out).mono ?_); rintro e w12 ⟨rfl, hb⟩; refine ⟨_, rfl, ?_⟩; replace HB := qn HB hb; (try clear hb); (try clear hb2); (try clear hk); (try clear hi)))
             go_ret
             exact ⟨qe, qh HB⟩
           · rw [if_neg c9] at H
             have c9b0 : (t115.toList == ([77, 67, 77, 88, 67, 73, 86] : List UInt8)) = false := beq_eq_false_iff_ne.mpr c9
             have c9b1 : (t115.toList != ([77, 67, 77, 88, 67, 73, 86] : List UInt8)) = true := bne_iff_ne.mpr c9
             obtain rfl := Option.some.inj H
             go_enter Tryd.func12, Tryd.ntmps12
             go_wp2_with (first | ((with_reducible refine gate_callee (f := 10) rfl ?_); refine goesL_ (some 9) rfl rfl Tryd.func10 (by kernel_rfl) rfl #[.string (⟨#[97, 114, 97, 98]⟩ : ByteArray), .string (⟨#[49, 48]⟩ : ByteArray)] rfl ql ?_; (with_reducible refine (digits_Render.calls (⟨#[97, 114, 97, 98]⟩ : ByteArray) (⟨#[49, 48]⟩ : ByteArray) t110 t111 _ A1.out).mono ?_); rintro e w13 ⟨rfl, hb⟩; refine ⟨_, rfl, ?_⟩; replace HB := qn HB hb; (try clear hb); (try clear hb2); (try clear hk); (try clear hi)) | ((with_reducible refine gate_callee (f := 13) rfl ?_); refine goesL_ (some 13) rfl rfl Tryd.func13 (by kernel_rfl) rfl #[.string (⟨#[108, 97, 116, 110]⟩ : ByteArray), .string (⟨#[49, 50, 32, 120]⟩ : ByteArray)] rfl ql ?_; (with_reducible refine (digits_Read.calls (⟨#[108, 97, 116, 110]⟩ : ByteArray) (⟨#[49, 50, 32, 120]⟩ : ByteArray) t112 t113 t114 _ A2.out (by first | exact HG.out | exact HG.out.below HB.out | exact HG.out.below (pw_below_drewN HB.out _) | exact HG.out.below (below_drew HB.out) | exact HG.out.below (by assumption))).mono ?_); rintro e w14 ⟨rfl, hb⟩; refine ⟨_, rfl, ?_⟩; replace HB := qn HB hb; (try clear hb); (try clear hb2); (try clear hk); (try clear hi)) | ((with_reducible refine gate_callee (f := 15) rfl ?_); refine goesL_ (some 18) rfl rfl Tryd.func15 (by kernel_rfl) rfl #[.int .i64 1994, .bool false] rfl ql ?_; (with_reducible refine (digits_Roman.calls k 1994 false t115 t116 _ A3.out).mono ?_); rintro e w15 ⟨rfl, hb⟩; refine ⟨_, rfl, ?_⟩; replace HB := qn HB hb; (try clear hb); (try clear hb2); (try clear hk); (try clear hi)))
             go_ret
             exact ⟨qe, qh HB⟩
         · rw [if_neg c8] at H
           have c8b0 : (t114 == 0) = false := beq_eq_false_iff_ne.mpr c8
           have c8b1 : (t114 != 0) = true := bne_iff_ne.mpr c8
           try have c8b1z := c8b1
           (try simp only [bne] at c8b1z)
           obtain rfl := Option.some.inj H
           go_enter Tryd.func12, Tryd.ntmps12
           go_wp2_with (first | ((with_reducible refine gate_callee (f := 10) rfl ?_); refine goesL_ (some 9) rfl rfl Tryd.func10 (by kernel_rfl) rfl #[.string (⟨#[97, 114, 97, 98]⟩ : ByteArray), .string (⟨#[49, 48]⟩ : ByteArray)] rfl ql ?_; (with_reducible refine (digits_Render.calls (⟨#[97, 114, 97, 98]⟩ : ByteArray) (⟨#[49, 48]⟩ : ByteArray) t110 t111 _ A1.out).mono ?_); rintro e w16 ⟨rfl, hb⟩; refine ⟨_, rfl, ?_⟩; replace HB := qn HB hb; (try clear hb); (try clear hb2); (try clear hk); (try clear hi)) | ((with_reducible refine gate_callee (f := 13) rfl ?_); refine goesL_ (some 13) rfl rfl Tryd.func13 (by kernel_rfl) rfl #[.string (⟨#[108, 97, 116, 110]⟩ : ByteArray), .string (⟨#[49, 50, 32, 120]⟩ : ByteArray)] rfl ql ?_; (with_reducible refine (digits_Read.calls (⟨#[108, 97, 116, 110]⟩ : ByteArray) (⟨#[49, 50, 32, 120]⟩ : ByteArray) t112 t113 t114 _ A2.out (by first | exact HG.out | exact HG.out.below HB.out | exact HG.out.below (pw_below_drewN HB.out _) | exact HG.out.below (below_drew HB.out) | exact HG.out.below (by assumption))).mono ?_); rintro e w17 ⟨rfl, hb⟩; refine ⟨_, rfl, ?_⟩; replace HB := qn HB hb; (try clear hb); (try clear hb2); (try clear hk); (try clear hi)) | ((with_reducible refine gate_callee (f := 15) rfl ?_); refine goesL_ (some 18) rfl rfl Tryd.func15 (by kernel_rfl) rfl #[.int .i64 1994, .bool false] rfl ql ?_; (with_reducible refine (digits_Roman.calls k 1994 false t115 t116 _ A3.out).mono ?_); rintro e w18 ⟨rfl, hb⟩; refine ⟨_, rfl, ?_⟩; replace HB := qn HB hb; (try clear hb); (try clear hb2); (try clear hk); (try clear hi)))
           go_ret
           exact ⟨qe, qh HB⟩
       · rw [if_neg c7] at H
         have c7b0 : (t113 == 2) = false := beq_eq_false_iff_ne.mpr c7
         have c7b1 : (t113 != 2) = true := bne_iff_ne.mpr c7
         try have c7b1z := c7b1
         (try simp only [bne] at c7b1z)
         obtain rfl := Option.some.inj H
         go_enter Tryd.func12, Tryd.ntmps12
         go_wp2_with (first | ((with_reducible refine gate_callee (f := 10) rfl ?_); refine goesL_ (some 9) rfl rfl Tryd.func10 (by kernel_rfl) rfl #[.string (⟨#[97, 114, 97, 98]⟩ : ByteArray), .string (⟨#[49, 48]⟩ : ByteArray)] rfl ql ?_; (with_reducible refine (digits_Render.calls (⟨#[97, 114, 97, 98]⟩ : ByteArray) (⟨#[49, 48]⟩ : ByteArray) t110 t111 _ A1.out).mono ?_); rintro e w19 ⟨rfl, hb⟩; refine ⟨_, rfl, ?_⟩; replace HB := qn HB hb; (try clear hb); (try clear hb2); (try clear hk); (try clear hi)) | ((with_reducible refine gate_callee (f := 13) rfl ?_); refine goesL_ (some 13) rfl rfl Tryd.func13 (by kernel_rfl) rfl #[.string (⟨#[108, 97, 116, 110]⟩ : ByteArray), .string (⟨#[49, 50, 32, 120]⟩ : ByteArray)] rfl ql ?_; (with_reducible refine (digits_Read.calls (⟨#[108, 97, 116, 110]⟩ : ByteArray) (⟨#[49, 50, 32, 120]⟩ : ByteArray) t112 t113 t114 _ A2.out (by first | exact HG.out | exact HG.out.below HB.out | exact HG.out.below (pw_below_drewN HB.out _) | exact HG.out.below (below_drew HB.out) | exact HG.out.below (by assumption))).mono ?_); rintro e w20 ⟨rfl, hb⟩; refine ⟨_, rfl, ?_⟩; replace HB := qn HB hb; (try clear hb); (try clear hb2); (try clear hk); (try clear hi)) | ((with_reducible refine gate_callee (f := 15) rfl ?_); refine goesL_ (some 18) rfl rfl Tryd.func15 (by kernel_rfl) rfl #[.int .i64 1994, .bool false] rfl ql ?_; (with_reducible refine (digits_Roman.calls k 1994 false t115 t116 _ A3.out).mono ?_); rintro e w21 ⟨rfl, hb⟩; refine ⟨_, rfl, ?_⟩; replace HB := qn HB hb; (try clear hb); (try clear hb2); (try clear hk); (try clear hi)))
         go_ret
         exact ⟨qe, qh HB⟩
     · rw [if_neg c6] at H
       have c6b0 : (t112.toList == ([49, 50] : List UInt8)) = false := beq_eq_false_iff_ne.mpr c6
       have c6b1 : (t112.toList != ([49, 50] : List UInt8)) = true := bne_iff_ne.mpr c6
       obtain rfl := Option.some.inj H
       go_enter Tryd.func12, Tryd.ntmps12
       go_wp2_with (first | ((with_reducible refine gate_callee (f := 10) rfl ?_); refine goesL_ (some 9) rfl rfl Tryd.func10 (by kernel_rfl) rfl #[.string (⟨#[97, 114, 97, 98]⟩ : ByteArray), .string (⟨#[49, 48]⟩ : ByteArray)] rfl ql ?_; (with_reducible refine (digits_Render.calls (⟨#[97, 114, 97, 98]⟩ : ByteArray) (⟨#[49, 48]⟩ : ByteArray) t110 t111 _ A1.out).mono ?_); rintro e w22 ⟨rfl, hb⟩; refine ⟨_, rfl, ?_⟩; replace HB := qn HB hb; (try clear hb); (try clear hb2); (try clear hk); (try clear hi)) | ((with_reducible refine gate_callee (f := 13) rfl ?_); refine goesL_ (some 13) rfl rfl Tryd.func13 (by kernel_rfl) rfl #[.string (⟨#[108, 97, 116, 110]⟩ : ByteArray), .string (⟨#[49, 50, 32, 120]⟩ : ByteArray)] rfl ql ?_; (with_reducible refine (digits_Read.calls (⟨#[108, 97, 116, 110]⟩ : ByteArray) (⟨#[49, 50, 32, 120]⟩ : ByteArray) t112 t113 t114 _ A2.out (by first | exact HG.out | exact HG.out.below HB.out | exact HG.out.below (pw_below_drewN HB.out _) | exact HG.out.below (below_drew HB.out) | exact HG.out.below (by assumption))).mono ?_); rintro e w23 ⟨rfl, hb⟩; refine ⟨_, rfl, ?_⟩; replace HB := qn HB hb; (try clear hb); (try clear hb2); (try clear hk); (try clear hi)) | ((with_reducible refine gate_callee (f := 15) rfl ?_); refine goesL_ (some 18) rfl rfl Tryd.func15 (by kernel_rfl) rfl #[.int .i64 1994, .bool false] rfl ql ?_; (with_reducible refine (digits_Roman.calls k 1994 false t115 t116 _ A3.out).mono ?_); rintro e w24 ⟨rfl, hb⟩; refine ⟨_, rfl, ?_⟩; replace HB := qn HB hb; (try clear hb); (try clear hb2); (try clear hk); (try clear hi)))
       go_ret
       exact ⟨qe, qh HB⟩
   · rw [if_neg c5] at H
     have c5b0 : (t111 == 0) = false := beq_eq_false_iff_ne.mpr c5
     have c5b1 : (t111 != 0) = true := bne_iff_ne.mpr c5
     try have c5b1z := c5b1
     (try simp only [bne] at c5b1z)
     obtain rfl := Option.some.inj H
     go_enter Tryd.func12, Tryd.ntmps12
     go_wp2_with (first | ((with_reducible refine gate_callee (f := 10) rfl ?_); refine goesL_ (some 9) rfl rfl Tryd.func10 (by kernel_rfl) rfl #[.string (⟨#[97, 114, 97, 98]⟩ : ByteArray), .string (⟨#[49, 48]⟩ : ByteArray)] rfl ql ?_; (with_reducible refine (digits_Render.calls (⟨#[97, 114, 97, 98]⟩ : ByteArray) (⟨#[49, 48]⟩ : ByteArray) t110 t111 _ A1.out).mono ?_); rintro e w25 ⟨rfl, hb⟩; refine ⟨_, rfl, ?_⟩; replace HB := qn HB hb; (try clear hb); (try clear hb2); (try clear hk); (try clear hi)) | ((with_reducible refine gate_callee (f := 13) rfl ?_); refine goesL_ (some 13) rfl rfl Tryd.func13 (by kernel_rfl) rfl #[.string (⟨#[108, 97, 116, 110]⟩ : ByteArray), .string (⟨#[49, 50, 32, 120]⟩ : ByteArray)] rfl ql ?_; (with_reducible refine (digits_Read.calls (⟨#[108, 97, 116, 110]⟩ : ByteArray) (⟨#[49, 50, 32, 120]⟩ : ByteArray) t112 t113 t114 _ A2.out (by first | exact HG.out | exact HG.out.below HB.out | exact HG.out.below (pw_below_drewN HB.out _) | exact HG.out.below (below_drew HB.out) | exact HG.out.below (by assumption))).mono ?_); rintro e w26 ⟨rfl, hb⟩; refine ⟨_, rfl, ?_⟩; replace HB := qn HB hb; (try clear hb); (try clear hb2); (try clear hk); (try clear hi)) | ((with_reducible refine gate_callee (f := 15) rfl ?_); refine goesL_ (some 18) rfl rfl Tryd.func15 (by kernel_rfl) rfl #[.int .i64 1994, .bool false] rfl ql ?_; (with_reducible refine (digits_Roman.calls k 1994 false t115 t116 _ A3.out).mono ?_); rintro e w27 ⟨rfl, hb⟩; refine ⟨_, rfl, ?_⟩; replace HB := qn HB hb; (try clear hb); (try clear hb2); (try clear hk); (try clear hi)))
     go_ret
     exact ⟨qe, qh HB⟩
 · rw [if_neg c4] at H
   have c4b0 : (t110.toList == ([217, 161, 217, 160] : List UInt8)) = false := beq_eq_false_iff_ne.mpr c4
   have c4b1 : (t110.toList != ([217, 161, 217, 160] : List UInt8)) = true := bne_iff_ne.mpr c4
   obtain rfl := Option.some.inj H
   go_enter Tryd.func12, Tryd.ntmps12
   go_wp2_with (first | ((with_reducible refine gate_callee (f := 10) rfl ?_); refine goesL_ (some 9) rfl rfl Tryd.func10 (by kernel_rfl) rfl #[.string (⟨#[97, 114, 97, 98]⟩ : ByteArray), .string (⟨#[49, 48]⟩ : ByteArray)] rfl ql ?_; (with_reducible refine (digits_Render.calls (⟨#[97, 114, 97, 98]⟩ : ByteArray) (⟨#[49, 48]⟩ : ByteArray) t110 t111 _ A1.out).mono ?_); rintro e w28 ⟨rfl, hb⟩; refine ⟨_, rfl, ?_⟩; replace HB := qn HB hb; (try clear hb); (try clear hb2); (try clear hk); (try clear hi)) | ((with_reducible refine gate_callee (f := 13) rfl ?_); refine goesL_ (some 13) rfl rfl Tryd.func13 (by kernel_rfl) rfl #[.string (⟨#[108, 97, 116, 110]⟩ : ByteArray), .string (⟨#[49, 50, 32, 120]⟩ : ByteArray)] rfl ql ?_; (with_reducible refine (digits_Read.calls (⟨#[108, 97, 116, 110]⟩ : ByteArray) (⟨#[49, 50, 32, 120]⟩ : ByteArray) t112 t113 t114 _ A2.out (by first | exact HG.out | exact HG.out.below HB.out | exact HG.out.below (pw_below_drewN HB.out _) | exact HG.out.below (below_drew HB.out) | exact HG.out.below (by assumption))).mono ?_); rintro e w29 ⟨rfl, hb⟩; refine ⟨_, rfl, ?_⟩; replace HB := qn HB hb; (try clear hb); (try clear hb2); (try clear hk); (try clear hi)) | ((with_reducible refine gate_callee (f := 15) rfl ?_); refine goesL_ (some 18) rfl rfl Tryd.func15 (by kernel_rfl) rfl #[.int .i64 1994, .bool false] rfl ql ?_; (with_reducible refine (digits_Roman.calls k 1994 false t115 t116 _ A3.out).mono ?_); rintro e w30 ⟨rfl, hb⟩; refine ⟨_, rfl, ?_⟩; replace HB := qn HB hb; (try clear hb); (try clear hb2); (try clear hk); (try clear hi)))
   go_ret
   exact ⟨qe, qh HB⟩

end Go.Proofs.YtnkjeojhiligpaaDoor.H
namespace Go.Proofs.YtnkjeojhiligpaaDoor.Y
open Go.RowKit Go.Proofs.YtnkjeojhiligpaaDoorW.PrintWords Go.Proofs.YtnkjeojhiligpaaDoorW.PrintLast Go.Proofs.YtnkjeojhiligpaaDoorW.PrintMore
attribute [local go_sem] max2_int min2_int max_two min_two max_three min_three max_four min_four   -- for this text's walks alone
set_option linter.unusedVariables false
set_option linter.unusedSimpArgs false



def errW : Option Int → Value
 | none => .nilIface
 | some c => .iface 0 (.int .i64 c)
theorem errW_none : errW none = .nilIface := rfl
theorem errW_some (c : Int) : errW (some c) = .iface 0 (.int .i64 c) := rfl

end Go.Proofs.YtnkjeojhiligpaaDoor.Y
namespace Go.Proofs.YtnkjeojhiligpaaDoor.Y
open Go.RowKit Go.Proofs.YtnkjeojhiligpaaDoorW.PrintWords Go.Proofs.YtnkjeojhiligpaaDoorW.PrintLast Go.Proofs.YtnkjeojhiligpaaDoorW.PrintMore
attribute [local go_sem] max2_int min2_int max_two min_two max_three min_three max_four min_four   -- for this text's walks alone
set_option linter.unusedVariables false
set_option linter.unusedSimpArgs false

def idiomref08_piece.f (a0 : Int) (a1 : ByteArray) (a2 : ByteArray) (a3 : ByteArray) : Option (ByteArray) := if a0 = 1 then (some a1) else (if a0 = 2 then (if a1.size + a1.size ≤ 9223372036854775807 then (some (a1 ++ a1)) else (none)) else (if a0 = 3 then (if a1.size + a1.size ≤ 9223372036854775807 then (if (a1 ++ a1).size + a1.size ≤ 9223372036854775807 then (some ((a1 ++ a1) ++ a1)) else (none)) else (none)) else (if a0 = 4 then (if a1.size + a2.size ≤ 9223372036854775807 then (some (a1 ++ a2)) else (none)) else (if a0 = 5 then (some a2) else (if a0 = 6 then (if a2.size + a1.size ≤ 9223372036854775807 then (some (a2 ++ a1)) else (none)) else (if a0 = 7 then (if a2.size + a1.size ≤ 9223372036854775807 then (if (a2 ++ a1).size + a1.size ≤ 9223372036854775807 then (some ((a2 ++ a1) ++ a1)) else (none)) else (none)) else (if a0 = 8 then (if a2.size + a1.size ≤ 9223372036854775807 then (if (a2 ++ a1).size + a1.size ≤ 9223372036854775807 then (if ((a2 ++ a1) ++ a1).size + a1.size ≤ 9223372036854775807 then (some (((a2 ++ a1) ++ a1) ++ a1)) else (none)) else (none)) else (none)) else (if a0 = 9 then (if a1.size + a3.size ≤ 9223372036854775807 then (some (a1 ++ a3)) else (none)) else (some (⟨#[]⟩ : ByteArray))))))))))
set_option maxHeartbeats 8000000 in
set_option maxRecDepth 100000 in
theorem idiomref08_piece.calls (a0 : Int) (a1 : ByteArray) (a2 : ByteArray) (a3 : ByteArray) (r : ByteArray) (w : World) (h : idiomref08_piece.f a0 a1 a2 a3 = some r) :
 Calls Tryd.prog 32 #[.int .i64 a0, .string a1, .string a2, .string a3] w fun e w' => e = .returned (.string r) ∧ Drawn0 w w' := by
 have H : (if a0 = 1 then (some a1) else (if a0 = 2 then (if a1.size + a1.size ≤ 9223372036854775807 then (some (a1 ++ a1)) else (none)) else (if a0 = 3 then (if a1.size + a1.size ≤ 9223372036854775807 then (if (a1 ++ a1).size + a1.size ≤ 9223372036854775807 then (some ((a1 ++ a1) ++ a1)) else (none)) else (none)) else (if a0 = 4 then (if a1.size + a2.size ≤ 9223372036854775807 then (some (a1 ++ a2)) else (none)) else (if a0 = 5 then (some a2) else (if a0 = 6 then (if a2.size + a1.size ≤ 9223372036854775807 then (some (a2 ++ a1)) else (none)) else (if a0 = 7 then (if a2.size + a1.size ≤ 9223372036854775807 then (if (a2 ++ a1).size + a1.size ≤ 9223372036854775807 then (some ((a2 ++ a1) ++ a1)) else (none)) else (none)) else (if a0 = 8 then (if a2.size + a1.size ≤ 9223372036854775807 then (if (a2 ++ a1).size + a1.size ≤ 9223372036854775807 then (if ((a2 ++ a1) ++ a1).size + a1.size ≤ 9223372036854775807 then (some (((a2 ++ a1) ++ a1) ++ a1)) else (none)) else (none)) else (none)) else (if a0 = 9 then (if a1.size + a3.size ≤ 9223372036854775807 then (some (a1 ++ a3)) else (none)) else (some (⟨#[]⟩ : ByteArray))))))))))) = some r := h
 clear h
 by_cases c5 : a0 = 1
 · rw [if_pos c5] at H
   have c5b0 : (a0 == 1) = true := beq_iff_eq.mpr c5
   have c5b1 : (a0 != 1) = false := bne_eq_false_iff_eq.mpr c5
   try have c5b1z := c5b1
   (try simp only [bne] at c5b1z)
   clear c5
   obtain rfl := Option.some.inj H
   go_enter Tryd.func32, Tryd.ntmps32
   go_wp2
   go_ret
   exact ⟨by first | rfl | (simp; done) | (simp [*]; done), by repeat (first | exact Drawn0.refl _ | apply Drawn0.step)⟩
 · rw [if_neg c5] at H
   have c5b0 : (a0 == 1) = false := beq_eq_false_iff_ne.mpr c5
   have c5b1 : (a0 != 1) = true := bne_iff_ne.mpr c5
   try have c5b1z := c5b1
   (try simp only [bne] at c5b1z)
   by_cases c6 : a0 = 2
   · rw [if_pos c6] at H
     have c6b0 : (a0 == 2) = true := beq_iff_eq.mpr c6
     have c6b1 : (a0 != 2) = false := bne_eq_false_iff_eq.mpr c6
     try have c6b1z := c6b1
     (try simp only [bne] at c6b1z)
     clear c6
     by_cases c7 : a1.size + a1.size ≤ 9223372036854775807
     · rw [if_pos c7] at H
       have c7b0 := eq_true c7
       have c7b1 : decide (a1.size + a1.size ≤ 9223372036854775807) = true := decide_eq_true c7
       try have c7b2 : (9223372036854775807 < a1.size + a1.size) = False := eq_false (Nat.not_lt.2 c7)
       obtain rfl := Option.some.inj H
       go_enter Tryd.func32, Tryd.ntmps32
       go_wp2
       go_ret
       exact ⟨by first | rfl | (simp; done) | (simp [*]; done), by repeat (first | exact Drawn0.refl _ | apply Drawn0.step)⟩
     · rw [if_neg c7] at H
       exact absurd H (by simp)
   · rw [if_neg c6] at H
     have c6b0 : (a0 == 2) = false := beq_eq_false_iff_ne.mpr c6
     have c6b1 : (a0 != 2) = true := bne_iff_ne.mpr c6
     try have c6b1z := c6b1
     (try simp only [bne] at c6b1z)
     by_cases c8 : a0 = 3
     · rw [if_pos c8] at H
       have c8b0 : (a0 == 3) = true := beq_iff_eq.mpr c8
       have c8b1 : (a0 != 3) = false := bne_eq_false_iff_eq.mpr c8
       try have c8b1z := c8b1
       (try simp only [bne] at c8b1z)
       clear c8
       by_cases c9 : a1.size + a1.size ≤ 9223372036854775807
       · rw [if_pos c9] at H
         have c9b0 := eq_true c9
         have c9b1 : decide (a1.size + a1.size ≤ 9223372036854775807) = true := decide_eq_true c9
         try have c9b2 : (9223372036854775807 < a1.size + a1.size) = False := eq_false (Nat.not_lt.2 c9)
         by_cases c10 : (a1 ++ a1).size + a1.size ≤ 9223372036854775807
         · rw [if_pos c10] at H
           have c10b0 := eq_true c10
           try have c10b0z := c10b0
           (try simp only [go_sem, ByteArray.size_extract, ByteArray.size_append, Nat.min_self, Int.natCast_add] at c10b0z)
           have c10b1 : decide ((a1 ++ a1).size + a1.size ≤ 9223372036854775807) = true := decide_eq_true c10
           try have c10b1z := c10b1
           (try simp only [go_sem, ByteArray.size_extract, ByteArray.size_append, Nat.min_self, Int.natCast_add] at c10b1z)
           try have c10b2 : (9223372036854775807 < (a1 ++ a1).size + a1.size) = False := eq_false (Nat.not_lt.2 c10)
           try have c10b2z := c10b2
           (try simp only [go_sem, ByteArray.size_extract, ByteArray.size_append, Nat.min_self, Int.natCast_add] at c10b2z)
           obtain rfl := Option.some.inj H
           go_enter Tryd.func32, Tryd.ntmps32
           go_wp2
           go_ret
           exact ⟨by first | rfl | (simp; done) | (simp [*]; done), by repeat (first | exact Drawn0.refl _ | apply Drawn0.step)⟩
         · rw [if_neg c10] at H
           exact absurd H (by simp)
       · rw [if_neg c9] at H
         exact absurd H (by simp)
     · rw [if_neg c8] at H
       have c8b0 : (a0 == 3) = false := beq_eq_false_iff_ne.mpr c8
       have c8b1 : (a0 != 3) = true := bne_iff_ne.mpr c8
       try have c8b1z := c8b1
       (try simp only [bne] at c8b1z)
       by_cases c11 : a0 = 4
       · rw [if_pos c11] at H
         have c11b0 : (a0 == 4) = true := beq_iff_eq.mpr c11
         have c11b1 : (a0 != 4) = false := bne_eq_false_iff_eq.mpr c11
         try have c11b1z := c11b1
         (try simp only [bne] at c11b1z)
         clear c11
         by_cases c12 : a1.size + a2.size ≤ 9223372036854775807
         · rw [if_pos c12] at H
           have c12b0 := eq_true c12
           have c12b1 : decide (a1.size + a2.size ≤ 9223372036854775807) = true := decide_eq_true c12
           try have c12b2 : (9223372036854775807 < a1.size + a2.size) = False := eq_false (Nat.not_lt.2 c12)
           obtain rfl := Option.some.inj H
           go_enter Tryd.func32, Tryd.ntmps32
           go_wp2
           go_ret
           exact ⟨by first | rfl | (simp; done) | (simp [*]; done), by repeat (first | exact Drawn0.refl _ | apply Drawn0.step)⟩
         · rw [if_neg c12] at H
           exact absurd H (by simp)
       · rw [if_neg c11] at H
         have c11b0 : (a0 == 4) = false := beq_eq_false_iff_ne.mpr c11
         have c11b1 : (a0 != 4) = true := bne_iff_ne.mpr c11
         try have c11b1z := c11b1
         (try simp only [bne] at c11b1z)
         by_cases c13 : a0 = 5
         · rw [if_pos c13] at H
           have c13b0 : (a0 == 5) = true := beq_iff_eq.mpr c13
           have c13b1 : (a0 != 5) = false := bne_eq_false_iff_eq.mpr c13
           try have c13b1z := c13b1
           (try simp only [bne] at c13b1z)
           clear c13
           obtain rfl := Option.some.inj H
           go_enter Tryd.func32, Tryd.ntmps32
           go_wp2
           go_ret
           exact ⟨by first | rfl | (simp; done) | (simp [*]; done), by repeat (first | exact Drawn0.refl _ | apply Drawn0.step)⟩
         · rw [if_neg c13] at H
           have c13b0 : (a0 == 5) = false := beq_eq_false_iff_ne.mpr c13
           have c13b1 : (a0 != 5) = true := bne_iff_ne.mpr c13
           try have c13b1z := c13b1
           (try simp only [bne] at c13b1z)
           by_cases c14 : a0 = 6
           · rw [if_pos c14] at H
             have c14b0 : (a0 == 6) = true := beq_iff_eq.mpr c14
             have c14b1 : (a0 != 6) = false := bne_eq_false_iff_eq.mpr c14
             try have c14b1z := c14b1
             (try simp only [bne] at c14b1z)
             clear c14
             by_cases c15 : a2.size + a1.size ≤ 9223372036854775807
             · rw [if_pos c15] at H
               have c15b0 := eq_true c15
               have c15b1 : decide (a2.size + a1.size ≤ 9223372036854775807) = true := decide_eq_true c15
               try have c15b2 : (9223372036854775807 < a2.size + a1.size) = False := eq_false (Nat.not_lt.2 c15)
               obtain rfl := Option.some.inj H
               go_enter Tryd.func32, Tryd.ntmps32
               go_wp2
               go_ret
               exact ⟨by first | rfl | (simp; done) | (simp [*]; done), by repeat (first | exact Drawn0.refl _ | apply Drawn0.step)⟩
             · rw [if_neg c15] at H
               exact absurd H (by simp)
           · rw [if_neg c14] at H
             have c14b0 : (a0 == 6) = false := beq_eq_false_iff_ne.mpr c14
             have c14b1 : (a0 != 6) = true := bne_iff_ne.mpr c14
             try have c14b1z := c14b1
             (try simp only [bne] at c14b1z)
             by_cases c16 : a0 = 7
             · rw [if_pos c16] at H
               have c16b0 : (a0 == 7) = true := beq_iff_eq.mpr c16
               have c16b1 : (a0 != 7) = false := bne_eq_false_iff_eq.mpr c16
               try have c16b1z := c16b1
               (try simp only [bne] at c16b1z)
               clear c16
               by_cases c17 : a2.size + a1.size ≤ 9223372036854775807
               · rw [if_pos c17] at H
                 have c17b0 := eq_true c17
                 have c17b1 : decide (a2.size + a1.size ≤ 9223372036854775807) = true := decide_eq_true c17
                 try have c17b2 : (9223372036854775807 < a2.size + a1.size) = False := eq_false (Nat.not_lt.2 c17)
                 by_cases c18 : (a2 ++ a1).size + a1.size ≤ 9223372036854775807
                 · rw [if_pos c18] at H
                   have c18b0 := eq_true c18
                   try have c18b0z := c18b0
                   (try simp only [go_sem, ByteArray.size_extract, ByteArray.size_append, Nat.min_self, Int.natCast_add] at c18b0z)
                   have c18b1 : decide ((a2 ++ a1).size + a1.size ≤ 9223372036854775807) = true := decide_eq_true c18
                   try have c18b1z := c18b1
                   (try simp only [go_sem, ByteArray.size_extract, ByteArray.size_append, Nat.min_self, Int.natCast_add] at c18b1z)
                   try have c18b2 : (9223372036854775807 < (a2 ++ a1).size + a1.size) = False := eq_false (Nat.not_lt.2 c18)
                   try have c18b2z := c18b2
                   (try simp only [go_sem, ByteArray.size_extract, ByteArray.size_append, Nat.min_self, Int.natCast_add] at c18b2z)
                   obtain rfl := Option.some.inj H
                   go_enter Tryd.func32, Tryd.ntmps32
                   go_wp2
                   go_ret
                   exact ⟨by first | rfl | (simp; done) | (simp [*]; done), by repeat (first | exact Drawn0.refl _ | apply Drawn0.step)⟩
                 · rw [if_neg c18] at H
                   exact absurd H (by simp)
               · rw [if_neg c17] at H
                 exact absurd H (by simp)
             · rw [if_neg c16] at H
               have c16b0 : (a0 == 7) = false := beq_eq_false_iff_ne.mpr c16
               have c16b1 : (a0 != 7) = true := bne_iff_ne.mpr c16
               try have c16b1z := c16b1
               (try simp only [bne] at c16b1z)
               by_cases c19 : a0 = 8
               · rw [if_pos c19] at H
                 have c19b0 : (a0 == 8) = true := beq_iff_eq.mpr c19
                 have c19b1 : (a0 != 8) = false := bne_eq_false_iff_eq.mpr c19
                 try have c19b1z := c19b1
                 (try simp only [bne] at c19b1z)
                 clear c19
                 by_cases c20 : a2.size + a1.size ≤ 9223372036854775807
                 · rw [if_pos c20] at H
                   have c20b0 := eq_true c20
                   have c20b1 : decide (a2.size + a1.size ≤ 9223372036854775807) = true := decide_eq_true c20
                   try have c20b2 : (9223372036854775807 < a2.size + a1.size) = False := eq_false (Nat.not_lt.2 c20)
                   by_cases c21 : (a2 ++ a1).size + a1.size ≤ 9223372036854775807
                   · rw [if_pos c21] at H
                     have c21b0 := eq_true c21
                     try have c21b0z := c21b0
                     (try simp only [go_sem, ByteArray.size_extract, ByteArray.size_append, Nat.min_self, Int.natCast_add] at c21b0z)
                     have c21b1 : decide ((a2 ++ a1).size + a1.size ≤ 9223372036854775807) = true := decide_eq_true c21
                     try have c21b1z := c21b1
                     (try simp only [go_sem, ByteArray.size_extract, ByteArray.size_append, Nat.min_self, Int.natCast_add] at c21b1z)
                     try have c21b2 : (9223372036854775807 < (a2 ++ a1).size + a1.size) = False := eq_false (Nat.not_lt.2 c21)
                     try have c21b2z := c21b2
                     (try simp only [go_sem, ByteArray.size_extract, ByteArray.size_append, Nat.min_self, Int.natCast_add] at c21b2z)
                     by_cases c22 : ((a2 ++ a1) ++ a1).size + a1.size ≤ 9223372036854775807
                     · rw [if_pos c22] at H
                       have c22b0 := eq_true c22
                       try have c22b0z := c22b0
                       (try simp only [go_sem, ByteArray.size_extract, ByteArray.size_append, Nat.min_self, Int.natCast_add] at c22b0z)
                       have c22b1 : decide (((a2 ++ a1) ++ a1).size + a1.size ≤ 9223372036854775807) = true := decide_eq_true c22
                       try have c22b1z := c22b1
                       (try simp only [go_sem, ByteArray.size_extract, ByteArray.size_append, Nat.min_self, Int.natCast_add] at c22b1z)
                       try have c22b2 : (9223372036854775807 < ((a2 ++ a1) ++ a1).size + a1.size) = False := eq_false (Nat.not_lt.2 c22)
                       try have c22b2z := c22b2
                       (try simp only [go_sem, ByteArray.size_extract, ByteArray.size_append, Nat.min_self, Int.natCast_add] at c22b2z)
                       obtain rfl := Option.some.inj H
                       go_enter Tryd.func32, Tryd.ntmps32
                       go_wp2
                       go_ret
                       exact ⟨by first | rfl | (simp; done) | (simp [*]; done), by repeat (first | exact Drawn0.refl _ | apply Drawn0.step)⟩
                     · rw [if_neg c22] at H
                       exact absurd H (by simp)
                   · rw [if_neg c21] at H
                     exact absurd H (by simp)
                 · rw [if_neg c20] at H
                   exact absurd H (by simp)
               · rw [if_neg c19] at H
                 have c19b0 : (a0 == 8) = false := beq_eq_false_iff_ne.mpr c19
                 have c19b1 : (a0 != 8) = true := bne_iff_ne.mpr c19
                 try have c19b1z := c19b1
                 (try simp only [bne] at c19b1z)
                 by_cases c23 : a0 = 9
                 · rw [if_pos c23] at H
                   have c23b0 : (a0 == 9) = true := beq_iff_eq.mpr c23
                   have c23b1 : (a0 != 9) = false := bne_eq_false_iff_eq.mpr c23
                   try have c23b1z := c23b1
                   (try simp only [bne] at c23b1z)
                   clear c23
                   by_cases c24 : a1.size + a3.size ≤ 9223372036854775807
                   · rw [if_pos c24] at H
                     have c24b0 := eq_true c24
                     have c24b1 : decide (a1.size + a3.size ≤ 9223372036854775807) = true := decide_eq_true c24
                     try have c24b2 : (9223372036854775807 < a1.size + a3.size) = False := eq_false (Nat.not_lt.2 c24)
                     obtain rfl := Option.some.inj H
                     go_enter Tryd.func32, Tryd.ntmps32
                     go_wp2
                     go_ret
                     exact ⟨by first | rfl | (simp; done) | (simp [*]; done), by repeat (first | exact Drawn0.refl _ | apply Drawn0.step)⟩
                   · rw [if_neg c24] at H
                     exact absurd H (by simp)
                 · rw [if_neg c23] at H
                   have c23b0 : (a0 == 9) = false := beq_eq_false_iff_ne.mpr c23
                   have c23b1 : (a0 != 9) = true := bne_iff_ne.mpr c23
                   try have c23b1z := c23b1
                   (try simp only [bne] at c23b1z)
                   obtain rfl := Option.some.inj H
                   go_enter Tryd.func32, Tryd.ntmps32
                   go_wp2
                   go_ret
                   exact ⟨by first | rfl | (simp; done) | (simp [*]; done), by repeat (first | exact Drawn0.refl _ | apply Drawn0.step)⟩

end Go.Proofs.YtnkjeojhiligpaaDoor.Y
set_option linter.unusedVariables false
set_option linter.unusedSimpArgs false
set_option maxRecDepth 100000
namespace Go.Proofs.YtnkjeojhiligpaaDoor.Rom8
open Go.RowKit Go.Proofs.YtnkjeojhiligpaaDoorW.PrintWords Go.Proofs.YtnkjeojhiligpaaDoorW.PrintLast Go.Proofs.YtnkjeojhiligpaaDoorW.PrintMore Go.Proofs.YtnkjeojhiligpaaDoor.Aid Go.Proofs.YtnkjeojhiligpaaDoor.Y
def letters : List UInt8 := [73, 86, 88, 76, 67, 68, 77]
def wAt (i : Int) : Int := if i = 0 then 1 else if i = 1 then 5 else if i = 2 then 10 else if i = 3 then 50 else if i = 4 then 100 else if i = 5 then 500 else if i = 6 then 1000 else 0
def worth (c : Int) : Int := wAt (Lib.indexByte letters c.toNat.toUInt8)
theorem at_cases (b : UInt8) : Lib.indexByte letters b = -1 ∨ Lib.indexByte letters b = 0 ∨ Lib.indexByte letters b = 1 ∨ Lib.indexByte letters b = 2 ∨ Lib.indexByte letters b = 3 ∨ Lib.indexByte letters b = 4 ∨ Lib.indexByte letters b = 5 ∨ Lib.indexByte letters b = 6 := by
  have h : ∀ n, n < 256 → (Lib.indexByte letters (UInt8.ofNat n) = -1 ∨ Lib.indexByte letters (UInt8.ofNat n) = 0 ∨ Lib.indexByte letters (UInt8.ofNat n) = 1 ∨ Lib.indexByte letters (UInt8.ofNat n) = 2 ∨ Lib.indexByte letters (UInt8.ofNat n) = 3 ∨ Lib.indexByte letters (UInt8.ofNat n) = 4 ∨ Lib.indexByte letters (UInt8.ofNat n) = 5 ∨ Lib.indexByte letters (UInt8.ofNat n) = 6) := by decide +kernel
  have := h b.toNat b.toNat_lt
  rwa [UInt8.ofNat_toNat] at this
def row7 : Array Value := #[.int .i64 1, .int .i64 5, .int .i64 10, .int .i64 50, .int .i64 100, .int .i64 500, .int .i64 1000]
theorem idx7 (i : Int) (hi : i = 0 ∨ i = 1 ∨ i = 2 ∨ i = 3 ∨ i = 4 ∨ i = 5 ∨ i = 6) (w : World) : (Instr.index 83 (.agg row7) (.int .i64 i)).run Tryd.prog w = .ok (.int .i64 (wAt i)) w := by
  rcases hi with rfl | rfl | rfl | rfl | rfl | rfl | rfl <;> (unfold Instr.index; simp only [asIntOf, Sem.run_bind, Sem.run_pure, run_underlying Tryd.underlying83, Result.andThen]; rfl)
set_option maxHeartbeats 4000000 in
theorem worth_calls (c : Int) (w : World) : Calls Tryd.prog 35 #[.int .u8 c] w fun e w' => e = .returned (.int .i64 (worth c)) ∧ w' = w := by
  have hi := Tryd.strings_IndexByte ⟨#[73, 86, 88, 76, 67, 68, 77]⟩ c w
  have hq : (⟨#[73, 86, 88, 76, 67, 68, 77]⟩ : ByteArray).data.toList = letters := rfl
  rw [hq] at hi
  clear hq
  have hc := at_cases c.toNat.toUInt8
  unfold worth
  generalize Lib.indexByte letters c.toNat.toUInt8 = at_ at hi hc ⊢
  go_enter Tryd.func35, Tryd.ntmps35
  rcases hc with rfl | hc
  · go_wp2_with (go_at_call 55; refine hi.mono ?_; rintro e w' ⟨rfl, rfl⟩)
    go_ret
    exact ⟨rfl, rfl⟩
  · have hx := idx7 at_ hc w
    unfold row7 at hx
    rcases hc with rfl | rfl | rfl | rfl | rfl | rfl | rfl
    all_goals
      go_wp2_with (go_at_call 55; refine hi.mono ?_; rintro e w' ⟨rfl, rfl⟩)
      go_ret
      exact ⟨rfl, rfl⟩
/-- A digit by its letters. -/
def pc (d : Nat) (a b c : List UInt8) : List UInt8 :=
  if d = 1 then a else if d = 2 then a ++ a else if d = 3 then a ++ a ++ a else if d = 4 then a ++ b else if d = 5 then b else if d = 6 then b ++ a else if d = 7 then b ++ a ++ a else if d = 8 then b ++ a ++ a ++ a else if d = 9 then a ++ c else []
theorem app (a b : List UInt8) : (⟨a.toArray⟩ : ByteArray) ++ ⟨b.toArray⟩ = ⟨(a ++ b).toArray⟩ := by
  apply ByteArray.ext
  rw [ByteArray.data_append]
  simp
theorem mks (l : List UInt8) : (⟨l.toArray⟩ : ByteArray).size = l.length := by
  show l.toArray.size = l.length
  simp
theorem piece_is (d : Nat) (a b c : List UInt8) (ha : a.length ≤ 1) (hb : b.length ≤ 1) (hc : c.length ≤ 1) (hd : d < 10) : idiomref08_piece.f (d : Int) ⟨a.toArray⟩ ⟨b.toArray⟩ ⟨c.toArray⟩ = some ⟨(pc d a b c).toArray⟩ := by
  rcases (by omega : d = 0 ∨ d = 1 ∨ d = 2 ∨ d = 3 ∨ d = 4 ∨ d = 5 ∨ d = 6 ∨ d = 7 ∨ d = 8 ∨ d = 9) with rfl | rfl | rfl | rfl | rfl | rfl | rfl | rfl | rfl | rfl <;> simp [idiomref08_piece.f, pc, app, mks, List.append_assoc] <;> omega
theorem pc_len (d : Nat) (a b c : List UInt8) (ha : a.length ≤ 1) (hb : b.length ≤ 1) (hc : c.length ≤ 1) : (pc d a b c).length ≤ 4 := by
  unfold pc
  repeat' split
  all_goals (try simp only [List.length_append, List.length_nil])
  all_goals omega
/-- A numeral's letters. -/
def rom (n : Nat) : List UInt8 := pc (n / 1000) [77] [] [] ++ pc (n / 100 % 10) [67] [68] [77] ++ pc (n / 10 % 10) [88] [76] [67] ++ pc (n % 10) [73] [86] [88]
def low (l : List UInt8) : List UInt8 := l.map (· + 32)
def f (n : Int) (small : Bool) : ByteArray × Int := if n < 1 ∨ 3999 < n then (⟨#[]⟩, 82) else if small = true then (⟨(low (rom n.toNat)).toArray⟩, 0) else (⟨(rom n.toNat).toArray⟩, 0)
theorem rom_up (n : Nat) : ∀ b ∈ rom n, 65 ≤ b.toNat ∧ b.toNat ≤ 90 := by
  have h : ∀ (d : Nat) (a b c : List UInt8), (∀ x ∈ a, 65 ≤ x.toNat ∧ x.toNat ≤ 90) → (∀ x ∈ b, 65 ≤ x.toNat ∧ x.toNat ≤ 90) → (∀ x ∈ c, 65 ≤ x.toNat ∧ x.toNat ≤ 90) → ∀ x ∈ pc d a b c, 65 ≤ x.toNat ∧ x.toNat ≤ 90 := by
    intro d a b c ha hb hc x hx
    unfold pc at hx
    repeat' split at hx
    all_goals (try simp only [List.mem_append] at hx)
    all_goals first
      | exact ha x hx
      | exact hb x hx
      | exact absurd hx (List.not_mem_nil)
      | (rcases hx with hx | hx <;> first | exact ha x hx | exact hb x hx | exact hc x hx)
      | (rcases hx with (hx | hx) | hx <;> first | exact ha x hx | exact hb x hx)
      | (rcases hx with ((hx | hx) | hx) | hx <;> first | exact ha x hx | exact hb x hx)
  intro b hb
  unfold rom at hb
  simp only [List.mem_append] at hb
  rcases hb with ((hb | hb) | hb) | hb
  · exact h _ _ _ _ (by decide) (by decide) (by decide) b hb
  · exact h _ _ _ _ (by decide) (by decide) (by decide) b hb
  · exact h _ _ _ _ (by decide) (by decide) (by decide) b hb
  · exact h _ _ _ _ (by decide) (by decide) (by decide) b hb
theorem rom_len (n : Nat) : (rom n).length ≤ 16 := by
  have h1 := pc_len (n / 1000) [77] [] [] (by decide) (by decide) (by decide)
  have h2 := pc_len (n / 100 % 10) [67] [68] [77] (by decide) (by decide) (by decide)
  have h3 := pc_len (n / 10 % 10) [88] [76] [67] (by decide) (by decide) (by decide)
  have h4 := pc_len (n % 10) [73] [86] [88] (by decide) (by decide) (by decide)
  unfold rom
  simp only [List.length_append]
  omega
/-- The first i letters small, the others as they were. -/
def half (l : List UInt8) (i j : Nat) : UInt8 := if j < i then l.getD j 0 + 32 else l.getD j 0
def St (l : List UInt8) (i : Nat) (A : Array Value) : Prop := l.length ≤ A.size ∧ ∀ j, j < l.length → A[j]? = some (.int .u8 ((half l i j).toNat : Int))
theorem St.start (l : List UInt8) (cap : Nat) : St l 0 (bytesRow ⟨l.toArray⟩ cap) := by
  refine ⟨?_, fun j hj => ?_⟩
  · unfold bytesRow
    simp
  · rw [bytesRow_at ⟨l.toArray⟩ cap j (by simpa using hj)]
    unfold half
    simp [List.getD, List.getElem?_eq_getElem hj]
theorem St.step {l : List UInt8} {i : Nat} {A : Array Value} (h : St l i A) (hi : i < l.length) : St l (i + 1) (A.setIfInBounds i (.int .u8 ((l.getD i 0 + 32).toNat : Int))) := by
  refine ⟨by rw [Array.size_setIfInBounds]; exact h.1, fun j hj => ?_⟩
  rw [Array.getElem?_setIfInBounds]
  by_cases c : i = j
  · subst c
    rw [if_pos rfl, if_pos (by have := h.1; omega)]
    unfold half
    rw [if_pos (by omega)]
  · rw [if_neg c, h.2 j hj]
    unfold half
    by_cases c2 : j < i
    · rw [if_pos c2, if_pos (by omega)]
    · rw [if_neg c2, if_neg (by omega)]
theorem froz {w : World} {b j m m2 : Nat} {A : Array Value} {T : TypeId} (hb : w.heap[b]? = some (.cells A T (m, m2))) (hj : j < m) : w.frozen? ⟨b, j, none⟩ = false := by
  unfold World.frozen?
  rw [hb]
  simp
  omega
theorem set_at {w : World} {b : Nat} {cs : Array Value} {T : TypeId} {fr : Nat × Nat} (hb : w.heap[b]? = some (.cells cs T fr)) (j : Nat) (v : Value) : (w.setCell ⟨b, j, none⟩ v).heap[b]? = some (.cells (cs.setIfInBounds j v) T fr) := by
  unfold World.setCell
  simp only [Array.getElem?_modify]
  simp [hb]
theorem w64 {x : Int} (h0 : -9223372036854775808 ≤ x) (h1 : x ≤ 9223372036854775807) : wrap64 x = x := by unfold wrap64; omega
theorem tdiv_n (n d : Nat) : Int.tdiv (n : Int) (d : Int) = ((n / d : Nat) : Int) := by rw [Int.tdiv_eq_ediv_of_nonneg (by omega)]; rfl
theorem tmod_n (n d : Nat) : Int.tmod (n : Int) (d : Int) = ((n % d : Nat) : Int) := by rw [Int.tmod_eq_emod_of_nonneg (by omega)]; rfl
theorem z1 (n : Nat) (h : n ≤ 3999) : wrap64 (Int.tdiv (n : Int) 1000) = ((n / 1000 : Nat) : Int) := by
  rw [show (1000 : Int) = ((1000 : Nat) : Int) from rfl, tdiv_n, w64 (by omega) (by omega)]
theorem z2 (n : Nat) (h : n ≤ 3999) : wrap64 (Int.tdiv (n : Int) 100) = ((n / 100 : Nat) : Int) := by
  rw [show (100 : Int) = ((100 : Nat) : Int) from rfl, tdiv_n, w64 (by omega) (by omega)]
theorem z3 (n : Nat) (h : n ≤ 3999) : wrap64 (Int.tdiv (n : Int) 10) = ((n / 10 : Nat) : Int) := by
  rw [show (10 : Int) = ((10 : Nat) : Int) from rfl, tdiv_n, w64 (by omega) (by omega)]
theorem z4 (n : Nat) : Int.tmod (n : Int) 10 = ((n % 10 : Nat) : Int) := by
  rw [show (10 : Int) = ((10 : Nat) : Int) from rfl, tmod_n]
end Go.Proofs.YtnkjeojhiligpaaDoor.Rom8
set_option linter.unusedVariables false
set_option linter.unusedSimpArgs false
set_option maxRecDepth 100000
namespace Go.Proofs.YtnkjeojhiligpaaDoor.RomW
open Go.RowKit Go.MapKept Go.ChangeMaps Go.Proofs.YtnkjeojhiligpaaDoorW.PrintWords Go.Proofs.YtnkjeojhiligpaaDoorW.PrintLast Go.Proofs.YtnkjeojhiligpaaDoorW.PrintMore Go.Proofs.YtnkjeojhiligpaaDoor.Aid Go.Proofs.YtnkjeojhiligpaaDoor.Y Go.Proofs.YtnkjeojhiligpaaDoor.Rom8
theorem new_at (w : World) (o : Obj) {n : Nat} (h : n = w.heap.size) : (w.alloc o).heap[n]? = some o := by rw [h]; exact (heap_alloc w o).1
theorem low_get (l : List UInt8) (j : Nat) (hj : j < (low l).length) (hj2 : j < l.length) : (low l)[j] = l.getD j 0 + 32 := by
  have e : (low l)[j]? = some (l.getD j 0 + 32) := by
    unfold low
    rw [List.getElem?_map, List.getElem?_eq_getElem hj2, List.getD_eq_getElem?_getD, List.getElem?_eq_getElem hj2]
    rfl
  rw [List.getElem?_eq_getElem hj] at e
  exact Option.some.inj e
theorem bytes_new (s : ByteArray) (w : World) : ∃ (A : Array Value) (m m2 cap : Nat) (w' : World), (convert 9 43 (.string s)).run Tryd.prog w = .ok (.slice (some ⟨w.heap.size, 0, none⟩) s.size cap) w' ∧ w'.heap[w.heap.size]? = some (.cells A 5 (m, m2)) ∧ s.size ≤ m ∧ St s.data.toList 0 A ∧ Below w.heap.size w w' := by
  refine ⟨_, _, _, _, _, run_bytes_of_string w 9 43 5 s Tryd.underlying9 Tryd.underlying43 Tryd.underlying5, new_at _ _ (by simp), ?_, ?_, ?_⟩
  · unfold bytesRow
    simp
  · have e : s = ⟨s.data.toList.toArray⟩ := by simp
    have h := St.start s.data.toList (grownCap w s.size 0 5)
    rw [← e] at h
    exact h
  · exact ((Below.refl _ w).drew).alloc (by simp) _
set_option maxHeartbeats 800000 in
theorem small_go (n m2 m3 : Int) (t1 t2 t3 t4 s : ByteArray) (k1 k2 k3 k4 : Int) (c1 : decide (n < 1) = false) (c2 : decide (3999 < n) = false)
    (z1 : wrap64 (Int.tdiv n 1000) = k1) (z2 : wrap64 (Int.tdiv n 100) = m2) (z3 : wrap64 (Int.tdiv n 10) = m3) (y2 : Int.tmod m2 10 = k2) (y3 : Int.tmod m3 10 = k3) (y4 : Int.tmod n 10 = k4)
    (Q1 : Aside0 (∀ W, Calls Tryd.prog 32 #[.int .i64 k1, .string ⟨#[77]⟩, .string ⟨#[]⟩, .string ⟨#[]⟩] W fun e w' => e = .returned (.string t1) ∧ Drawn0 W w'))
    (Q2 : Aside0 (∀ W, Calls Tryd.prog 32 #[.int .i64 k2, .string ⟨#[67]⟩, .string ⟨#[68]⟩, .string ⟨#[77]⟩] W fun e w' => e = .returned (.string t2) ∧ Drawn0 W w'))
    (Q3 : Aside0 (∀ W, Calls Tryd.prog 32 #[.int .i64 k3, .string ⟨#[88]⟩, .string ⟨#[76]⟩, .string ⟨#[67]⟩] W fun e w' => e = .returned (.string t3) ∧ Drawn0 W w'))
    (Q4 : Aside0 (∀ W, Calls Tryd.prog 32 #[.int .i64 k4, .string ⟨#[73]⟩, .string ⟨#[86]⟩, .string ⟨#[88]⟩] W fun e w' => e = .returned (.string t4) ∧ Drawn0 W w'))
    (hup : ∀ b ∈ s.data.toList, 65 ≤ b.toNat ∧ b.toNat ≤ 90) (hs : Aside0 (t1 ++ t2 ++ t3 ++ t4 = s)) (h4 : Aside0 (t1.size ≤ 4 ∧ t2.size ≤ 4 ∧ t3.size ≤ 4 ∧ t4.size ≤ 4)) (w : World) : Calls Tryd.prog 16 #[.int .i64 n, .bool true] w fun e w' => e = .returned (.tuple #[.string ⟨(low s.data.toList).toArray⟩, .int .i64 0]) ∧ Below w.heap.size w w' := by
  have g1 : (9223372036854775807 < t1.size + t2.size) = False := eq_false (by have := h4.out; omega)
  have g2 : (9223372036854775807 < t1.size + t2.size + t3.size) = False := eq_false (by have := h4.out; omega)
  have g3 : (9223372036854775807 < t1.size + t2.size + t3.size + t4.size) = False := eq_false (by have := h4.out; omega)
  have e1 : (t1.size + t2.size ≤ 9223372036854775807) = True := eq_true (by have := h4.out; omega)
  have e2 : (t1.size + t2.size + t3.size ≤ 9223372036854775807) = True := eq_true (by have := h4.out; omega)
  have e3 : (t1.size + t2.size + t3.size + t4.size ≤ 9223372036854775807) = True := eq_true (by have := h4.out; omega)
  go_enter Tryd.func16, Tryd.ntmps16
  go_wp2_with (first
    | (go_at_call 32; (with_reducible refine (Q1.out _).mono ?_); rintro e w1 ⟨rfl, hb1⟩)
    | (go_at_call 32; (with_reducible refine (Q2.out _).mono ?_); rintro e w2 ⟨rfl, hb2⟩)
    | (go_at_call 32; (with_reducible refine (Q3.out _).mono ?_); rintro e w3 ⟨rfl, hb3⟩)
    | (go_at_call 32; (with_reducible refine (Q4.out _).mono ?_); rintro e w4 ⟨rfl, hb4⟩))
  have B1 := hb1.below
  have B2 := B1.trans (hb2.below.mono B1.size)
  have B3 := B2.trans (hb3.below.mono B2.size)
  have HB := Aside0.mk (B3.trans (hb4.below.mono B3.size))
  clear B1 B2 B3
  clear hb1 hb2 hb3 hb4 Q1 Q2 Q3 Q4 z1 z2 z3 y2 y3 y4 c1 c2 g1 g2 g3 e1 e2 e3
  have HU := Aside0.mk hup
  have HZ : Aside0 (s.size ≤ 16) := ⟨by have := h4.out; rw [← hs.out]; simp only [ByteArray.size_append]; omega⟩
  clear hup h4
  rw [hs.out]
  obtain ⟨A, m, m2, cap, W1, hcv, hA, hm, hSt, hB1⟩ := bytes_new s w4
  have HB2 := Aside0.mk (HB.out.trans (hB1.mono HB.out.size))
  have HM := Aside0.mk hm
  have HA := Aside0.mk (And.intro hA hSt)
  have HS4 := Aside0.mk HB.out.size
  clear hm hA hSt hB1 HB
  rw [hcv]
  simp only [Result.andThen]
  go_wp2
  go_loopw [8] (fun i wr => ∃ (x : Nat) (A : Array Value), i = .int .i64 x ∧ Aside0 (wr.heap[w4.heap.size]? = some (.cells A 5 (m, m2)) ∧ St s.data.toList x A) ∧ Aside0 (x ≤ s.size) ∧ Aside0 (Below w.heap.size w wr)) (fun i _ => s.size - (intOf i).toNat)
  case atStart => exact ⟨0, A, rfl, HA, ⟨Nat.zero_le _⟩, HB2⟩
  case round =>
    obtain ⟨x, A, rfl, HA, HX, HB⟩ := hrel
    by_cases hx : x < s.size
    · have d0 : decide ((x : Int) < (s.size : Int)) = true := decide_eq_true (by omega)
      have d0n : decide (x < s.size) = true := decide_eq_true hx
      have p1 : (0 ≤ (x : Int)) = True := eq_true (by omega)
      have p2 : ((x : Int) < (s.size : Int)) = True := eq_true (by omega)
      have p2n : (x < s.size) = True := eq_true hx
      have hxl : x < s.data.toList.length := by rw [Array.length_toList]; exact hx
      have hv : (s.data.toList.getD x 0) ∈ s.data.toList := by
        rw [List.getD_eq_getElem?_getD, List.getElem?_eq_getElem hxl]
        exact List.getElem_mem hxl
      obtain ⟨v1, v2⟩ := HU.out _ hv
      have c1 : wr.cell? ⟨w4.heap.size, x, none⟩ = some (.int .u8 (((s.data.toList.getD x 0).toNat : Nat) : Int)) := by
        rw [Lib.cell_of_heap HA.out.1, HA.out.2.2 x hxl]
        unfold half
        rw [if_neg (Nat.lt_irrefl _)]
      have f1 : wr.frozen? ⟨w4.heap.size, x, none⟩ = false := froz HA.out.1 (Nat.lt_of_lt_of_le hx HM.out)
      have st := St.step HA.out.2 hxl
      have e32 : ((s.data.toList.getD x 0 + 32).toNat : Int) = ((s.data.toList.getD x 0).toNat : Int) + 32 := by
        rw [UInt8.toNat_add]
        show (((_ + 32) % 256 : Nat) : Int) = _
        omega
      rw [e32] at st
      have ST := Aside0.mk st
      clear st hv hxl e32
      generalize (s.data.toList.getD x 0).toNat = v at *
      have w1 : IntKind.u8.wrap ((v : Int) + 97) = (v : Int) + 97 := by rw [IntKind.wrap_u8]; omega
      have w2 : IntKind.u8.wrap ((v : Int) + 97 - 65) = (v : Int) + 32 := by rw [IntKind.wrap_u8]; omega
      have wy : IntKind.i64.wrap ((x : Int) + 1) = ((x + 1 : Nat) : Int) := by have := HX.out; have := HZ.out; rw [IntKind.wrap_i64]; omega
      clear v1 v2
      go_wp2
      go_roundw
      case rel =>
        exact ⟨x + 1, _, by rw [Int.natCast_add]; rfl, ⟨set_at HA.out.1 x _, ST.out⟩, ⟨hx⟩, ⟨HB.out.setCell (by have := HS4.out; simp; omega) _⟩⟩
      case measure => simp only [intOf]; omega
    · obtain rfl : x = s.size := Nat.le_antisymm HX.out (Nat.not_lt.1 hx)
      have d0 : decide ((s.size : Int) < (s.size : Int)) = false := decide_eq_false (by omega)
      have d0n : decide (s.size < s.size) = false := decide_eq_false (by omega)
      have hbk : (convert 43 9 (.slice (some ⟨w4.heap.size, 0, none⟩) s.size cap)).run Tryd.prog wr = .ok (.string ⟨(low s.data.toList).toArray⟩) wr := by
        have hl : (low s.data.toList).length = s.size := by unfold low; rw [List.length_map, Array.length_toList]; rfl
        have h := run_convert_bytes_back (P := Tryd.prog) wr 43 9 5 ⟨w4.heap.size, 0, none⟩ cap (low s.data.toList) Tryd.underlying43 Tryd.underlying5 Tryd.underlying9 (fun j hj => by
          have hj2 : j < s.data.toList.length := by rw [Array.length_toList]; rw [hl] at hj; exact hj
          rw [show (⟨w4.heap.size, 0, none⟩ : Addr).add j = ⟨w4.heap.size, j, none⟩ from by simp [Addr.add]; omega, Lib.cell_of_heap HA.out.1, HA.out.2.2 j hj2]
          unfold half
          rw [if_pos (by rw [Array.length_toList] at hj2; exact hj2), low_get _ j hj hj2])
        rw [hl] at h
        exact h
      go_wp2
      go_ret2
      exact ⟨rfl, HB.out⟩
set_option maxHeartbeats 800000 in
theorem big_go (n m2 m3 : Int) (t1 t2 t3 t4 s : ByteArray) (k1 k2 k3 k4 : Int) (c1 : decide (n < 1) = false) (c2 : decide (3999 < n) = false)
    (z1 : wrap64 (Int.tdiv n 1000) = k1) (z2 : wrap64 (Int.tdiv n 100) = m2) (z3 : wrap64 (Int.tdiv n 10) = m3) (y2 : Int.tmod m2 10 = k2) (y3 : Int.tmod m3 10 = k3) (y4 : Int.tmod n 10 = k4)
    (Q1 : Aside0 (∀ W, Calls Tryd.prog 32 #[.int .i64 k1, .string ⟨#[77]⟩, .string ⟨#[]⟩, .string ⟨#[]⟩] W fun e w' => e = .returned (.string t1) ∧ Drawn0 W w'))
    (Q2 : Aside0 (∀ W, Calls Tryd.prog 32 #[.int .i64 k2, .string ⟨#[67]⟩, .string ⟨#[68]⟩, .string ⟨#[77]⟩] W fun e w' => e = .returned (.string t2) ∧ Drawn0 W w'))
    (Q3 : Aside0 (∀ W, Calls Tryd.prog 32 #[.int .i64 k3, .string ⟨#[88]⟩, .string ⟨#[76]⟩, .string ⟨#[67]⟩] W fun e w' => e = .returned (.string t3) ∧ Drawn0 W w'))
    (Q4 : Aside0 (∀ W, Calls Tryd.prog 32 #[.int .i64 k4, .string ⟨#[73]⟩, .string ⟨#[86]⟩, .string ⟨#[88]⟩] W fun e w' => e = .returned (.string t4) ∧ Drawn0 W w'))
    (hs : Aside0 (t1 ++ t2 ++ t3 ++ t4 = s)) (h4 : Aside0 (t1.size ≤ 4 ∧ t2.size ≤ 4 ∧ t3.size ≤ 4 ∧ t4.size ≤ 4)) (w : World) : Calls Tryd.prog 16 #[.int .i64 n, .bool false] w fun e w' => e = .returned (.tuple #[.string s, .int .i64 0]) ∧ Below w.heap.size w w' := by
  have g1 : (9223372036854775807 < t1.size + t2.size) = False := eq_false (by have := h4.out; omega)
  have g2 : (9223372036854775807 < t1.size + t2.size + t3.size) = False := eq_false (by have := h4.out; omega)
  have g3 : (9223372036854775807 < t1.size + t2.size + t3.size + t4.size) = False := eq_false (by have := h4.out; omega)
  have e1 : (t1.size + t2.size ≤ 9223372036854775807) = True := eq_true (by have := h4.out; omega)
  have e2 : (t1.size + t2.size + t3.size ≤ 9223372036854775807) = True := eq_true (by have := h4.out; omega)
  have e3 : (t1.size + t2.size + t3.size + t4.size ≤ 9223372036854775807) = True := eq_true (by have := h4.out; omega)
  go_enter Tryd.func16, Tryd.ntmps16
  go_wp2_with (first
    | (go_at_call 32; (with_reducible refine (Q1.out _).mono ?_); rintro e w1 ⟨rfl, hb1⟩)
    | (go_at_call 32; (with_reducible refine (Q2.out _).mono ?_); rintro e w2 ⟨rfl, hb2⟩)
    | (go_at_call 32; (with_reducible refine (Q3.out _).mono ?_); rintro e w3 ⟨rfl, hb3⟩)
    | (go_at_call 32; (with_reducible refine (Q4.out _).mono ?_); rintro e w4 ⟨rfl, hb4⟩))
  have B1 := hb1.below
  have B2 := B1.trans (hb2.below.mono B1.size)
  have B3 := B2.trans (hb3.below.mono B2.size)
  have HB := B3.trans (hb4.below.mono B3.size)
  go_ret2
  exact ⟨by rw [hs.out]; rfl, HB⟩
set_option maxHeartbeats 800000 in
theorem low_n (n : Int) (small : Bool) (c1 : decide (n < 1) = true) (w : World) : Calls Tryd.prog 16 #[.int .i64 n, .bool small] w fun e w' => e = .returned (.tuple #[.string ⟨#[]⟩, .int .i64 82]) ∧ Below w.heap.size w w' := by
  go_enter Tryd.func16, Tryd.ntmps16
  go_wp2
  go_ret2
  exact ⟨rfl, Below.refl _ w⟩
set_option maxHeartbeats 800000 in
theorem high_n (n : Int) (small : Bool) (c1 : decide (n < 1) = false) (c2 : decide (3999 < n) = true) (w : World) : Calls Tryd.prog 16 #[.int .i64 n, .bool small] w fun e w' => e = .returned (.tuple #[.string ⟨#[]⟩, .int .i64 82]) ∧ Below w.heap.size w w' := by
  go_enter Tryd.func16, Tryd.ntmps16
  go_wp2
  go_ret2
  exact ⟨rfl, Below.refl _ w⟩
theorem calls (n : Int) (small : Bool) (w : World) : Calls Tryd.prog 16 #[.int .i64 n, .bool small] w fun e w' => e = .returned (.tuple #[.string (f n small).1, .int .i64 (f n small).2]) ∧ Below w.heap.size w w' := by
  unfold f
  by_cases h1 : n < 1
  · rw [if_pos (.inl h1)]
    exact low_n n small (decide_eq_true h1) w
  by_cases h2 : 3999 < n
  · rw [if_pos (.inr h2)]
    exact high_n n small (decide_eq_false h1) (decide_eq_true h2) w
  rw [if_neg (by omega)]
  obtain ⟨n, rfl⟩ := Int.eq_ofNat_of_zero_le (show 0 ≤ n by omega)
  have hn : n ≤ 3999 := by omega
  rw [Int.toNat_natCast]
  have q1 := Aside0.mk fun W => idiomref08_piece.calls _ _ _ _ _ W (piece_is (n / 1000) [77] [] [] (by decide) (by decide) (by decide) (by omega))
  have q2 := Aside0.mk fun W => idiomref08_piece.calls _ _ _ _ _ W (piece_is (n / 100 % 10) [67] [68] [77] (by decide) (by decide) (by decide) (by omega))
  have q3 := Aside0.mk fun W => idiomref08_piece.calls _ _ _ _ _ W (piece_is (n / 10 % 10) [88] [76] [67] (by decide) (by decide) (by decide) (by omega))
  have q4 := Aside0.mk fun W => idiomref08_piece.calls _ _ _ _ _ W (piece_is (n % 10) [73] [86] [88] (by decide) (by decide) (by decide) (by omega))
  have hs : Aside0 ((⟨(pc (n / 1000) [77] [] []).toArray⟩ : ByteArray) ++ ⟨(pc (n / 100 % 10) [67] [68] [77]).toArray⟩ ++ ⟨(pc (n / 10 % 10) [88] [76] [67]).toArray⟩ ++ ⟨(pc (n % 10) [73] [86] [88]).toArray⟩ = ⟨(rom n).toArray⟩) := ⟨by rw [app, app, app]; rfl⟩
  have h4 : Aside0 ((⟨(pc (n / 1000) [77] [] []).toArray⟩ : ByteArray).size ≤ 4 ∧ (⟨(pc (n / 100 % 10) [67] [68] [77]).toArray⟩ : ByteArray).size ≤ 4 ∧ (⟨(pc (n / 10 % 10) [88] [76] [67]).toArray⟩ : ByteArray).size ≤ 4 ∧ (⟨(pc (n % 10) [73] [86] [88]).toArray⟩ : ByteArray).size ≤ 4) := by
    refine ⟨?_⟩
    rw [mks, mks, mks, mks]
    exact ⟨pc_len _ _ _ _ (by decide) (by decide) (by decide), pc_len _ _ _ _ (by decide) (by decide) (by decide), pc_len _ _ _ _ (by decide) (by decide) (by decide), pc_len _ _ _ _ (by decide) (by decide) (by decide)⟩
  cases small with
  | false =>
    rw [if_neg Bool.false_ne_true]
    exact big_go n _ _ _ _ _ _ _ _ _ _ _ (decide_eq_false h1) (decide_eq_false h2) (z1 n hn) (z2 n hn) (z3 n hn) (z4 _) (z4 _) (z4 n) q1 q2 q3 q4 hs h4 w
  | true =>
    rw [if_pos rfl]
    exact small_go n _ _ _ _ _ _ _ _ _ _ _ (decide_eq_false h1) (decide_eq_false h2) (z1 n hn) (z2 n hn) (z3 n hn) (z4 _) (z4 _) (z4 n) q1 q2 q3 q4 (rom_up n) hs h4 w
end Go.Proofs.YtnkjeojhiligpaaDoor.RomW
namespace Go.Proofs.YtnkjeojhiligpaaDoor.TrimA
open Go.RowKit
theorem calls (s cutset : ByteArray) (w : World) (hs : s.size ≤ 9223372036854775807) (hcs : cutset.size < 4294967281) (ha : ∀ b ∈ cutset.data.toList, b.toNat < 128) :
    Calls Tryd.prog 33 #[.string s, .string cutset] w fun e w' => e = .returned (.string ⟨(Lib.trimS s.data.toList cutset.data.toList).toArray⟩) ∧ Below w.heap.size w w' :=
  Any.strings_Trim_laid Tryd.lays160 (by kernel_rfl) s cutset w hs hcs (fun j b hb => ha b (List.mem_of_getElem? hb))
end Go.Proofs.YtnkjeojhiligpaaDoor.TrimA
namespace Go.Proofs.YtnkjeojhiligpaaDoor.H
open Go.RowKit Go.Proofs.YtnkjeojhiligpaaDoorW.PrintWords Go.Proofs.YtnkjeojhiligpaaDoorW.PrintLast Go.Proofs.YtnkjeojhiligpaaDoorW.PrintMore Go.Proofs.YtnkjeojhiligpaaDoor.Q
attribute [local go_sem] max2_int min2_int max_two min_two max_three min_three max_four min_four   -- for this text's walks alone
set_option linter.unusedVariables false
set_option linter.unusedSimpArgs false

def idiomref08_Roman.f (a0 : Int) (a1 : Bool) : Option (ByteArray × Int) := some (Rom8.f a0 a1)
theorem idiomref08_Roman.calls (a0 : Int) (a1 : Bool) (r1 : ByteArray) (r2 : Int) (w : World) (h : idiomref08_Roman.f a0 a1 = some (r1, r2)) :
 Calls Tryd.prog 16 #[.int .i64 a0, .bool a1] w fun e w' => e = .returned (.tuple #[.string r1, .int .i64 r2]) ∧ Below w.heap.size w w' := by
 have e : Rom8.f a0 a1 = (r1, r2) := Option.some.inj h
 have c := RomW.calls a0 a1 w
 rw [e] at c
 exact c

/-- strings.Trim with an ASCII cutset. -/
def strings_Trim.f (a0 : ByteArray) (a1 : ByteArray) : Option (ByteArray) := if a0.size ≤ 140737488355328 ∧ a1.size < 4294967281 ∧ (∀ b ∈ a1.data.toList, b.toNat < 128) then some ⟨(Lib.trimS a0.data.toList a1.data.toList).toArray⟩ else none
theorem strings_Trim.calls (a0 : ByteArray) (a1 : ByteArray) (r : ByteArray) (w : World) (h : strings_Trim.f a0 a1 = some r) :
 Calls Tryd.prog 33 #[.string a0, .string a1] w fun e w' => e = .returned (.string r) ∧ Below w.heap.size w w' := by
 unfold strings_Trim.f at h
 split at h
 · rename_i hs
   obtain rfl := Option.some.inj h
   exact TrimA.calls a0 a1 w (Nat.le_trans hs.1 (by decide)) hs.2.1 hs.2.2
 · cases h

/-- strings.ToUpper of ASCII text. -/
def strings_ToUpper.f (a0 : ByteArray) : Option (ByteArray) := if a0.size ≤ 140737488355328 ∧ (∀ b ∈ a0.data.toList, b.toNat < 128) then some ⟨(Lib.toUpperA a0.data.toList).toArray⟩ else none
theorem strings_ToUpper.calls (a0 : ByteArray) (r : ByteArray) (w : World) (h : strings_ToUpper.f a0 = some r) :
 Calls Tryd.prog 34 #[.string a0] w fun e w' => e = .returned (.string r) ∧ Below w.heap.size w w' := by
 unfold strings_ToUpper.f at h
 split at h
 · rename_i hs
   obtain rfl := Option.some.inj h
   exact Tryd.strings_ToUpper_ascii a0 w hs.1 (fun j b hb => hs.2 b (List.mem_of_getElem? hb))
 · cases h

def digits_worth.f (a0 : Int) : Option (Int) := some (Rom8.worth a0)
theorem digits_worth.calls (a0 : Int) (r : Int) (w : World) (h : digits_worth.f a0 = some r) :
 Calls Tryd.prog 35 #[.int .u8 a0] w fun e w' => e = .returned (.int .i64 r) ∧ Below w.heap.size w w' := by
 obtain rfl := Option.some.inj h
 exact (Rom8.worth_calls a0 w).mono fun e w' he => ⟨he.1, he.2 ▸ Below.refl _ _⟩

mutual
def digits_FromRoman.j0 : Nat → ByteArray → Bool → Option (Int × Int)
 | 0, _, _ => none
 | k + 1, x0, x15 => if x15 = true then (some (0, 82)) else ((strings_ToUpper.f x0).bind fun t118 => (if x0.toList = t118.toList then (digits_FromRoman.j1 k t118 false) else ((strings_ToLower.f x0).bind fun t119 => (digits_FromRoman.j1 k t118 (x0.toList != t119.toList)))))
def digits_FromRoman.j1 : Nat → ByteArray → Bool → Option (Int × Int)
 | 0, _, _ => none
 | k + 1, x4, x26 => if x26 = true then (some (0, 82)) else (digits_FromRoman.l0 k x4 0 (x4.size : Int) 0)
def digits_FromRoman.l0 : Nat → ByteArray → Int → Int → Int → Option (Int × Int)
 | 0, _, _, _, _ => none
 | k + 1, x4, x5, x28, x29 => if x29 < x28 then (if 0 ≤ x29 then (if x29 < (x4.size : Int) then ((digits_worth.f (bt x4 x29)).bind fun t121 => (if (wrap64 (x29 + 1)) < (x4.size : Int) then (if 0 ≤ (wrap64 (x29 + 1)) then ((digits_worth.f (bt x4 (wrap64 (x29 + 1)))).bind fun t122 => (if t121 < t122 then (digits_FromRoman.l0 k x4 (wrap64 (x5 + (wrap64 (-t121)))) x28 (wrap64 (x29 + 1))) else (digits_FromRoman.l0 k x4 (wrap64 (x5 + t121)) x28 (wrap64 (x29 + 1))))) else (none)) else (digits_FromRoman.l0 k x4 (wrap64 (x5 + t121)) x28 (wrap64 (x29 + 1))))) else (none)) else (none)) else (if x5 < 1 then (some (0, 82)) else (if x5 > 3999 then (some (0, 82)) else ((digits_roman.f x5).bind fun t120 => (if t120.toList = x4.toList then (some (x5, 0)) else (some (0, 82))))))
end
def digits_FromRoman.f (k : Nat) (a0 : ByteArray) : Option (Int × Int) := if (a0.size : Int) > 15 then (digits_FromRoman.j0 k a0 true) else ((strings_Trim.f a0 (⟨#[73, 86, 88, 76, 67, 68, 77, 105, 118, 120, 108, 99, 100, 109]⟩ : ByteArray)).bind fun t117 => (digits_FromRoman.j0 k a0 (t117.toList != ([] : List UInt8))))
theorem digits_FromRoman.mono_l : ∀ k, (∀ y0 y1, LeO (digits_FromRoman.j0 k y0 y1) (digits_FromRoman.j0 (k + 1) y0 y1)) ∧ (∀ y0 y1, LeO (digits_FromRoman.j1 k y0 y1) (digits_FromRoman.j1 (k + 1) y0 y1)) ∧ (∀ y0 y1 y2 y3, LeO (digits_FromRoman.l0 k y0 y1 y2 y3) (digits_FromRoman.l0 (k + 1) y0 y1 y2 y3))
 | 0 => ⟨fun _ _ r h => by simp [digits_FromRoman.j0] at h, fun _ _ r h => by simp [digits_FromRoman.j1] at h, fun _ _ _ _ r h => by simp [digits_FromRoman.l0] at h⟩
 | k + 1 => by
  obtain ⟨ih0, ih1, ih2⟩ := digits_FromRoman.mono_l k
  refine ⟨?_, ?_, ?_⟩
  · intro y0 y1
    unfold digits_FromRoman.j0
    repeat' first
    | (with_reducible exact ih0 _ _)
    | (with_reducible exact ih1 _ _)
    | (with_reducible exact ih2 _ _ _ _)
    | (with_reducible exact LeO.refl _)
    | (with_reducible exact LeO.none _)
    | (with_reducible refine LeO.ite ?_ ?_)
    | (with_reducible refine LeO.bind ?_ (fun _ => ?_))
    | exact ih0 _ _
    | exact ih1 _ _
    | exact ih2 _ _ _ _
    | exact LeO.none _
    | refine LeO.ite ?_ ?_
    | refine LeO.bind ?_ (fun _ => ?_)
  · intro y0 y1
    unfold digits_FromRoman.j1
    repeat' first
    | (with_reducible exact ih0 _ _)
    | (with_reducible exact ih1 _ _)
    | (with_reducible exact ih2 _ _ _ _)
    | (with_reducible exact LeO.refl _)
    | (with_reducible exact LeO.none _)
    | (with_reducible refine LeO.ite ?_ ?_)
    | (with_reducible refine LeO.bind ?_ (fun _ => ?_))
    | exact ih0 _ _
    | exact ih1 _ _
    | exact ih2 _ _ _ _
    | exact LeO.none _
    | refine LeO.ite ?_ ?_
    | refine LeO.bind ?_ (fun _ => ?_)
  · intro y0 y1 y2 y3
    unfold digits_FromRoman.l0
    repeat' first
    | (with_reducible exact ih0 _ _)
    | (with_reducible exact ih1 _ _)
    | (with_reducible exact ih2 _ _ _ _)
    | (with_reducible exact LeO.refl _)
    | (with_reducible exact LeO.none _)
    | (with_reducible refine LeO.ite ?_ ?_)
    | (with_reducible refine LeO.bind ?_ (fun _ => ?_))
    | exact ih0 _ _
    | exact ih1 _ _
    | exact ih2 _ _ _ _
    | exact LeO.none _
    | refine LeO.ite ?_ ?_
    | refine LeO.bind ?_ (fun _ => ?_)
theorem digits_FromRoman.mono : ∀ a0 k, LeO (digits_FromRoman.f k a0) (digits_FromRoman.f (k + 1) a0) := by
 intro a0 k
 obtain ⟨ih0, ih1, ih2⟩ := digits_FromRoman.mono_l k
 unfold digits_FromRoman.f
 repeat' first
  | (with_reducible exact ih0 _ _)
  | (with_reducible exact ih1 _ _)
  | (with_reducible exact ih2 _ _ _ _)
  | (with_reducible exact LeO.refl _)
  | (with_reducible exact LeO.none _)
  | (with_reducible refine LeO.ite ?_ ?_)
  | (with_reducible refine LeO.bind ?_ (fun _ => ?_))
  | exact ih0 _ _
  | exact ih1 _ _
  | exact ih2 _ _ _ _
  | exact LeO.none _
  | refine LeO.ite ?_ ?_
  | refine LeO.bind ?_ (fun _ => ?_)
set_option maxHeartbeats 8000000 in
set_option maxRecDepth 100000 in
theorem digits_FromRoman.calls (k : Nat) (a0 : ByteArray) (r1 : Int) (r2 : Int) (w : World) (h : digits_FromRoman.f k a0 = some (r1, r2)) :
 Calls Tryd.prog 17 #[.string a0] w fun e w' => e = .returned (.tuple #[.int .i64 r1, .int .i64 r2]) ∧ Below w.heap.size w w' := by
 have HB := Aside0.mk (Below.refl w.heap.size w)
 have H : (if (a0.size : Int) > 15 then (digits_FromRoman.j0 k a0 true) else ((strings_Trim.f a0 (⟨#[73, 86, 88, 76, 67, 68, 77, 105, 118, 120, 108, 99, 100, 109]⟩ : ByteArray)).bind fun t117 => (digits_FromRoman.j0 k a0 (t117.toList != ([] : List UInt8))))) = some (r1, r2) := h
 clear h
 have HC2 := Aside0.mk H
 clear H
 go_enter Tryd.func17, Tryd.ntmps17
 go_upto_region 1 with (fail)
 go_cut [15] (fun v15 wc => ∃ (kq : Nat) (x15_1 : Bool), v15 = .bool x15_1 ∧ Aside0 (digits_FromRoman.j0 kq a0 x15_1 = some (r1, r2)) ∧ Aside0 (kq ≤ k) ∧ Aside0 (Below w.heap.size w wc))
 case first =>
  have H := HC2.out
  clear HC2
  by_cases c3 : (a0.size : Int) > 15
  · rw [if_pos c3] at H
    have c3b0 : decide (15 < (a0.size : Int)) = true := decide_eq_true c3
    have c3b1 : decide (15 < a0.size) = true := decide_eq_true (by omega)
    clear c3
    (first | rw [c3b0] | (simp only [i64_w, i32_w]; rw [c3b0]) | skip)
    have H' := Aside0.mk H
    clear H
    go_wp2
    go_meet
    case rel => exact ⟨_, (true), (by first | rfl | (simp; done) | (simp [*]; done)), H', ⟨by first | omega | exact Nat.le_refl _⟩, ⟨qh HB⟩⟩
  · rw [if_neg c3] at H
    have c3b0 : decide (15 < (a0.size : Int)) = false := decide_eq_false c3
    have c3b1 : decide (15 < a0.size) = false := decide_eq_false (by omega)
    clear c3
    (first | rw [c3b0] | (simp only [i64_w, i32_w]; rw [c3b0]) | skip)
    replace H := Option.bind_eq_some_iff.mp H
    obtain ⟨t117, A40, H⟩ := H
    replace H : (digits_FromRoman.j0 k a0 (t117.toList != ([] : List UInt8))) = some (r1, r2) := H
    have A4 := Aside0.mk A40
    clear A40
    have H' := Aside0.mk H
    clear H
    go_wp2_with (first | (go_at_call 33; (with_reducible refine (strings_Trim.calls a0 (⟨#[73, 86, 88, 76, 67, 68, 77, 105, 118, 120, 108, 99, 100, 109]⟩ : ByteArray) t117 _ A4.out).mono ?_); rintro e w5 ⟨rfl, hb⟩; replace HB := qn HB hb; (try clear hb); (try clear hb2); (try clear hk); (try clear hi)))
    go_meet
    case rel => exact ⟨_, ((t117.toList != ([] : List UInt8))), (by first | rfl | (simp; done) | (simp [*]; done) | (rw [← Aid.bne_nil])), H', ⟨by first | omega | exact Nat.le_refl _⟩, ⟨qh HB⟩⟩
 case rest =>
  clear HC2
  try clear c1
  try clear p2
  try clear c3
  try clear c3b0
  try clear c3b1
  obtain ⟨kq, x15_1, rfl, HA, HJ1, HB⟩ := hcut
  cases kq with
  | zero => exact absurd HA.out (by simp [digits_FromRoman.j0])
  | succ kj1 =>
   have H := HA.out
   clear HA
   simp only [digits_FromRoman.j0] at H
   by_cases c6 : x15_1 = true
   · subst c6
     have H1 : (some (0, 82)) = some (r1, r2) := by rw [if_pos rfl] at H; exact H
     clear H
     have H := H1
     clear H1
     simp only [Option.some.injEq, Prod.mk.injEq] at H
     obtain ⟨rfl, rfl⟩ := H
     go_wp2
     go_ret2
     exact ⟨qe, qh HB⟩
   · replace c6 := Bool.eq_false_iff.mpr c6
     subst c6
     have H1 : ((strings_ToUpper.f a0).bind fun t118 => (if a0.toList = t118.toList then (digits_FromRoman.j1 kj1 t118 false) else ((strings_ToLower.f a0).bind fun t119 => (digits_FromRoman.j1 kj1 t118 (a0.toList != t119.toList))))) = some (r1, r2) := by rw [if_neg (show ¬ (false = true) by decide)] at H; exact H
     clear H
     have H := H1
     clear H1
     replace H := Option.bind_eq_some_iff.mp H
     obtain ⟨t118, A70, H⟩ := H
     replace H : (if a0.toList = t118.toList then (digits_FromRoman.j1 kj1 t118 false) else ((strings_ToLower.f a0).bind fun t119 => (digits_FromRoman.j1 kj1 t118 (a0.toList != t119.toList)))) = some (r1, r2) := H
     have A7 := Aside0.mk A70
     clear A70
     have HC8 := Aside0.mk H
     clear H
     go_upto_region 4 with (first | ((with_reducible refine gate_callee (f := 34) rfl ?_); refine goesL_ (some 17) rfl rfl Tryd.func34 (by kernel_rfl) rfl #[.string a0] rfl ql ?_; (with_reducible refine (strings_ToUpper.calls a0 t118 _ A7.out).mono ?_); rintro e w9 ⟨rfl, hb⟩; refine ⟨_, rfl, ?_⟩; replace HB := qn HB hb; (try clear hb); (try clear hb2); (try clear hk); (try clear hi)))
     (try simp only [Act.put, List.setIfInBounds_toArray, List.set_cons_zero, List.set_cons_succ])
     go_cut [26] (fun v26 wc => ∃ (kq : Nat) (x26_7 : Bool), v26 = .bool x26_7 ∧ Aside0 (digits_FromRoman.j1 kq t118 x26_7 = some (r1, r2)) ∧ Aside0 (kq ≤ kj1) ∧ Aside0 (Below w.heap.size w wc))
     case first =>
      have H := HC8.out
      clear HC8
      by_cases c10 : a0.toList = t118.toList
      · rw [if_pos c10] at H
        have c10b0 : (a0.toList == t118.toList) = true := beq_iff_eq.mpr c10
        have c10b1 : (a0.toList != t118.toList) = false := bne_eq_false_iff_eq.mpr c10
        clear c10
        (first | rw [c10b0] | (simp only [i64_w, i32_w]; rw [c10b0]) | skip)
        have H' := Aside0.mk H
        clear H
        go_wp2
        go_meet
        case rel => exact ⟨_, (false), (by first | rfl | (simp; done) | (simp [*]; done)), H', ⟨by have := HJ1.out; first | omega | exact Nat.le_refl _⟩, ⟨qh HB⟩⟩
      · rw [if_neg c10] at H
        have c10b0 : (a0.toList == t118.toList) = false := beq_eq_false_iff_ne.mpr c10
        have c10b1 : (a0.toList != t118.toList) = true := bne_iff_ne.mpr c10
        (first | rw [c10b0] | (simp only [i64_w, i32_w]; rw [c10b0]) | skip)
        replace H := Option.bind_eq_some_iff.mp H
        obtain ⟨t119, A110, H⟩ := H
        replace H : (digits_FromRoman.j1 kj1 t118 (a0.toList != t119.toList)) = some (r1, r2) := H
        have A11 := Aside0.mk A110
        clear A110
        have H' := Aside0.mk H
        clear H
        go_wp2_with (first | (go_at_call 30; (with_reducible refine (strings_ToLower.calls a0 t119 _ A11.out).mono ?_); rintro e w12 ⟨rfl, hb⟩; replace HB := qn HB hb; (try clear hb); (try clear hb2); (try clear hk); (try clear hi)))
        go_meet
        case rel => exact ⟨_, ((a0.toList != t119.toList)), (by first | rfl | (simp; done) | (simp [*]; done)), H', ⟨by have := HJ1.out; first | omega | exact Nat.le_refl _⟩, ⟨qh HB⟩⟩
     case rest =>
      clear HC8
      try clear c1
      try clear p2
      try clear c3
      try clear c3b0
      try clear c3b1
      try clear c6
      try clear c10
      try clear c10b0
      try clear c10b1
      try clear p2
      obtain ⟨kq, x26_7, rfl, HA, HJ7, HB⟩ := hcut
      cases kq with
      | zero => exact absurd HA.out (by simp [digits_FromRoman.j1])
      | succ kj7 =>
       have H := HA.out
       clear HA
       simp only [digits_FromRoman.j1] at H
       by_cases c13 : x26_7 = true
       · subst c13
         have H1 : (some (0, 82)) = some (r1, r2) := by rw [if_pos rfl] at H; exact H
         clear H
         have H := H1
         clear H1
         simp only [Option.some.injEq, Prod.mk.injEq] at H
         obtain ⟨rfl, rfl⟩ := H
         go_wp2
         go_ret2
         exact ⟨qe, qh HB⟩
       · replace c13 := Bool.eq_false_iff.mpr c13
         subst c13
         have H1 : (digits_FromRoman.l0 kj7 t118 0 (t118.size : Int) 0) = some (r1, r2) := by rw [if_neg (show ¬ (false = true) by decide)] at H; exact H
         clear H
         have H := H1
         clear H1
         have H' := Aside0.mk H
         clear H
         go_wp2
         (try simp only [Act.put, List.setIfInBounds_toArray, List.set_cons_zero, List.set_cons_succ])
         go_loopg [5, 29] kj7 (fun kq v5 v29 w' => ∃ (x5_3 : Int) (x29_3 : Int), v5 = .int .i64 x5_3 ∧ v29 = .int .i64 x29_3 ∧ Aside0 (digits_FromRoman.l0 kq t118 x5_3 (t118.size : Int) x29_3 = some (r1, r2)) ∧ Aside0 (kq ≤ kj7) ∧ Aside0 (Below w.heap.size w w'))
         case atStart => exact ⟨(0), (0), (by first | rfl | (simp; done) | (simp [*]; done)), (by first | rfl | (simp; done) | (simp [*]; done)), H', ⟨Nat.le_refl _⟩, ⟨qh HB⟩⟩
         case round =>
          clear H'
          try clear c1
          try clear p2
          try clear c3
          try clear c3b0
          try clear c3b1
          try clear c6
          try clear c10
          try clear c10b0
          try clear c10b1
          try clear c13
          try clear p2
          obtain ⟨x5_3, x29_3, rfl, rfl, HA, HK3, HB⟩ := hrel
          cases gk with
          | zero => exact absurd HA.out (by simp [digits_FromRoman.l0])
          | succ k3 =>
           have H := HA.out
           clear HA
           simp only [digits_FromRoman.l0] at H
           by_cases c14 : x29_3 < (t118.size : Int)
           · rw [if_pos c14] at H
             have c14b0 : decide (x29_3 < (t118.size : Int)) = true := decide_eq_true c14
             clear c14
             by_cases c15 : 0 ≤ x29_3
             · rw [if_pos c15] at H
               have c15b0 : decide (0 ≤ x29_3) = true := decide_eq_true c15
               clear c15
               by_cases c16 : x29_3 < (t118.size : Int)
               · rw [if_pos c16] at H
                 have c16b0 : decide (x29_3 < (t118.size : Int)) = true := decide_eq_true c16
                 clear c16
                 replace H := Option.bind_eq_some_iff.mp H
                 obtain ⟨t121, A180, H⟩ := H
                 replace H : (if (wrap64 (x29_3 + 1)) < (t118.size : Int) then (if 0 ≤ (wrap64 (x29_3 + 1)) then ((digits_worth.f (bt t118 (wrap64 (x29_3 + 1)))).bind fun t122 => (if t121 < t122 then (digits_FromRoman.l0 k3 t118 (wrap64 (x5_3 + (wrap64 (-t121)))) (t118.size : Int) (wrap64 (x29_3 + 1))) else (digits_FromRoman.l0 k3 t118 (wrap64 (x5_3 + t121)) (t118.size : Int) (wrap64 (x29_3 + 1))))) else (none)) else (digits_FromRoman.l0 k3 t118 (wrap64 (x5_3 + t121)) (t118.size : Int) (wrap64 (x29_3 + 1)))) = some (r1, r2) := H
                 have A18 := Aside0.mk A180
                 clear A180
                 by_cases c19 : (wrap64 (x29_3 + 1)) < (t118.size : Int)
                 · rw [if_pos c19] at H
                   have c19b0 : decide ((wrap64 (x29_3 + 1)) < (t118.size : Int)) = true := decide_eq_true c19
                   clear c19
                   obtain ⟨ji20, hji20⟩ : ∃ j_ : Int, (wrap64 (x29_3 + 1)) = j_ := ⟨_, rfl⟩
                   replace H : (if 0 ≤ (ji20) then ((digits_worth.f (bt t118 (ji20))).bind fun t122 => (if t121 < t122 then (digits_FromRoman.l0 k3 t118 (wrap64 (x5_3 + (wrap64 (-t121)))) (t118.size : Int) ji20) else (digits_FromRoman.l0 k3 t118 (wrap64 (x5_3 + t121)) (t118.size : Int) ji20))) else (none)) = some (r1, r2) := by first | (rw [hji20] at H; exact H) | (simp only [hji20] at H ⊢; exact H)
                   (try rw [hji20] at c19b0)
                   (try rw [hji20] at A18)
                   have hji20w : (IntKind.i64.wrap (x29_3 + 1)) = ji20 := (i64_w _).trans hji20
                   by_cases c21 : 0 ≤ (ji20)
                   · rw [if_pos c21] at H
                     have c21b0 : decide (0 ≤ (ji20)) = true := decide_eq_true c21
                     clear c21
                     replace H := Option.bind_eq_some_iff.mp H
                     obtain ⟨t122, A230, H⟩ := H
                     replace H : (if t121 < t122 then (digits_FromRoman.l0 k3 t118 (wrap64 (x5_3 + (wrap64 (-t121)))) (t118.size : Int) ji20) else (digits_FromRoman.l0 k3 t118 (wrap64 (x5_3 + t121)) (t118.size : Int) ji20)) = some (r1, r2) := H
                     have A23 := Aside0.mk A230
                     clear A230
                     by_cases c24 : t121 < t122
                     · rw [if_pos c24] at H
                       have c24b0 : decide (t121 < t122) = true := decide_eq_true c24
                       clear c24
                       have H' := Aside0.mk H
                       clear H
                       have p17 : 0 ≤ (x29_3 : Int) := of_decide_eq_true qa
                       have q17 : x29_3 < (t118.size : Int) := of_decide_eq_true qa
                       have hx17 := bt_at t118 x29_3
                       replace p17 := eq_true p17
                       replace q17 := eq_true q17
                       go_wp2_with (first | ((with_reducible refine gate_callee (f := 35) rfl ?_); refine goesL_ (some 35) rfl rfl Tryd.func35 (by kernel_rfl) rfl #[.int .u8 (bt t118 x29_3)] rfl ql ?_; (with_reducible refine (digits_worth.calls (bt t118 x29_3) t121 _ A18.out).mono ?_); rintro e w25 ⟨rfl, hb⟩; refine ⟨_, rfl, ?_⟩; replace HB := qn HB hb; (try clear hb); (try clear hb2); (try clear hk); (try clear hi); have p22 : 0 ≤ ((ji20) : Int) := of_decide_eq_true qa; have q22 : (ji20) < (t118.size : Int) := of_decide_eq_true qa; have hx22 := bt_at t118 (ji20); replace p22 := eq_true p22; replace q22 := eq_true q22) | (go_at_call 35; (with_reducible refine (digits_worth.calls (bt t118 (ji20)) t122 _ A23.out).mono ?_); rintro e w26 ⟨rfl, hb⟩; replace HB := qn HB hb; (try clear hb); (try clear hb2); (try clear hk); (try clear hi)))
                       go_roundg k3
                       case measure => have := HJ1.out; have := HJ7.out; have := HK3.out; omega
                       case rel => exact ⟨(wrap64 (x5_3 + (wrap64 (-t121)))), (ji20), (by first | rfl | (simp; done) | (simp [*]; done)), (by first | rfl | (simp; done) | (simp only [← hji20] <;> (first | rfl | simp)) | (simp [*]; done)), H', ⟨by have := HJ1.out; have := HJ7.out; have := HK3.out; omega⟩, ⟨qh HB⟩⟩
                     · rw [if_neg c24] at H
                       have c24b0 : decide (t121 < t122) = false := decide_eq_false c24
                       clear c24
                       have H' := Aside0.mk H
                       clear H
                       have p17 : 0 ≤ (x29_3 : Int) := of_decide_eq_true qa
                       have q17 : x29_3 < (t118.size : Int) := of_decide_eq_true qa
                       have hx17 := bt_at t118 x29_3
                       replace p17 := eq_true p17
                       replace q17 := eq_true q17
                       go_wp2_with (first | ((with_reducible refine gate_callee (f := 35) rfl ?_); refine goesL_ (some 35) rfl rfl Tryd.func35 (by kernel_rfl) rfl #[.int .u8 (bt t118 x29_3)] rfl ql ?_; (with_reducible refine (digits_worth.calls (bt t118 x29_3) t121 _ A18.out).mono ?_); rintro e w27 ⟨rfl, hb⟩; refine ⟨_, rfl, ?_⟩; replace HB := qn HB hb; (try clear hb); (try clear hb2); (try clear hk); (try clear hi); have p22 : 0 ≤ ((ji20) : Int) := of_decide_eq_true qa; have q22 : (ji20) < (t118.size : Int) := of_decide_eq_true qa; have hx22 := bt_at t118 (ji20); replace p22 := eq_true p22; replace q22 := eq_true q22) | (go_at_call 35; (with_reducible refine (digits_worth.calls (bt t118 (ji20)) t122 _ A23.out).mono ?_); rintro e w28 ⟨rfl, hb⟩; replace HB := qn HB hb; (try clear hb); (try clear hb2); (try clear hk); (try clear hi)))
                       go_roundg k3
                       case measure => have := HJ1.out; have := HJ7.out; have := HK3.out; omega
                       case rel => exact ⟨(wrap64 (x5_3 + t121)), (ji20), (by first | rfl | (simp; done) | (simp [*]; done)), (by first | rfl | (simp; done) | (simp only [← hji20] <;> (first | rfl | simp)) | (simp [*]; done)), H', ⟨by have := HJ1.out; have := HJ7.out; have := HK3.out; omega⟩, ⟨qh HB⟩⟩
                   · rw [if_neg c21] at H
                     exact absurd H (by simp)
                 · rw [if_neg c19] at H
                   have c19b0 : decide ((wrap64 (x29_3 + 1)) < (t118.size : Int)) = false := decide_eq_false c19
                   clear c19
                   have H' := Aside0.mk H
                   clear H
                   have p17 : 0 ≤ (x29_3 : Int) := of_decide_eq_true qa
                   have q17 : x29_3 < (t118.size : Int) := of_decide_eq_true qa
                   have hx17 := bt_at t118 x29_3
                   replace p17 := eq_true p17
                   replace q17 := eq_true q17
                   go_wp2_with (first | ((with_reducible refine gate_callee (f := 35) rfl ?_); refine goesL_ (some 35) rfl rfl Tryd.func35 (by kernel_rfl) rfl #[.int .u8 (bt t118 x29_3)] rfl ql ?_; (with_reducible refine (digits_worth.calls (bt t118 x29_3) t121 _ A18.out).mono ?_); rintro e w29 ⟨rfl, hb⟩; refine ⟨_, rfl, ?_⟩; replace HB := qn HB hb; (try clear hb); (try clear hb2); (try clear hk); (try clear hi)))
                   go_roundg k3
                   case measure => have := HJ1.out; have := HJ7.out; have := HK3.out; omega
                   case rel => exact ⟨(wrap64 (x5_3 + t121)), (wrap64 (x29_3 + 1)), (by first | rfl | (simp; done) | (simp [*]; done)), (by first | rfl | (simp; done) | (simp [*]; done)), H', ⟨by have := HJ1.out; have := HJ7.out; have := HK3.out; omega⟩, ⟨qh HB⟩⟩
               · rw [if_neg c16] at H
                 exact absurd H (by simp)
             · rw [if_neg c15] at H
               exact absurd H (by simp)
           · rw [if_neg c14] at H
             have c14b0 : decide (x29_3 < (t118.size : Int)) = false := decide_eq_false c14
             clear c14
             by_cases c30 : x5_3 < 1
             · rw [if_pos c30] at H
               have c30b0 : decide (x5_3 < 1) = true := decide_eq_true c30
               clear c30
               simp only [Option.some.injEq, Prod.mk.injEq] at H
               obtain ⟨rfl, rfl⟩ := H
               go_wp2
               go_ret2
               exact ⟨qe, qh HB⟩
             · rw [if_neg c30] at H
               have c30b0 : decide (x5_3 < 1) = false := decide_eq_false c30
               clear c30
               by_cases c31 : x5_3 > 3999
               · rw [if_pos c31] at H
                 have c31b0 : decide (3999 < x5_3) = true := decide_eq_true c31
                 clear c31
                 simp only [Option.some.injEq, Prod.mk.injEq] at H
                 obtain ⟨rfl, rfl⟩ := H
                 go_wp2
                 go_ret2
                 exact ⟨qe, qh HB⟩
               · rw [if_neg c31] at H
                 have c31b0 : decide (3999 < x5_3) = false := decide_eq_false c31
                 clear c31
                 replace H := Option.bind_eq_some_iff.mp H
                 obtain ⟨t120, A320, H⟩ := H
                 replace H : (if t120.toList = t118.toList then (some (x5_3, 0)) else (some (0, 82))) = some (r1, r2) := H
                 have A32 := Aside0.mk A320
                 clear A320
                 by_cases c33 : t120.toList = t118.toList
                 · rw [if_pos c33] at H
                   have c33b0 : (t120.toList == t118.toList) = true := beq_iff_eq.mpr c33
                   have c33b1 : (t120.toList != t118.toList) = false := bne_eq_false_iff_eq.mpr c33
                   clear c33
                   simp only [Option.some.injEq, Prod.mk.injEq] at H
                   obtain ⟨rfl, rfl⟩ := H
                   go_wp2_with (first | (go_at_call 31; (with_reducible refine (digits_roman.calls x5_3 t120 _ A32.out).mono ?_); rintro e w34 ⟨rfl, hb⟩; replace HB := qn HB hb; (try clear hb); (try clear hb2); (try clear hk); (try clear hi)))
                   go_ret2
                   exact ⟨qe, qh HB⟩
                 · rw [if_neg c33] at H
                   have c33b0 : (t120.toList == t118.toList) = false := beq_eq_false_iff_ne.mpr c33
                   have c33b1 : (t120.toList != t118.toList) = true := bne_iff_ne.mpr c33
                   simp only [Option.some.injEq, Prod.mk.injEq] at H
                   obtain ⟨rfl, rfl⟩ := H
                   go_wp2_with (first | (go_at_call 31; (with_reducible refine (digits_roman.calls x5_3 t120 _ A32.out).mono ?_); rintro e w35 ⟨rfl, hb⟩; replace HB := qn HB hb; (try clear hb); (try clear hb2); (try clear hk); (try clear hi)))
                   go_ret2
                   exact ⟨qe, qh HB⟩

end Go.Proofs.YtnkjeojhiligpaaDoor.H
namespace Go.Proofs.YtnkjeojhiligpaaDoor.H
open Go.RowKit Go.Proofs.YtnkjeojhiligpaaDoorW.PrintWords Go.Proofs.YtnkjeojhiligpaaDoorW.PrintLast Go.Proofs.YtnkjeojhiligpaaDoorW.PrintMore Go.Proofs.YtnkjeojhiligpaaDoor.Q
attribute [local go_sem] max2_int min2_int max_two min_two max_three min_three max_four min_four   -- for this text's walks alone
set_option linter.unusedVariables false
set_option linter.unusedSimpArgs false

def idiomref08_FromRoman.l0 : Nat → ByteArray → Int → Option (Int × Int)
 | 0, _, _ => none
 | k + 1, x0, x4 => if x4 ≤ 3999 then ((idiomref08_Roman.f x4 false).bind fun bt123 => ((idiomref08_Roman.f x4 true).bind fun bt125 => (if x0.toList = bt123.1.toList then (some (x4, 0)) else (if x0.toList = bt125.1.toList then (some (x4, 0)) else (idiomref08_FromRoman.l0 k x0 (wrap64 (x4 + 1))))))) else (some (0, 82))
def idiomref08_FromRoman.f (k : Nat) (a0 : ByteArray) : Option (Int × Int) := if (a0.size : Int) > 15 then (some (0, 82)) else (idiomref08_FromRoman.l0 k a0 1)
theorem idiomref08_FromRoman.mono_l : ∀ k, (∀ y0 y1, LeO (idiomref08_FromRoman.l0 k y0 y1) (idiomref08_FromRoman.l0 (k + 1) y0 y1))
 | 0 => fun _ _ r h => by simp [idiomref08_FromRoman.l0] at h
 | k + 1 => by
  have ih0 := idiomref08_FromRoman.mono_l k
  · intro y0 y1
    unfold idiomref08_FromRoman.l0
    repeat' first
    | (with_reducible exact ih0 _ _)
    | (with_reducible exact LeO.refl _)
    | (with_reducible exact LeO.none _)
    | (with_reducible refine LeO.ite ?_ ?_)
    | (with_reducible refine LeO.bind ?_ (fun _ => ?_))
    | exact ih0 _ _
    | exact LeO.none _
    | refine LeO.ite ?_ ?_
    | refine LeO.bind ?_ (fun _ => ?_)
theorem idiomref08_FromRoman.mono : ∀ a0 k, LeO (idiomref08_FromRoman.f k a0) (idiomref08_FromRoman.f (k + 1) a0) := by
 intro a0 k
 have ih0 := idiomref08_FromRoman.mono_l k
 unfold idiomref08_FromRoman.f
 repeat' first
  | (with_reducible exact ih0 _ _)
  | (with_reducible exact LeO.refl _)
  | (with_reducible exact LeO.none _)
  | (with_reducible refine LeO.ite ?_ ?_)
  | (with_reducible refine LeO.bind ?_ (fun _ => ?_))
  | exact ih0 _ _
  | exact LeO.none _
  | refine LeO.ite ?_ ?_
  | refine LeO.bind ?_ (fun _ => ?_)
set_option maxHeartbeats 8000000 in
set_option maxRecDepth 100000 in
theorem idiomref08_FromRoman.calls (k : Nat) (a0 : ByteArray) (r1 : Int) (r2 : Int) (w : World) (h : idiomref08_FromRoman.f k a0 = some (r1, r2)) :
 Calls Tryd.prog 18 #[.string a0] w fun e w' => e = .returned (.tuple #[.int .i64 r1, .int .i64 r2]) ∧ Below w.heap.size w w' := by
 have HB := Aside0.mk (Below.refl w.heap.size w)
 have H : (if (a0.size : Int) > 15 then (some (0, 82)) else (idiomref08_FromRoman.l0 k a0 1)) = some (r1, r2) := h
 clear h
 by_cases c2 : (a0.size : Int) > 15
 · rw [if_pos c2] at H
   have c2b0 : decide (15 < (a0.size : Int)) = true := decide_eq_true c2
   have c2b1 : decide (15 < a0.size) = true := decide_eq_true (by omega)
   clear c2
   simp only [Option.some.injEq, Prod.mk.injEq] at H
   obtain ⟨rfl, rfl⟩ := H
   go_enter Tryd.func18, Tryd.ntmps18
   go_wp2
   go_ret2
   exact ⟨qe, qh HB⟩
 · rw [if_neg c2] at H
   have c2b0 : decide (15 < (a0.size : Int)) = false := decide_eq_false c2
   have c2b1 : decide (15 < a0.size) = false := decide_eq_false (by omega)
   clear c2
   have H' := Aside0.mk H
   clear H
   go_enter Tryd.func18, Tryd.ntmps18
   go_wp2
   (try simp only [Act.put, List.setIfInBounds_toArray, List.set_cons_zero, List.set_cons_succ])
   go_loopg [4] k (fun kq v4 w' => ∃ (x4_1 : Int), v4 = .int .i64 x4_1 ∧ Aside0 (idiomref08_FromRoman.l0 kq a0 x4_1 = some (r1, r2)) ∧ Aside0 (kq ≤ k) ∧ Aside0 (Below w.heap.size w w'))
   case atStart => exact ⟨(1), (by first | rfl | (simp; done) | (simp [*]; done)), H', ⟨Nat.le_refl _⟩, ⟨qh HB⟩⟩
   case round =>
    clear H'
    try clear c1
    try clear c2
    try clear c2b0
    try clear c2b1
    try clear p2
    obtain ⟨x4_1, rfl, HA, HK1, HB⟩ := hrel
    cases gk with
    | zero => exact absurd HA.out (by simp [idiomref08_FromRoman.l0])
    | succ k1 =>
     have H := HA.out
     clear HA
     simp only [idiomref08_FromRoman.l0] at H
     by_cases c3 : x4_1 ≤ 3999
     · rw [if_pos c3] at H
       have c3b0 : decide (x4_1 ≤ 3999) = true := decide_eq_true c3
       clear c3
       replace H := Option.bind_eq_some_iff.mp H
       obtain ⟨⟨t123, t124⟩, A40, H⟩ := H
       replace H : ((idiomref08_Roman.f x4_1 true).bind fun bt125 => (if a0.toList = t123.toList then (some (x4_1, 0)) else (if a0.toList = bt125.1.toList then (some (x4_1, 0)) else (idiomref08_FromRoman.l0 k1 a0 (wrap64 (x4_1 + 1)))))) = some (r1, r2) := H
       have A4 := Aside0.mk A40
       clear A40
       replace H := Option.bind_eq_some_iff.mp H
       obtain ⟨⟨t125, t126⟩, A50, H⟩ := H
       replace H : (if a0.toList = t123.toList then (some (x4_1, 0)) else (if a0.toList = t125.toList then (some (x4_1, 0)) else (idiomref08_FromRoman.l0 k1 a0 (wrap64 (x4_1 + 1))))) = some (r1, r2) := H
       have A5 := Aside0.mk A50
       clear A50
       by_cases c6 : a0.toList = t123.toList
       · rw [if_pos c6] at H
         have c6b0 : (a0.toList == t123.toList) = true := beq_iff_eq.mpr c6
         have c6b1 : (a0.toList != t123.toList) = false := bne_eq_false_iff_eq.mpr c6
         clear c6
         simp only [Option.some.injEq, Prod.mk.injEq] at H
         obtain ⟨rfl, rfl⟩ := H
         go_wp2_with (first | ((with_reducible refine gate_callee (f := 16) rfl ?_); refine goesL_ (some 18) rfl rfl Tryd.func16 (by kernel_rfl) rfl #[.int .i64 x4_1, .bool false] rfl ql ?_; (with_reducible refine (idiomref08_Roman.calls x4_1 false t123 t124 _ A4.out).mono ?_); rintro e w7 ⟨rfl, hb⟩; refine ⟨_, rfl, ?_⟩; replace HB := qn HB hb; (try clear hb); (try clear hb2); (try clear hk); (try clear hi)) | ((with_reducible refine gate_callee (f := 16) rfl ?_); refine goesL_ (some 23) rfl rfl Tryd.func16 (by kernel_rfl) rfl #[.int .i64 x4_1, .bool true] rfl ql ?_; (with_reducible refine (idiomref08_Roman.calls x4_1 true t125 t126 _ A5.out).mono ?_); rintro e w8 ⟨rfl, hb⟩; refine ⟨_, rfl, ?_⟩; replace HB := qn HB hb; (try clear hb); (try clear hb2); (try clear hk); (try clear hi)))
         go_ret2
         exact ⟨qe, qh HB⟩
       · rw [if_neg c6] at H
         have c6b0 : (a0.toList == t123.toList) = false := beq_eq_false_iff_ne.mpr c6
         have c6b1 : (a0.toList != t123.toList) = true := bne_iff_ne.mpr c6
         by_cases c9 : a0.toList = t125.toList
         · rw [if_pos c9] at H
           have c9b0 : (a0.toList == t125.toList) = true := beq_iff_eq.mpr c9
           have c9b1 : (a0.toList != t125.toList) = false := bne_eq_false_iff_eq.mpr c9
           clear c9
           simp only [Option.some.injEq, Prod.mk.injEq] at H
           obtain ⟨rfl, rfl⟩ := H
           go_wp2_with (first | ((with_reducible refine gate_callee (f := 16) rfl ?_); refine goesL_ (some 18) rfl rfl Tryd.func16 (by kernel_rfl) rfl #[.int .i64 x4_1, .bool false] rfl ql ?_; (with_reducible refine (idiomref08_Roman.calls x4_1 false t123 t124 _ A4.out).mono ?_); rintro e w10 ⟨rfl, hb⟩; refine ⟨_, rfl, ?_⟩; replace HB := qn HB hb; (try clear hb); (try clear hb2); (try clear hk); (try clear hi)) | ((with_reducible refine gate_callee (f := 16) rfl ?_); refine goesL_ (some 23) rfl rfl Tryd.func16 (by kernel_rfl) rfl #[.int .i64 x4_1, .bool true] rfl ql ?_; (with_reducible refine (idiomref08_Roman.calls x4_1 true t125 t126 _ A5.out).mono ?_); rintro e w11 ⟨rfl, hb⟩; refine ⟨_, rfl, ?_⟩; replace HB := qn HB hb; (try clear hb); (try clear hb2); (try clear hk); (try clear hi)))
           go_ret2
           exact ⟨qe, qh HB⟩
         · rw [if_neg c9] at H
           have c9b0 : (a0.toList == t125.toList) = false := beq_eq_false_iff_ne.mpr c9
           have c9b1 : (a0.toList != t125.toList) = true := bne_iff_ne.mpr c9
           have H' := Aside0.mk H
           clear H
           go_wp2_with (first | ((with_reducible refine gate_callee (f := 16) rfl ?_); refine goesL_ (some 18) rfl rfl Tryd.func16 (by kernel_rfl) rfl #[.int .i64 x4_1, .bool false] rfl ql ?_; (with_reducible refine (idiomref08_Roman.calls x4_1 false t123 t124 _ A4.out).mono ?_); rintro e w12 ⟨rfl, hb⟩; refine ⟨_, rfl, ?_⟩; replace HB := qn HB hb; (try clear hb); (try clear hb2); (try clear hk); (try clear hi)) | ((with_reducible refine gate_callee (f := 16) rfl ?_); refine goesL_ (some 23) rfl rfl Tryd.func16 (by kernel_rfl) rfl #[.int .i64 x4_1, .bool true] rfl ql ?_; (with_reducible refine (idiomref08_Roman.calls x4_1 true t125 t126 _ A5.out).mono ?_); rintro e w13 ⟨rfl, hb⟩; refine ⟨_, rfl, ?_⟩; replace HB := qn HB hb; (try clear hb); (try clear hb2); (try clear hk); (try clear hi)))
           go_roundg k1
           case measure => have := HK1.out; omega
           case rel => exact ⟨(wrap64 (x4_1 + 1)), (by first | rfl | (simp; done) | (simp [*]; done)), H', ⟨by have := HK1.out; omega⟩, ⟨qh HB⟩⟩
     · rw [if_neg c3] at H
       have c3b0 : decide (x4_1 ≤ 3999) = false := decide_eq_false c3
       clear c3
       simp only [Option.some.injEq, Prod.mk.injEq] at H
       obtain ⟨rfl, rfl⟩ := H
       go_wp2
       go_ret2
       exact ⟨qe, qh HB⟩

def idiomlaw08_DigitsRomans.j0 : Nat → ByteArray → Bool → Option (Bool)
 | 0, _, _ => none
 | k + 1, x2, x36 => if x36 = true then (none) else ((digits_FromRoman.f k x2).bind fun bt132 => ((idiomref08_FromRoman.f k x2).bind fun bt134 => (if bt132.1 = bt134.1 then (some (bt132.2 == bt134.2)) else (none))))
def idiomlaw08_DigitsRomans.f (k : Nat) (a0 : Int) (a1 : Bool) (a2 : ByteArray) : Option (Bool) := (digits_Roman.f k a0 a1).bind fun bt127 => ((idiomref08_Roman.f a0 a1).bind fun bt129 => (if bt127.1.toList = bt129.1.toList then (if bt127.2 = bt129.2 then ((idiomlaw08_awake.f k).bind fun t131 => (idiomlaw08_DigitsRomans.j0 k a2 (!t131))) else (idiomlaw08_DigitsRomans.j0 k a2 true)) else (idiomlaw08_DigitsRomans.j0 k a2 true)))
theorem idiomlaw08_DigitsRomans.mono_l : ∀ k, (∀ y0 y1, LeO (idiomlaw08_DigitsRomans.j0 k y0 y1) (idiomlaw08_DigitsRomans.j0 (k + 1) y0 y1))
 | 0 => fun _ _ r h => by simp [idiomlaw08_DigitsRomans.j0] at h
 | k + 1 => by
  have ih0 := idiomlaw08_DigitsRomans.mono_l k
  · intro y0 y1
    unfold idiomlaw08_DigitsRomans.j0
    repeat' first
    | (with_reducible exact ih0 _ _)
    | (with_reducible exact digits_FromRoman.mono _ _)
    | (with_reducible exact digits_Roman.mono _ _ _)
    | (with_reducible exact idiomlaw08_awake.mono _)
    | (with_reducible exact idiomref08_FromRoman.mono _ _)
    | (with_reducible exact LeO.refl _)
    | (with_reducible exact LeO.none _)
    | (with_reducible refine LeO.ite ?_ ?_)
    | (with_reducible refine LeO.bind ?_ (fun _ => ?_))
    | exact ih0 _ _
    | exact digits_FromRoman.mono _ _
    | exact digits_Roman.mono _ _ _
    | exact idiomlaw08_awake.mono _
    | exact idiomref08_FromRoman.mono _ _
    | exact LeO.none _
    | refine LeO.ite ?_ ?_
    | refine LeO.bind ?_ (fun _ => ?_)
theorem idiomlaw08_DigitsRomans.mono : ∀ a0 a1 a2 k, LeO (idiomlaw08_DigitsRomans.f k a0 a1 a2) (idiomlaw08_DigitsRomans.f (k + 1) a0 a1 a2) := by
 intro a0 a1 a2 k
 have ih0 := idiomlaw08_DigitsRomans.mono_l k
 unfold idiomlaw08_DigitsRomans.f
 repeat' first
  | (with_reducible exact ih0 _ _)
  | (with_reducible exact digits_FromRoman.mono _ _)
  | (with_reducible exact digits_Roman.mono _ _ _)
  | (with_reducible exact idiomlaw08_awake.mono _)
  | (with_reducible exact idiomref08_FromRoman.mono _ _)
  | (with_reducible exact LeO.refl _)
  | (with_reducible exact LeO.none _)
  | (with_reducible refine LeO.ite ?_ ?_)
  | (with_reducible refine LeO.bind ?_ (fun _ => ?_))
  | exact ih0 _ _
  | exact digits_FromRoman.mono _ _
  | exact digits_Roman.mono _ _ _
  | exact idiomlaw08_awake.mono _
  | exact idiomref08_FromRoman.mono _ _
  | exact LeO.none _
  | refine LeO.ite ?_ ?_
  | refine LeO.bind ?_ (fun _ => ?_)
set_option maxHeartbeats 8000000 in
set_option maxRecDepth 100000 in
theorem idiomlaw08_DigitsRomans.calls (k : Nat) (a0 : Int) (a1 : Bool) (a2 : ByteArray) (r : Bool) (w : World) (h : idiomlaw08_DigitsRomans.f k a0 a1 a2 = some r) (hG_ : Stray.Tabs w) :
 Calls Tryd.prog 5 #[.int .i64 a0, .bool a1, .string a2] w fun e w' => e = .returned (.bool r) ∧ Below w.heap.size w w' := by
 have HG := Aside0.mk hG_
 clear hG_
 have HB := Aside0.mk (Below.refl w.heap.size w)
 have H : ((digits_Roman.f k a0 a1).bind fun bt127 => ((idiomref08_Roman.f a0 a1).bind fun bt129 => (if bt127.1.toList = bt129.1.toList then (if bt127.2 = bt129.2 then ((idiomlaw08_awake.f k).bind fun t131 => (idiomlaw08_DigitsRomans.j0 k a2 (!t131))) else (idiomlaw08_DigitsRomans.j0 k a2 true)) else (idiomlaw08_DigitsRomans.j0 k a2 true)))) = some r := h
 clear h
 replace H := Option.bind_eq_some_iff.mp H
 obtain ⟨⟨t127, t128⟩, A40, H⟩ := H
 replace H : ((idiomref08_Roman.f a0 a1).bind fun bt129 => (if t127.toList = bt129.1.toList then (if t128 = bt129.2 then ((idiomlaw08_awake.f k).bind fun t131 => (idiomlaw08_DigitsRomans.j0 k a2 (!t131))) else (idiomlaw08_DigitsRomans.j0 k a2 true)) else (idiomlaw08_DigitsRomans.j0 k a2 true))) = some r := H
 have A4 := Aside0.mk A40
 clear A40
 replace H := Option.bind_eq_some_iff.mp H
 obtain ⟨⟨t129, t130⟩, A50, H⟩ := H
 replace H : (if t127.toList = t129.toList then (if t128 = t130 then ((idiomlaw08_awake.f k).bind fun t131 => (idiomlaw08_DigitsRomans.j0 k a2 (!t131))) else (idiomlaw08_DigitsRomans.j0 k a2 true)) else (idiomlaw08_DigitsRomans.j0 k a2 true)) = some r := H
 have A5 := Aside0.mk A50
 clear A50
 have HC6 := Aside0.mk H
 clear H
 go_enter Tryd.func5, Tryd.ntmps5
 go_upto_region 3 with (first | ((with_reducible refine gate_callee (f := 15) rfl ?_); refine goesL_ (some 16) rfl rfl Tryd.func15 (by kernel_rfl) rfl #[.int .i64 a0, .bool a1] rfl ql ?_; (with_reducible refine (digits_Roman.calls k a0 a1 t127 t128 _ A4.out).mono ?_); rintro e w7 ⟨rfl, hb⟩; refine ⟨_, rfl, ?_⟩; replace HB := qn HB hb; (try clear hb); (try clear hb2); (try clear hk); (try clear hi)) | ((with_reducible refine gate_callee (f := 16) rfl ?_); refine goesL_ (some 22) rfl rfl Tryd.func16 (by kernel_rfl) rfl #[.int .i64 a0, .bool a1] rfl ql ?_; (with_reducible refine (idiomref08_Roman.calls a0 a1 t129 t130 _ A5.out).mono ?_); rintro e w8 ⟨rfl, hb⟩; refine ⟨_, rfl, ?_⟩; replace HB := qn HB hb; (try clear hb); (try clear hb2); (try clear hk); (try clear hi)))
 (try simp only [Act.put, List.setIfInBounds_toArray, List.set_cons_zero, List.set_cons_succ])
 go_cut [36] (fun v36 wc => ∃ (kq : Nat) (x36_5 : Bool), v36 = .bool x36_5 ∧ Aside0 (idiomlaw08_DigitsRomans.j0 kq a2 x36_5 = some r) ∧ Aside0 (kq ≤ k) ∧ Aside0 (Below w.heap.size w wc))
 case first =>
  have H := HC6.out
  clear HC6
  by_cases c9 : t127.toList = t129.toList
  · rw [if_pos c9] at H
    have c9b0 : (t127.toList == t129.toList) = true := beq_iff_eq.mpr c9
    have c9b1 : (t127.toList != t129.toList) = false := bne_eq_false_iff_eq.mpr c9
    clear c9
    (first | rw [c9b0] | (simp only [i64_w, i32_w]; rw [c9b0]) | skip)
    by_cases c10 : t128 = t130
    · rw [if_pos c10] at H
      have c10b0 : (t128 == t130) = true := beq_iff_eq.mpr c10
      have c10b1 : (t128 != t130) = false := bne_eq_false_iff_eq.mpr c10
      try have c10b1z := c10b1
      (try simp only [bne] at c10b1z)
      clear c10
      replace H := Option.bind_eq_some_iff.mp H
      obtain ⟨t131, A110, H⟩ := H
      replace H : (idiomlaw08_DigitsRomans.j0 k a2 (!t131)) = some r := H
      have A11 := Aside0.mk A110
      clear A110
      have H' := Aside0.mk H
      clear H
      go_wp2_with (first | (go_at_call 12; (with_reducible refine (idiomlaw08_awake.calls k  t131 _ A11.out (by first | exact HG.out | exact HG.out.below HB.out | exact HG.out.below (pw_below_drewN HB.out _) | exact HG.out.below (below_drew HB.out) | exact HG.out.below (by assumption))).mono ?_); rintro e w12 ⟨rfl, hb⟩; replace HB := qn HB hb; (try clear hb); (try clear hb2); (try clear hk); (try clear hi)))
      go_meet
      case rel => exact ⟨_, (!t131), (by first | rfl | (simp; done) | (simp [*]; done)), H', ⟨by first | omega | exact Nat.le_refl _⟩, ⟨qh HB⟩⟩
    · rw [if_neg c10] at H
      have c10b0 : (t128 == t130) = false := beq_eq_false_iff_ne.mpr c10
      have c10b1 : (t128 != t130) = true := bne_iff_ne.mpr c10
      try have c10b1z := c10b1
      (try simp only [bne] at c10b1z)
      have H' := Aside0.mk H
      clear H
      go_wp2
      go_meet
      case rel => exact ⟨_, (true), (by first | rfl | (simp; done) | (simp [*]; done)), H', ⟨by first | omega | exact Nat.le_refl _⟩, ⟨qh HB⟩⟩
  · rw [if_neg c9] at H
    have c9b0 : (t127.toList == t129.toList) = false := beq_eq_false_iff_ne.mpr c9
    have c9b1 : (t127.toList != t129.toList) = true := bne_iff_ne.mpr c9
    (first | rw [c9b0] | (simp only [i64_w, i32_w]; rw [c9b0]) | skip)
    have H' := Aside0.mk H
    clear H
    go_wp2
    go_meet
    case rel => exact ⟨_, (true), (by first | rfl | (simp; done) | (simp [*]; done)), H', ⟨by first | omega | exact Nat.le_refl _⟩, ⟨qh HB⟩⟩
 case rest =>
  clear HC6
  try clear c1
  try clear p2
  try clear c5
  try clear c9
  try clear c9b0
  try clear c9b1
  try clear c10
  try clear c10b0
  try clear c10b1
  obtain ⟨kq, x36_5, rfl, HA, HJ5, HB⟩ := hcut
  cases kq with
  | zero => exact absurd HA.out (by simp [idiomlaw08_DigitsRomans.j0])
  | succ kj5 =>
   have H := HA.out
   clear HA
   simp only [idiomlaw08_DigitsRomans.j0] at H
   by_cases c13 : x36_5 = true
   · subst c13
     have H1 : (none) = some r := by rw [if_pos rfl] at H; exact H
     clear H
     have H := H1
     clear H1
     exact absurd H (by simp)
   · replace c13 := Bool.eq_false_iff.mpr c13
     subst c13
     have H1 : ((digits_FromRoman.f kj5 a2).bind fun bt132 => ((idiomref08_FromRoman.f kj5 a2).bind fun bt134 => (if bt132.1 = bt134.1 then (some (bt132.2 == bt134.2)) else (none)))) = some r := by rw [if_neg (show ¬ (false = true) by decide)] at H; exact H
     clear H
     have H := H1
     clear H1
     replace H := Option.bind_eq_some_iff.mp H
     obtain ⟨⟨t132, t133⟩, A140, H⟩ := H
     replace H : ((idiomref08_FromRoman.f kj5 a2).bind fun bt134 => (if t132 = bt134.1 then (some (t133 == bt134.2)) else (none))) = some r := H
     have A14 := Aside0.mk A140
     clear A140
     replace H := Option.bind_eq_some_iff.mp H
     obtain ⟨⟨t134, t135⟩, A150, H⟩ := H
     replace H : (if t132 = t134 then (some (t133 == t135)) else (none)) = some r := H
     have A15 := Aside0.mk A150
     clear A150
     by_cases c16 : t132 = t134
     · rw [if_pos c16] at H
       have c16b0 : (t132 == t134) = true := beq_iff_eq.mpr c16
       have c16b1 : (t132 != t134) = false := bne_eq_false_iff_eq.mpr c16
       try have c16b1z := c16b1
       (try simp only [bne] at c16b1z)
       clear c16
       obtain rfl := Option.some.inj H
       go_wp2_with (first | ((with_reducible refine gate_callee (f := 17) rfl ?_); refine goesL_ (some 39) rfl rfl Tryd.func17 (by kernel_rfl) rfl #[.string a2] rfl ql ?_; (with_reducible refine (digits_FromRoman.calls kj5 a2 t132 t133 _ A14.out).mono ?_); rintro e w17 ⟨rfl, hb⟩; refine ⟨_, rfl, ?_⟩; replace HB := qn HB hb; (try clear hb); (try clear hb2); (try clear hk); (try clear hi)) | ((with_reducible refine gate_callee (f := 18) rfl ?_); refine goesL_ (some 44) rfl rfl Tryd.func18 (by kernel_rfl) rfl #[.string a2] rfl ql ?_; (with_reducible refine (idiomref08_FromRoman.calls kj5 a2 t134 t135 _ A15.out).mono ?_); rintro e w18 ⟨rfl, hb⟩; refine ⟨_, rfl, ?_⟩; replace HB := qn HB hb; (try clear hb); (try clear hb2); (try clear hk); (try clear hi)))
       go_ret
       exact ⟨qe, qh HB⟩
     · rw [if_neg c16] at H
       exact absurd H (by simp)

/-- THE ONE PURE STATEMENT of idiomlaw08_DigitsRomans: yours. -/
def idiomlaw08_DigitsRomans.Pure : Prop := ∀ (a0 : Int) (a1 : Bool) (a2 : ByteArray), (Lit.int .i64 a0).wf = true → a2.size ≤ 140737488351232 → ∃ k, idiomlaw08_DigitsRomans.f k a0 a1 a2 = some true
end Go.Proofs.YtnkjeojhiligpaaDoor.H
set_option linter.unusedVariables false
set_option linter.unusedSimpArgs false
set_option maxRecDepth 100000
namespace Go.Proofs.YtnkjeojhiligpaaDoor.RomP
open Go.RowKit Go.Proofs.YtnkjeojhiligpaaDoor.Rom8
def wr (b : UInt8) : Int := Rom8.worth (b.toNat : Int)
/-- What a row of capital letters comes to. -/
def valL : List UInt8 → Int
  | [] => 0
  | [b] => wr b
  | b :: c :: l => (if wr b < wr c then -wr b else wr b) + valL (c :: l)
/-- No letter four times. -/
def four : List UInt8 → Bool
  | a :: b :: c :: d :: l => !(d == c && d == b && d == a) && four (b :: c :: d :: l)
  | _ => true
def okN (n : Nat) : Bool := decide (valL (rom n) = (n : Int)) && four (rom n)
def okAll : Nat → Bool
  | 0 => true
  | n + 1 => okN (n + 1) && okAll n
theorem all_ok : okAll 3999 = true := by kernel_rfl
theorem ok_at : ∀ (m n : Nat), okAll m = true → 1 ≤ n → n ≤ m → okN n = true
  | 0, n, _, h1, h2 => by omega
  | m + 1, n, h, h1, h2 => by
    simp only [okAll, Bool.and_eq_true] at h
    by_cases c : n = m + 1
    · rw [c]; exact h.1
    · exact ok_at m n h.2 h1 (by omega)
theorem val_rom (n : Nat) (h1 : 1 ≤ n) (h2 : n ≤ 3999) : valL (rom n) = (n : Int) := by
  have h := ok_at 3999 n all_ok h1 h2
  unfold okN at h
  rw [Bool.and_eq_true] at h
  exact of_decide_eq_true h.1
theorem rom_inj (m n : Nat) (m1 : 1 ≤ m) (m2 : m ≤ 3999) (n1 : 1 ≤ n) (n2 : n ≤ 3999) (h : rom m = rom n) : m = n := by
  have a := val_rom m m1 m2
  rw [h, val_rom n n1 n2] at a
  omega
theorem rom_ne (n : Nat) (h1 : 1 ≤ n) (h2 : n ≤ 3999) : rom n ≠ [] := fun e => by
  have a := val_rom n h1 h2
  rw [e] at a
  simp only [valL] at a
  omega
theorem low_inj : ∀ a b : List UInt8, low a = low b → a = b
  | [], [], _ => rfl
  | [], _ :: _, h => by simp [low] at h
  | _ :: _, [], h => by simp [low] at h
  | x :: a, y :: b, h => by
    simp only [low, List.map_cons, List.cons.injEq] at h
    rw [(UInt8.add_left_inj 32).1 h.1, low_inj a b h.2]
theorem pc_all (P : UInt8 → Prop) (d : Nat) (a b c : List UInt8) (ha : ∀ x ∈ a, P x) (hb : ∀ x ∈ b, P x) (hc : ∀ x ∈ c, P x) : ∀ x ∈ pc d a b c, P x := by
  intro x hx
  unfold pc at hx
  repeat' split at hx
  all_goals (try simp only [List.mem_append] at hx)
  all_goals first
    | exact ha x hx
    | exact hb x hx
    | exact absurd hx (List.not_mem_nil)
    | (rcases hx with hx | hx <;> first | exact ha x hx | exact hb x hx | exact hc x hx)
    | (rcases hx with (hx | hx) | hx <;> first | exact ha x hx | exact hb x hx)
    | (rcases hx with ((hx | hx) | hx) | hx <;> first | exact ha x hx | exact hb x hx)
theorem rom_all (P : UInt8 → Prop) (h : ∀ x ∈ letters, P x) (n : Nat) : ∀ x ∈ rom n, P x := by
  have one : ∀ b, b ∈ letters → ∀ x ∈ [b], P x := fun b hb x hx => by rw [List.mem_singleton.1 hx]; exact h b hb
  have zero : ∀ x ∈ ([] : List UInt8), P x := fun x hx => absurd hx List.not_mem_nil
  intro b hb
  unfold rom at hb
  simp only [List.mem_append] at hb
  rcases hb with ((hb | hb) | hb) | hb
  · exact pc_all P _ _ _ _ (one 77 (by decide)) zero zero b hb
  · exact pc_all P _ _ _ _ (one 67 (by decide)) (one 68 (by decide)) (one 77 (by decide)) b hb
  · exact pc_all P _ _ _ _ (one 88 (by decide)) (one 76 (by decide)) (one 67 (by decide)) b hb
  · exact pc_all P _ _ _ _ (one 73 (by decide)) (one 86 (by decide)) (one 88 (by decide)) b hb
def cs : List UInt8 := [73, 86, 88, 76, 67, 68, 77, 105, 118, 120, 108, 99, 100, 109]
theorem cap_facts : ∀ b ∈ letters, Lib.upperB b = b ∧ Lib.lowerB b = b + 32 ∧ b.toNat < 97 ∧ b ∈ cs ∧ (b + 32) ∈ cs ∧ Lib.upperB (b + 32) = b ∧ Lib.lowerB (b + 32) = b + 32 ∧ 97 ≤ (b + 32).toNat ∧ (b + 32).toNat < 128 ∧ 0 < wr b := by decide
theorem cs_facts : ∀ b ∈ cs, Lib.lowerB (Lib.upperB b) = Lib.lowerB b ∧ b.toNat < 128 ∧ Lib.upperB b ∈ letters := by decide
theorem map_all {f : UInt8 → UInt8} {l : List UInt8} (h : ∀ b ∈ l, f b = b) : l.map f = l := by
  induction l with
  | nil => rfl
  | cons a l ih => rw [List.map_cons, h a (List.mem_cons_self ..), ih fun b hb => h b (List.mem_cons_of_mem _ hb)]
theorem upper_rom (n : Nat) : Lib.toUpperA (rom n) = rom n := map_all (rom_all _ (fun b hb => (cap_facts b hb).1) n)
theorem lower_rom (n : Nat) : Lib.toLowerA (rom n) = low (rom n) := by
  unfold Lib.toLowerA low
  exact List.map_congr_left (rom_all _ (fun b hb => (cap_facts b hb).2.1) n)
theorem upper_low (n : Nat) : Lib.toUpperA (low (rom n)) = rom n := by
  unfold Lib.toUpperA low
  rw [List.map_map]
  exact map_all (rom_all (fun b => (Lib.upperB ∘ fun x => x + 32) b = b) (fun b hb => (cap_facts b hb).2.2.2.2.2.1) n)
theorem lower_low (n : Nat) : Lib.toLowerA (low (rom n)) = low (rom n) := by
  unfold Lib.toLowerA low
  rw [List.map_map]
  exact List.map_congr_left (rom_all (fun b => (Lib.lowerB ∘ fun x => x + 32) b = b + 32) (fun b hb => (cap_facts b hb).2.2.2.2.2.2.1) n)
theorem low_all (P : UInt8 → Prop) (h : ∀ x ∈ letters, P (x + 32)) (n : Nat) : ∀ x ∈ low (rom n), P x := by
  intro x hx
  obtain ⟨y, hy, rfl⟩ := List.mem_map.1 hx
  exact rom_all (fun b => P (b + 32)) h n y hy
theorem rom_ne_low (m n : Nat) (h1 : 1 ≤ n) (h2 : n ≤ 3999) : rom n ≠ low (rom m) := fun e => by
  have hne := rom_ne n h1 h2
  cases hr : rom n with
  | nil => exact hne hr
  | cons b l =>
    have m1 : b ∈ rom n := by rw [hr]; exact List.mem_cons_self ..
    have m2 : b ∈ low (rom m) := by rw [← e]; exact m1
    have k1 := rom_all (fun b => b.toNat < 97) (fun b hb => (cap_facts b hb).2.2.1) n b m1
    have k2 := low_all (fun b => 97 ≤ b.toNat) (fun b hb => (cap_facts b hb).2.2.2.2.2.2.2.1) m b m2
    omega
theorem rom_len15 (n : Nat) (h : n ≤ 3999) : (rom n).length ≤ 15 := by
  have h1 : (pc (n / 1000) [77] [] []).length ≤ 3 := by
    rcases (by omega : n / 1000 = 0 ∨ n / 1000 = 1 ∨ n / 1000 = 2 ∨ n / 1000 = 3) with e | e | e | e <;> (rw [e]; decide)
  have h2 := pc_len (n / 100 % 10) [67] [68] [77] (by decide) (by decide) (by decide)
  have h3 := pc_len (n / 10 % 10) [88] [76] [67] (by decide) (by decide) (by decide)
  have h4 := pc_len (n % 10) [73] [86] [88] (by decide) (by decide) (by decide)
  unfold rom
  simp only [List.length_append]
  omega
theorem low_len (l : List UInt8) : (low l).length = l.length := List.length_map ..
def isN (s : List UInt8) (n : Nat) : Bool := decide (s = rom n) || decide (s = low (rom n))
theorem isN_iff (s : List UInt8) (n : Nat) : isN s n = true ↔ s = rom n ∨ s = low (rom n) := by
  unfold isN
  rw [Bool.or_eq_true, decide_eq_true_eq, decide_eq_true_eq]
def find (s : List UInt8) : Nat → Nat → Option Nat
  | 0, _ => none
  | k + 1, x => if isN s x = true then some x else find s k (x + 1)
theorem find_some (s : List UInt8) : ∀ (k x n : Nat), find s k x = some n → x ≤ n ∧ n < x + k ∧ isN s n = true
  | 0, x, n, h => by cases h
  | k + 1, x, n, h => by
    simp only [find] at h
    by_cases c : isN s x = true
    · rw [if_pos c] at h
      obtain rfl := Option.some.inj h
      exact ⟨Nat.le_refl _, by omega, c⟩
    · rw [if_neg c] at h
      obtain ⟨h1, h2, h3⟩ := find_some s k (x + 1) n h
      exact ⟨by omega, by omega, h3⟩
theorem find_none (s : List UInt8) : ∀ (k x n : Nat), find s k x = none → x ≤ n → n < x + k → isN s n = false
  | 0, x, n, h, h1, h2 => by omega
  | k + 1, x, n, h, h1, h2 => by
    simp only [find] at h
    by_cases c : isN s x = true
    · rw [if_pos c] at h; cases h
    · rw [if_neg c] at h
      by_cases e : x = n
      · rw [← e]; exact Bool.eq_false_iff.2 c
      · exact find_none s k (x + 1) n h (by omega) (by omega)
theorem isN_uniq (s : List UInt8) (m n : Nat) (m1 : 1 ≤ m) (m2 : m ≤ 3999) (n1 : 1 ≤ n) (n2 : n ≤ 3999) (hm : isN s m = true) (hn : isN s n = true) : m = n := by
  rw [isN_iff] at hm hn
  rcases hm with hm | hm <;> rcases hn with hn | hn
  · exact rom_inj m n m1 m2 n1 n2 (hm.symm.trans hn)
  · exact absurd (hm.symm.trans hn) (rom_ne_low n m m1 m2)
  · exact absurd (hn.symm.trans hm) (rom_ne_low m n n1 n2)
  · exact rom_inj m n m1 m2 n1 n2 (low_inj _ _ (hm.symm.trans hn))
/-- What a text is as a numeral: the number, or the error. -/
def frD (s : List UInt8) : Int × Int := match find s 3999 1 with
  | some n => ((n : Int), 0)
  | none => (0, 82)
theorem frD_hit (s : List UInt8) (n : Nat) (n1 : 1 ≤ n) (n2 : n ≤ 3999) (h : s = rom n ∨ s = low (rom n)) : frD s = ((n : Int), 0) := by
  unfold frD
  cases hf : find s 3999 1 with
  | none => exact absurd ((isN_iff s n).2 h) (by rw [find_none s 3999 1 n hf n1 (by omega)]; exact Bool.false_ne_true)
  | some m =>
    obtain ⟨h1, h2, h3⟩ := find_some s 3999 1 m hf
    rw [isN_uniq s m n h1 (by omega) n1 n2 h3 ((isN_iff s n).2 h)]
theorem frD_miss (s : List UInt8) (h : ∀ n, 1 ≤ n → n ≤ 3999 → s ≠ rom n ∧ s ≠ low (rom n)) : frD s = (0, 82) := by
  unfold frD
  cases hf : find s 3999 1 with
  | none => rfl
  | some m =>
    obtain ⟨h1, h2, h3⟩ := find_some s 3999 1 m hf
    rw [isN_iff] at h3
    obtain ⟨a, b⟩ := h m h1 (by omega)
    rcases h3 with h3 | h3
    · exact absurd h3 a
    · exact absurd h3 b
theorem frD_cases (s : List UInt8) : (∃ n, 1 ≤ n ∧ n ≤ 3999 ∧ (s = rom n ∨ s = low (rom n))) ∨ (∀ n, 1 ≤ n → n ≤ 3999 → s ≠ rom n ∧ s ≠ low (rom n)) := by
  cases hf : find s 3999 1 with
  | none =>
    refine .inr fun n h1 h2 => ?_
    have h := find_none s 3999 1 n hf h1 (by omega)
    rw [Bool.eq_false_iff, Ne, isN_iff] at h
    exact ⟨fun e => h (.inl e), fun e => h (.inr e)⟩
  | some m =>
    obtain ⟨h1, h2, h3⟩ := find_some s 3999 1 m hf
    exact .inl ⟨m, h1, by omega, (isN_iff s m).1 h3⟩
theorem dw_nil (p : UInt8 → Bool) : ∀ l : List UInt8, (∀ b ∈ l, p b = true) → l.dropWhile p = []
  | [], _ => rfl
  | a :: l, h => by
    rw [List.dropWhile_cons_of_pos (h a (List.mem_cons_self ..))]
    exact dw_nil p l fun b hb => h b (List.mem_cons_of_mem _ hb)
theorem dw_nil2 (p : UInt8 → Bool) : ∀ l : List UInt8, l.dropWhile p = [] → ∀ b ∈ l, p b = true
  | [], _, b, hb => absurd hb List.not_mem_nil
  | a :: l, h, b, hb => by
    by_cases c : p a = true
    · rw [List.dropWhile_cons_of_pos c] at h
      rcases List.mem_cons.1 hb with rfl | hb
      · exact c
      · exact dw_nil2 p l h b hb
    · rw [List.dropWhile_cons_of_neg c] at h
      cases h
theorem dw_all (p : UInt8 → Bool) : ∀ l : List UInt8, (∀ b ∈ l.dropWhile p, p b = true) → ∀ b ∈ l, p b = true
  | [], _, b, hb => absurd hb List.not_mem_nil
  | a :: l, h, b, hb => by
    by_cases c : p a = true
    · rw [List.dropWhile_cons_of_pos c] at h
      rcases List.mem_cons.1 hb with rfl | hb
      · exact c
      · exact dw_all p l h b hb
    · rw [List.dropWhile_cons_of_neg c] at h
      exact absurd (h a (List.mem_cons_self ..)) c
theorem trim_nil (l k : List UInt8) : Lib.trimS l k = [] ↔ ∀ b ∈ l, b ∈ k := by
  unfold Lib.trimS Lib.trimLeftS Lib.trimRightS
  constructor
  · intro h b hb
    have h1 := dw_nil2 _ _ h
    have h2 := dw_all (k.contains ·) l.reverse (fun x hx => h1 x (List.mem_reverse.2 hx)) b (List.mem_reverse.2 hb)
    simpa using h2
  · intro h
    have e : l.reverse.dropWhile (k.contains ·) = [] := dw_nil _ _ fun b hb => by simpa using h b (List.mem_reverse.1 hb)
    rw [e]
    rfl
theorem wr_bound (b : UInt8) : 0 ≤ wr b ∧ wr b ≤ 1000 := by
  unfold wr worth wAt
  repeat' split
  all_goals decide
end Go.Proofs.YtnkjeojhiligpaaDoor.RomP
