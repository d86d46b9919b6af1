/- Part 2 of 3 of the proof of the law DigitsRomanSums: it is true at every input. Conditions: those of the given row, no others. -/
import Derived.Test.YtnkjeojhiligpaaDoorPkDigitsRomanSums0
import Derived.Shelf.Strings.Builder1
import Derived.Shelf.Strings.Builder2
import Derived.Shelf.Strings.OnBuilder
import Derived.Shelf.Strings.Trim
import Derived.Shelf.Small.Utf8
import Derived.Shelf.Small.Strs
import Derived.Shelf.Strings.BuilderF
import Derived.Shelf.Strings.BuilderK
import Derived.Shelf.Strings.BuilderRune
import Derived.Shelf.Strings.Builder2Cap
import Derived.Shelf.Strconv.Itoa0
import Derived.Shelf.Strings.Search1
import Derived.Shelf.Strings.Prefix
import Derived.Shelf.Unicode.Latin
import Derived.Shelf.Unicode.Decode
import Derived.Shelf.Strings.Runes
import Derived.Shelf.Strings.AsciiSet
import Derived.Shelf.Bits.Mul64
import Derived.Shelf.Strings.Repeat
import Derived.Shelf.Unicode.DecodeSlow
import Derived.Shelf.Unicode.DecodeAny
import Derived.Shelf.Unicode.DecodeLast
import Derived.Shelf.Unicode.CaseLookup
import Derived.Shelf.Unicode.CaseConvert
import Derived.Shelf.Unicode.CaseTo
import Derived.Shelf.Unicode.CaseLaid
import Derived.Shelf.Strings.BuilderCap
import Derived.Test.YtnkjeojhiligpaaDoorProg
import Derived.Below
import Derived.Deep.Draws
import Derived.Deep.AppendLies
import Derived.Maps.AppendAt
import Derived.OwnWalk
import Derived.Laws.BytesArg
import Derived.Laws.MakeOwn
import Derived.Laws.OwnMore
import Derived.Deep.OwnRows
import Derived.Tactics
import Derived.Lib.ConvBytes
import Derived.Laws.Slices
import Derived.WalkKit
import Derived.KernelRfl
import Derived.RowKit3
import Derived.Deep.LoopGhost
import Derived.Deep.QuietTactic
import Derived.BigQuiet
import Derived.WideLaws
import Derived.Deep.DeepCutAuto
import Derived.Deep.CutBlock
import Derived.Deep.RegionHeld3
import Derived.Laws.Rows
import Derived.Lib.AppendStr
import Derived.ArgAppend
import Derived.Laws.IdiomCopy
import Derived.OrdersHeld
import Derived.Laws.BitsLemmas
import Derived.RowKit
import Derived.Test.YtnkjeojhiligpaaDoorWWords
import Derived.Test.YtnkjeojhiligpaaDoorWLast
import Derived.Laws.StructEq
import Derived.Test.YtnkjeojhiligpaaDoorWMore
import Derived.Laws.IdiomStrings
import Derived.Lib.OthersKept
import Derived.Shelf.Strings.SlTrimAscii
import Derived.Maps.OwnSet
namespace Go.Proofs.YtnkjeojhiligpaaDoor.H
open Go.RowKit Go.Proofs.YtnkjeojhiligpaaDoorW.PrintWords Go.Proofs.YtnkjeojhiligpaaDoorW.PrintLast Go.Proofs.YtnkjeojhiligpaaDoorW.PrintMore Go.Proofs.YtnkjeojhiligpaaDoor.Q
attribute [local go_sem] max2_int min2_int max_two min_two max_three min_three max_four min_four   -- for this text's walks alone
set_option linter.unusedVariables false
set_option linter.unusedSimpArgs false

def digits_Render.f (a0 : ByteArray) (a1 : ByteArray) : Option (ByteArray × Int) := some (Rend.f a0 a1)
theorem digits_Render.calls (a0 : ByteArray) (a1 : ByteArray) (r1 : ByteArray) (r2 : Int) (w : World) (h : digits_Render.f a0 a1 = some (r1, r2)) :
 Calls Tryd.prog 10 #[.string a0, .string a1] w fun e w' => e = .returned (.tuple #[.string r1, .int .i64 r2]) ∧ Below w.heap.size w w' := by
 have e : Rend.f a0 a1 = (r1, r2) := Option.some.inj h
 have c := Rend.calls a0 a1 w
 rw [e] at c
 exact c

def digits_Read.f (a0 : ByteArray) (a1 : ByteArray) : Option (ByteArray × Int × Int) := if a1.size ≤ 140737488355328 then some (Read8.f a0 a1) else none
theorem digits_Read.calls (a0 : ByteArray) (a1 : ByteArray) (r1 : ByteArray) (r2 : Int) (r3 : Int) (w : World) (h : digits_Read.f a0 a1 = some (r1, r2, r3)) (hG_ : Stray.Tabs w) :
 Calls Tryd.prog 13 #[.string a0, .string a1] w fun e w' => e = .returned (.tuple #[.string r1, .int .i64 r2, .int .i64 r3]) ∧ Below w.heap.size w w' := by
 unfold digits_Read.f at h
 split at h
 · rename_i hs
   have e : Read8.f a0 a1 = (r1, r2, r3) := Option.some.inj h
   have c := Read8.calls a0 a1 hs w hG_
   rw [e] at c
   exact c
 · cases h

/-- strings.ToLower of ASCII text. -/
def strings_ToLower.f (a0 : ByteArray) : Option (ByteArray) := if a0.size ≤ 140737488355328 ∧ (∀ b ∈ a0.data.toList, b.toNat < 128) then some ⟨(Lib.toLowerA a0.data.toList).toArray⟩ else none
theorem strings_ToLower.calls (a0 : ByteArray) (r : ByteArray) (w : World) (h : strings_ToLower.f a0 = some r) :
 Calls Tryd.prog 30 #[.string a0] w fun e w' => e = .returned (.string r) ∧ Below w.heap.size w w' := by
 unfold strings_ToLower.f at h
 split at h
 · rename_i hs
   obtain rfl := Option.some.inj h
   exact Tryd.strings_ToLower_ascii a0 w hs.1 (fun j b hb => hs.2 b (List.mem_of_getElem? hb))
 · cases h

/-- strings.Repeat: what it tells where the count is no less than 0 and the text is not too long. -/
def strings_Repeat.f (a0 : ByteArray) (a1 : Int) : Option (ByteArray) := if 0 ≤ a1 ∧ a1 ≤ 9223372036854775807 ∧ a0.size * a1.toNat ≤ 140737488355328 then some ⟨(Lib.repeatL a0.data.toList a1.toNat).toArray⟩ else none
theorem strings_Repeat.calls (a0 : ByteArray) (a1 : Int) (r : ByteArray) (w : World) (h : strings_Repeat.f a0 a1 = some r) :
 Calls Tryd.prog 45 #[.string a0, .int .i64 a1] w fun e w' => e = .returned (.string r) ∧ Below w.heap.size w w' := by
 unfold strings_Repeat.f at h
 split at h
 · rename_i hc
   obtain ⟨h0, h1, h2⟩ := hc
   obtain ⟨n, rfl⟩ := Int.eq_ofNat_of_zero_le h0
   obtain rfl := Option.some.inj h
   exact Tryd.strings_Repeat a0 n w (by omega) (by simpa using h2)
 · cases h

def digits_piece.f (a0 : Int) (a1 : ByteArray) (a2 : ByteArray) (a3 : ByteArray) : Option (ByteArray) := if a0 = 9 then (if a1.size + a3.size ≤ 9223372036854775807 then (some (a1 ++ a3)) else (none)) else (if a0 ≥ 5 then ((strings_Repeat.f a1 (wrap64 (a0 - 5))).bind fun t101 => (if a2.size + t101.size ≤ 9223372036854775807 then (some (a2 ++ t101)) else (none))) else (if a0 = 4 then (if a1.size + a2.size ≤ 9223372036854775807 then (some (a1 ++ a2)) else (none)) else ((strings_Repeat.f a1 a0).bind fun t102 => (some t102))))
set_option maxHeartbeats 8000000 in
set_option maxRecDepth 100000 in
theorem digits_piece.calls (a0 : Int) (a1 : ByteArray) (a2 : ByteArray) (a3 : ByteArray) (r : ByteArray) (w : World) (h : digits_piece.f a0 a1 a2 a3 = some r) :
 Calls Tryd.prog 46 #[.int .i64 a0, .string a1, .string a2, .string a3] w fun e w' => e = .returned (.string r) ∧ Below w.heap.size w w' := by
 have HB := Aside0.mk (Below.refl w.heap.size w)
 have H : (if a0 = 9 then (if a1.size + a3.size ≤ 9223372036854775807 then (some (a1 ++ a3)) else (none)) else (if a0 ≥ 5 then ((strings_Repeat.f a1 (wrap64 (a0 - 5))).bind fun t101 => (if a2.size + t101.size ≤ 9223372036854775807 then (some (a2 ++ t101)) else (none))) else (if a0 = 4 then (if a1.size + a2.size ≤ 9223372036854775807 then (some (a1 ++ a2)) else (none)) else ((strings_Repeat.f a1 a0).bind fun t102 => (some t102))))) = some r := h
 clear h
 by_cases c5 : a0 = 9
 · rw [if_pos c5] at H
   have c5b0 : (a0 == 9) = true := beq_iff_eq.mpr c5
   have c5b1 : (a0 != 9) = false := bne_eq_false_iff_eq.mpr c5
   try have c5b1z := c5b1
   (try simp only [bne] at c5b1z)
   clear c5
   by_cases c6 : a1.size + a3.size ≤ 9223372036854775807
   · rw [if_pos c6] at H
     have c6b0 := eq_true c6
     have c6b1 : decide (a1.size + a3.size ≤ 9223372036854775807) = true := decide_eq_true c6
     try have c6b2 : (9223372036854775807 < a1.size + a3.size) = False := eq_false (Nat.not_lt.2 c6)
     obtain rfl := Option.some.inj H
     go_enter Tryd.func46, Tryd.ntmps46
     go_wp2
     go_ret
     exact ⟨qe, qh HB⟩
   · rw [if_neg c6] at H
     exact absurd H (by simp)
 · rw [if_neg c5] at H
   have c5b0 : (a0 == 9) = false := beq_eq_false_iff_ne.mpr c5
   have c5b1 : (a0 != 9) = true := bne_iff_ne.mpr c5
   try have c5b1z := c5b1
   (try simp only [bne] at c5b1z)
   by_cases c7 : a0 ≥ 5
   · rw [if_pos c7] at H
     have c7b0 : decide (5 ≤ a0) = true := decide_eq_true c7
     clear c7
     replace H := Option.bind_eq_some_iff.mp H
     obtain ⟨t101, A80, H⟩ := H
     replace H : (if a2.size + t101.size ≤ 9223372036854775807 then (some (a2 ++ t101)) else (none)) = some r := H
     have A8 := Aside0.mk A80
     clear A80
     by_cases c9 : a2.size + t101.size ≤ 9223372036854775807
     · rw [if_pos c9] at H
       have c9b0 := eq_true c9
       have c9b1 : decide (a2.size + t101.size ≤ 9223372036854775807) = true := decide_eq_true c9
       try have c9b2 : (9223372036854775807 < a2.size + t101.size) = False := eq_false (Nat.not_lt.2 c9)
       obtain rfl := Option.some.inj H
       go_enter Tryd.func46, Tryd.ntmps46
       go_wp2_with (first | ((with_reducible refine gate_callee (f := 45) rfl ?_); refine goesL_ (some 22) rfl rfl Tryd.func45 (by kernel_rfl) rfl #[.string a1, .int .i64 (wrap64 (a0 - 5))] rfl ql ?_; (with_reducible refine (strings_Repeat.calls a1 (wrap64 (a0 - 5)) t101 _ A8.out).mono ?_); rintro e w10 ⟨rfl, hb⟩; refine ⟨_, rfl, ?_⟩; replace HB := qn HB hb; (try clear hb); (try clear hb2); (try clear hk); (try clear hi)))
       go_ret
       exact ⟨qe, qh HB⟩
     · rw [if_neg c9] at H
       exact absurd H (by simp)
   · rw [if_neg c7] at H
     have c7b0 : decide (5 ≤ a0) = false := decide_eq_false c7
     clear c7
     by_cases c11 : a0 = 4
     · rw [if_pos c11] at H
       have c11b0 : (a0 == 4) = true := beq_iff_eq.mpr c11
       have c11b1 : (a0 != 4) = false := bne_eq_false_iff_eq.mpr c11
       try have c11b1z := c11b1
       (try simp only [bne] at c11b1z)
       clear c11
       by_cases c12 : a1.size + a2.size ≤ 9223372036854775807
       · rw [if_pos c12] at H
         have c12b0 := eq_true c12
         have c12b1 : decide (a1.size + a2.size ≤ 9223372036854775807) = true := decide_eq_true c12
         try have c12b2 : (9223372036854775807 < a1.size + a2.size) = False := eq_false (Nat.not_lt.2 c12)
         obtain rfl := Option.some.inj H
         go_enter Tryd.func46, Tryd.ntmps46
         go_wp2
         go_ret
         exact ⟨qe, qh HB⟩
       · rw [if_neg c12] at H
         exact absurd H (by simp)
     · rw [if_neg c11] at H
       have c11b0 : (a0 == 4) = false := beq_eq_false_iff_ne.mpr c11
       have c11b1 : (a0 != 4) = true := bne_iff_ne.mpr c11
       try have c11b1z := c11b1
       (try simp only [bne] at c11b1z)
       replace H := Option.bind_eq_some_iff.mp H
       obtain ⟨t102, A130, H⟩ := H
       replace H : (some t102) = some r := H
       have A13 := Aside0.mk A130
       clear A130
       obtain rfl := Option.some.inj H
       go_enter Tryd.func46, Tryd.ntmps46
       go_wp2_with (first | ((with_reducible refine gate_callee (f := 45) rfl ?_); refine goesL_ (some 32) rfl rfl Tryd.func45 (by kernel_rfl) rfl #[.string a1, .int .i64 a0] rfl ql ?_; (with_reducible refine (strings_Repeat.calls a1 a0 t102 _ A13.out).mono ?_); rintro e w14 ⟨rfl, hb⟩; refine ⟨_, rfl, ?_⟩; replace HB := qn HB hb; (try clear hb); (try clear hb2); (try clear hk); (try clear hi)))
       go_ret
       exact ⟨qe, qh HB⟩

def digits_roman.f (a0 : Int) : Option (ByteArray) := (strings_Repeat.f (⟨#[77]⟩ : ByteArray) (wrap64 (Int.tdiv a0 1000))).bind fun t103 => ((digits_piece.f (Int.tmod (wrap64 (Int.tdiv a0 100)) 10) (⟨#[67]⟩ : ByteArray) (⟨#[68]⟩ : ByteArray) (⟨#[77]⟩ : ByteArray)).bind fun t104 => (if t103.size + t104.size ≤ 9223372036854775807 then ((digits_piece.f (Int.tmod (wrap64 (Int.tdiv a0 10)) 10) (⟨#[88]⟩ : ByteArray) (⟨#[76]⟩ : ByteArray) (⟨#[67]⟩ : ByteArray)).bind fun t105 => (if (t103 ++ t104).size + t105.size ≤ 9223372036854775807 then ((digits_piece.f (Int.tmod a0 10) (⟨#[73]⟩ : ByteArray) (⟨#[86]⟩ : ByteArray) (⟨#[88]⟩ : ByteArray)).bind fun t106 => (if ((t103 ++ t104) ++ t105).size + t106.size ≤ 9223372036854775807 then (some (((t103 ++ t104) ++ t105) ++ t106)) else (none))) else (none))) else (none)))
set_option maxHeartbeats 8000000 in
set_option maxRecDepth 100000 in
theorem digits_roman.calls (a0 : Int) (r : ByteArray) (w : World) (h : digits_roman.f a0 = some r) :
 Calls Tryd.prog 31 #[.int .i64 a0] w fun e w' => e = .returned (.string r) ∧ Below w.heap.size w w' := by
 have HB := Aside0.mk (Below.refl w.heap.size w)
 have H : ((strings_Repeat.f (⟨#[77]⟩ : ByteArray) (wrap64 (Int.tdiv a0 1000))).bind fun t103 => ((digits_piece.f (Int.tmod (wrap64 (Int.tdiv a0 100)) 10) (⟨#[67]⟩ : ByteArray) (⟨#[68]⟩ : ByteArray) (⟨#[77]⟩ : ByteArray)).bind fun t104 => (if t103.size + t104.size ≤ 9223372036854775807 then ((digits_piece.f (Int.tmod (wrap64 (Int.tdiv a0 10)) 10) (⟨#[88]⟩ : ByteArray) (⟨#[76]⟩ : ByteArray) (⟨#[67]⟩ : ByteArray)).bind fun t105 => (if (t103 ++ t104).size + t105.size ≤ 9223372036854775807 then ((digits_piece.f (Int.tmod a0 10) (⟨#[73]⟩ : ByteArray) (⟨#[86]⟩ : ByteArray) (⟨#[88]⟩ : ByteArray)).bind fun t106 => (if ((t103 ++ t104) ++ t105).size + t106.size ≤ 9223372036854775807 then (some (((t103 ++ t104) ++ t105) ++ t106)) else (none))) else (none))) else (none)))) = some r := h
 clear h
 replace H := Option.bind_eq_some_iff.mp H
 obtain ⟨t103, A20, H⟩ := H
 replace H : ((digits_piece.f (Int.tmod (wrap64 (Int.tdiv a0 100)) 10) (⟨#[67]⟩ : ByteArray) (⟨#[68]⟩ : ByteArray) (⟨#[77]⟩ : ByteArray)).bind fun t104 => (if t103.size + t104.size ≤ 9223372036854775807 then ((digits_piece.f (Int.tmod (wrap64 (Int.tdiv a0 10)) 10) (⟨#[88]⟩ : ByteArray) (⟨#[76]⟩ : ByteArray) (⟨#[67]⟩ : ByteArray)).bind fun t105 => (if (t103 ++ t104).size + t105.size ≤ 9223372036854775807 then ((digits_piece.f (Int.tmod a0 10) (⟨#[73]⟩ : ByteArray) (⟨#[86]⟩ : ByteArray) (⟨#[88]⟩ : ByteArray)).bind fun t106 => (if ((t103 ++ t104) ++ t105).size + t106.size ≤ 9223372036854775807 then (some (((t103 ++ t104) ++ t105) ++ t106)) else (none))) else (none))) else (none))) = some r := H
 have A2 := Aside0.mk A20
 clear A20
 replace H := Option.bind_eq_some_iff.mp H
 obtain ⟨t104, A30, H⟩ := H
 replace H : (if t103.size + t104.size ≤ 9223372036854775807 then ((digits_piece.f (Int.tmod (wrap64 (Int.tdiv a0 10)) 10) (⟨#[88]⟩ : ByteArray) (⟨#[76]⟩ : ByteArray) (⟨#[67]⟩ : ByteArray)).bind fun t105 => (if (t103 ++ t104).size + t105.size ≤ 9223372036854775807 then ((digits_piece.f (Int.tmod a0 10) (⟨#[73]⟩ : ByteArray) (⟨#[86]⟩ : ByteArray) (⟨#[88]⟩ : ByteArray)).bind fun t106 => (if ((t103 ++ t104) ++ t105).size + t106.size ≤ 9223372036854775807 then (some (((t103 ++ t104) ++ t105) ++ t106)) else (none))) else (none))) else (none)) = some r := H
 have A3 := Aside0.mk A30
 clear A30
 by_cases c4 : t103.size + t104.size ≤ 9223372036854775807
 · rw [if_pos c4] at H
   have c4b0 := eq_true c4
   have c4b1 : decide (t103.size + t104.size ≤ 9223372036854775807) = true := decide_eq_true c4
   try have c4b2 : (9223372036854775807 < t103.size + t104.size) = False := eq_false (Nat.not_lt.2 c4)
   replace H := Option.bind_eq_some_iff.mp H
   obtain ⟨t105, A50, H⟩ := H
   replace H : (if (t103 ++ t104).size + t105.size ≤ 9223372036854775807 then ((digits_piece.f (Int.tmod a0 10) (⟨#[73]⟩ : ByteArray) (⟨#[86]⟩ : ByteArray) (⟨#[88]⟩ : ByteArray)).bind fun t106 => (if ((t103 ++ t104) ++ t105).size + t106.size ≤ 9223372036854775807 then (some (((t103 ++ t104) ++ t105) ++ t106)) else (none))) else (none)) = some r := H
   have A5 := Aside0.mk A50
   clear A50
   by_cases c6 : (t103 ++ t104).size + t105.size ≤ 9223372036854775807
   · rw [if_pos c6] at H
     have c6b0 := eq_true c6
     try have c6b0z := c6b0
     (try simp only [go_sem, ByteArray.size_extract, ByteArray.size_append, Nat.min_self, Int.natCast_add] at c6b0z)
     have c6b1 : decide ((t103 ++ t104).size + t105.size ≤ 9223372036854775807) = true := decide_eq_true c6
     try have c6b1z := c6b1
     (try simp only [go_sem, ByteArray.size_extract, ByteArray.size_append, Nat.min_self, Int.natCast_add] at c6b1z)
     try have c6b2 : (9223372036854775807 < (t103 ++ t104).size + t105.size) = False := eq_false (Nat.not_lt.2 c6)
     try have c6b2z := c6b2
     (try simp only [go_sem, ByteArray.size_extract, ByteArray.size_append, Nat.min_self, Int.natCast_add] at c6b2z)
     replace H := Option.bind_eq_some_iff.mp H
     obtain ⟨t106, A70, H⟩ := H
     replace H : (if ((t103 ++ t104) ++ t105).size + t106.size ≤ 9223372036854775807 then (some (((t103 ++ t104) ++ t105) ++ t106)) else (none)) = some r := H
     have A7 := Aside0.mk A70
     clear A70
     by_cases c8 : ((t103 ++ t104) ++ t105).size + t106.size ≤ 9223372036854775807
     · rw [if_pos c8] at H
       have c8b0 := eq_true c8
       try have c8b0z := c8b0
       (try simp only [go_sem, ByteArray.size_extract, ByteArray.size_append, Nat.min_self, Int.natCast_add] at c8b0z)
       have c8b1 : decide (((t103 ++ t104) ++ t105).size + t106.size ≤ 9223372036854775807) = true := decide_eq_true c8
       try have c8b1z := c8b1
       (try simp only [go_sem, ByteArray.size_extract, ByteArray.size_append, Nat.min_self, Int.natCast_add] at c8b1z)
       try have c8b2 : (9223372036854775807 < ((t103 ++ t104) ++ t105).size + t106.size) = False := eq_false (Nat.not_lt.2 c8)
       try have c8b2z := c8b2
       (try simp only [go_sem, ByteArray.size_extract, ByteArray.size_append, Nat.min_self, Int.natCast_add] at c8b2z)
       obtain rfl := Option.some.inj H
       go_enter Tryd.func31, Tryd.ntmps31
       go_wp2_with (first | ((with_reducible refine gate_callee (f := 45) rfl ?_); refine goesL_ (some 5) rfl rfl Tryd.func45 (by kernel_rfl) rfl #[.string (⟨#[77]⟩ : ByteArray), .int .i64 (wrap64 (Int.tdiv a0 1000))] rfl ql ?_; (with_reducible refine (strings_Repeat.calls (⟨#[77]⟩ : ByteArray) (wrap64 (Int.tdiv a0 1000)) t103 _ A2.out).mono ?_); rintro e w9 ⟨rfl, hb⟩; refine ⟨_, rfl, ?_⟩; replace HB := qn HB hb; (try clear hb); (try clear hb2); (try clear hk); (try clear hi)) | ((with_reducible refine gate_callee (f := 46) rfl ?_); refine goesL_ (some 9) rfl rfl Tryd.func46 (by kernel_rfl) rfl #[.int .i64 (Int.tmod (wrap64 (Int.tdiv a0 100)) 10), .string (⟨#[67]⟩ : ByteArray), .string (⟨#[68]⟩ : ByteArray), .string (⟨#[77]⟩ : ByteArray)] rfl ql ?_; (with_reducible refine (digits_piece.calls (Int.tmod (wrap64 (Int.tdiv a0 100)) 10) (⟨#[67]⟩ : ByteArray) (⟨#[68]⟩ : ByteArray) (⟨#[77]⟩ : ByteArray) t104 _ A3.out).mono ?_); rintro e w10 ⟨rfl, hb⟩; refine ⟨_, rfl, ?_⟩; replace HB := qn HB hb; (try clear hb); (try clear hb2); (try clear hk); (try clear hi)) | ((with_reducible refine gate_callee (f := 46) rfl ?_); refine goesL_ (some 14) rfl rfl Tryd.func46 (by kernel_rfl) rfl #[.int .i64 (Int.tmod (wrap64 (Int.tdiv a0 10)) 10), .string (⟨#[88]⟩ : ByteArray), .string (⟨#[76]⟩ : ByteArray), .string (⟨#[67]⟩ : ByteArray)] rfl ql ?_; (with_reducible refine (digits_piece.calls (Int.tmod (wrap64 (Int.tdiv a0 10)) 10) (⟨#[88]⟩ : ByteArray) (⟨#[76]⟩ : ByteArray) (⟨#[67]⟩ : ByteArray) t105 _ A5.out).mono ?_); rintro e w11 ⟨rfl, hb⟩; refine ⟨_, rfl, ?_⟩; replace HB := qn HB hb; (try clear hb); (try clear hb2); (try clear hk); (try clear hi)) | ((with_reducible refine gate_callee (f := 46) rfl ?_); refine goesL_ (some 18) rfl rfl Tryd.func46 (by kernel_rfl) rfl #[.int .i64 (Int.tmod a0 10), .string (⟨#[73]⟩ : ByteArray), .string (⟨#[86]⟩ : ByteArray), .string (⟨#[88]⟩ : ByteArray)] rfl ql ?_; (with_reducible refine (digits_piece.calls (Int.tmod a0 10) (⟨#[73]⟩ : ByteArray) (⟨#[86]⟩ : ByteArray) (⟨#[88]⟩ : ByteArray) t106 _ A7.out).mono ?_); rintro e w12 ⟨rfl, hb⟩; refine ⟨_, rfl, ?_⟩; replace HB := qn HB hb; (try clear hb); (try clear hb2); (try clear hk); (try clear hi)))
       go_ret
       exact ⟨qe, qh HB⟩
     · rw [if_neg c8] at H
       exact absurd H (by simp)
   · rw [if_neg c6] at H
     exact absurd H (by simp)
 · rw [if_neg c4] at H
   exact absurd H (by simp)

def digits_Roman.j0 : Nat → Int → Bool → Bool → Option (ByteArray × Int)
 | 0, _, _, _ => none
 | k + 1, x0, x1, x11 => if x11 = true then (some ((⟨#[]⟩ : ByteArray), 82)) else (if x1 = true then ((digits_roman.f x0).bind fun t107 => ((strings_ToLower.f t107).bind fun t108 => (some (t108, 0)))) else ((digits_roman.f x0).bind fun t109 => (some (t109, 0))))
def digits_Roman.f (k : Nat) (a0 : Int) (a1 : Bool) : Option (ByteArray × Int) := if a0 < 1 then (digits_Roman.j0 k a0 a1 true) else (digits_Roman.j0 k a0 a1 (decide (a0 > 3999)))
theorem digits_Roman.mono_l : ∀ k, (∀ y0 y1 y2, LeO (digits_Roman.j0 k y0 y1 y2) (digits_Roman.j0 (k + 1) y0 y1 y2))
 | 0 => fun _ _ _ r h => by simp [digits_Roman.j0] at h
 | k + 1 => by
  have ih0 := digits_Roman.mono_l k
  · intro y0 y1 y2
    unfold digits_Roman.j0
    repeat' first
    | (with_reducible exact ih0 _ _ _)
    | (with_reducible exact LeO.refl _)
    | (with_reducible exact LeO.none _)
    | (with_reducible refine LeO.ite ?_ ?_)
    | (with_reducible refine LeO.bind ?_ (fun _ => ?_))
    | exact ih0 _ _ _
    | exact LeO.none _
    | refine LeO.ite ?_ ?_
    | refine LeO.bind ?_ (fun _ => ?_)
theorem digits_Roman.mono : ∀ a0 a1 k, LeO (digits_Roman.f k a0 a1) (digits_Roman.f (k + 1) a0 a1) := by
 intro a0 a1 k
 have ih0 := digits_Roman.mono_l k
 unfold digits_Roman.f
 repeat' first
  | (with_reducible exact ih0 _ _ _)
  | (with_reducible exact LeO.refl _)
  | (with_reducible exact LeO.none _)
  | (with_reducible refine LeO.ite ?_ ?_)
  | (with_reducible refine LeO.bind ?_ (fun _ => ?_))
  | exact ih0 _ _ _
  | exact LeO.none _
  | refine LeO.ite ?_ ?_
  | refine LeO.bind ?_ (fun _ => ?_)
set_option maxHeartbeats 8000000 in
set_option maxRecDepth 100000 in
theorem digits_Roman.calls (k : Nat) (a0 : Int) (a1 : Bool) (r1 : ByteArray) (r2 : Int) (w : World) (h : digits_Roman.f k a0 a1 = some (r1, r2)) :
 Calls Tryd.prog 15 #[.int .i64 a0, .bool a1] w fun e w' => e = .returned (.tuple #[.string r1, .int .i64 r2]) ∧ Below w.heap.size w w' := by
 have HB := Aside0.mk (Below.refl w.heap.size w)
 have H : (if a0 < 1 then (digits_Roman.j0 k a0 a1 true) else (digits_Roman.j0 k a0 a1 (decide (a0 > 3999)))) = some (r1, r2) := h
 clear h
 have HC3 := Aside0.mk H
 clear H
 go_enter Tryd.func15, Tryd.ntmps15
 go_upto_region 1 with (fail)
 go_cut [11] (fun v11 wc => ∃ (kq : Nat) (x11_2 : Bool), v11 = .bool x11_2 ∧ Aside0 (digits_Roman.j0 kq a0 a1 x11_2 = some (r1, r2)) ∧ Aside0 (kq ≤ k) ∧ Aside0 (Below w.heap.size w wc))
 case first =>
  have H := HC3.out
  clear HC3
  by_cases c4 : a0 < 1
  · rw [if_pos c4] at H
    have c4b0 : decide (a0 < 1) = true := decide_eq_true c4
    clear c4
    (first | rw [c4b0] | (simp only [i64_w, i32_w]; rw [c4b0]) | skip)
    have H' := Aside0.mk H
    clear H
    go_wp2
    go_meet
    case rel => exact ⟨_, (true), (by first | rfl | (simp; done) | (simp [*]; done)), H', ⟨by first | omega | exact Nat.le_refl _⟩, ⟨qh HB⟩⟩
  · rw [if_neg c4] at H
    have c4b0 : decide (a0 < 1) = false := decide_eq_false c4
    clear c4
    (first | rw [c4b0] | (simp only [i64_w, i32_w]; rw [c4b0]) | skip)
    have H' := Aside0.mk H
    clear H
    go_wp2
    go_meet
    case rel => exact ⟨_, (decide (a0 > 3999)), (by first | rfl | (simp; done) | (simp [*]; done)), H', ⟨by first | omega | exact Nat.le_refl _⟩, ⟨qh HB⟩⟩
 case rest =>
  clear HC3
  try clear c1
  try clear p2
  try clear c4
  try clear c4b0
  obtain ⟨kq, x11_2, rfl, HA, HJ2, HB⟩ := hcut
  cases kq with
  | zero => exact absurd HA.out (by simp [digits_Roman.j0])
  | succ kj2 =>
   have H := HA.out
   clear HA
   simp only [digits_Roman.j0] at H
   by_cases c5 : x11_2 = true
   · subst c5
     have H1 : (some ((⟨#[]⟩ : ByteArray), 82)) = some (r1, r2) := by rw [if_pos rfl] at H; exact H
     clear H
     have H := H1
     clear H1
     simp only [Option.some.injEq, Prod.mk.injEq] at H
     obtain ⟨rfl, rfl⟩ := H
     go_wp2
     go_ret2
     exact ⟨qe, qh HB⟩
   · replace c5 := Bool.eq_false_iff.mpr c5
     subst c5
     have H1 : (if a1 = true then ((digits_roman.f a0).bind fun t107 => ((strings_ToLower.f t107).bind fun t108 => (some (t108, 0)))) else ((digits_roman.f a0).bind fun t109 => (some (t109, 0)))) = some (r1, r2) := by rw [if_neg (show ¬ (false = true) by decide)] at H; exact H
     clear H
     have H := H1
     clear H1
     by_cases c6 : a1 = true
     · subst c6
       have H1 : ((digits_roman.f a0).bind fun t107 => ((strings_ToLower.f t107).bind fun t108 => (some (t108, 0)))) = some (r1, r2) := by rw [if_pos rfl] at H; exact H
       clear H
       have H := H1
       clear H1
       replace H := Option.bind_eq_some_iff.mp H
       obtain ⟨t107, A70, H⟩ := H
       replace H : ((strings_ToLower.f t107).bind fun t108 => (some (t108, 0))) = some (r1, r2) := H
       have A7 := Aside0.mk A70
       clear A70
       replace H := Option.bind_eq_some_iff.mp H
       obtain ⟨t108, A80, H⟩ := H
       replace H : (some (t108, 0)) = some (r1, r2) := H
       have A8 := Aside0.mk A80
       clear A80
       simp only [Option.some.injEq, Prod.mk.injEq] at H
       obtain ⟨rfl, rfl⟩ := H
       go_wp2_with (first | ((with_reducible refine gate_callee (f := 31) rfl ?_); refine goesL_ (some 14) rfl rfl Tryd.func31 (by kernel_rfl) rfl #[.int .i64 a0] rfl ql ?_; (with_reducible refine (digits_roman.calls a0 t107 _ A7.out).mono ?_); rintro e w9 ⟨rfl, hb⟩; refine ⟨_, rfl, ?_⟩; replace HB := qn HB hb; (try clear hb); (try clear hb2); (try clear hk); (try clear hi)) | ((with_reducible refine gate_callee (f := 30) rfl ?_); refine goesL_ (some 15) rfl rfl Tryd.func30 (by kernel_rfl) rfl #[.string t107] rfl ql ?_; (with_reducible refine (strings_ToLower.calls t107 t108 _ A8.out).mono ?_); rintro e w10 ⟨rfl, hb⟩; refine ⟨_, rfl, ?_⟩; replace HB := qn HB hb; (try clear hb); (try clear hb2); (try clear hk); (try clear hi)))
       go_ret2
       exact ⟨qe, qh HB⟩
     · replace c6 := Bool.eq_false_iff.mpr c6
       subst c6
       have H1 : ((digits_roman.f a0).bind fun t109 => (some (t109, 0))) = some (r1, r2) := by rw [if_neg (show ¬ (false = true) by decide)] at H; exact H
       clear H
       have H := H1
       clear H1
       replace H := Option.bind_eq_some_iff.mp H
       obtain ⟨t109, A110, H⟩ := H
       replace H : (some (t109, 0)) = some (r1, r2) := H
       have A11 := Aside0.mk A110
       clear A110
       simp only [Option.some.injEq, Prod.mk.injEq] at H
       obtain ⟨rfl, rfl⟩ := H
       go_wp2_with (first | ((with_reducible refine gate_callee (f := 31) rfl ?_); refine goesL_ (some 17) rfl rfl Tryd.func31 (by kernel_rfl) rfl #[.int .i64 a0] rfl ql ?_; (with_reducible refine (digits_roman.calls a0 t109 _ A11.out).mono ?_); rintro e w12 ⟨rfl, hb⟩; refine ⟨_, rfl, ?_⟩; replace HB := qn HB hb; (try clear hb); (try clear hb2); (try clear hk); (try clear hi)))
       go_ret2
       exact ⟨qe, qh HB⟩

def idiomlaw08_awake.f (k : Nat)  : Option (Bool) := (digits_Render.f (⟨#[97, 114, 97, 98]⟩ : ByteArray) (⟨#[49, 48]⟩ : ByteArray)).bind fun bt110 => ((digits_Read.f (⟨#[108, 97, 116, 110]⟩ : ByteArray) (⟨#[49, 50, 32, 120]⟩ : ByteArray)).bind fun bt112 => ((digits_Roman.f k 1994 false).bind fun bt115 => (if bt110.1.toList = ([217, 161, 217, 160] : List UInt8) then (if bt110.2 = 0 then (if bt112.1.toList = ([49, 50] : List UInt8) then (if bt112.2.1 = 2 then (if bt112.2.2 = 0 then (if bt115.1.toList = ([77, 67, 77, 88, 67, 73, 86] : List UInt8) then (some (bt115.2 == 0)) else (some false)) else (some false)) else (some false)) else (some false)) else (some false)) else (some false))))
theorem idiomlaw08_awake.mono : ∀ k, LeO (idiomlaw08_awake.f k ) (idiomlaw08_awake.f (k + 1) ) := by
 intro  k
 unfold idiomlaw08_awake.f
 repeat' first
  | (with_reducible exact digits_Roman.mono _ _ _)
  | (with_reducible exact LeO.refl _)
  | (with_reducible exact LeO.none _)
  | (with_reducible refine LeO.ite ?_ ?_)
  | (with_reducible refine LeO.bind ?_ (fun _ => ?_))
  | exact digits_Roman.mono _ _ _
  | exact LeO.none _
  | refine LeO.ite ?_ ?_
  | refine LeO.bind ?_ (fun _ => ?_)
set_option maxHeartbeats 8000000 in
set_option maxRecDepth 100000 in
theorem idiomlaw08_awake.calls (k : Nat)  (r : Bool) (w : World) (h : idiomlaw08_awake.f k  = some r) (hG_ : Stray.Tabs w) :
 Calls Tryd.prog 12 #[] w fun e w' => e = .returned (.bool r) ∧ Below w.heap.size w w' := by
 have HG := Aside0.mk hG_
 clear hG_
 have HB := Aside0.mk (Below.refl w.heap.size w)
 have H : ((digits_Render.f (⟨#[97, 114, 97, 98]⟩ : ByteArray) (⟨#[49, 48]⟩ : ByteArray)).bind fun bt110 => ((digits_Read.f (⟨#[108, 97, 116, 110]⟩ : ByteArray) (⟨#[49, 50, 32, 120]⟩ : ByteArray)).bind fun bt112 => ((digits_Roman.f k 1994 false).bind fun bt115 => (if bt110.1.toList = ([217, 161, 217, 160] : List UInt8) then (if bt110.2 = 0 then (if bt112.1.toList = ([49, 50] : List UInt8) then (if bt112.2.1 = 2 then (if bt112.2.2 = 0 then (if bt115.1.toList = ([77, 67, 77, 88, 67, 73, 86] : List UInt8) then (some (bt115.2 == 0)) else (some false)) else (some false)) else (some false)) else (some false)) else (some false)) else (some false))))) = some r := h
 clear h
 replace H := Option.bind_eq_some_iff.mp H
 obtain ⟨⟨t110, t111⟩, A10, H⟩ := H
 replace H : ((digits_Read.f (⟨#[108, 97, 116, 110]⟩ : ByteArray) (⟨#[49, 50, 32, 120]⟩ : ByteArray)).bind fun bt112 => ((digits_Roman.f k 1994 false).bind fun bt115 => (if t110.toList = ([217, 161, 217, 160] : List UInt8) then (if t111 = 0 then (if bt112.1.toList = ([49, 50] : List UInt8) then (if bt112.2.1 = 2 then (if bt112.2.2 = 0 then (if bt115.1.toList = ([77, 67, 77, 88, 67, 73, 86] : List UInt8) then (some (bt115.2 == 0)) else (some false)) else (some false)) else (some false)) else (some false)) else (some false)) else (some false)))) = some r := H
 have A1 := Aside0.mk A10
 clear A10
 replace H := Option.bind_eq_some_iff.mp H
 obtain ⟨⟨t112, t113, t114⟩, A20, H⟩ := H
 replace H : ((digits_Roman.f k 1994 false).bind fun bt115 => (if t110.toList = ([217, 161, 217, 160] : List UInt8) then (if t111 = 0 then (if t112.toList = ([49, 50] : List UInt8) then (if t113 = 2 then (if t114 = 0 then (if bt115.1.toList = ([77, 67, 77, 88, 67, 73, 86] : List UInt8) then (some (bt115.2 == 0)) else (some false)) else (some false)) else (some false)) else (some false)) else (some false)) else (some false))) = some r := H
 have A2 := Aside0.mk A20
 clear A20
 replace H := Option.bind_eq_some_iff.mp H
 obtain ⟨⟨t115, t116⟩, A30, H⟩ := H
 replace H : (if t110.toList = ([217, 161, 217, 160] : List UInt8) then (if t111 = 0 then (if t112.toList = ([49, 50] : List UInt8) then (if t113 = 2 then (if t114 = 0 then (if t115.toList = ([77, 67, 77, 88, 67, 73, 86] : List UInt8) then (some (t116 == 0)) else (some false)) else (some false)) else (some false)) else (some false)) else (some false)) else (some false)) = some r := H
 have A3 := Aside0.mk A30
 clear A30
 by_cases c4 : t110.toList = ([217, 161, 217, 160] : List UInt8)
 · rw [if_pos c4] at H
   have c4b0 : (t110.toList == ([217, 161, 217, 160] : List UInt8)) = true := beq_iff_eq.mpr c4
   have c4b1 : (t110.toList != ([217, 161, 217, 160] : List UInt8)) = false := bne_eq_false_iff_eq.mpr c4
   clear c4
   by_cases c5 : t111 = 0
   · rw [if_pos c5] at H
     have c5b0 : (t111 == 0) = true := beq_iff_eq.mpr c5
     have c5b1 : (t111 != 0) = false := bne_eq_false_iff_eq.mpr c5
     try have c5b1z := c5b1
     (try simp only [bne] at c5b1z)
     clear c5
     by_cases c6 : t112.toList = ([49, 50] : List UInt8)
     · rw [if_pos c6] at H
       have c6b0 : (t112.toList == ([49, 50] : List UInt8)) = true := beq_iff_eq.mpr c6
       have c6b1 : (t112.toList != ([49, 50] : List UInt8)) = false := bne_eq_false_iff_eq.mpr c6
       clear c6
       by_cases c7 : t113 = 2
       · rw [if_pos c7] at H
         have c7b0 : (t113 == 2) = true := beq_iff_eq.mpr c7
         have c7b1 : (t113 != 2) = false := bne_eq_false_iff_eq.mpr c7
         try have c7b1z := c7b1
         (try simp only [bne] at c7b1z)
         clear c7
         by_cases c8 : t114 = 0
         · rw [if_pos c8] at H
           have c8b0 : (t114 == 0) = true := beq_iff_eq.mpr c8
           have c8b1 : (t114 != 0) = false := bne_eq_false_iff_eq.mpr c8
           try have c8b1z := c8b1
           (try simp only [bne] at c8b1z)
           clear c8
           by_cases c9 : t115.toList = ([77, 67, 77, 88, 67, 73, 86] : List UInt8)
           · rw [if_pos c9] at H
             have c9b0 : (t115.toList == ([77, 67, 77, 88, 67, 73, 86] : List UInt8)) = true := beq_iff_eq.mpr c9
             have c9b1 : (t115.toList != ([77, 67, 77, 88, 67, 73, 86] : List UInt8)) = false := bne_eq_false_iff_eq.mpr c9
             clear c9
             obtain rfl := Option.some.inj H
             go_enter Tryd.func12, Tryd.ntmps12
             go_wp2_with (first | ((with_reducible refine gate_callee (f := 10) rfl ?_); refine goesL_ (some 9) rfl rfl Tryd.func10 (by kernel_rfl) rfl #[.string (⟨#[97, 114, 97, 98]⟩ : ByteArray), .string (⟨#[49, 48]⟩ : ByteArray)] rfl ql ?_; (with_reducible refine (digits_Render.calls (⟨#[97, 114, 97, 98]⟩ : ByteArray) (⟨#[49, 48]⟩ : ByteArray) t110 t111 _ A1.out).mono ?_); rintro e w10 ⟨rfl, hb⟩; refine ⟨_, rfl, ?_⟩; replace HB := qn HB hb; (try clear hb); (try clear hb2); (try clear hk); (try clear hi)) | ((with_reducible refine gate_callee (f := 13) rfl ?_); refine goesL_ (some 13) rfl rfl Tryd.func13 (by kernel_rfl) rfl #[.string (⟨#[108, 97, 116, 110]⟩ : ByteArray), .string (⟨#[49, 50, 32, 120]⟩ : ByteArray)] rfl ql ?_; (with_reducible refine (digits_Read.calls (⟨#[108, 97, 116, 110]⟩ : ByteArray) (⟨#[49, 50, 32, 120]⟩ : ByteArray) t112 t113 t114 _ A2.out (by first | exact HG.out | exact HG.out.below HB.out | exact HG.out.below (pw_below_drewN HB.out _) | exact HG.out.below (below_drew HB.out) | exact HG.out.below (by assumption))).mono ?_); rintro e w11 ⟨rfl, hb⟩; refine ⟨_, rfl, ?_⟩; replace HB := qn HB hb; (try clear hb); (try clear hb2); (try clear hk); (try clear hi)) | ((with_reducible refine gate_callee (f := 15) rfl ?_); refine goesL_ (some 18) rfl rfl Tryd.func15 (by kernel_rfl) rfl #[.int .i64 1994, .bool false] rfl ql ?_; (with_reducible refine (digits_Roman.calls k 1994 false t115 t116 _ A3.out).mono ?_); rintro e w12 ⟨rfl, hb⟩; refine ⟨_, rfl, ?_⟩; replace HB := qn HB hb; (try clear hb); (try clear hb2); (try clear hk); (try clear hi)))
             go_ret
             exact ⟨qe, qh HB⟩
           · rw [if_neg c9] at H
             have c9b0 : (t115.toList == ([77, 67, 77, 88, 67, 73, 86] : List UInt8)) = false := beq_eq_false_iff_ne.mpr c9
             have c9b1 : (t115.toList != ([77, 67, 77, 88, 67, 73, 86] : List UInt8)) = true := bne_iff_ne.mpr c9
             obtain rfl := Option.some.inj H
             go_enter Tryd.func12, Tryd.ntmps12
             go_wp2_with (first | ((with_reducible refine gate_callee (f := 10) rfl ?_); refine goesL_ (some 9) rfl rfl Tryd.func10 (by kernel_rfl) rfl #[.string (⟨#[97, 114, 97, 98]⟩ : ByteArray), .string (⟨#[49, 48]⟩ : ByteArray)] rfl ql ?_; (with_reducible refine (digits_Render.calls (⟨#[97, 114, 97, 98]⟩ : ByteArray) (⟨#[49, 48]⟩ : ByteArray) t110 t111 _ A1.out).mono ?_); rintro e w13 ⟨rfl, hb⟩; refine ⟨_, rfl, ?_⟩; replace HB := qn HB hb; (try clear hb); (try clear hb2); (try clear hk); (try clear hi)) | ((with_reducible refine gate_callee (f := 13) rfl ?_); refine goesL_ (some 13) rfl rfl Tryd.func13 (by kernel_rfl) rfl #[.string (⟨#[108, 97, 116, 110]⟩ : ByteArray), .string (⟨#[49, 50, 32, 120]⟩ : ByteArray)] rfl ql ?_; (with_reducible refine (digits_Read.calls (⟨#[108, 97, 116, 110]⟩ : ByteArray) (⟨#[49, 50, 32, 120]⟩ : ByteArray) t112 t113 t114 _ A2.out (by first | exact HG.out | exact HG.out.below HB.out | exact HG.out.below (pw_below_drewN HB.out _) | exact HG.out.below (below_drew HB.out) | exact HG.out.below (by assumption))).mono ?_); rintro e w14 ⟨rfl, hb⟩; refine ⟨_, rfl, ?_⟩; replace HB := qn HB hb; (try clear hb); (try clear hb2); (try clear hk); (try clear hi)) | ((with_reducible refine gate_callee (f := 15) rfl ?_); refine goesL_ (some 18) rfl rfl Tryd.func15 (by kernel_rfl) rfl #[.int .i64 1994, .bool false] rfl ql ?_; (with_reducible refine (digits_Roman.calls k 1994 false t115 t116 _ A3.out).mono ?_); rintro e w15 ⟨rfl, hb⟩; refine ⟨_, rfl, ?_⟩; replace HB := qn HB hb; (try clear hb); (try clear hb2); (try clear hk); (try clear hi)))
             go_ret
             exact ⟨qe, qh HB⟩
         · rw [if_neg c8] at H
           have c8b0 : (t114 == 0) = false := beq_eq_false_iff_ne.mpr c8
           have c8b1 : (t114 != 0) = true := bne_iff_ne.mpr c8
           try have c8b1z := c8b1
           (try simp only [bne] at c8b1z)
           obtain rfl := Option.some.inj H
           go_enter Tryd.func12, Tryd.ntmps12
           go_wp2_with (first | ((with_reducible refine gate_callee (f := 10) rfl ?_); refine goesL_ (some 9) rfl rfl Tryd.func10 (by kernel_rfl) rfl #[.string (⟨#[97, 114, 97, 98]⟩ : ByteArray), .string (⟨#[49, 48]⟩ : ByteArray)] rfl ql ?_; (with_reducible refine (digits_Render.calls (⟨#[97, 114, 97, 98]⟩ : ByteArray) (⟨#[49, 48]⟩ : ByteArray) t110 t111 _ A1.out).mono ?_); rintro e w16 ⟨rfl, hb⟩; refine ⟨_, rfl, ?_⟩; replace HB := qn HB hb; (try clear hb); (try clear hb2); (try clear hk); (try clear hi)) | ((with_reducible refine gate_callee (f := 13) rfl ?_); refine goesL_ (some 13) rfl rfl Tryd.func13 (by kernel_rfl) rfl #[.string (⟨#[108, 97, 116, 110]⟩ : ByteArray), .string (⟨#[49, 50, 32, 120]⟩ : ByteArray)] rfl ql ?_; (with_reducible refine (digits_Read.calls (⟨#[108, 97, 116, 110]⟩ : ByteArray) (⟨#[49, 50, 32, 120]⟩ : ByteArray) t112 t113 t114 _ A2.out (by first | exact HG.out | exact HG.out.below HB.out | exact HG.out.below (pw_below_drewN HB.out _) | exact HG.out.below (below_drew HB.out) | exact HG.out.below (by assumption))).mono ?_); rintro e w17 ⟨rfl, hb⟩; refine ⟨_, rfl, ?_⟩; replace HB := qn HB hb; (try clear hb); (try clear hb2); (try clear hk); (try clear hi)) | ((with_reducible refine gate_callee (f := 15) rfl ?_); refine goesL_ (some 18) rfl rfl Tryd.func15 (by kernel_rfl) rfl #[.int .i64 1994, .bool false] rfl ql ?_; (with_reducible refine (digits_Roman.calls k 1994 false t115 t116 _ A3.out).mono ?_); rintro e w18 ⟨rfl, hb⟩; refine ⟨_, rfl, ?_⟩; replace HB := qn HB hb; (try clear hb); (try clear hb2); (try clear hk); (try clear hi)))
           go_ret
           exact ⟨qe, qh HB⟩
       · rw [if_neg c7] at H
         have c7b0 : (t113 == 2) = false := beq_eq_false_iff_ne.mpr c7
         have c7b1 : (t113 != 2) = true := bne_iff_ne.mpr c7
         try have c7b1z := c7b1
         (try simp only [bne] at c7b1z)
         obtain rfl := Option.some.inj H
         go_enter Tryd.func12, Tryd.ntmps12
         go_wp2_with (first | ((with_reducible refine gate_callee (f := 10) rfl ?_); refine goesL_ (some 9) rfl rfl Tryd.func10 (by kernel_rfl) rfl #[.string (⟨#[97, 114, 97, 98]⟩ : ByteArray), .string (⟨#[49, 48]⟩ : ByteArray)] rfl ql ?_; (with_reducible refine (digits_Render.calls (⟨#[97, 114, 97, 98]⟩ : ByteArray) (⟨#[49, 48]⟩ : ByteArray) t110 t111 _ A1.out).mono ?_); rintro e w19 ⟨rfl, hb⟩; refine ⟨_, rfl, ?_⟩; replace HB := qn HB hb; (try clear hb); (try clear hb2); (try clear hk); (try clear hi)) | ((with_reducible refine gate_callee (f := 13) rfl ?_); refine goesL_ (some 13) rfl rfl Tryd.func13 (by kernel_rfl) rfl #[.string (⟨#[108, 97, 116, 110]⟩ : ByteArray), .string (⟨#[49, 50, 32, 120]⟩ : ByteArray)] rfl ql ?_; (with_reducible refine (digits_Read.calls (⟨#[108, 97, 116, 110]⟩ : ByteArray) (⟨#[49, 50, 32, 120]⟩ : ByteArray) t112 t113 t114 _ A2.out (by first | exact HG.out | exact HG.out.below HB.out | exact HG.out.below (pw_below_drewN HB.out _) | exact HG.out.below (below_drew HB.out) | exact HG.out.below (by assumption))).mono ?_); rintro e w20 ⟨rfl, hb⟩; refine ⟨_, rfl, ?_⟩; replace HB := qn HB hb; (try clear hb); (try clear hb2); (try clear hk); (try clear hi)) | ((with_reducible refine gate_callee (f := 15) rfl ?_); refine goesL_ (some 18) rfl rfl Tryd.func15 (by kernel_rfl) rfl #[.int .i64 1994, .bool false] rfl ql ?_; (with_reducible refine (digits_Roman.calls k 1994 false t115 t116 _ A3.out).mono ?_); rintro e w21 ⟨rfl, hb⟩; refine ⟨_, rfl, ?_⟩; replace HB := qn HB hb; (try clear hb); (try clear hb2); (try clear hk); (try clear hi)))
         go_ret
         exact ⟨qe, qh HB⟩
     · rw [if_neg c6] at H
       have c6b0 : (t112.toList == ([49, 50] : List UInt8)) = false := beq_eq_false_iff_ne.mpr c6
       have c6b1 : (t112.toList != ([49, 50] : List UInt8)) = true := bne_iff_ne.mpr c6
       obtain rfl := Option.some.inj H
       go_enter Tryd.func12, Tryd.ntmps12
       go_wp2_with (first | ((with_reducible refine gate_callee (f := 10) rfl ?_); refine goesL_ (some 9) rfl rfl Tryd.func10 (by kernel_rfl) rfl #[.string (⟨#[97, 114, 97, 98]⟩ : ByteArray), .string (⟨#[49, 48]⟩ : ByteArray)] rfl ql ?_; (with_reducible refine (digits_Render.calls (⟨#[97, 114, 97, 98]⟩ : ByteArray) (⟨#[49, 48]⟩ : ByteArray) t110 t111 _ A1.out).mono ?_); rintro e w22 ⟨rfl, hb⟩; refine ⟨_, rfl, ?_⟩; replace HB := qn HB hb; (try clear hb); (try clear hb2); (try clear hk); (try clear hi)) | ((with_reducible refine gate_callee (f := 13) rfl ?_); refine goesL_ (some 13) rfl rfl Tryd.func13 (by kernel_rfl) rfl #[.string (⟨#[108, 97, 116, 110]⟩ : ByteArray), .string (⟨#[49, 50, 32, 120]⟩ : ByteArray)] rfl ql ?_; (with_reducible refine (digits_Read.calls (⟨#[108, 97, 116, 110]⟩ : ByteArray) (⟨#[49, 50, 32, 120]⟩ : ByteArray) t112 t113 t114 _ A2.out (by first | exact HG.out | exact HG.out.below HB.out | exact HG.out.below (pw_below_drewN HB.out _) | exact HG.out.below (below_drew HB.out) | exact HG.out.below (by assumption))).mono ?_); rintro e w23 ⟨rfl, hb⟩; refine ⟨_, rfl, ?_⟩; replace HB := qn HB hb; (try clear hb); (try clear hb2); (try clear hk); (try clear hi)) | ((with_reducible refine gate_callee (f := 15) rfl ?_); refine goesL_ (some 18) rfl rfl Tryd.func15 (by kernel_rfl) rfl #[.int .i64 1994, .bool false] rfl ql ?_; (with_reducible refine (digits_Roman.calls k 1994 false t115 t116 _ A3.out).mono ?_); rintro e w24 ⟨rfl, hb⟩; refine ⟨_, rfl, ?_⟩; replace HB := qn HB hb; (try clear hb); (try clear hb2); (try clear hk); (try clear hi)))
       go_ret
       exact ⟨qe, qh HB⟩
   · rw [if_neg c5] at H
     have c5b0 : (t111 == 0) = false := beq_eq_false_iff_ne.mpr c5
     have c5b1 : (t111 != 0) = true := bne_iff_ne.mpr c5
     try have c5b1z := c5b1
     (try simp only [bne] at c5b1z)
     obtain rfl := Option.some.inj H
     go_enter Tryd.func12, Tryd.ntmps12
     go_wp2_with (first | ((with_reducible refine gate_callee (f := 10) rfl ?_); refine goesL_ (some 9) rfl rfl Tryd.func10 (by kernel_rfl) rfl #[.string (⟨#[97, 114, 97, 98]⟩ : ByteArray), .string (⟨#[49, 48]⟩ : ByteArray)] rfl ql ?_; (with_reducible refine (digits_Render.calls (⟨#[97, 114, 97, 98]⟩ : ByteArray) (⟨#[49, 48]⟩ : ByteArray) t110 t111 _ A1.out).mono ?_); rintro e w25 ⟨rfl, hb⟩; refine ⟨_, rfl, ?_⟩; replace HB := qn HB hb; (try clear hb); (try clear hb2); (try clear hk); (try clear hi)) | ((with_reducible refine gate_callee (f := 13) rfl ?_); refine goesL_ (some 13) rfl rfl Tryd.func13 (by kernel_rfl) rfl #[.string (⟨#[108, 97, 116, 110]⟩ : ByteArray), .string (⟨#[49, 50, 32, 120]⟩ : ByteArray)] rfl ql ?_; (with_reducible refine (digits_Read.calls (⟨#[108, 97, 116, 110]⟩ : ByteArray) (⟨#[49, 50, 32, 120]⟩ : ByteArray) t112 t113 t114 _ A2.out (by first | exact HG.out | exact HG.out.below HB.out | exact HG.out.below (pw_below_drewN HB.out _) | exact HG.out.below (below_drew HB.out) | exact HG.out.below (by assumption))).mono ?_); rintro e w26 ⟨rfl, hb⟩; refine ⟨_, rfl, ?_⟩; replace HB := qn HB hb; (try clear hb); (try clear hb2); (try clear hk); (try clear hi)) | ((with_reducible refine gate_callee (f := 15) rfl ?_); refine goesL_ (some 18) rfl rfl Tryd.func15 (by kernel_rfl) rfl #[.int .i64 1994, .bool false] rfl ql ?_; (with_reducible refine (digits_Roman.calls k 1994 false t115 t116 _ A3.out).mono ?_); rintro e w27 ⟨rfl, hb⟩; refine ⟨_, rfl, ?_⟩; replace HB := qn HB hb; (try clear hb); (try clear hb2); (try clear hk); (try clear hi)))
     go_ret
     exact ⟨qe, qh HB⟩
 · rw [if_neg c4] at H
   have c4b0 : (t110.toList == ([217, 161, 217, 160] : List UInt8)) = false := beq_eq_false_iff_ne.mpr c4
   have c4b1 : (t110.toList != ([217, 161, 217, 160] : List UInt8)) = true := bne_iff_ne.mpr c4
   obtain rfl := Option.some.inj H
   go_enter Tryd.func12, Tryd.ntmps12
   go_wp2_with (first | ((with_reducible refine gate_callee (f := 10) rfl ?_); refine goesL_ (some 9) rfl rfl Tryd.func10 (by kernel_rfl) rfl #[.string (⟨#[97, 114, 97, 98]⟩ : ByteArray), .string (⟨#[49, 48]⟩ : ByteArray)] rfl ql ?_; (with_reducible refine (digits_Render.calls (⟨#[97, 114, 97, 98]⟩ : ByteArray) (⟨#[49, 48]⟩ : ByteArray) t110 t111 _ A1.out).mono ?_); rintro e w28 ⟨rfl, hb⟩; refine ⟨_, rfl, ?_⟩; replace HB := qn HB hb; (try clear hb); (try clear hb2); (try clear hk); (try clear hi)) | ((with_reducible refine gate_callee (f := 13) rfl ?_); refine goesL_ (some 13) rfl rfl Tryd.func13 (by kernel_rfl) rfl #[.string (⟨#[108, 97, 116, 110]⟩ : ByteArray), .string (⟨#[49, 50, 32, 120]⟩ : ByteArray)] rfl ql ?_; (with_reducible refine (digits_Read.calls (⟨#[108, 97, 116, 110]⟩ : ByteArray) (⟨#[49, 50, 32, 120]⟩ : ByteArray) t112 t113 t114 _ A2.out (by first | exact HG.out | exact HG.out.below HB.out | exact HG.out.below (pw_below_drewN HB.out _) | exact HG.out.below (below_drew HB.out) | exact HG.out.below (by assumption))).mono ?_); rintro e w29 ⟨rfl, hb⟩; refine ⟨_, rfl, ?_⟩; replace HB := qn HB hb; (try clear hb); (try clear hb2); (try clear hk); (try clear hi)) | ((with_reducible refine gate_callee (f := 15) rfl ?_); refine goesL_ (some 18) rfl rfl Tryd.func15 (by kernel_rfl) rfl #[.int .i64 1994, .bool false] rfl ql ?_; (with_reducible refine (digits_Roman.calls k 1994 false t115 t116 _ A3.out).mono ?_); rintro e w30 ⟨rfl, hb⟩; refine ⟨_, rfl, ?_⟩; replace HB := qn HB hb; (try clear hb); (try clear hb2); (try clear hk); (try clear hi)))
   go_ret
   exact ⟨qe, qh HB⟩

end Go.Proofs.YtnkjeojhiligpaaDoor.H
namespace Go.Proofs.YtnkjeojhiligpaaDoor.Y
open Go.RowKit Go.Proofs.YtnkjeojhiligpaaDoorW.PrintWords Go.Proofs.YtnkjeojhiligpaaDoorW.PrintLast Go.Proofs.YtnkjeojhiligpaaDoorW.PrintMore
attribute [local go_sem] max2_int min2_int max_two min_two max_three min_three max_four min_four   -- for this text's walks alone
set_option linter.unusedVariables false
set_option linter.unusedSimpArgs false



def errW : Option Int → Value
 | none => .nilIface
 | some c => .iface 0 (.int .i64 c)
theorem errW_none : errW none = .nilIface := rfl
theorem errW_some (c : Int) : errW (some c) = .iface 0 (.int .i64 c) := rfl

end Go.Proofs.YtnkjeojhiligpaaDoor.Y
set_option linter.unusedVariables false
set_option linter.unusedSimpArgs false
set_option maxRecDepth 100000
namespace Go.Proofs.YtnkjeojhiligpaaDoor.Rom8
open Go.RowKit Go.Proofs.YtnkjeojhiligpaaDoorW.PrintWords Go.Proofs.YtnkjeojhiligpaaDoorW.PrintLast Go.Proofs.YtnkjeojhiligpaaDoorW.PrintMore Go.Proofs.YtnkjeojhiligpaaDoor.Aid Go.Proofs.YtnkjeojhiligpaaDoor.Y
def letters : List UInt8 := [73, 86, 88, 76, 67, 68, 77]
def wAt (i : Int) : Int := if i = 0 then 1 else if i = 1 then 5 else if i = 2 then 10 else if i = 3 then 50 else if i = 4 then 100 else if i = 5 then 500 else if i = 6 then 1000 else 0
def worth (c : Int) : Int := wAt (Lib.indexByte letters c.toNat.toUInt8)
theorem at_cases (b : UInt8) : Lib.indexByte letters b = -1 ∨ Lib.indexByte letters b = 0 ∨ Lib.indexByte letters b = 1 ∨ Lib.indexByte letters b = 2 ∨ Lib.indexByte letters b = 3 ∨ Lib.indexByte letters b = 4 ∨ Lib.indexByte letters b = 5 ∨ Lib.indexByte letters b = 6 := by
  have h : ∀ n, n < 256 → (Lib.indexByte letters (UInt8.ofNat n) = -1 ∨ Lib.indexByte letters (UInt8.ofNat n) = 0 ∨ Lib.indexByte letters (UInt8.ofNat n) = 1 ∨ Lib.indexByte letters (UInt8.ofNat n) = 2 ∨ Lib.indexByte letters (UInt8.ofNat n) = 3 ∨ Lib.indexByte letters (UInt8.ofNat n) = 4 ∨ Lib.indexByte letters (UInt8.ofNat n) = 5 ∨ Lib.indexByte letters (UInt8.ofNat n) = 6) := by decide +kernel
  have := h b.toNat b.toNat_lt
  rwa [UInt8.ofNat_toNat] at this
def row7 : Array Value := #[.int .i64 1, .int .i64 5, .int .i64 10, .int .i64 50, .int .i64 100, .int .i64 500, .int .i64 1000]
theorem idx7 (i : Int) (hi : i = 0 ∨ i = 1 ∨ i = 2 ∨ i = 3 ∨ i = 4 ∨ i = 5 ∨ i = 6) (w : World) : (Instr.index 83 (.agg row7) (.int .i64 i)).run Tryd.prog w = .ok (.int .i64 (wAt i)) w := by
  rcases hi with rfl | rfl | rfl | rfl | rfl | rfl | rfl <;> (unfold Instr.index; simp only [asIntOf, Sem.run_bind, Sem.run_pure, run_underlying Tryd.underlying83, Result.andThen]; rfl)
set_option maxHeartbeats 4000000 in
theorem worth_calls (c : Int) (w : World) : Calls Tryd.prog 35 #[.int .u8 c] w fun e w' => e = .returned (.int .i64 (worth c)) ∧ w' = w := by
  have hi := Tryd.strings_IndexByte ⟨#[73, 86, 88, 76, 67, 68, 77]⟩ c w
  have hq : (⟨#[73, 86, 88, 76, 67, 68, 77]⟩ : ByteArray).data.toList = letters := rfl
  rw [hq] at hi
  clear hq
  have hc := at_cases c.toNat.toUInt8
  unfold worth
  generalize Lib.indexByte letters c.toNat.toUInt8 = at_ at hi hc ⊢
  go_enter Tryd.func35, Tryd.ntmps35
  rcases hc with rfl | hc
  · go_wp2_with (go_at_call 55; refine hi.mono ?_; rintro e w' ⟨rfl, rfl⟩)
    go_ret
    exact ⟨rfl, rfl⟩
  · have hx := idx7 at_ hc w
    unfold row7 at hx
    rcases hc with rfl | rfl | rfl | rfl | rfl | rfl | rfl
    all_goals
      go_wp2_with (go_at_call 55; refine hi.mono ?_; rintro e w' ⟨rfl, rfl⟩)
      go_ret
      exact ⟨rfl, rfl⟩
/-- A digit by its letters. -/
def pc (d : Nat) (a b c : List UInt8) : List UInt8 :=
  if d = 1 then a else if d = 2 then a ++ a else if d = 3 then a ++ a ++ a else if d = 4 then a ++ b else if d = 5 then b else if d = 6 then b ++ a else if d = 7 then b ++ a ++ a else if d = 8 then b ++ a ++ a ++ a else if d = 9 then a ++ c else []
theorem app (a b : List UInt8) : (⟨a.toArray⟩ : ByteArray) ++ ⟨b.toArray⟩ = ⟨(a ++ b).toArray⟩ := by
  apply ByteArray.ext
  rw [ByteArray.data_append]
  simp
theorem mks (l : List UInt8) : (⟨l.toArray⟩ : ByteArray).size = l.length := by
  show l.toArray.size = l.length
  simp
theorem pc_len (d : Nat) (a b c : List UInt8) (ha : a.length ≤ 1) (hb : b.length ≤ 1) (hc : c.length ≤ 1) : (pc d a b c).length ≤ 4 := by
  unfold pc
  repeat' split
  all_goals (try simp only [List.length_append, List.length_nil])
  all_goals omega
/-- A numeral's letters. -/
def rom (n : Nat) : List UInt8 := pc (n / 1000) [77] [] [] ++ pc (n / 100 % 10) [67] [68] [77] ++ pc (n / 10 % 10) [88] [76] [67] ++ pc (n % 10) [73] [86] [88]
def low (l : List UInt8) : List UInt8 := l.map (· + 32)
def f (n : Int) (small : Bool) : ByteArray × Int := if n < 1 ∨ 3999 < n then (⟨#[]⟩, 82) else if small = true then (⟨(low (rom n.toNat)).toArray⟩, 0) else (⟨(rom n.toNat).toArray⟩, 0)
theorem rom_len (n : Nat) : (rom n).length ≤ 16 := by
  have h1 := pc_len (n / 1000) [77] [] [] (by decide) (by decide) (by decide)
  have h2 := pc_len (n / 100 % 10) [67] [68] [77] (by decide) (by decide) (by decide)
  have h3 := pc_len (n / 10 % 10) [88] [76] [67] (by decide) (by decide) (by decide)
  have h4 := pc_len (n % 10) [73] [86] [88] (by decide) (by decide) (by decide)
  unfold rom
  simp only [List.length_append]
  omega
theorem w64 {x : Int} (h0 : -9223372036854775808 ≤ x) (h1 : x ≤ 9223372036854775807) : wrap64 x = x := by unfold wrap64; omega
theorem tdiv_n (n d : Nat) : Int.tdiv (n : Int) (d : Int) = ((n / d : Nat) : Int) := by rw [Int.tdiv_eq_ediv_of_nonneg (by omega)]; rfl
theorem tmod_n (n d : Nat) : Int.tmod (n : Int) (d : Int) = ((n % d : Nat) : Int) := by rw [Int.tmod_eq_emod_of_nonneg (by omega)]; rfl
theorem z1 (n : Nat) (h : n ≤ 3999) : wrap64 (Int.tdiv (n : Int) 1000) = ((n / 1000 : Nat) : Int) := by
  rw [show (1000 : Int) = ((1000 : Nat) : Int) from rfl, tdiv_n, w64 (by omega) (by omega)]
theorem z2 (n : Nat) (h : n ≤ 3999) : wrap64 (Int.tdiv (n : Int) 100) = ((n / 100 : Nat) : Int) := by
  rw [show (100 : Int) = ((100 : Nat) : Int) from rfl, tdiv_n, w64 (by omega) (by omega)]
theorem z3 (n : Nat) (h : n ≤ 3999) : wrap64 (Int.tdiv (n : Int) 10) = ((n / 10 : Nat) : Int) := by
  rw [show (10 : Int) = ((10 : Nat) : Int) from rfl, tdiv_n, w64 (by omega) (by omega)]
theorem z4 (n : Nat) : Int.tmod (n : Int) 10 = ((n % 10 : Nat) : Int) := by
  rw [show (10 : Int) = ((10 : Nat) : Int) from rfl, tmod_n]
end Go.Proofs.YtnkjeojhiligpaaDoor.Rom8
namespace Go.Proofs.YtnkjeojhiligpaaDoor.TrimA
open Go.RowKit
theorem calls (s cutset : ByteArray) (w : World) (hs : s.size ≤ 9223372036854775807) (hcs : cutset.size < 4294967281) (ha : ∀ b ∈ cutset.data.toList, b.toNat < 128) :
    Calls Tryd.prog 33 #[.string s, .string cutset] w fun e w' => e = .returned (.string ⟨(Lib.trimS s.data.toList cutset.data.toList).toArray⟩) ∧ Below w.heap.size w w' :=
  Any.strings_Trim_laid Tryd.lays160 (by kernel_rfl) s cutset w hs hcs (fun j b hb => ha b (List.mem_of_getElem? hb))
end Go.Proofs.YtnkjeojhiligpaaDoor.TrimA
namespace Go.Proofs.YtnkjeojhiligpaaDoor.H
open Go.RowKit Go.Proofs.YtnkjeojhiligpaaDoorW.PrintWords Go.Proofs.YtnkjeojhiligpaaDoorW.PrintLast Go.Proofs.YtnkjeojhiligpaaDoorW.PrintMore Go.Proofs.YtnkjeojhiligpaaDoor.Q
attribute [local go_sem] max2_int min2_int max_two min_two max_three min_three max_four min_four   -- for this text's walks alone
set_option linter.unusedVariables false
set_option linter.unusedSimpArgs false

/-- strings.Trim with an ASCII cutset. -/
def strings_Trim.f (a0 : ByteArray) (a1 : ByteArray) : Option (ByteArray) := if a0.size ≤ 140737488355328 ∧ a1.size < 4294967281 ∧ (∀ b ∈ a1.data.toList, b.toNat < 128) then some ⟨(Lib.trimS a0.data.toList a1.data.toList).toArray⟩ else none
theorem strings_Trim.calls (a0 : ByteArray) (a1 : ByteArray) (r : ByteArray) (w : World) (h : strings_Trim.f a0 a1 = some r) :
 Calls Tryd.prog 33 #[.string a0, .string a1] w fun e w' => e = .returned (.string r) ∧ Below w.heap.size w w' := by
 unfold strings_Trim.f at h
 split at h
 · rename_i hs
   obtain rfl := Option.some.inj h
   exact TrimA.calls a0 a1 w (Nat.le_trans hs.1 (by decide)) hs.2.1 hs.2.2
 · cases h

/-- strings.ToUpper of ASCII text. -/
def strings_ToUpper.f (a0 : ByteArray) : Option (ByteArray) := if a0.size ≤ 140737488355328 ∧ (∀ b ∈ a0.data.toList, b.toNat < 128) then some ⟨(Lib.toUpperA a0.data.toList).toArray⟩ else none
theorem strings_ToUpper.calls (a0 : ByteArray) (r : ByteArray) (w : World) (h : strings_ToUpper.f a0 = some r) :
 Calls Tryd.prog 34 #[.string a0] w fun e w' => e = .returned (.string r) ∧ Below w.heap.size w w' := by
 unfold strings_ToUpper.f at h
 split at h
 · rename_i hs
   obtain rfl := Option.some.inj h
   exact Tryd.strings_ToUpper_ascii a0 w hs.1 (fun j b hb => hs.2 b (List.mem_of_getElem? hb))
 · cases h

def digits_worth.f (a0 : Int) : Option (Int) := some (Rom8.worth a0)
theorem digits_worth.calls (a0 : Int) (r : Int) (w : World) (h : digits_worth.f a0 = some r) :
 Calls Tryd.prog 35 #[.int .u8 a0] w fun e w' => e = .returned (.int .i64 r) ∧ Below w.heap.size w w' := by
 obtain rfl := Option.some.inj h
 exact (Rom8.worth_calls a0 w).mono fun e w' he => ⟨he.1, he.2 ▸ Below.refl _ _⟩

mutual
def digits_FromRoman.j0 : Nat → ByteArray → Bool → Option (Int × Int)
 | 0, _, _ => none
 | k + 1, x0, x15 => if x15 = true then (some (0, 82)) else ((strings_ToUpper.f x0).bind fun t118 => (if x0.toList = t118.toList then (digits_FromRoman.j1 k t118 false) else ((strings_ToLower.f x0).bind fun t119 => (digits_FromRoman.j1 k t118 (x0.toList != t119.toList)))))
def digits_FromRoman.j1 : Nat → ByteArray → Bool → Option (Int × Int)
 | 0, _, _ => none
 | k + 1, x4, x26 => if x26 = true then (some (0, 82)) else (digits_FromRoman.l0 k x4 0 (x4.size : Int) 0)
def digits_FromRoman.l0 : Nat → ByteArray → Int → Int → Int → Option (Int × Int)
 | 0, _, _, _, _ => none
 | k + 1, x4, x5, x28, x29 => if x29 < x28 then (if 0 ≤ x29 then (if x29 < (x4.size : Int) then ((digits_worth.f (bt x4 x29)).bind fun t121 => (if (wrap64 (x29 + 1)) < (x4.size : Int) then (if 0 ≤ (wrap64 (x29 + 1)) then ((digits_worth.f (bt x4 (wrap64 (x29 + 1)))).bind fun t122 => (if t121 < t122 then (digits_FromRoman.l0 k x4 (wrap64 (x5 + (wrap64 (-t121)))) x28 (wrap64 (x29 + 1))) else (digits_FromRoman.l0 k x4 (wrap64 (x5 + t121)) x28 (wrap64 (x29 + 1))))) else (none)) else (digits_FromRoman.l0 k x4 (wrap64 (x5 + t121)) x28 (wrap64 (x29 + 1))))) else (none)) else (none)) else (if x5 < 1 then (some (0, 82)) else (if x5 > 3999 then (some (0, 82)) else ((digits_roman.f x5).bind fun t120 => (if t120.toList = x4.toList then (some (x5, 0)) else (some (0, 82))))))
end
def digits_FromRoman.f (k : Nat) (a0 : ByteArray) : Option (Int × Int) := if (a0.size : Int) > 15 then (digits_FromRoman.j0 k a0 true) else ((strings_Trim.f a0 (⟨#[73, 86, 88, 76, 67, 68, 77, 105, 118, 120, 108, 99, 100, 109]⟩ : ByteArray)).bind fun t117 => (digits_FromRoman.j0 k a0 (t117.toList != ([] : List UInt8))))
theorem digits_FromRoman.mono_l : ∀ k, (∀ y0 y1, LeO (digits_FromRoman.j0 k y0 y1) (digits_FromRoman.j0 (k + 1) y0 y1)) ∧ (∀ y0 y1, LeO (digits_FromRoman.j1 k y0 y1) (digits_FromRoman.j1 (k + 1) y0 y1)) ∧ (∀ y0 y1 y2 y3, LeO (digits_FromRoman.l0 k y0 y1 y2 y3) (digits_FromRoman.l0 (k + 1) y0 y1 y2 y3))
 | 0 => ⟨fun _ _ r h => by simp [digits_FromRoman.j0] at h, fun _ _ r h => by simp [digits_FromRoman.j1] at h, fun _ _ _ _ r h => by simp [digits_FromRoman.l0] at h⟩
 | k + 1 => by
  obtain ⟨ih0, ih1, ih2⟩ := digits_FromRoman.mono_l k
  refine ⟨?_, ?_, ?_⟩
  · intro y0 y1
    unfold digits_FromRoman.j0
    repeat' first
    | (with_reducible exact ih0 _ _)
    | (with_reducible exact ih1 _ _)
    | (with_reducible exact ih2 _ _ _ _)
    | (with_reducible exact LeO.refl _)
    | (with_reducible exact LeO.none _)
    | (with_reducible refine LeO.ite ?_ ?_)
    | (with_reducible refine LeO.bind ?_ (fun _ => ?_))
    | exact ih0 _ _
    | exact ih1 _ _
    | exact ih2 _ _ _ _
    | exact LeO.none _
    | refine LeO.ite ?_ ?_
    | refine LeO.bind ?_ (fun _ => ?_)
  · intro y0 y1
    unfold digits_FromRoman.j1
    repeat' first
    | (with_reducible exact ih0 _ _)
    | (with_reducible exact ih1 _ _)
    | (with_reducible exact ih2 _ _ _ _)
    | (with_reducible exact LeO.refl _)
    | (with_reducible exact LeO.none _)
    | (with_reducible refine LeO.ite ?_ ?_)
    | (with_reducible refine LeO.bind ?_ (fun _ => ?_))
    | exact ih0 _ _
    | exact ih1 _ _
    | exact ih2 _ _ _ _
    | exact LeO.none _
    | refine LeO.ite ?_ ?_
    | refine LeO.bind ?_ (fun _ => ?_)
  · intro y0 y1 y2 y3
    unfold digits_FromRoman.l0
    repeat' first
    | (with_reducible exact ih0 _ _)
    | (with_reducible exact ih1 _ _)
    | (with_reducible exact ih2 _ _ _ _)
    | (with_reducible exact LeO.refl _)
    | (with_reducible exact LeO.none _)
    | (with_reducible refine LeO.ite ?_ ?_)
    | (with_reducible refine LeO.bind ?_ (fun _ => ?_))
    | exact ih0 _ _
    | exact ih1 _ _
    | exact ih2 _ _ _ _
    | exact LeO.none _
    | refine LeO.ite ?_ ?_
    | refine LeO.bind ?_ (fun _ => ?_)
theorem digits_FromRoman.mono : ∀ a0 k, LeO (digits_FromRoman.f k a0) (digits_FromRoman.f (k + 1) a0) := by
 intro a0 k
 obtain ⟨ih0, ih1, ih2⟩ := digits_FromRoman.mono_l k
 unfold digits_FromRoman.f
 repeat' first
  | (with_reducible exact ih0 _ _)
  | (with_reducible exact ih1 _ _)
  | (with_reducible exact ih2 _ _ _ _)
  | (with_reducible exact LeO.refl _)
  | (with_reducible exact LeO.none _)
  | (with_reducible refine LeO.ite ?_ ?_)
  | (with_reducible refine LeO.bind ?_ (fun _ => ?_))
  | exact ih0 _ _
  | exact ih1 _ _
  | exact ih2 _ _ _ _
  | exact LeO.none _
  | refine LeO.ite ?_ ?_
  | refine LeO.bind ?_ (fun _ => ?_)
set_option maxHeartbeats 8000000 in
set_option maxRecDepth 100000 in
theorem digits_FromRoman.calls (k : Nat) (a0 : ByteArray) (r1 : Int) (r2 : Int) (w : World) (h : digits_FromRoman.f k a0 = some (r1, r2)) :
 Calls Tryd.prog 17 #[.string a0] w fun e w' => e = .returned (.tuple #[.int .i64 r1, .int .i64 r2]) ∧ Below w.heap.size w w' := by
 have HB := Aside0.mk (Below.refl w.heap.size w)
 have H : (if (a0.size : Int) > 15 then (digits_FromRoman.j0 k a0 true) else ((strings_Trim.f a0 (⟨#[73, 86, 88, 76, 67, 68, 77, 105, 118, 120, 108, 99, 100, 109]⟩ : ByteArray)).bind fun t117 => (digits_FromRoman.j0 k a0 (t117.toList != ([] : List UInt8))))) = some (r1, r2) := h
 clear h
 have HC2 := Aside0.mk H
 clear H
 go_enter Tryd.func17, Tryd.ntmps17
 go_upto_region 1 with (fail)
 go_cut [15] (fun v15 wc => ∃ (kq : Nat) (x15_1 : Bool), v15 = .bool x15_1 ∧ Aside0 (digits_FromRoman.j0 kq a0 x15_1 = some (r1, r2)) ∧ Aside0 (kq ≤ k) ∧ Aside0 (Below w.heap.size w wc))
 case first =>
  have H := HC2.out
  clear HC2
  by_cases c3 : (a0.size : Int) > 15
  · rw [if_pos c3] at H
    have c3b0 : decide (15 < (a0.size : Int)) = true := decide_eq_true c3
    have c3b1 : decide (15 < a0.size) = true := decide_eq_true (by omega)
    clear c3
    (first | rw [c3b0] | (simp only [i64_w, i32_w]; rw [c3b0]) | skip)
    have H' := Aside0.mk H
    clear H
    go_wp2
    go_meet
    case rel => exact ⟨_, (true), (by first | rfl | (simp; done) | (simp [*]; done)), H', ⟨by first | omega | exact Nat.le_refl _⟩, ⟨qh HB⟩⟩
  · rw [if_neg c3] at H
    have c3b0 : decide (15 < (a0.size : Int)) = false := decide_eq_false c3
    have c3b1 : decide (15 < a0.size) = false := decide_eq_false (by omega)
    clear c3
    (first | rw [c3b0] | (simp only [i64_w, i32_w]; rw [c3b0]) | skip)
    replace H := Option.bind_eq_some_iff.mp H
    obtain ⟨t117, A40, H⟩ := H
    replace H : (digits_FromRoman.j0 k a0 (t117.toList != ([] : List UInt8))) = some (r1, r2) := H
    have A4 := Aside0.mk A40
    clear A40
    have H' := Aside0.mk H
    clear H
    go_wp2_with (first | (go_at_call 33; (with_reducible refine (strings_Trim.calls a0 (⟨#[73, 86, 88, 76, 67, 68, 77, 105, 118, 120, 108, 99, 100, 109]⟩ : ByteArray) t117 _ A4.out).mono ?_); rintro e w5 ⟨rfl, hb⟩; replace HB := qn HB hb; (try clear hb); (try clear hb2); (try clear hk); (try clear hi)))
    go_meet
    case rel => exact ⟨_, ((t117.toList != ([] : List UInt8))), (by first | rfl | (simp; done) | (simp [*]; done) | (rw [← Aid.bne_nil])), H', ⟨by first | omega | exact Nat.le_refl _⟩, ⟨qh HB⟩⟩
 case rest =>
  clear HC2
  try clear c1
  try clear p2
  try clear c3
  try clear c3b0
  try clear c3b1
  obtain ⟨kq, x15_1, rfl, HA, HJ1, HB⟩ := hcut
  cases kq with
  | zero => exact absurd HA.out (by simp [digits_FromRoman.j0])
  | succ kj1 =>
   have H := HA.out
   clear HA
   simp only [digits_FromRoman.j0] at H
   by_cases c6 : x15_1 = true
   · subst c6
     have H1 : (some (0, 82)) = some (r1, r2) := by rw [if_pos rfl] at H; exact H
     clear H
     have H := H1
     clear H1
     simp only [Option.some.injEq, Prod.mk.injEq] at H
     obtain ⟨rfl, rfl⟩ := H
     go_wp2
     go_ret2
     exact ⟨qe, qh HB⟩
   · replace c6 := Bool.eq_false_iff.mpr c6
     subst c6
     have H1 : ((strings_ToUpper.f a0).bind fun t118 => (if a0.toList = t118.toList then (digits_FromRoman.j1 kj1 t118 false) else ((strings_ToLower.f a0).bind fun t119 => (digits_FromRoman.j1 kj1 t118 (a0.toList != t119.toList))))) = some (r1, r2) := by rw [if_neg (show ¬ (false = true) by decide)] at H; exact H
     clear H
     have H := H1
     clear H1
     replace H := Option.bind_eq_some_iff.mp H
     obtain ⟨t118, A70, H⟩ := H
     replace H : (if a0.toList = t118.toList then (digits_FromRoman.j1 kj1 t118 false) else ((strings_ToLower.f a0).bind fun t119 => (digits_FromRoman.j1 kj1 t118 (a0.toList != t119.toList)))) = some (r1, r2) := H
     have A7 := Aside0.mk A70
     clear A70
     have HC8 := Aside0.mk H
     clear H
     go_upto_region 4 with (first | ((with_reducible refine gate_callee (f := 34) rfl ?_); refine goesL_ (some 17) rfl rfl Tryd.func34 (by kernel_rfl) rfl #[.string a0] rfl ql ?_; (with_reducible refine (strings_ToUpper.calls a0 t118 _ A7.out).mono ?_); rintro e w9 ⟨rfl, hb⟩; refine ⟨_, rfl, ?_⟩; replace HB := qn HB hb; (try clear hb); (try clear hb2); (try clear hk); (try clear hi)))
     (try simp only [Act.put, List.setIfInBounds_toArray, List.set_cons_zero, List.set_cons_succ])
     go_cut [26] (fun v26 wc => ∃ (kq : Nat) (x26_7 : Bool), v26 = .bool x26_7 ∧ Aside0 (digits_FromRoman.j1 kq t118 x26_7 = some (r1, r2)) ∧ Aside0 (kq ≤ kj1) ∧ Aside0 (Below w.heap.size w wc))
     case first =>
      have H := HC8.out
      clear HC8
      by_cases c10 : a0.toList = t118.toList
      · rw [if_pos c10] at H
        have c10b0 : (a0.toList == t118.toList) = true := beq_iff_eq.mpr c10
        have c10b1 : (a0.toList != t118.toList) = false := bne_eq_false_iff_eq.mpr c10
        clear c10
        (first | rw [c10b0] | (simp only [i64_w, i32_w]; rw [c10b0]) | skip)
        have H' := Aside0.mk H
        clear H
        go_wp2
        go_meet
        case rel => exact ⟨_, (false), (by first | rfl | (simp; done) | (simp [*]; done)), H', ⟨by have := HJ1.out; first | omega | exact Nat.le_refl _⟩, ⟨qh HB⟩⟩
      · rw [if_neg c10] at H
        have c10b0 : (a0.toList == t118.toList) = false := beq_eq_false_iff_ne.mpr c10
        have c10b1 : (a0.toList != t118.toList) = true := bne_iff_ne.mpr c10
        (first | rw [c10b0] | (simp only [i64_w, i32_w]; rw [c10b0]) | skip)
        replace H := Option.bind_eq_some_iff.mp H
        obtain ⟨t119, A110, H⟩ := H
        replace H : (digits_FromRoman.j1 kj1 t118 (a0.toList != t119.toList)) = some (r1, r2) := H
        have A11 := Aside0.mk A110
        clear A110
        have H' := Aside0.mk H
        clear H
        go_wp2_with (first | (go_at_call 30; (with_reducible refine (strings_ToLower.calls a0 t119 _ A11.out).mono ?_); rintro e w12 ⟨rfl, hb⟩; replace HB := qn HB hb; (try clear hb); (try clear hb2); (try clear hk); (try clear hi)))
        go_meet
        case rel => exact ⟨_, ((a0.toList != t119.toList)), (by first | rfl | (simp; done) | (simp [*]; done)), H', ⟨by have := HJ1.out; first | omega | exact Nat.le_refl _⟩, ⟨qh HB⟩⟩
     case rest =>
      clear HC8
      try clear c1
      try clear p2
      try clear c3
      try clear c3b0
      try clear c3b1
      try clear c6
      try clear c10
      try clear c10b0
      try clear c10b1
      try clear p2
      obtain ⟨kq, x26_7, rfl, HA, HJ7, HB⟩ := hcut
      cases kq with
      | zero => exact absurd HA.out (by simp [digits_FromRoman.j1])
      | succ kj7 =>
       have H := HA.out
       clear HA
       simp only [digits_FromRoman.j1] at H
       by_cases c13 : x26_7 = true
       · subst c13
         have H1 : (some (0, 82)) = some (r1, r2) := by rw [if_pos rfl] at H; exact H
         clear H
         have H := H1
         clear H1
         simp only [Option.some.injEq, Prod.mk.injEq] at H
         obtain ⟨rfl, rfl⟩ := H
         go_wp2
         go_ret2
         exact ⟨qe, qh HB⟩
       · replace c13 := Bool.eq_false_iff.mpr c13
         subst c13
         have H1 : (digits_FromRoman.l0 kj7 t118 0 (t118.size : Int) 0) = some (r1, r2) := by rw [if_neg (show ¬ (false = true) by decide)] at H; exact H
         clear H
         have H := H1
         clear H1
         have H' := Aside0.mk H
         clear H
         go_wp2
         (try simp only [Act.put, List.setIfInBounds_toArray, List.set_cons_zero, List.set_cons_succ])
         go_loopg [5, 29] kj7 (fun kq v5 v29 w' => ∃ (x5_3 : Int) (x29_3 : Int), v5 = .int .i64 x5_3 ∧ v29 = .int .i64 x29_3 ∧ Aside0 (digits_FromRoman.l0 kq t118 x5_3 (t118.size : Int) x29_3 = some (r1, r2)) ∧ Aside0 (kq ≤ kj7) ∧ Aside0 (Below w.heap.size w w'))
         case atStart => exact ⟨(0), (0), (by first | rfl | (simp; done) | (simp [*]; done)), (by first | rfl | (simp; done) | (simp [*]; done)), H', ⟨Nat.le_refl _⟩, ⟨qh HB⟩⟩
         case round =>
          clear H'
          try clear c1
          try clear p2
          try clear c3
          try clear c3b0
          try clear c3b1
          try clear c6
          try clear c10
          try clear c10b0
          try clear c10b1
          try clear c13
          try clear p2
          obtain ⟨x5_3, x29_3, rfl, rfl, HA, HK3, HB⟩ := hrel
          cases gk with
          | zero => exact absurd HA.out (by simp [digits_FromRoman.l0])
          | succ k3 =>
           have H := HA.out
           clear HA
           simp only [digits_FromRoman.l0] at H
           by_cases c14 : x29_3 < (t118.size : Int)
           · rw [if_pos c14] at H
             have c14b0 : decide (x29_3 < (t118.size : Int)) = true := decide_eq_true c14
             clear c14
             by_cases c15 : 0 ≤ x29_3
             · rw [if_pos c15] at H
               have c15b0 : decide (0 ≤ x29_3) = true := decide_eq_true c15
               clear c15
               by_cases c16 : x29_3 < (t118.size : Int)
               · rw [if_pos c16] at H
                 have c16b0 : decide (x29_3 < (t118.size : Int)) = true := decide_eq_true c16
                 clear c16
                 replace H := Option.bind_eq_some_iff.mp H
                 obtain ⟨t121, A180, H⟩ := H
                 replace H : (if (wrap64 (x29_3 + 1)) < (t118.size : Int) then (if 0 ≤ (wrap64 (x29_3 + 1)) then ((digits_worth.f (bt t118 (wrap64 (x29_3 + 1)))).bind fun t122 => (if t121 < t122 then (digits_FromRoman.l0 k3 t118 (wrap64 (x5_3 + (wrap64 (-t121)))) (t118.size : Int) (wrap64 (x29_3 + 1))) else (digits_FromRoman.l0 k3 t118 (wrap64 (x5_3 + t121)) (t118.size : Int) (wrap64 (x29_3 + 1))))) else (none)) else (digits_FromRoman.l0 k3 t118 (wrap64 (x5_3 + t121)) (t118.size : Int) (wrap64 (x29_3 + 1)))) = some (r1, r2) := H
                 have A18 := Aside0.mk A180
                 clear A180
                 by_cases c19 : (wrap64 (x29_3 + 1)) < (t118.size : Int)
                 · rw [if_pos c19] at H
                   have c19b0 : decide ((wrap64 (x29_3 + 1)) < (t118.size : Int)) = true := decide_eq_true c19
                   clear c19
                   obtain ⟨ji20, hji20⟩ : ∃ j_ : Int, (wrap64 (x29_3 + 1)) = j_ := ⟨_, rfl⟩
                   replace H : (if 0 ≤ (ji20) then ((digits_worth.f (bt t118 (ji20))).bind fun t122 => (if t121 < t122 then (digits_FromRoman.l0 k3 t118 (wrap64 (x5_3 + (wrap64 (-t121)))) (t118.size : Int) ji20) else (digits_FromRoman.l0 k3 t118 (wrap64 (x5_3 + t121)) (t118.size : Int) ji20))) else (none)) = some (r1, r2) := by first | (rw [hji20] at H; exact H) | (simp only [hji20] at H ⊢; exact H)
                   (try rw [hji20] at c19b0)
                   (try rw [hji20] at A18)
                   have hji20w : (IntKind.i64.wrap (x29_3 + 1)) = ji20 := (i64_w _).trans hji20
                   by_cases c21 : 0 ≤ (ji20)
                   · rw [if_pos c21] at H
                     have c21b0 : decide (0 ≤ (ji20)) = true := decide_eq_true c21
                     clear c21
                     replace H := Option.bind_eq_some_iff.mp H
                     obtain ⟨t122, A230, H⟩ := H
                     replace H : (if t121 < t122 then (digits_FromRoman.l0 k3 t118 (wrap64 (x5_3 + (wrap64 (-t121)))) (t118.size : Int) ji20) else (digits_FromRoman.l0 k3 t118 (wrap64 (x5_3 + t121)) (t118.size : Int) ji20)) = some (r1, r2) := H
                     have A23 := Aside0.mk A230
                     clear A230
                     by_cases c24 : t121 < t122
                     · rw [if_pos c24] at H
                       have c24b0 : decide (t121 < t122) = true := decide_eq_true c24
                       clear c24
                       have H' := Aside0.mk H
                       clear H
                       have p17 : 0 ≤ (x29_3 : Int) := of_decide_eq_true qa
                       have q17 : x29_3 < (t118.size : Int) := of_decide_eq_true qa
                       have hx17 := bt_at t118 x29_3
                       replace p17 := eq_true p17
                       replace q17 := eq_true q17
                       go_wp2_with (first | ((with_reducible refine gate_callee (f := 35) rfl ?_); refine goesL_ (some 35) rfl rfl Tryd.func35 (by kernel_rfl) rfl #[.int .u8 (bt t118 x29_3)] rfl ql ?_; (with_reducible refine (digits_worth.calls (bt t118 x29_3) t121 _ A18.out).mono ?_); rintro e w25 ⟨rfl, hb⟩; refine ⟨_, rfl, ?_⟩; replace HB := qn HB hb; (try clear hb); (try clear hb2); (try clear hk); (try clear hi); have p22 : 0 ≤ ((ji20) : Int) := of_decide_eq_true qa; have q22 : (ji20) < (t118.size : Int) := of_decide_eq_true qa; have hx22 := bt_at t118 (ji20); replace p22 := eq_true p22; replace q22 := eq_true q22) | (go_at_call 35; (with_reducible refine (digits_worth.calls (bt t118 (ji20)) t122 _ A23.out).mono ?_); rintro e w26 ⟨rfl, hb⟩; replace HB := qn HB hb; (try clear hb); (try clear hb2); (try clear hk); (try clear hi)))
                       go_roundg k3
                       case measure => have := HJ1.out; have := HJ7.out; have := HK3.out; omega
                       case rel => exact ⟨(wrap64 (x5_3 + (wrap64 (-t121)))), (ji20), (by first | rfl | (simp; done) | (simp [*]; done)), (by first | rfl | (simp; done) | (simp only [← hji20] <;> (first | rfl | simp)) | (simp [*]; done)), H', ⟨by have := HJ1.out; have := HJ7.out; have := HK3.out; omega⟩, ⟨qh HB⟩⟩
                     · rw [if_neg c24] at H
                       have c24b0 : decide (t121 < t122) = false := decide_eq_false c24
                       clear c24
                       have H' := Aside0.mk H
                       clear H
                       have p17 : 0 ≤ (x29_3 : Int) := of_decide_eq_true qa
                       have q17 : x29_3 < (t118.size : Int) := of_decide_eq_true qa
                       have hx17 := bt_at t118 x29_3
                       replace p17 := eq_true p17
                       replace q17 := eq_true q17
                       go_wp2_with (first | ((with_reducible refine gate_callee (f := 35) rfl ?_); refine goesL_ (some 35) rfl rfl Tryd.func35 (by kernel_rfl) rfl #[.int .u8 (bt t118 x29_3)] rfl ql ?_; (with_reducible refine (digits_worth.calls (bt t118 x29_3) t121 _ A18.out).mono ?_); rintro e w27 ⟨rfl, hb⟩; refine ⟨_, rfl, ?_⟩; replace HB := qn HB hb; (try clear hb); (try clear hb2); (try clear hk); (try clear hi); have p22 : 0 ≤ ((ji20) : Int) := of_decide_eq_true qa; have q22 : (ji20) < (t118.size : Int) := of_decide_eq_true qa; have hx22 := bt_at t118 (ji20); replace p22 := eq_true p22; replace q22 := eq_true q22) | (go_at_call 35; (with_reducible refine (digits_worth.calls (bt t118 (ji20)) t122 _ A23.out).mono ?_); rintro e w28 ⟨rfl, hb⟩; replace HB := qn HB hb; (try clear hb); (try clear hb2); (try clear hk); (try clear hi)))
                       go_roundg k3
                       case measure => have := HJ1.out; have := HJ7.out; have := HK3.out; omega
                       case rel => exact ⟨(wrap64 (x5_3 + t121)), (ji20), (by first | rfl | (simp; done) | (simp [*]; done)), (by first | rfl | (simp; done) | (simp only [← hji20] <;> (first | rfl | simp)) | (simp [*]; done)), H', ⟨by have := HJ1.out; have := HJ7.out; have := HK3.out; omega⟩, ⟨qh HB⟩⟩
                   · rw [if_neg c21] at H
                     exact absurd H (by simp)
                 · rw [if_neg c19] at H
                   have c19b0 : decide ((wrap64 (x29_3 + 1)) < (t118.size : Int)) = false := decide_eq_false c19
                   clear c19
                   have H' := Aside0.mk H
                   clear H
                   have p17 : 0 ≤ (x29_3 : Int) := of_decide_eq_true qa
                   have q17 : x29_3 < (t118.size : Int) := of_decide_eq_true qa
                   have hx17 := bt_at t118 x29_3
                   replace p17 := eq_true p17
                   replace q17 := eq_true q17
                   go_wp2_with (first | ((with_reducible refine gate_callee (f := 35) rfl ?_); refine goesL_ (some 35) rfl rfl Tryd.func35 (by kernel_rfl) rfl #[.int .u8 (bt t118 x29_3)] rfl ql ?_; (with_reducible refine (digits_worth.calls (bt t118 x29_3) t121 _ A18.out).mono ?_); rintro e w29 ⟨rfl, hb⟩; refine ⟨_, rfl, ?_⟩; replace HB := qn HB hb; (try clear hb); (try clear hb2); (try clear hk); (try clear hi)))
                   go_roundg k3
                   case measure => have := HJ1.out; have := HJ7.out; have := HK3.out; omega
                   case rel => exact ⟨(wrap64 (x5_3 + t121)), (wrap64 (x29_3 + 1)), (by first | rfl | (simp; done) | (simp [*]; done)), (by first | rfl | (simp; done) | (simp [*]; done)), H', ⟨by have := HJ1.out; have := HJ7.out; have := HK3.out; omega⟩, ⟨qh HB⟩⟩
               · rw [if_neg c16] at H
                 exact absurd H (by simp)
             · rw [if_neg c15] at H
               exact absurd H (by simp)
           · rw [if_neg c14] at H
             have c14b0 : decide (x29_3 < (t118.size : Int)) = false := decide_eq_false c14
             clear c14
             by_cases c30 : x5_3 < 1
             · rw [if_pos c30] at H
               have c30b0 : decide (x5_3 < 1) = true := decide_eq_true c30
               clear c30
               simp only [Option.some.injEq, Prod.mk.injEq] at H
               obtain ⟨rfl, rfl⟩ := H
               go_wp2
               go_ret2
               exact ⟨qe, qh HB⟩
             · rw [if_neg c30] at H
               have c30b0 : decide (x5_3 < 1) = false := decide_eq_false c30
               clear c30
               by_cases c31 : x5_3 > 3999
               · rw [if_pos c31] at H
                 have c31b0 : decide (3999 < x5_3) = true := decide_eq_true c31
                 clear c31
                 simp only [Option.some.injEq, Prod.mk.injEq] at H
                 obtain ⟨rfl, rfl⟩ := H
                 go_wp2
                 go_ret2
                 exact ⟨qe, qh HB⟩
               · rw [if_neg c31] at H
                 have c31b0 : decide (3999 < x5_3) = false := decide_eq_false c31
                 clear c31
                 replace H := Option.bind_eq_some_iff.mp H
                 obtain ⟨t120, A320, H⟩ := H
                 replace H : (if t120.toList = t118.toList then (some (x5_3, 0)) else (some (0, 82))) = some (r1, r2) := H
                 have A32 := Aside0.mk A320
                 clear A320
                 by_cases c33 : t120.toList = t118.toList
                 · rw [if_pos c33] at H
                   have c33b0 : (t120.toList == t118.toList) = true := beq_iff_eq.mpr c33
                   have c33b1 : (t120.toList != t118.toList) = false := bne_eq_false_iff_eq.mpr c33
                   clear c33
                   simp only [Option.some.injEq, Prod.mk.injEq] at H
                   obtain ⟨rfl, rfl⟩ := H
                   go_wp2_with (first | (go_at_call 31; (with_reducible refine (digits_roman.calls x5_3 t120 _ A32.out).mono ?_); rintro e w34 ⟨rfl, hb⟩; replace HB := qn HB hb; (try clear hb); (try clear hb2); (try clear hk); (try clear hi)))
                   go_ret2
                   exact ⟨qe, qh HB⟩
                 · rw [if_neg c33] at H
                   have c33b0 : (t120.toList == t118.toList) = false := beq_eq_false_iff_ne.mpr c33
                   have c33b1 : (t120.toList != t118.toList) = true := bne_iff_ne.mpr c33
                   simp only [Option.some.injEq, Prod.mk.injEq] at H
                   obtain ⟨rfl, rfl⟩ := H
                   go_wp2_with (first | (go_at_call 31; (with_reducible refine (digits_roman.calls x5_3 t120 _ A32.out).mono ?_); rintro e w35 ⟨rfl, hb⟩; replace HB := qn HB hb; (try clear hb); (try clear hb2); (try clear hk); (try clear hi)))
                   go_ret2
                   exact ⟨qe, qh HB⟩

end Go.Proofs.YtnkjeojhiligpaaDoor.H
namespace Go.Proofs.YtnkjeojhiligpaaDoor.H
open Go.RowKit Go.Proofs.YtnkjeojhiligpaaDoorW.PrintWords Go.Proofs.YtnkjeojhiligpaaDoorW.PrintLast Go.Proofs.YtnkjeojhiligpaaDoorW.PrintMore
attribute [local go_sem] max2_int min2_int max_two min_two max_three min_three max_four min_four   -- for this text's walks alone
set_option linter.unusedVariables false
set_option linter.unusedSimpArgs false

mutual
def idiomlaw08_worth.j0 : Nat → Int → Bool → Option (Int)
 | 0, _, _ => none
 | k + 1, x3, x4 => if x4 = true then (some 1) else (if x3 = 86 then (idiomlaw08_worth.j1 k x3 (x3 == 86)) else (idiomlaw08_worth.j1 k x3 (x3 == 118)))
def idiomlaw08_worth.j1 : Nat → Int → Bool → Option (Int)
 | 0, _, _ => none
 | k + 1, x3, x7 => if x7 = true then (some 5) else (if x3 = 88 then (idiomlaw08_worth.j2 k x3 (x3 == 88)) else (idiomlaw08_worth.j2 k x3 (x3 == 120)))
def idiomlaw08_worth.j2 : Nat → Int → Bool → Option (Int)
 | 0, _, _ => none
 | k + 1, x3, x10 => if x10 = true then (some 10) else (if x3 = 76 then (idiomlaw08_worth.j3 k x3 (x3 == 76)) else (idiomlaw08_worth.j3 k x3 (x3 == 108)))
def idiomlaw08_worth.j3 : Nat → Int → Bool → Option (Int)
 | 0, _, _ => none
 | k + 1, x3, x13 => if x13 = true then (some 50) else (if x3 = 67 then (idiomlaw08_worth.j4 k x3 (x3 == 67)) else (idiomlaw08_worth.j4 k x3 (x3 == 99)))
def idiomlaw08_worth.j4 : Nat → Int → Bool → Option (Int)
 | 0, _, _ => none
 | k + 1, x3, x16 => if x16 = true then (some 100) else (if x3 = 68 then (idiomlaw08_worth.j5 k x3 (x3 == 68)) else (idiomlaw08_worth.j5 k x3 (x3 == 100)))
def idiomlaw08_worth.j5 : Nat → Int → Bool → Option (Int)
 | 0, _, _ => none
 | k + 1, x3, x19 => if x19 = true then (some 500) else (if x3 = 77 then (some 1000) else (if x3 = 109 then (some 1000) else (some 0)))
end
def idiomlaw08_worth.f (k : Nat) (a0 : Int) : Option (Int) := if a0 = 73 then (idiomlaw08_worth.j0 k a0 (a0 == 73)) else (idiomlaw08_worth.j0 k a0 (a0 == 105))
theorem idiomlaw08_worth.mono_l : ∀ k, (∀ y0 y1, LeO (idiomlaw08_worth.j0 k y0 y1) (idiomlaw08_worth.j0 (k + 1) y0 y1)) ∧ (∀ y0 y1, LeO (idiomlaw08_worth.j1 k y0 y1) (idiomlaw08_worth.j1 (k + 1) y0 y1)) ∧ (∀ y0 y1, LeO (idiomlaw08_worth.j2 k y0 y1) (idiomlaw08_worth.j2 (k + 1) y0 y1)) ∧ (∀ y0 y1, LeO (idiomlaw08_worth.j3 k y0 y1) (idiomlaw08_worth.j3 (k + 1) y0 y1)) ∧ (∀ y0 y1, LeO (idiomlaw08_worth.j4 k y0 y1) (idiomlaw08_worth.j4 (k + 1) y0 y1)) ∧ (∀ y0 y1, LeO (idiomlaw08_worth.j5 k y0 y1) (idiomlaw08_worth.j5 (k + 1) y0 y1))
 | 0 => ⟨fun _ _ r h => by simp [idiomlaw08_worth.j0] at h, fun _ _ r h => by simp [idiomlaw08_worth.j1] at h, fun _ _ r h => by simp [idiomlaw08_worth.j2] at h, fun _ _ r h => by simp [idiomlaw08_worth.j3] at h, fun _ _ r h => by simp [idiomlaw08_worth.j4] at h, fun _ _ r h => by simp [idiomlaw08_worth.j5] at h⟩
 | k + 1 => by
  obtain ⟨ih0, ih1, ih2, ih3, ih4, ih5⟩ := idiomlaw08_worth.mono_l k
  refine ⟨?_, ?_, ?_, ?_, ?_, ?_⟩
  · intro y0 y1
    unfold idiomlaw08_worth.j0
    repeat' first
    | (with_reducible exact ih0 _ _)
    | (with_reducible exact ih1 _ _)
    | (with_reducible exact ih2 _ _)
    | (with_reducible exact ih3 _ _)
    | (with_reducible exact ih4 _ _)
    | (with_reducible exact ih5 _ _)
    | (with_reducible exact LeO.refl _)
    | (with_reducible exact LeO.none _)
    | (with_reducible refine LeO.ite ?_ ?_)
    | (with_reducible refine LeO.bind ?_ (fun _ => ?_))
    | exact ih0 _ _
    | exact ih1 _ _
    | exact ih2 _ _
    | exact ih3 _ _
    | exact ih4 _ _
    | exact ih5 _ _
    | exact LeO.none _
    | refine LeO.ite ?_ ?_
    | refine LeO.bind ?_ (fun _ => ?_)
  · intro y0 y1
    unfold idiomlaw08_worth.j1
    repeat' first
    | (with_reducible exact ih0 _ _)
    | (with_reducible exact ih1 _ _)
    | (with_reducible exact ih2 _ _)
    | (with_reducible exact ih3 _ _)
    | (with_reducible exact ih4 _ _)
    | (with_reducible exact ih5 _ _)
    | (with_reducible exact LeO.refl _)
    | (with_reducible exact LeO.none _)
    | (with_reducible refine LeO.ite ?_ ?_)
    | (with_reducible refine LeO.bind ?_ (fun _ => ?_))
    | exact ih0 _ _
    | exact ih1 _ _
    | exact ih2 _ _
    | exact ih3 _ _
    | exact ih4 _ _
    | exact ih5 _ _
    | exact LeO.none _
    | refine LeO.ite ?_ ?_
    | refine LeO.bind ?_ (fun _ => ?_)
  · intro y0 y1
    unfold idiomlaw08_worth.j2
    repeat' first
    | (with_reducible exact ih0 _ _)
    | (with_reducible exact ih1 _ _)
    | (with_reducible exact ih2 _ _)
    | (with_reducible exact ih3 _ _)
    | (with_reducible exact ih4 _ _)
    | (with_reducible exact ih5 _ _)
    | (with_reducible exact LeO.refl _)
    | (with_reducible exact LeO.none _)
    | (with_reducible refine LeO.ite ?_ ?_)
    | (with_reducible refine LeO.bind ?_ (fun _ => ?_))
    | exact ih0 _ _
    | exact ih1 _ _
    | exact ih2 _ _
    | exact ih3 _ _
    | exact ih4 _ _
    | exact ih5 _ _
    | exact LeO.none _
    | refine LeO.ite ?_ ?_
    | refine LeO.bind ?_ (fun _ => ?_)
  · intro y0 y1
    unfold idiomlaw08_worth.j3
    repeat' first
    | (with_reducible exact ih0 _ _)
    | (with_reducible exact ih1 _ _)
    | (with_reducible exact ih2 _ _)
    | (with_reducible exact ih3 _ _)
    | (with_reducible exact ih4 _ _)
    | (with_reducible exact ih5 _ _)
    | (with_reducible exact LeO.refl _)
    | (with_reducible exact LeO.none _)
    | (with_reducible refine LeO.ite ?_ ?_)
    | (with_reducible refine LeO.bind ?_ (fun _ => ?_))
    | exact ih0 _ _
    | exact ih1 _ _
    | exact ih2 _ _
    | exact ih3 _ _
    | exact ih4 _ _
    | exact ih5 _ _
    | exact LeO.none _
    | refine LeO.ite ?_ ?_
    | refine LeO.bind ?_ (fun _ => ?_)
  · intro y0 y1
    unfold idiomlaw08_worth.j4
    repeat' first
    | (with_reducible exact ih0 _ _)
    | (with_reducible exact ih1 _ _)
    | (with_reducible exact ih2 _ _)
    | (with_reducible exact ih3 _ _)
    | (with_reducible exact ih4 _ _)
    | (with_reducible exact ih5 _ _)
    | (with_reducible exact LeO.refl _)
    | (with_reducible exact LeO.none _)
    | (with_reducible refine LeO.ite ?_ ?_)
    | (with_reducible refine LeO.bind ?_ (fun _ => ?_))
    | exact ih0 _ _
    | exact ih1 _ _
    | exact ih2 _ _
    | exact ih3 _ _
    | exact ih4 _ _
    | exact ih5 _ _
    | exact LeO.none _
    | refine LeO.ite ?_ ?_
    | refine LeO.bind ?_ (fun _ => ?_)
  · intro y0 y1
    unfold idiomlaw08_worth.j5
    repeat' first
    | (with_reducible exact ih0 _ _)
    | (with_reducible exact ih1 _ _)
    | (with_reducible exact ih2 _ _)
    | (with_reducible exact ih3 _ _)
    | (with_reducible exact ih4 _ _)
    | (with_reducible exact ih5 _ _)
    | (with_reducible exact LeO.refl _)
    | (with_reducible exact LeO.none _)
    | (with_reducible refine LeO.ite ?_ ?_)
    | (with_reducible refine LeO.bind ?_ (fun _ => ?_))
    | exact ih0 _ _
    | exact ih1 _ _
    | exact ih2 _ _
    | exact ih3 _ _
    | exact ih4 _ _
    | exact ih5 _ _
    | exact LeO.none _
    | refine LeO.ite ?_ ?_
    | refine LeO.bind ?_ (fun _ => ?_)
theorem idiomlaw08_worth.mono : ∀ a0 k, LeO (idiomlaw08_worth.f k a0) (idiomlaw08_worth.f (k + 1) a0) := by
 intro a0 k
 obtain ⟨ih0, ih1, ih2, ih3, ih4, ih5⟩ := idiomlaw08_worth.mono_l k
 unfold idiomlaw08_worth.f
 repeat' first
  | (with_reducible exact ih0 _ _)
  | (with_reducible exact ih1 _ _)
  | (with_reducible exact ih2 _ _)
  | (with_reducible exact ih3 _ _)
  | (with_reducible exact ih4 _ _)
  | (with_reducible exact ih5 _ _)
  | (with_reducible exact LeO.refl _)
  | (with_reducible exact LeO.none _)
  | (with_reducible refine LeO.ite ?_ ?_)
  | (with_reducible refine LeO.bind ?_ (fun _ => ?_))
  | exact ih0 _ _
  | exact ih1 _ _
  | exact ih2 _ _
  | exact ih3 _ _
  | exact ih4 _ _
  | exact ih5 _ _
  | exact LeO.none _
  | refine LeO.ite ?_ ?_
  | refine LeO.bind ?_ (fun _ => ?_)
set_option maxHeartbeats 8000000 in
set_option maxRecDepth 100000 in
theorem idiomlaw08_worth.calls (k : Nat) (a0 : Int) (r : Int) (w : World) (h : idiomlaw08_worth.f k a0 = some r) :
 Calls Tryd.prog 19 #[.int .u8 a0] w fun e w' => e = .returned (.int .i64 r) ∧ Drawn0 w w' := by
 have H : (if a0 = 73 then (idiomlaw08_worth.j0 k a0 (a0 == 73)) else (idiomlaw08_worth.j0 k a0 (a0 == 105))) = some r := h
 clear h
 have HC2 := Aside0.mk H
 clear H
 go_enter Tryd.func19, Tryd.ntmps19
 go_upto_if 4 with (fail)
 go_cut [4] (fun v4 wc => ∃ (kq : Nat) (x4_1 : Bool), v4 = .bool x4_1 ∧ Aside0 (idiomlaw08_worth.j0 kq a0 x4_1 = some r) ∧ Aside0 (kq ≤ k) ∧ Drawn0 w wc)
 case first =>
  have H := HC2.out
  clear HC2
  by_cases c3 : a0 = 73
  · rw [if_pos c3] at H
    have c3b0 : (a0 == 73) = true := beq_iff_eq.mpr c3
    have c3b1 : (a0 != 73) = false := bne_eq_false_iff_eq.mpr c3
    try have c3b1z := c3b1
    (try simp only [bne] at c3b1z)
    clear c3
    (first | rw [c3b0] | (simp only [i64_w, i32_w]; rw [c3b0]) | skip)
    have H' := Aside0.mk H
    clear H
    go_wp2
    go_meet
    case rel => exact ⟨_, ((a0 == 73)), (by first | rfl | (simp; done) | (simp [*]; done)), H', ⟨by first | omega | exact Nat.le_refl _⟩, by repeat (first | exact Drawn0.refl _ | apply Drawn0.step)⟩
  · rw [if_neg c3] at H
    have c3b0 : (a0 == 73) = false := beq_eq_false_iff_ne.mpr c3
    have c3b1 : (a0 != 73) = true := bne_iff_ne.mpr c3
    try have c3b1z := c3b1
    (try simp only [bne] at c3b1z)
    (first | rw [c3b0] | (simp only [i64_w, i32_w]; rw [c3b0]) | skip)
    have H' := Aside0.mk H
    clear H
    go_wp2
    go_meet
    case rel => exact ⟨_, ((a0 == 105)), (by first | rfl | (simp; done) | (simp [*]; done)), H', ⟨by first | omega | exact Nat.le_refl _⟩, by repeat (first | exact Drawn0.refl _ | apply Drawn0.step)⟩
 case rest =>
  clear HC2
  try clear c1
  try clear p2
  try clear c3
  try clear c3b0
  try clear c3b1
  obtain ⟨kq, x4_1, rfl, HA, HJ1, ⟨mc1, rfl⟩⟩ := hcut
  cases kq with
  | zero => exact absurd HA.out (by simp [idiomlaw08_worth.j0])
  | succ kj1 =>
   have H := HA.out
   clear HA
   simp only [idiomlaw08_worth.j0] at H
   by_cases c4 : x4_1 = true
   · subst c4
     have H1 : (some 1) = some r := by rw [if_pos rfl] at H; exact H
     clear H
     have H := H1
     clear H1
     obtain rfl := Option.some.inj H
     go_wp2
     go_ret
     exact ⟨by first | rfl | (simp; done) | (simp [*]; done), by repeat (first | exact Drawn0.refl _ | apply Drawn0.step)⟩
   · replace c4 := Bool.eq_false_iff.mpr c4
     subst c4
     have H1 : (if a0 = 86 then (idiomlaw08_worth.j1 kj1 a0 (a0 == 86)) else (idiomlaw08_worth.j1 kj1 a0 (a0 == 118))) = some r := by rw [if_neg (show ¬ (false = true) by decide)] at H; exact H
     clear H
     have H := H1
     clear H1
     have HC5 := Aside0.mk H
     clear H
     go_upto_if 7 with (fail)
     go_cut [7] (fun v7 wc => ∃ (kq : Nat) (x7_4 : Bool), v7 = .bool x7_4 ∧ Aside0 (idiomlaw08_worth.j1 kq a0 x7_4 = some r) ∧ Aside0 (kq ≤ kj1) ∧ Drawn0 w wc)
     case first =>
      have H := HC5.out
      clear HC5
      by_cases c6 : a0 = 86
      · rw [if_pos c6] at H
        have c6b0 : (a0 == 86) = true := beq_iff_eq.mpr c6
        have c6b1 : (a0 != 86) = false := bne_eq_false_iff_eq.mpr c6
        try have c6b1z := c6b1
        (try simp only [bne] at c6b1z)
        clear c6
        (first | rw [c6b0] | (simp only [i64_w, i32_w]; rw [c6b0]) | skip)
        have H' := Aside0.mk H
        clear H
        go_wp2
        go_meet
        case rel => exact ⟨_, ((a0 == 86)), (by first | rfl | (simp; done) | (simp [*]; done)), H', ⟨by have := HJ1.out; first | omega | exact Nat.le_refl _⟩, by repeat (first | exact Drawn0.refl _ | apply Drawn0.step)⟩
      · rw [if_neg c6] at H
        have c6b0 : (a0 == 86) = false := beq_eq_false_iff_ne.mpr c6
        have c6b1 : (a0 != 86) = true := bne_iff_ne.mpr c6
        try have c6b1z := c6b1
        (try simp only [bne] at c6b1z)
        (first | rw [c6b0] | (simp only [i64_w, i32_w]; rw [c6b0]) | skip)
        have H' := Aside0.mk H
        clear H
        go_wp2
        go_meet
        case rel => exact ⟨_, ((a0 == 118)), (by first | rfl | (simp; done) | (simp [*]; done)), H', ⟨by have := HJ1.out; first | omega | exact Nat.le_refl _⟩, by repeat (first | exact Drawn0.refl _ | apply Drawn0.step)⟩
     case rest =>
      clear HC5
      try clear c1
      try clear p2
      try clear c3
      try clear c3b0
      try clear c3b1
      try clear c4
      try clear c6
      try clear c6b0
      try clear c6b1
      try clear p2
      obtain ⟨kq, x7_4, rfl, HA, HJ4, ⟨mc4, rfl⟩⟩ := hcut
      cases kq with
      | zero => exact absurd HA.out (by simp [idiomlaw08_worth.j1])
      | succ kj4 =>
       have H := HA.out
       clear HA
       simp only [idiomlaw08_worth.j1] at H
       by_cases c7 : x7_4 = true
       · subst c7
         have H1 : (some 5) = some r := by rw [if_pos rfl] at H; exact H
         clear H
         have H := H1
         clear H1
         obtain rfl := Option.some.inj H
         go_wp2
         go_ret
         exact ⟨by first | rfl | (simp; done) | (simp [*]; done), by repeat (first | exact Drawn0.refl _ | apply Drawn0.step)⟩
       · replace c7 := Bool.eq_false_iff.mpr c7
         subst c7
         have H1 : (if a0 = 88 then (idiomlaw08_worth.j2 kj4 a0 (a0 == 88)) else (idiomlaw08_worth.j2 kj4 a0 (a0 == 120))) = some r := by rw [if_neg (show ¬ (false = true) by decide)] at H; exact H
         clear H
         have H := H1
         clear H1
         have HC8 := Aside0.mk H
         clear H
         go_upto_if 10 with (fail)
         go_cut [10] (fun v10 wc => ∃ (kq : Nat) (x10_7 : Bool), v10 = .bool x10_7 ∧ Aside0 (idiomlaw08_worth.j2 kq a0 x10_7 = some r) ∧ Aside0 (kq ≤ kj4) ∧ Drawn0 w wc)
         case first =>
          have H := HC8.out
          clear HC8
          by_cases c9 : a0 = 88
          · rw [if_pos c9] at H
            have c9b0 : (a0 == 88) = true := beq_iff_eq.mpr c9
            have c9b1 : (a0 != 88) = false := bne_eq_false_iff_eq.mpr c9
            try have c9b1z := c9b1
            (try simp only [bne] at c9b1z)
            clear c9
            (first | rw [c9b0] | (simp only [i64_w, i32_w]; rw [c9b0]) | skip)
            have H' := Aside0.mk H
            clear H
            go_wp2
            go_meet
            case rel => exact ⟨_, ((a0 == 88)), (by first | rfl | (simp; done) | (simp [*]; done)), H', ⟨by have := HJ1.out; have := HJ4.out; first | omega | exact Nat.le_refl _⟩, by repeat (first | exact Drawn0.refl _ | apply Drawn0.step)⟩
          · rw [if_neg c9] at H
            have c9b0 : (a0 == 88) = false := beq_eq_false_iff_ne.mpr c9
            have c9b1 : (a0 != 88) = true := bne_iff_ne.mpr c9
            try have c9b1z := c9b1
            (try simp only [bne] at c9b1z)
            (first | rw [c9b0] | (simp only [i64_w, i32_w]; rw [c9b0]) | skip)
            have H' := Aside0.mk H
            clear H
            go_wp2
            go_meet
            case rel => exact ⟨_, ((a0 == 120)), (by first | rfl | (simp; done) | (simp [*]; done)), H', ⟨by have := HJ1.out; have := HJ4.out; first | omega | exact Nat.le_refl _⟩, by repeat (first | exact Drawn0.refl _ | apply Drawn0.step)⟩
         case rest =>
          clear HC8
          try clear c1
          try clear p2
          try clear c3
          try clear c3b0
          try clear c3b1
          try clear c4
          try clear c6
          try clear c6b0
          try clear c6b1
          try clear c7
          try clear c9
          try clear c9b0
          try clear c9b1
          try clear p2
          obtain ⟨kq, x10_7, rfl, HA, HJ7, ⟨mc7, rfl⟩⟩ := hcut
          cases kq with
          | zero => exact absurd HA.out (by simp [idiomlaw08_worth.j2])
          | succ kj7 =>
           have H := HA.out
           clear HA
           simp only [idiomlaw08_worth.j2] at H
           by_cases c10 : x10_7 = true
           · subst c10
             have H1 : (some 10) = some r := by rw [if_pos rfl] at H; exact H
             clear H
             have H := H1
             clear H1
             obtain rfl := Option.some.inj H
             go_wp2
             go_ret
             exact ⟨by first | rfl | (simp; done) | (simp [*]; done), by repeat (first | exact Drawn0.refl _ | apply Drawn0.step)⟩
           · replace c10 := Bool.eq_false_iff.mpr c10
             subst c10
             have H1 : (if a0 = 76 then (idiomlaw08_worth.j3 kj7 a0 (a0 == 76)) else (idiomlaw08_worth.j3 kj7 a0 (a0 == 108))) = some r := by rw [if_neg (show ¬ (false = true) by decide)] at H; exact H
             clear H
             have H := H1
             clear H1
             have HC11 := Aside0.mk H
             clear H
             go_upto_if 13 with (fail)
             go_cut [13] (fun v13 wc => ∃ (kq : Nat) (x13_10 : Bool), v13 = .bool x13_10 ∧ Aside0 (idiomlaw08_worth.j3 kq a0 x13_10 = some r) ∧ Aside0 (kq ≤ kj7) ∧ Drawn0 w wc)
             case first =>
              have H := HC11.out
              clear HC11
              by_cases c12 : a0 = 76
              · rw [if_pos c12] at H
                have c12b0 : (a0 == 76) = true := beq_iff_eq.mpr c12
                have c12b1 : (a0 != 76) = false := bne_eq_false_iff_eq.mpr c12
                try have c12b1z := c12b1
                (try simp only [bne] at c12b1z)
                clear c12
                (first | rw [c12b0] | (simp only [i64_w, i32_w]; rw [c12b0]) | skip)
                have H' := Aside0.mk H
                clear H
                go_wp2
                go_meet
                case rel => exact ⟨_, ((a0 == 76)), (by first | rfl | (simp; done) | (simp [*]; done)), H', ⟨by have := HJ1.out; have := HJ4.out; have := HJ7.out; first | omega | exact Nat.le_refl _⟩, by repeat (first | exact Drawn0.refl _ | apply Drawn0.step)⟩
              · rw [if_neg c12] at H
                have c12b0 : (a0 == 76) = false := beq_eq_false_iff_ne.mpr c12
                have c12b1 : (a0 != 76) = true := bne_iff_ne.mpr c12
                try have c12b1z := c12b1
                (try simp only [bne] at c12b1z)
                (first | rw [c12b0] | (simp only [i64_w, i32_w]; rw [c12b0]) | skip)
                have H' := Aside0.mk H
                clear H
                go_wp2
                go_meet
                case rel => exact ⟨_, ((a0 == 108)), (by first | rfl | (simp; done) | (simp [*]; done)), H', ⟨by have := HJ1.out; have := HJ4.out; have := HJ7.out; first | omega | exact Nat.le_refl _⟩, by repeat (first | exact Drawn0.refl _ | apply Drawn0.step)⟩
             case rest =>
              clear HC11
              try clear c1
              try clear p2
              try clear c3
              try clear c3b0
              try clear c3b1
              try clear c4
              try clear c6
              try clear c6b0
              try clear c6b1
              try clear c7
              try clear c9
              try clear c9b0
              try clear c9b1
              try clear c10
              try clear c12
              try clear c12b0
              try clear c12b1
              try clear p2
              obtain ⟨kq, x13_10, rfl, HA, HJ10, ⟨mc10, rfl⟩⟩ := hcut
              cases kq with
              | zero => exact absurd HA.out (by simp [idiomlaw08_worth.j3])
              | succ kj10 =>
               have H := HA.out
               clear HA
               simp only [idiomlaw08_worth.j3] at H
               by_cases c13 : x13_10 = true
               · subst c13
                 have H1 : (some 50) = some r := by rw [if_pos rfl] at H; exact H
                 clear H
                 have H := H1
                 clear H1
                 obtain rfl := Option.some.inj H
                 go_wp2
                 go_ret
                 exact ⟨by first | rfl | (simp; done) | (simp [*]; done), by repeat (first | exact Drawn0.refl _ | apply Drawn0.step)⟩
               · replace c13 := Bool.eq_false_iff.mpr c13
                 subst c13
                 have H1 : (if a0 = 67 then (idiomlaw08_worth.j4 kj10 a0 (a0 == 67)) else (idiomlaw08_worth.j4 kj10 a0 (a0 == 99))) = some r := by rw [if_neg (show ¬ (false = true) by decide)] at H; exact H
                 clear H
                 have H := H1
                 clear H1
                 have HC14 := Aside0.mk H
                 clear H
                 go_upto_if 16 with (fail)
                 go_cut [16] (fun v16 wc => ∃ (kq : Nat) (x16_13 : Bool), v16 = .bool x16_13 ∧ Aside0 (idiomlaw08_worth.j4 kq a0 x16_13 = some r) ∧ Aside0 (kq ≤ kj10) ∧ Drawn0 w wc)
                 case first =>
                  have H := HC14.out
                  clear HC14
                  by_cases c15 : a0 = 67
                  · rw [if_pos c15] at H
                    have c15b0 : (a0 == 67) = true := beq_iff_eq.mpr c15
                    have c15b1 : (a0 != 67) = false := bne_eq_false_iff_eq.mpr c15
                    try have c15b1z := c15b1
                    (try simp only [bne] at c15b1z)
                    clear c15
                    (first | rw [c15b0] | (simp only [i64_w, i32_w]; rw [c15b0]) | skip)
                    have H' := Aside0.mk H
                    clear H
                    go_wp2
                    go_meet
                    case rel => exact ⟨_, ((a0 == 67)), (by first | rfl | (simp; done) | (simp [*]; done)), H', ⟨by have := HJ1.out; have := HJ4.out; have := HJ7.out; have := HJ10.out; first | omega | exact Nat.le_refl _⟩, by repeat (first | exact Drawn0.refl _ | apply Drawn0.step)⟩
                  · rw [if_neg c15] at H
                    have c15b0 : (a0 == 67) = false := beq_eq_false_iff_ne.mpr c15
                    have c15b1 : (a0 != 67) = true := bne_iff_ne.mpr c15
                    try have c15b1z := c15b1
                    (try simp only [bne] at c15b1z)
                    (first | rw [c15b0] | (simp only [i64_w, i32_w]; rw [c15b0]) | skip)
                    have H' := Aside0.mk H
                    clear H
                    go_wp2
                    go_meet
                    case rel => exact ⟨_, ((a0 == 99)), (by first | rfl | (simp; done) | (simp [*]; done)), H', ⟨by have := HJ1.out; have := HJ4.out; have := HJ7.out; have := HJ10.out; first | omega | exact Nat.le_refl _⟩, by repeat (first | exact Drawn0.refl _ | apply Drawn0.step)⟩
                 case rest =>
                  clear HC14
                  try clear c1
                  try clear p2
                  try clear c3
                  try clear c3b0
                  try clear c3b1
                  try clear c4
                  try clear c6
                  try clear c6b0
                  try clear c6b1
                  try clear c7
                  try clear c9
                  try clear c9b0
                  try clear c9b1
                  try clear c10
                  try clear c12
                  try clear c12b0
                  try clear c12b1
                  try clear c13
                  try clear c15
                  try clear c15b0
                  try clear c15b1
                  try clear p2
                  obtain ⟨kq, x16_13, rfl, HA, HJ13, ⟨mc13, rfl⟩⟩ := hcut
                  cases kq with
                  | zero => exact absurd HA.out (by simp [idiomlaw08_worth.j4])
                  | succ kj13 =>
                   have H := HA.out
                   clear HA
                   simp only [idiomlaw08_worth.j4] at H
                   by_cases c16 : x16_13 = true
                   · subst c16
                     have H1 : (some 100) = some r := by rw [if_pos rfl] at H; exact H
                     clear H
                     have H := H1
                     clear H1
                     obtain rfl := Option.some.inj H
                     go_wp2
                     go_ret
                     exact ⟨by first | rfl | (simp; done) | (simp [*]; done), by repeat (first | exact Drawn0.refl _ | apply Drawn0.step)⟩
                   · replace c16 := Bool.eq_false_iff.mpr c16
                     subst c16
                     have H1 : (if a0 = 68 then (idiomlaw08_worth.j5 kj13 a0 (a0 == 68)) else (idiomlaw08_worth.j5 kj13 a0 (a0 == 100))) = some r := by rw [if_neg (show ¬ (false = true) by decide)] at H; exact H
                     clear H
                     have H := H1
                     clear H1
                     have HC17 := Aside0.mk H
                     clear H
                     go_upto_if 19 with (fail)
                     go_cut [19] (fun v19 wc => ∃ (kq : Nat) (x19_16 : Bool), v19 = .bool x19_16 ∧ Aside0 (idiomlaw08_worth.j5 kq a0 x19_16 = some r) ∧ Aside0 (kq ≤ kj13) ∧ Drawn0 w wc)
                     case first =>
                      have H := HC17.out
                      clear HC17
                      by_cases c18 : a0 = 68
                      · rw [if_pos c18] at H
                        have c18b0 : (a0 == 68) = true := beq_iff_eq.mpr c18
                        have c18b1 : (a0 != 68) = false := bne_eq_false_iff_eq.mpr c18
                        try have c18b1z := c18b1
                        (try simp only [bne] at c18b1z)
                        clear c18
                        (first | rw [c18b0] | (simp only [i64_w, i32_w]; rw [c18b0]) | skip)
                        have H' := Aside0.mk H
                        clear H
                        go_wp2
                        go_meet
                        case rel => exact ⟨_, ((a0 == 68)), (by first | rfl | (simp; done) | (simp [*]; done)), H', ⟨by have := HJ1.out; have := HJ4.out; have := HJ7.out; have := HJ10.out; have := HJ13.out; first | omega | exact Nat.le_refl _⟩, by repeat (first | exact Drawn0.refl _ | apply Drawn0.step)⟩
                      · rw [if_neg c18] at H
                        have c18b0 : (a0 == 68) = false := beq_eq_false_iff_ne.mpr c18
                        have c18b1 : (a0 != 68) = true := bne_iff_ne.mpr c18
                        try have c18b1z := c18b1
                        (try simp only [bne] at c18b1z)
                        (first | rw [c18b0] | (simp only [i64_w, i32_w]; rw [c18b0]) | skip)
                        have H' := Aside0.mk H
                        clear H
                        go_wp2
                        go_meet
                        case rel => exact ⟨_, ((a0 == 100)), (by first | rfl | (simp; done) | (simp [*]; done)), H', ⟨by have := HJ1.out; have := HJ4.out; have := HJ7.out; have := HJ10.out; have := HJ13.out; first | omega | exact Nat.le_refl _⟩, by repeat (first | exact Drawn0.refl _ | apply Drawn0.step)⟩
                     case rest =>
                      clear HC17
                      try clear c1
                      try clear p2
                      try clear c3
                      try clear c3b0
                      try clear c3b1
                      try clear c4
                      try clear c6
                      try clear c6b0
                      try clear c6b1
                      try clear c7
                      try clear c9
                      try clear c9b0
                      try clear c9b1
                      try clear c10
                      try clear c12
                      try clear c12b0
                      try clear c12b1
                      try clear c13
                      try clear c15
                      try clear c15b0
                      try clear c15b1
                      try clear c16
                      try clear c18
                      try clear c18b0
                      try clear c18b1
                      try clear p2
                      obtain ⟨kq, x19_16, rfl, HA, HJ16, ⟨mc16, rfl⟩⟩ := hcut
                      cases kq with
                      | zero => exact absurd HA.out (by simp [idiomlaw08_worth.j5])
                      | succ kj16 =>
                       have H := HA.out
                       clear HA
                       simp only [idiomlaw08_worth.j5] at H
                       by_cases c19 : x19_16 = true
                       · subst c19
                         have H1 : (some 500) = some r := by rw [if_pos rfl] at H; exact H
                         clear H
                         have H := H1
                         clear H1
                         obtain rfl := Option.some.inj H
                         go_wp2
                         go_ret
                         exact ⟨by first | rfl | (simp; done) | (simp [*]; done), by repeat (first | exact Drawn0.refl _ | apply Drawn0.step)⟩
                       · replace c19 := Bool.eq_false_iff.mpr c19
                         subst c19
                         have H1 : (if a0 = 77 then (some 1000) else (if a0 = 109 then (some 1000) else (some 0))) = some r := by rw [if_neg (show ¬ (false = true) by decide)] at H; exact H
                         clear H
                         have H := H1
                         clear H1
                         by_cases c20 : a0 = 77
                         · rw [if_pos c20] at H
                           have c20b0 : (a0 == 77) = true := beq_iff_eq.mpr c20
                           have c20b1 : (a0 != 77) = false := bne_eq_false_iff_eq.mpr c20
                           try have c20b1z := c20b1
                           (try simp only [bne] at c20b1z)
                           clear c20
                           obtain rfl := Option.some.inj H
                           go_wp2
                           go_ret
                           exact ⟨by first | rfl | (simp; done) | (simp [*]; done), by repeat (first | exact Drawn0.refl _ | apply Drawn0.step)⟩
                         · rw [if_neg c20] at H
                           have c20b0 : (a0 == 77) = false := beq_eq_false_iff_ne.mpr c20
                           have c20b1 : (a0 != 77) = true := bne_iff_ne.mpr c20
                           try have c20b1z := c20b1
                           (try simp only [bne] at c20b1z)
                           by_cases c21 : a0 = 109
                           · rw [if_pos c21] at H
                             have c21b0 : (a0 == 109) = true := beq_iff_eq.mpr c21
                             have c21b1 : (a0 != 109) = false := bne_eq_false_iff_eq.mpr c21
                             try have c21b1z := c21b1
                             (try simp only [bne] at c21b1z)
                             clear c21
                             obtain rfl := Option.some.inj H
                             go_wp2
                             go_ret
                             exact ⟨by first | rfl | (simp; done) | (simp [*]; done), by repeat (first | exact Drawn0.refl _ | apply Drawn0.step)⟩
                           · rw [if_neg c21] at H
                             have c21b0 : (a0 == 109) = false := beq_eq_false_iff_ne.mpr c21
                             have c21b1 : (a0 != 109) = true := bne_iff_ne.mpr c21
                             try have c21b1z := c21b1
                             (try simp only [bne] at c21b1z)
                             obtain rfl := Option.some.inj H
                             go_wp2
                             go_ret
                             exact ⟨by first | rfl | (simp; done) | (simp [*]; done), by repeat (first | exact Drawn0.refl _ | apply Drawn0.step)⟩

end Go.Proofs.YtnkjeojhiligpaaDoor.H
