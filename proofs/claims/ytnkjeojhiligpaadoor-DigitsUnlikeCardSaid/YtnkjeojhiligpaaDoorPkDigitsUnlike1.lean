/- Part 2 of 2 of the proof of the law DigitsUnlike: it is true at every input. Conditions: those of the given row, no others. -/
import Derived.Test.YtnkjeojhiligpaaDoorPkDigitsUnlike0
import Derived.Lib.MapLaws
import Derived.KernelRfl
import Derived.DataShut
import Derived.Test.YtnkjeojhiligpaaDoorCards
import Derived.Test.YtnkjeojhiligpaaDoorTie
import Derived.WalkKit
import Derived.ProofKit
import Derived.OpenShut
import Derived.ShutString
import Derived.ChangeOld
import Derived.Below
import Derived.SizedLaws
import Derived.Carry
import Derived.Lib.SmallJoins
import Derived.PinnedBridge
import Derived.Lay
import Derived.LaidOnce
import Derived.SevenTiedAt
namespace Go.Proofs.YtnkjeojhiligpaaDoor.G
open Go.RowKit Go.Proofs.YtnkjeojhiligpaaDoorW.PrintWords Go.Proofs.YtnkjeojhiligpaaDoorW.PrintLast Go.Proofs.YtnkjeojhiligpaaDoorW.PrintMore Go.Proofs.YtnkjeojhiligpaaDoor.Q
attribute [local go_sem] max2_int min2_int max_two min_two max_three min_three max_four min_four   -- for this text's walks alone
set_option linter.unusedVariables false
set_option linter.unusedSimpArgs false

def digits_Render.f (a0 : ByteArray) (a1 : ByteArray) : Option (ByteArray × Int) := some (Rend.f a0 a1)
theorem digits_Render.calls (a0 : ByteArray) (a1 : ByteArray) (r1 : ByteArray) (r2 : Int) (w : World) (h : digits_Render.f a0 a1 = some (r1, r2)) :
 Calls Tryd.prog 10 #[.string a0, .string a1] w fun e w' => e = .returned (.tuple #[.string r1, .int .i64 r2]) ∧ Below w.heap.size w w' := by
 have e : Rend.f a0 a1 = (r1, r2) := Option.some.inj h
 have c := Rend.calls a0 a1 w
 rw [e] at c
 exact c

def digits_Read.f (a0 : ByteArray) (a1 : ByteArray) : Option (ByteArray × Int × Int) := if a1.size ≤ 140737488355328 then some (Read8.f a0 a1) else none
theorem digits_Read.calls (a0 : ByteArray) (a1 : ByteArray) (r1 : ByteArray) (r2 : Int) (r3 : Int) (w : World) (h : digits_Read.f a0 a1 = some (r1, r2, r3)) (hG_ : Stray.Tabs w) :
 Calls Tryd.prog 13 #[.string a0, .string a1] w fun e w' => e = .returned (.tuple #[.string r1, .int .i64 r2, .int .i64 r3]) ∧ Below w.heap.size w w' := by
 unfold digits_Read.f at h
 split at h
 · rename_i hs
   have e : Read8.f a0 a1 = (r1, r2, r3) := Option.some.inj h
   have c := Read8.calls a0 a1 hs w hG_
   rw [e] at c
   exact c
 · cases h

/-- Not told: nothing that this print serves comes to it. -/
def strings_ToLower.f (a0 : ByteArray) : Option (ByteArray) := none
theorem strings_ToLower.calls (a0 : ByteArray) (r : ByteArray) (w : World) (h : strings_ToLower.f a0 = some r) :
 Calls Tryd.prog 30 #[.string a0] w fun e w' => e = .returned (.string r) ∧ Below w.heap.size w w' := by
 cases h

/-- strings.Repeat: what it tells where the count is no less than 0 and the text is not too long. -/
def strings_Repeat.f (a0 : ByteArray) (a1 : Int) : Option (ByteArray) := if 0 ≤ a1 ∧ a1 ≤ 9223372036854775807 ∧ a0.size * a1.toNat ≤ 140737488355328 then some ⟨(Lib.repeatL a0.data.toList a1.toNat).toArray⟩ else none
theorem strings_Repeat.calls (a0 : ByteArray) (a1 : Int) (r : ByteArray) (w : World) (h : strings_Repeat.f a0 a1 = some r) :
 Calls Tryd.prog 45 #[.string a0, .int .i64 a1] w fun e w' => e = .returned (.string r) ∧ Below w.heap.size w w' := by
 unfold strings_Repeat.f at h
 split at h
 · rename_i hc
   obtain ⟨h0, h1, h2⟩ := hc
   obtain ⟨n, rfl⟩ := Int.eq_ofNat_of_zero_le h0
   obtain rfl := Option.some.inj h
   exact Tryd.strings_Repeat a0 n w (by omega) (by simpa using h2)
 · cases h

def digits_piece.f (a0 : Int) (a1 : ByteArray) (a2 : ByteArray) (a3 : ByteArray) : Option (ByteArray) := if a0 = 9 then (if a1.size + a3.size ≤ 9223372036854775807 then (some (a1 ++ a3)) else (none)) else (if a0 ≥ 5 then ((strings_Repeat.f a1 (wrap64 (a0 - 5))).bind fun t101 => (if a2.size + t101.size ≤ 9223372036854775807 then (some (a2 ++ t101)) else (none))) else (if a0 = 4 then (if a1.size + a2.size ≤ 9223372036854775807 then (some (a1 ++ a2)) else (none)) else ((strings_Repeat.f a1 a0).bind fun t102 => (some t102))))
set_option maxHeartbeats 8000000 in
set_option maxRecDepth 100000 in
theorem digits_piece.calls (a0 : Int) (a1 : ByteArray) (a2 : ByteArray) (a3 : ByteArray) (r : ByteArray) (w : World) (h : digits_piece.f a0 a1 a2 a3 = some r) :
 Calls Tryd.prog 46 #[.int .i64 a0, .string a1, .string a2, .string a3] w fun e w' => e = .returned (.string r) ∧ Below w.heap.size w w' := by
 have HB := Aside0.mk (Below.refl w.heap.size w)
 have H : (if a0 = 9 then (if a1.size + a3.size ≤ 9223372036854775807 then (some (a1 ++ a3)) else (none)) else (if a0 ≥ 5 then ((strings_Repeat.f a1 (wrap64 (a0 - 5))).bind fun t101 => (if a2.size + t101.size ≤ 9223372036854775807 then (some (a2 ++ t101)) else (none))) else (if a0 = 4 then (if a1.size + a2.size ≤ 9223372036854775807 then (some (a1 ++ a2)) else (none)) else ((strings_Repeat.f a1 a0).bind fun t102 => (some t102))))) = some r := h
 clear h
 by_cases c5 : a0 = 9
 · rw [if_pos c5] at H
   have c5b0 : (a0 == 9) = true := beq_iff_eq.mpr c5
   have c5b1 : (a0 != 9) = false := bne_eq_false_iff_eq.mpr c5
   try have c5b1z := c5b1
   (try simp only [bne] at c5b1z)
   clear c5
   by_cases c6 : a1.size + a3.size ≤ 9223372036854775807
   · rw [if_pos c6] at H
     have c6b0 := eq_true c6
     have c6b1 : decide (a1.size + a3.size ≤ 9223372036854775807) = true := decide_eq_true c6
     try have c6b2 : (9223372036854775807 < a1.size + a3.size) = False := eq_false (Nat.not_lt.2 c6)
     obtain rfl := Option.some.inj H
     go_enter Tryd.func46, Tryd.ntmps46
     go_wp2
     go_ret
     exact ⟨qe, qh HB⟩
   · rw [if_neg c6] at H
     exact absurd H (by simp)
 · rw [if_neg c5] at H
   have c5b0 : (a0 == 9) = false := beq_eq_false_iff_ne.mpr c5
   have c5b1 : (a0 != 9) = true := bne_iff_ne.mpr c5
   try have c5b1z := c5b1
   (try simp only [bne] at c5b1z)
   by_cases c7 : a0 ≥ 5
   · rw [if_pos c7] at H
     have c7b0 : decide (5 ≤ a0) = true := decide_eq_true c7
     clear c7
     replace H := Option.bind_eq_some_iff.mp H
     obtain ⟨t101, A80, H⟩ := H
     replace H : (if a2.size + t101.size ≤ 9223372036854775807 then (some (a2 ++ t101)) else (none)) = some r := H
     have A8 := Aside0.mk A80
     clear A80
     by_cases c9 : a2.size + t101.size ≤ 9223372036854775807
     · rw [if_pos c9] at H
       have c9b0 := eq_true c9
       have c9b1 : decide (a2.size + t101.size ≤ 9223372036854775807) = true := decide_eq_true c9
       try have c9b2 : (9223372036854775807 < a2.size + t101.size) = False := eq_false (Nat.not_lt.2 c9)
       obtain rfl := Option.some.inj H
       go_enter Tryd.func46, Tryd.ntmps46
       go_wp2_with (first | ((with_reducible refine gate_callee (f := 45) rfl ?_); refine goesL_ (some 22) rfl rfl Tryd.func45 (by kernel_rfl) rfl #[.string a1, .int .i64 (wrap64 (a0 - 5))] rfl ql ?_; (with_reducible refine (strings_Repeat.calls a1 (wrap64 (a0 - 5)) t101 _ A8.out).mono ?_); rintro e w10 ⟨rfl, hb⟩; refine ⟨_, rfl, ?_⟩; replace HB := qn HB hb; (try clear hb); (try clear hb2); (try clear hk); (try clear hi)))
       go_ret
       exact ⟨qe, qh HB⟩
     · rw [if_neg c9] at H
       exact absurd H (by simp)
   · rw [if_neg c7] at H
     have c7b0 : decide (5 ≤ a0) = false := decide_eq_false c7
     clear c7
     by_cases c11 : a0 = 4
     · rw [if_pos c11] at H
       have c11b0 : (a0 == 4) = true := beq_iff_eq.mpr c11
       have c11b1 : (a0 != 4) = false := bne_eq_false_iff_eq.mpr c11
       try have c11b1z := c11b1
       (try simp only [bne] at c11b1z)
       clear c11
       by_cases c12 : a1.size + a2.size ≤ 9223372036854775807
       · rw [if_pos c12] at H
         have c12b0 := eq_true c12
         have c12b1 : decide (a1.size + a2.size ≤ 9223372036854775807) = true := decide_eq_true c12
         try have c12b2 : (9223372036854775807 < a1.size + a2.size) = False := eq_false (Nat.not_lt.2 c12)
         obtain rfl := Option.some.inj H
         go_enter Tryd.func46, Tryd.ntmps46
         go_wp2
         go_ret
         exact ⟨qe, qh HB⟩
       · rw [if_neg c12] at H
         exact absurd H (by simp)
     · rw [if_neg c11] at H
       have c11b0 : (a0 == 4) = false := beq_eq_false_iff_ne.mpr c11
       have c11b1 : (a0 != 4) = true := bne_iff_ne.mpr c11
       try have c11b1z := c11b1
       (try simp only [bne] at c11b1z)
       replace H := Option.bind_eq_some_iff.mp H
       obtain ⟨t102, A130, H⟩ := H
       replace H : (some t102) = some r := H
       have A13 := Aside0.mk A130
       clear A130
       obtain rfl := Option.some.inj H
       go_enter Tryd.func46, Tryd.ntmps46
       go_wp2_with (first | ((with_reducible refine gate_callee (f := 45) rfl ?_); refine goesL_ (some 32) rfl rfl Tryd.func45 (by kernel_rfl) rfl #[.string a1, .int .i64 a0] rfl ql ?_; (with_reducible refine (strings_Repeat.calls a1 a0 t102 _ A13.out).mono ?_); rintro e w14 ⟨rfl, hb⟩; refine ⟨_, rfl, ?_⟩; replace HB := qn HB hb; (try clear hb); (try clear hb2); (try clear hk); (try clear hi)))
       go_ret
       exact ⟨qe, qh HB⟩

def digits_roman.f (a0 : Int) : Option (ByteArray) := (strings_Repeat.f (⟨#[77]⟩ : ByteArray) (wrap64 (Int.tdiv a0 1000))).bind fun t103 => ((digits_piece.f (Int.tmod (wrap64 (Int.tdiv a0 100)) 10) (⟨#[67]⟩ : ByteArray) (⟨#[68]⟩ : ByteArray) (⟨#[77]⟩ : ByteArray)).bind fun t104 => (if t103.size + t104.size ≤ 9223372036854775807 then ((digits_piece.f (Int.tmod (wrap64 (Int.tdiv a0 10)) 10) (⟨#[88]⟩ : ByteArray) (⟨#[76]⟩ : ByteArray) (⟨#[67]⟩ : ByteArray)).bind fun t105 => (if (t103 ++ t104).size + t105.size ≤ 9223372036854775807 then ((digits_piece.f (Int.tmod a0 10) (⟨#[73]⟩ : ByteArray) (⟨#[86]⟩ : ByteArray) (⟨#[88]⟩ : ByteArray)).bind fun t106 => (if ((t103 ++ t104) ++ t105).size + t106.size ≤ 9223372036854775807 then (some (((t103 ++ t104) ++ t105) ++ t106)) else (none))) else (none))) else (none)))
set_option maxHeartbeats 8000000 in
set_option maxRecDepth 100000 in
theorem digits_roman.calls (a0 : Int) (r : ByteArray) (w : World) (h : digits_roman.f a0 = some r) :
 Calls Tryd.prog 31 #[.int .i64 a0] w fun e w' => e = .returned (.string r) ∧ Below w.heap.size w w' := by
 have HB := Aside0.mk (Below.refl w.heap.size w)
 have H : ((strings_Repeat.f (⟨#[77]⟩ : ByteArray) (wrap64 (Int.tdiv a0 1000))).bind fun t103 => ((digits_piece.f (Int.tmod (wrap64 (Int.tdiv a0 100)) 10) (⟨#[67]⟩ : ByteArray) (⟨#[68]⟩ : ByteArray) (⟨#[77]⟩ : ByteArray)).bind fun t104 => (if t103.size + t104.size ≤ 9223372036854775807 then ((digits_piece.f (Int.tmod (wrap64 (Int.tdiv a0 10)) 10) (⟨#[88]⟩ : ByteArray) (⟨#[76]⟩ : ByteArray) (⟨#[67]⟩ : ByteArray)).bind fun t105 => (if (t103 ++ t104).size + t105.size ≤ 9223372036854775807 then ((digits_piece.f (Int.tmod a0 10) (⟨#[73]⟩ : ByteArray) (⟨#[86]⟩ : ByteArray) (⟨#[88]⟩ : ByteArray)).bind fun t106 => (if ((t103 ++ t104) ++ t105).size + t106.size ≤ 9223372036854775807 then (some (((t103 ++ t104) ++ t105) ++ t106)) else (none))) else (none))) else (none)))) = some r := h
 clear h
 replace H := Option.bind_eq_some_iff.mp H
 obtain ⟨t103, A20, H⟩ := H
 replace H : ((digits_piece.f (Int.tmod (wrap64 (Int.tdiv a0 100)) 10) (⟨#[67]⟩ : ByteArray) (⟨#[68]⟩ : ByteArray) (⟨#[77]⟩ : ByteArray)).bind fun t104 => (if t103.size + t104.size ≤ 9223372036854775807 then ((digits_piece.f (Int.tmod (wrap64 (Int.tdiv a0 10)) 10) (⟨#[88]⟩ : ByteArray) (⟨#[76]⟩ : ByteArray) (⟨#[67]⟩ : ByteArray)).bind fun t105 => (if (t103 ++ t104).size + t105.size ≤ 9223372036854775807 then ((digits_piece.f (Int.tmod a0 10) (⟨#[73]⟩ : ByteArray) (⟨#[86]⟩ : ByteArray) (⟨#[88]⟩ : ByteArray)).bind fun t106 => (if ((t103 ++ t104) ++ t105).size + t106.size ≤ 9223372036854775807 then (some (((t103 ++ t104) ++ t105) ++ t106)) else (none))) else (none))) else (none))) = some r := H
 have A2 := Aside0.mk A20
 clear A20
 replace H := Option.bind_eq_some_iff.mp H
 obtain ⟨t104, A30, H⟩ := H
 replace H : (if t103.size + t104.size ≤ 9223372036854775807 then ((digits_piece.f (Int.tmod (wrap64 (Int.tdiv a0 10)) 10) (⟨#[88]⟩ : ByteArray) (⟨#[76]⟩ : ByteArray) (⟨#[67]⟩ : ByteArray)).bind fun t105 => (if (t103 ++ t104).size + t105.size ≤ 9223372036854775807 then ((digits_piece.f (Int.tmod a0 10) (⟨#[73]⟩ : ByteArray) (⟨#[86]⟩ : ByteArray) (⟨#[88]⟩ : ByteArray)).bind fun t106 => (if ((t103 ++ t104) ++ t105).size + t106.size ≤ 9223372036854775807 then (some (((t103 ++ t104) ++ t105) ++ t106)) else (none))) else (none))) else (none)) = some r := H
 have A3 := Aside0.mk A30
 clear A30
 by_cases c4 : t103.size + t104.size ≤ 9223372036854775807
 · rw [if_pos c4] at H
   have c4b0 := eq_true c4
   have c4b1 : decide (t103.size + t104.size ≤ 9223372036854775807) = true := decide_eq_true c4
   try have c4b2 : (9223372036854775807 < t103.size + t104.size) = False := eq_false (Nat.not_lt.2 c4)
   replace H := Option.bind_eq_some_iff.mp H
   obtain ⟨t105, A50, H⟩ := H
   replace H : (if (t103 ++ t104).size + t105.size ≤ 9223372036854775807 then ((digits_piece.f (Int.tmod a0 10) (⟨#[73]⟩ : ByteArray) (⟨#[86]⟩ : ByteArray) (⟨#[88]⟩ : ByteArray)).bind fun t106 => (if ((t103 ++ t104) ++ t105).size + t106.size ≤ 9223372036854775807 then (some (((t103 ++ t104) ++ t105) ++ t106)) else (none))) else (none)) = some r := H
   have A5 := Aside0.mk A50
   clear A50
   by_cases c6 : (t103 ++ t104).size + t105.size ≤ 9223372036854775807
   · rw [if_pos c6] at H
     have c6b0 := eq_true c6
     try have c6b0z := c6b0
     (try simp only [go_sem, ByteArray.size_extract, ByteArray.size_append, Nat.min_self, Int.natCast_add] at c6b0z)
     have c6b1 : decide ((t103 ++ t104).size + t105.size ≤ 9223372036854775807) = true := decide_eq_true c6
     try have c6b1z := c6b1
     (try simp only [go_sem, ByteArray.size_extract, ByteArray.size_append, Nat.min_self, Int.natCast_add] at c6b1z)
     try have c6b2 : (9223372036854775807 < (t103 ++ t104).size + t105.size) = False := eq_false (Nat.not_lt.2 c6)
     try have c6b2z := c6b2
     (try simp only [go_sem, ByteArray.size_extract, ByteArray.size_append, Nat.min_self, Int.natCast_add] at c6b2z)
     replace H := Option.bind_eq_some_iff.mp H
     obtain ⟨t106, A70, H⟩ := H
     replace H : (if ((t103 ++ t104) ++ t105).size + t106.size ≤ 9223372036854775807 then (some (((t103 ++ t104) ++ t105) ++ t106)) else (none)) = some r := H
     have A7 := Aside0.mk A70
     clear A70
     by_cases c8 : ((t103 ++ t104) ++ t105).size + t106.size ≤ 9223372036854775807
     · rw [if_pos c8] at H
       have c8b0 := eq_true c8
       try have c8b0z := c8b0
       (try simp only [go_sem, ByteArray.size_extract, ByteArray.size_append, Nat.min_self, Int.natCast_add] at c8b0z)
       have c8b1 : decide (((t103 ++ t104) ++ t105).size + t106.size ≤ 9223372036854775807) = true := decide_eq_true c8
       try have c8b1z := c8b1
       (try simp only [go_sem, ByteArray.size_extract, ByteArray.size_append, Nat.min_self, Int.natCast_add] at c8b1z)
       try have c8b2 : (9223372036854775807 < ((t103 ++ t104) ++ t105).size + t106.size) = False := eq_false (Nat.not_lt.2 c8)
       try have c8b2z := c8b2
       (try simp only [go_sem, ByteArray.size_extract, ByteArray.size_append, Nat.min_self, Int.natCast_add] at c8b2z)
       obtain rfl := Option.some.inj H
       go_enter Tryd.func31, Tryd.ntmps31
       go_wp2_with (first | ((with_reducible refine gate_callee (f := 45) rfl ?_); refine goesL_ (some 5) rfl rfl Tryd.func45 (by kernel_rfl) rfl #[.string (⟨#[77]⟩ : ByteArray), .int .i64 (wrap64 (Int.tdiv a0 1000))] rfl ql ?_; (with_reducible refine (strings_Repeat.calls (⟨#[77]⟩ : ByteArray) (wrap64 (Int.tdiv a0 1000)) t103 _ A2.out).mono ?_); rintro e w9 ⟨rfl, hb⟩; refine ⟨_, rfl, ?_⟩; replace HB := qn HB hb; (try clear hb); (try clear hb2); (try clear hk); (try clear hi)) | ((with_reducible refine gate_callee (f := 46) rfl ?_); refine goesL_ (some 9) rfl rfl Tryd.func46 (by kernel_rfl) rfl #[.int .i64 (Int.tmod (wrap64 (Int.tdiv a0 100)) 10), .string (⟨#[67]⟩ : ByteArray), .string (⟨#[68]⟩ : ByteArray), .string (⟨#[77]⟩ : ByteArray)] rfl ql ?_; (with_reducible refine (digits_piece.calls (Int.tmod (wrap64 (Int.tdiv a0 100)) 10) (⟨#[67]⟩ : ByteArray) (⟨#[68]⟩ : ByteArray) (⟨#[77]⟩ : ByteArray) t104 _ A3.out).mono ?_); rintro e w10 ⟨rfl, hb⟩; refine ⟨_, rfl, ?_⟩; replace HB := qn HB hb; (try clear hb); (try clear hb2); (try clear hk); (try clear hi)) | ((with_reducible refine gate_callee (f := 46) rfl ?_); refine goesL_ (some 14) rfl rfl Tryd.func46 (by kernel_rfl) rfl #[.int .i64 (Int.tmod (wrap64 (Int.tdiv a0 10)) 10), .string (⟨#[88]⟩ : ByteArray), .string (⟨#[76]⟩ : ByteArray), .string (⟨#[67]⟩ : ByteArray)] rfl ql ?_; (with_reducible refine (digits_piece.calls (Int.tmod (wrap64 (Int.tdiv a0 10)) 10) (⟨#[88]⟩ : ByteArray) (⟨#[76]⟩ : ByteArray) (⟨#[67]⟩ : ByteArray) t105 _ A5.out).mono ?_); rintro e w11 ⟨rfl, hb⟩; refine ⟨_, rfl, ?_⟩; replace HB := qn HB hb; (try clear hb); (try clear hb2); (try clear hk); (try clear hi)) | ((with_reducible refine gate_callee (f := 46) rfl ?_); refine goesL_ (some 18) rfl rfl Tryd.func46 (by kernel_rfl) rfl #[.int .i64 (Int.tmod a0 10), .string (⟨#[73]⟩ : ByteArray), .string (⟨#[86]⟩ : ByteArray), .string (⟨#[88]⟩ : ByteArray)] rfl ql ?_; (with_reducible refine (digits_piece.calls (Int.tmod a0 10) (⟨#[73]⟩ : ByteArray) (⟨#[86]⟩ : ByteArray) (⟨#[88]⟩ : ByteArray) t106 _ A7.out).mono ?_); rintro e w12 ⟨rfl, hb⟩; refine ⟨_, rfl, ?_⟩; replace HB := qn HB hb; (try clear hb); (try clear hb2); (try clear hk); (try clear hi)))
       go_ret
       exact ⟨qe, qh HB⟩
     · rw [if_neg c8] at H
       exact absurd H (by simp)
   · rw [if_neg c6] at H
     exact absurd H (by simp)
 · rw [if_neg c4] at H
   exact absurd H (by simp)

def digits_Roman.j0 : Nat → Int → Bool → Bool → Option (ByteArray × Int)
 | 0, _, _, _ => none
 | k + 1, x0, x1, x11 => if x11 = true then (some ((⟨#[]⟩ : ByteArray), 82)) else (if x1 = true then ((digits_roman.f x0).bind fun t107 => ((strings_ToLower.f t107).bind fun t108 => (some (t108, 0)))) else ((digits_roman.f x0).bind fun t109 => (some (t109, 0))))
def digits_Roman.f (k : Nat) (a0 : Int) (a1 : Bool) : Option (ByteArray × Int) := if a0 < 1 then (digits_Roman.j0 k a0 a1 true) else (digits_Roman.j0 k a0 a1 (decide (a0 > 3999)))
theorem digits_Roman.mono_l : ∀ k, (∀ y0 y1 y2, LeO (digits_Roman.j0 k y0 y1 y2) (digits_Roman.j0 (k + 1) y0 y1 y2))
 | 0 => fun _ _ _ r h => by simp [digits_Roman.j0] at h
 | k + 1 => by
  have ih0 := digits_Roman.mono_l k
  · intro y0 y1 y2
    unfold digits_Roman.j0
    repeat' first
    | (with_reducible exact ih0 _ _ _)
    | (with_reducible exact LeO.refl _)
    | (with_reducible exact LeO.none _)
    | (with_reducible refine LeO.ite ?_ ?_)
    | (with_reducible refine LeO.bind ?_ (fun _ => ?_))
    | exact ih0 _ _ _
    | exact LeO.none _
    | refine LeO.ite ?_ ?_
    | refine LeO.bind ?_ (fun _ => ?_)
theorem digits_Roman.mono : ∀ a0 a1 k, LeO (digits_Roman.f k a0 a1) (digits_Roman.f (k + 1) a0 a1) := by
 intro a0 a1 k
 have ih0 := digits_Roman.mono_l k
 unfold digits_Roman.f
 repeat' first
  | (with_reducible exact ih0 _ _ _)
  | (with_reducible exact LeO.refl _)
  | (with_reducible exact LeO.none _)
  | (with_reducible refine LeO.ite ?_ ?_)
  | (with_reducible refine LeO.bind ?_ (fun _ => ?_))
  | exact ih0 _ _ _
  | exact LeO.none _
  | refine LeO.ite ?_ ?_
  | refine LeO.bind ?_ (fun _ => ?_)
set_option maxHeartbeats 8000000 in
set_option maxRecDepth 100000 in
theorem digits_Roman.calls (k : Nat) (a0 : Int) (a1 : Bool) (r1 : ByteArray) (r2 : Int) (w : World) (h : digits_Roman.f k a0 a1 = some (r1, r2)) :
 Calls Tryd.prog 15 #[.int .i64 a0, .bool a1] w fun e w' => e = .returned (.tuple #[.string r1, .int .i64 r2]) ∧ Below w.heap.size w w' := by
 have HB := Aside0.mk (Below.refl w.heap.size w)
 have H : (if a0 < 1 then (digits_Roman.j0 k a0 a1 true) else (digits_Roman.j0 k a0 a1 (decide (a0 > 3999)))) = some (r1, r2) := h
 clear h
 have HC3 := Aside0.mk H
 clear H
 go_enter Tryd.func15, Tryd.ntmps15
 go_upto_region 1 with (fail)
 go_cut [11] (fun v11 wc => ∃ (kq : Nat) (x11_2 : Bool), v11 = .bool x11_2 ∧ Aside0 (digits_Roman.j0 kq a0 a1 x11_2 = some (r1, r2)) ∧ Aside0 (kq ≤ k) ∧ Aside0 (Below w.heap.size w wc))
 case first =>
  have H := HC3.out
  clear HC3
  by_cases c4 : a0 < 1
  · rw [if_pos c4] at H
    have c4b0 : decide (a0 < 1) = true := decide_eq_true c4
    clear c4
    (first | rw [c4b0] | (simp only [i64_w, i32_w]; rw [c4b0]) | skip)
    have H' := Aside0.mk H
    clear H
    go_wp2
    go_meet
    case rel => exact ⟨_, (true), (by first | rfl | (simp; done) | (simp [*]; done)), H', ⟨by first | omega | exact Nat.le_refl _⟩, ⟨qh HB⟩⟩
  · rw [if_neg c4] at H
    have c4b0 : decide (a0 < 1) = false := decide_eq_false c4
    clear c4
    (first | rw [c4b0] | (simp only [i64_w, i32_w]; rw [c4b0]) | skip)
    have H' := Aside0.mk H
    clear H
    go_wp2
    go_meet
    case rel => exact ⟨_, (decide (a0 > 3999)), (by first | rfl | (simp; done) | (simp [*]; done)), H', ⟨by first | omega | exact Nat.le_refl _⟩, ⟨qh HB⟩⟩
 case rest =>
  clear HC3
  try clear c1
  try clear p2
  try clear c4
  try clear c4b0
  obtain ⟨kq, x11_2, rfl, HA, HJ2, HB⟩ := hcut
  cases kq with
  | zero => exact absurd HA.out (by simp [digits_Roman.j0])
  | succ kj2 =>
   have H := HA.out
   clear HA
   simp only [digits_Roman.j0] at H
   by_cases c5 : x11_2 = true
   · subst c5
     have H1 : (some ((⟨#[]⟩ : ByteArray), 82)) = some (r1, r2) := by rw [if_pos rfl] at H; exact H
     clear H
     have H := H1
     clear H1
     simp only [Option.some.injEq, Prod.mk.injEq] at H
     obtain ⟨rfl, rfl⟩ := H
     go_wp2
     go_ret2
     exact ⟨qe, qh HB⟩
   · replace c5 := Bool.eq_false_iff.mpr c5
     subst c5
     have H1 : (if a1 = true then ((digits_roman.f a0).bind fun t107 => ((strings_ToLower.f t107).bind fun t108 => (some (t108, 0)))) else ((digits_roman.f a0).bind fun t109 => (some (t109, 0)))) = some (r1, r2) := by rw [if_neg (show ¬ (false = true) by decide)] at H; exact H
     clear H
     have H := H1
     clear H1
     by_cases c6 : a1 = true
     · subst c6
       have H1 : ((digits_roman.f a0).bind fun t107 => ((strings_ToLower.f t107).bind fun t108 => (some (t108, 0)))) = some (r1, r2) := by rw [if_pos rfl] at H; exact H
       clear H
       have H := H1
       clear H1
       replace H := Option.bind_eq_some_iff.mp H
       obtain ⟨t107, A70, H⟩ := H
       replace H : ((strings_ToLower.f t107).bind fun t108 => (some (t108, 0))) = some (r1, r2) := H
       have A7 := Aside0.mk A70
       clear A70
       replace H := Option.bind_eq_some_iff.mp H
       obtain ⟨t108, A80, H⟩ := H
       replace H : (some (t108, 0)) = some (r1, r2) := H
       have A8 := Aside0.mk A80
       clear A80
       simp only [Option.some.injEq, Prod.mk.injEq] at H
       obtain ⟨rfl, rfl⟩ := H
       go_wp2_with (first | ((with_reducible refine gate_callee (f := 31) rfl ?_); refine goesL_ (some 14) rfl rfl Tryd.func31 (by kernel_rfl) rfl #[.int .i64 a0] rfl ql ?_; (with_reducible refine (digits_roman.calls a0 t107 _ A7.out).mono ?_); rintro e w9 ⟨rfl, hb⟩; refine ⟨_, rfl, ?_⟩; replace HB := qn HB hb; (try clear hb); (try clear hb2); (try clear hk); (try clear hi)) | ((with_reducible refine gate_callee (f := 30) rfl ?_); refine goesL_ (some 15) rfl rfl Tryd.func30 (by kernel_rfl) rfl #[.string t107] rfl ql ?_; (with_reducible refine (strings_ToLower.calls t107 t108 _ A8.out).mono ?_); rintro e w10 ⟨rfl, hb⟩; refine ⟨_, rfl, ?_⟩; replace HB := qn HB hb; (try clear hb); (try clear hb2); (try clear hk); (try clear hi)))
       go_ret2
       exact ⟨qe, qh HB⟩
     · replace c6 := Bool.eq_false_iff.mpr c6
       subst c6
       have H1 : ((digits_roman.f a0).bind fun t109 => (some (t109, 0))) = some (r1, r2) := by rw [if_neg (show ¬ (false = true) by decide)] at H; exact H
       clear H
       have H := H1
       clear H1
       replace H := Option.bind_eq_some_iff.mp H
       obtain ⟨t109, A110, H⟩ := H
       replace H : (some (t109, 0)) = some (r1, r2) := H
       have A11 := Aside0.mk A110
       clear A110
       simp only [Option.some.injEq, Prod.mk.injEq] at H
       obtain ⟨rfl, rfl⟩ := H
       go_wp2_with (first | ((with_reducible refine gate_callee (f := 31) rfl ?_); refine goesL_ (some 17) rfl rfl Tryd.func31 (by kernel_rfl) rfl #[.int .i64 a0] rfl ql ?_; (with_reducible refine (digits_roman.calls a0 t109 _ A11.out).mono ?_); rintro e w12 ⟨rfl, hb⟩; refine ⟨_, rfl, ?_⟩; replace HB := qn HB hb; (try clear hb); (try clear hb2); (try clear hk); (try clear hi)))
       go_ret2
       exact ⟨qe, qh HB⟩

def idiomlaw08_awake.f (k : Nat)  : Option (Bool) := (digits_Render.f (⟨#[97, 114, 97, 98]⟩ : ByteArray) (⟨#[49, 48]⟩ : ByteArray)).bind fun bt110 => ((digits_Read.f (⟨#[108, 97, 116, 110]⟩ : ByteArray) (⟨#[49, 50, 32, 120]⟩ : ByteArray)).bind fun bt112 => ((digits_Roman.f k 1994 false).bind fun bt115 => (if bt110.1.toList = ([217, 161, 217, 160] : List UInt8) then (if bt110.2 = 0 then (if bt112.1.toList = ([49, 50] : List UInt8) then (if bt112.2.1 = 2 then (if bt112.2.2 = 0 then (if bt115.1.toList = ([77, 67, 77, 88, 67, 73, 86] : List UInt8) then (some (bt115.2 == 0)) else (some false)) else (some false)) else (some false)) else (some false)) else (some false)) else (some false))))
theorem idiomlaw08_awake.mono : ∀ k, LeO (idiomlaw08_awake.f k ) (idiomlaw08_awake.f (k + 1) ) := by
 intro  k
 unfold idiomlaw08_awake.f
 repeat' first
  | (with_reducible exact digits_Roman.mono _ _ _)
  | (with_reducible exact LeO.refl _)
  | (with_reducible exact LeO.none _)
  | (with_reducible refine LeO.ite ?_ ?_)
  | (with_reducible refine LeO.bind ?_ (fun _ => ?_))
  | exact digits_Roman.mono _ _ _
  | exact LeO.none _
  | refine LeO.ite ?_ ?_
  | refine LeO.bind ?_ (fun _ => ?_)
set_option maxHeartbeats 8000000 in
set_option maxRecDepth 100000 in
theorem idiomlaw08_awake.calls (k : Nat)  (r : Bool) (w : World) (h : idiomlaw08_awake.f k  = some r) (hG_ : Stray.Tabs w) :
 Calls Tryd.prog 12 #[] w fun e w' => e = .returned (.bool r) ∧ Below w.heap.size w w' := by
 have HG := Aside0.mk hG_
 clear hG_
 have HB := Aside0.mk (Below.refl w.heap.size w)
 have H : ((digits_Render.f (⟨#[97, 114, 97, 98]⟩ : ByteArray) (⟨#[49, 48]⟩ : ByteArray)).bind fun bt110 => ((digits_Read.f (⟨#[108, 97, 116, 110]⟩ : ByteArray) (⟨#[49, 50, 32, 120]⟩ : ByteArray)).bind fun bt112 => ((digits_Roman.f k 1994 false).bind fun bt115 => (if bt110.1.toList = ([217, 161, 217, 160] : List UInt8) then (if bt110.2 = 0 then (if bt112.1.toList = ([49, 50] : List UInt8) then (if bt112.2.1 = 2 then (if bt112.2.2 = 0 then (if bt115.1.toList = ([77, 67, 77, 88, 67, 73, 86] : List UInt8) then (some (bt115.2 == 0)) else (some false)) else (some false)) else (some false)) else (some false)) else (some false)) else (some false))))) = some r := h
 clear h
 replace H := Option.bind_eq_some_iff.mp H
 obtain ⟨⟨t110, t111⟩, A10, H⟩ := H
 replace H : ((digits_Read.f (⟨#[108, 97, 116, 110]⟩ : ByteArray) (⟨#[49, 50, 32, 120]⟩ : ByteArray)).bind fun bt112 => ((digits_Roman.f k 1994 false).bind fun bt115 => (if t110.toList = ([217, 161, 217, 160] : List UInt8) then (if t111 = 0 then (if bt112.1.toList = ([49, 50] : List UInt8) then (if bt112.2.1 = 2 then (if bt112.2.2 = 0 then (if bt115.1.toList = ([77, 67, 77, 88, 67, 73, 86] : List UInt8) then (some (bt115.2 == 0)) else (some false)) else (some false)) else (some false)) else (some false)) else (some false)) else (some false)))) = some r := H
 have A1 := Aside0.mk A10
 clear A10
 replace H := Option.bind_eq_some_iff.mp H
 obtain ⟨⟨t112, t113, t114⟩, A20, H⟩ := H
 replace H : ((digits_Roman.f k 1994 false).bind fun bt115 => (if t110.toList = ([217, 161, 217, 160] : List UInt8) then (if t111 = 0 then (if t112.toList = ([49, 50] : List UInt8) then (if t113 = 2 then (if t114 = 0 then (if bt115.1.toList = ([77, 67, 77, 88, 67, 73, 86] : List UInt8) then (some (bt115.2 == 0)) else (some false)) else (some false)) else (some false)) else (some false)) else (some false)) else (some false))) = some r := H
 have A2 := Aside0.mk A20
 clear A20
 replace H := Option.bind_eq_some_iff.mp H
 obtain ⟨⟨t115, t116⟩, A30, H⟩ := H
 replace H : (if t110.toList = ([217, 161, 217, 160] : List UInt8) then (if t111 = 0 then (if t112.toList = ([49, 50] : List UInt8) then (if t113 = 2 then (if t114 = 0 then (if t115.toList = ([77, 67, 77, 88, 67, 73, 86] : List UInt8) then (some (t116 == 0)) else (some false)) else (some false)) else (some false)) else (some false)) else (some false)) else (some false)) = some r := H
 have A3 := Aside0.mk A30
 clear A30
 by_cases c4 : t110.toList = ([217, 161, 217, 160] : List UInt8)
 · rw [if_pos c4] at H
   have c4b0 : (t110.toList == ([217, 161, 217, 160] : List UInt8)) = true := beq_iff_eq.mpr c4
   have c4b1 : (t110.toList != ([217, 161, 217, 160] : List UInt8)) = false := bne_eq_false_iff_eq.mpr c4
   clear c4
   by_cases c5 : t111 = 0
   · rw [if_pos c5] at H
     have c5b0 : (t111 == 0) = true := beq_iff_eq.mpr c5
     have c5b1 : (t111 != 0) = false := bne_eq_false_iff_eq.mpr c5
     try have c5b1z := c5b1
     (try simp only [bne] at c5b1z)
     clear c5
     by_cases c6 : t112.toList = ([49, 50] : List UInt8)
     · rw [if_pos c6] at H
       have c6b0 : (t112.toList == ([49, 50] : List UInt8)) = true := beq_iff_eq.mpr c6
       have c6b1 : (t112.toList != ([49, 50] : List UInt8)) = false := bne_eq_false_iff_eq.mpr c6
       clear c6
       by_cases c7 : t113 = 2
       · rw [if_pos c7] at H
         have c7b0 : (t113 == 2) = true := beq_iff_eq.mpr c7
         have c7b1 : (t113 != 2) = false := bne_eq_false_iff_eq.mpr c7
         try have c7b1z := c7b1
         (try simp only [bne] at c7b1z)
         clear c7
         by_cases c8 : t114 = 0
         · rw [if_pos c8] at H
           have c8b0 : (t114 == 0) = true := beq_iff_eq.mpr c8
           have c8b1 : (t114 != 0) = false := bne_eq_false_iff_eq.mpr c8
           try have c8b1z := c8b1
           (try simp only [bne] at c8b1z)
           clear c8
           by_cases c9 : t115.toList = ([77, 67, 77, 88, 67, 73, 86] : List UInt8)
           · rw [if_pos c9] at H
             have c9b0 : (t115.toList == ([77, 67, 77, 88, 67, 73, 86] : List UInt8)) = true := beq_iff_eq.mpr c9
             have c9b1 : (t115.toList != ([77, 67, 77, 88, 67, 73, 86] : List UInt8)) = false := bne_eq_false_iff_eq.mpr c9
             clear c9
             obtain rfl := Option.some.inj H
             go_enter Tryd.func12, Tryd.ntmps12
             go_wp2_with (first | ((with_reducible refine gate_callee (f := 10) rfl ?_); refine goesL_ (some 9) rfl rfl Tryd.func10 (by kernel_rfl) rfl #[.string (⟨#[97, 114, 97, 98]⟩ : ByteArray), .string (⟨#[49, 48]⟩ : ByteArray)] rfl ql ?_; (with_reducible refine (digits_Render.calls (⟨#[97, 114, 97, 98]⟩ : ByteArray) (⟨#[49, 48]⟩ : ByteArray) t110 t111 _ A1.out).mono ?_); rintro e w10 ⟨rfl, hb⟩; refine ⟨_, rfl, ?_⟩; replace HB := qn HB hb; (try clear hb); (try clear hb2); (try clear hk); (try clear hi)) | ((with_reducible refine gate_callee (f := 13) rfl ?_); refine goesL_ (some 13) rfl rfl Tryd.func13 (by kernel_rfl) rfl #[.string (⟨#[108, 97, 116, 110]⟩ : ByteArray), .string (⟨#[49, 50, 32, 120]⟩ : ByteArray)] rfl ql ?_; (with_reducible refine (digits_Read.calls (⟨#[108, 97, 116, 110]⟩ : ByteArray) (⟨#[49, 50, 32, 120]⟩ : ByteArray) t112 t113 t114 _ A2.out (by first | exact HG.out | exact HG.out.below HB.out | exact HG.out.below (pw_below_drewN HB.out _) | exact HG.out.below (below_drew HB.out) | exact HG.out.below (by assumption))).mono ?_); rintro e w11 ⟨rfl, hb⟩; refine ⟨_, rfl, ?_⟩; replace HB := qn HB hb; (try clear hb); (try clear hb2); (try clear hk); (try clear hi)) | ((with_reducible refine gate_callee (f := 15) rfl ?_); refine goesL_ (some 18) rfl rfl Tryd.func15 (by kernel_rfl) rfl #[.int .i64 1994, .bool false] rfl ql ?_; (with_reducible refine (digits_Roman.calls k 1994 false t115 t116 _ A3.out).mono ?_); rintro e w12 ⟨rfl, hb⟩; refine ⟨_, rfl, ?_⟩; replace HB := qn HB hb; (try clear hb); (try clear hb2); (try clear hk); (try clear hi)))
             go_ret
             exact ⟨qe, qh HB⟩
           · rw [if_neg c9] at H
             have c9b0 : (t115.toList == ([77, 67, 77, 88, 67, 73, 86] : List UInt8)) = false := beq_eq_false_iff_ne.mpr c9
             have c9b1 : (t115.toList != ([77, 67, 77, 88, 67, 73, 86] : List UInt8)) = true := bne_iff_ne.mpr c9
             obtain rfl := Option.some.inj H
             go_enter Tryd.func12, Tryd.ntmps12
             go_wp2_with (first | ((with_reducible refine gate_callee (f := 10) rfl ?_); refine goesL_ (some 9) rfl rfl Tryd.func10 (by kernel_rfl) rfl #[.string (⟨#[97, 114, 97, 98]⟩ : ByteArray), .string (⟨#[49, 48]⟩ : ByteArray)] rfl ql ?_; (with_reducible refine (digits_Render.calls (⟨#[97, 114, 97, 98]⟩ : ByteArray) (⟨#[49, 48]⟩ : ByteArray) t110 t111 _ A1.out).mono ?_); rintro e w13 ⟨rfl, hb⟩; refine ⟨_, rfl, ?_⟩; replace HB := qn HB hb; (try clear hb); (try clear hb2); (try clear hk); (try clear hi)) | ((with_reducible refine gate_callee (f := 13) rfl ?_); refine goesL_ (some 13) rfl rfl Tryd.func13 (by kernel_rfl) rfl #[.string (⟨#[108, 97, 116, 110]⟩ : ByteArray), .string (⟨#[49, 50, 32, 120]⟩ : ByteArray)] rfl ql ?_; (with_reducible refine (digits_Read.calls (⟨#[108, 97, 116, 110]⟩ : ByteArray) (⟨#[49, 50, 32, 120]⟩ : ByteArray) t112 t113 t114 _ A2.out (by first | exact HG.out | exact HG.out.below HB.out | exact HG.out.below (pw_below_drewN HB.out _) | exact HG.out.below (below_drew HB.out) | exact HG.out.below (by assumption))).mono ?_); rintro e w14 ⟨rfl, hb⟩; refine ⟨_, rfl, ?_⟩; replace HB := qn HB hb; (try clear hb); (try clear hb2); (try clear hk); (try clear hi)) | ((with_reducible refine gate_callee (f := 15) rfl ?_); refine goesL_ (some 18) rfl rfl Tryd.func15 (by kernel_rfl) rfl #[.int .i64 1994, .bool false] rfl ql ?_; (with_reducible refine (digits_Roman.calls k 1994 false t115 t116 _ A3.out).mono ?_); rintro e w15 ⟨rfl, hb⟩; refine ⟨_, rfl, ?_⟩; replace HB := qn HB hb; (try clear hb); (try clear hb2); (try clear hk); (try clear hi)))
             go_ret
             exact ⟨qe, qh HB⟩
         · rw [if_neg c8] at H
           have c8b0 : (t114 == 0) = false := beq_eq_false_iff_ne.mpr c8
           have c8b1 : (t114 != 0) = true := bne_iff_ne.mpr c8
           try have c8b1z := c8b1
           (try simp only [bne] at c8b1z)
           obtain rfl := Option.some.inj H
           go_enter Tryd.func12, Tryd.ntmps12
           go_wp2_with (first | ((with_reducible refine gate_callee (f := 10) rfl ?_); refine goesL_ (some 9) rfl rfl Tryd.func10 (by kernel_rfl) rfl #[.string (⟨#[97, 114, 97, 98]⟩ : ByteArray), .string (⟨#[49, 48]⟩ : ByteArray)] rfl ql ?_; (with_reducible refine (digits_Render.calls (⟨#[97, 114, 97, 98]⟩ : ByteArray) (⟨#[49, 48]⟩ : ByteArray) t110 t111 _ A1.out).mono ?_); rintro e w16 ⟨rfl, hb⟩; refine ⟨_, rfl, ?_⟩; replace HB := qn HB hb; (try clear hb); (try clear hb2); (try clear hk); (try clear hi)) | ((with_reducible refine gate_callee (f := 13) rfl ?_); refine goesL_ (some 13) rfl rfl Tryd.func13 (by kernel_rfl) rfl #[.string (⟨#[108, 97, 116, 110]⟩ : ByteArray), .string (⟨#[49, 50, 32, 120]⟩ : ByteArray)] rfl ql ?_; (with_reducible refine (digits_Read.calls (⟨#[108, 97, 116, 110]⟩ : ByteArray) (⟨#[49, 50, 32, 120]⟩ : ByteArray) t112 t113 t114 _ A2.out (by first | exact HG.out | exact HG.out.below HB.out | exact HG.out.below (pw_below_drewN HB.out _) | exact HG.out.below (below_drew HB.out) | exact HG.out.below (by assumption))).mono ?_); rintro e w17 ⟨rfl, hb⟩; refine ⟨_, rfl, ?_⟩; replace HB := qn HB hb; (try clear hb); (try clear hb2); (try clear hk); (try clear hi)) | ((with_reducible refine gate_callee (f := 15) rfl ?_); refine goesL_ (some 18) rfl rfl Tryd.func15 (by kernel_rfl) rfl #[.int .i64 1994, .bool false] rfl ql ?_; (with_reducible refine (digits_Roman.calls k 1994 false t115 t116 _ A3.out).mono ?_); rintro e w18 ⟨rfl, hb⟩; refine ⟨_, rfl, ?_⟩; replace HB := qn HB hb; (try clear hb); (try clear hb2); (try clear hk); (try clear hi)))
           go_ret
           exact ⟨qe, qh HB⟩
       · rw [if_neg c7] at H
         have c7b0 : (t113 == 2) = false := beq_eq_false_iff_ne.mpr c7
         have c7b1 : (t113 != 2) = true := bne_iff_ne.mpr c7
         try have c7b1z := c7b1
         (try simp only [bne] at c7b1z)
         obtain rfl := Option.some.inj H
         go_enter Tryd.func12, Tryd.ntmps12
         go_wp2_with (first | ((with_reducible refine gate_callee (f := 10) rfl ?_); refine goesL_ (some 9) rfl rfl Tryd.func10 (by kernel_rfl) rfl #[.string (⟨#[97, 114, 97, 98]⟩ : ByteArray), .string (⟨#[49, 48]⟩ : ByteArray)] rfl ql ?_; (with_reducible refine (digits_Render.calls (⟨#[97, 114, 97, 98]⟩ : ByteArray) (⟨#[49, 48]⟩ : ByteArray) t110 t111 _ A1.out).mono ?_); rintro e w19 ⟨rfl, hb⟩; refine ⟨_, rfl, ?_⟩; replace HB := qn HB hb; (try clear hb); (try clear hb2); (try clear hk); (try clear hi)) | ((with_reducible refine gate_callee (f := 13) rfl ?_); refine goesL_ (some 13) rfl rfl Tryd.func13 (by kernel_rfl) rfl #[.string (⟨#[108, 97, 116, 110]⟩ : ByteArray), .string (⟨#[49, 50, 32, 120]⟩ : ByteArray)] rfl ql ?_; (with_reducible refine (digits_Read.calls (⟨#[108, 97, 116, 110]⟩ : ByteArray) (⟨#[49, 50, 32, 120]⟩ : ByteArray) t112 t113 t114 _ A2.out (by first | exact HG.out | exact HG.out.below HB.out | exact HG.out.below (pw_below_drewN HB.out _) | exact HG.out.below (below_drew HB.out) | exact HG.out.below (by assumption))).mono ?_); rintro e w20 ⟨rfl, hb⟩; refine ⟨_, rfl, ?_⟩; replace HB := qn HB hb; (try clear hb); (try clear hb2); (try clear hk); (try clear hi)) | ((with_reducible refine gate_callee (f := 15) rfl ?_); refine goesL_ (some 18) rfl rfl Tryd.func15 (by kernel_rfl) rfl #[.int .i64 1994, .bool false] rfl ql ?_; (with_reducible refine (digits_Roman.calls k 1994 false t115 t116 _ A3.out).mono ?_); rintro e w21 ⟨rfl, hb⟩; refine ⟨_, rfl, ?_⟩; replace HB := qn HB hb; (try clear hb); (try clear hb2); (try clear hk); (try clear hi)))
         go_ret
         exact ⟨qe, qh HB⟩
     · rw [if_neg c6] at H
       have c6b0 : (t112.toList == ([49, 50] : List UInt8)) = false := beq_eq_false_iff_ne.mpr c6
       have c6b1 : (t112.toList != ([49, 50] : List UInt8)) = true := bne_iff_ne.mpr c6
       obtain rfl := Option.some.inj H
       go_enter Tryd.func12, Tryd.ntmps12
       go_wp2_with (first | ((with_reducible refine gate_callee (f := 10) rfl ?_); refine goesL_ (some 9) rfl rfl Tryd.func10 (by kernel_rfl) rfl #[.string (⟨#[97, 114, 97, 98]⟩ : ByteArray), .string (⟨#[49, 48]⟩ : ByteArray)] rfl ql ?_; (with_reducible refine (digits_Render.calls (⟨#[97, 114, 97, 98]⟩ : ByteArray) (⟨#[49, 48]⟩ : ByteArray) t110 t111 _ A1.out).mono ?_); rintro e w22 ⟨rfl, hb⟩; refine ⟨_, rfl, ?_⟩; replace HB := qn HB hb; (try clear hb); (try clear hb2); (try clear hk); (try clear hi)) | ((with_reducible refine gate_callee (f := 13) rfl ?_); refine goesL_ (some 13) rfl rfl Tryd.func13 (by kernel_rfl) rfl #[.string (⟨#[108, 97, 116, 110]⟩ : ByteArray), .string (⟨#[49, 50, 32, 120]⟩ : ByteArray)] rfl ql ?_; (with_reducible refine (digits_Read.calls (⟨#[108, 97, 116, 110]⟩ : ByteArray) (⟨#[49, 50, 32, 120]⟩ : ByteArray) t112 t113 t114 _ A2.out (by first | exact HG.out | exact HG.out.below HB.out | exact HG.out.below (pw_below_drewN HB.out _) | exact HG.out.below (below_drew HB.out) | exact HG.out.below (by assumption))).mono ?_); rintro e w23 ⟨rfl, hb⟩; refine ⟨_, rfl, ?_⟩; replace HB := qn HB hb; (try clear hb); (try clear hb2); (try clear hk); (try clear hi)) | ((with_reducible refine gate_callee (f := 15) rfl ?_); refine goesL_ (some 18) rfl rfl Tryd.func15 (by kernel_rfl) rfl #[.int .i64 1994, .bool false] rfl ql ?_; (with_reducible refine (digits_Roman.calls k 1994 false t115 t116 _ A3.out).mono ?_); rintro e w24 ⟨rfl, hb⟩; refine ⟨_, rfl, ?_⟩; replace HB := qn HB hb; (try clear hb); (try clear hb2); (try clear hk); (try clear hi)))
       go_ret
       exact ⟨qe, qh HB⟩
   · rw [if_neg c5] at H
     have c5b0 : (t111 == 0) = false := beq_eq_false_iff_ne.mpr c5
     have c5b1 : (t111 != 0) = true := bne_iff_ne.mpr c5
     try have c5b1z := c5b1
     (try simp only [bne] at c5b1z)
     obtain rfl := Option.some.inj H
     go_enter Tryd.func12, Tryd.ntmps12
     go_wp2_with (first | ((with_reducible refine gate_callee (f := 10) rfl ?_); refine goesL_ (some 9) rfl rfl Tryd.func10 (by kernel_rfl) rfl #[.string (⟨#[97, 114, 97, 98]⟩ : ByteArray), .string (⟨#[49, 48]⟩ : ByteArray)] rfl ql ?_; (with_reducible refine (digits_Render.calls (⟨#[97, 114, 97, 98]⟩ : ByteArray) (⟨#[49, 48]⟩ : ByteArray) t110 t111 _ A1.out).mono ?_); rintro e w25 ⟨rfl, hb⟩; refine ⟨_, rfl, ?_⟩; replace HB := qn HB hb; (try clear hb); (try clear hb2); (try clear hk); (try clear hi)) | ((with_reducible refine gate_callee (f := 13) rfl ?_); refine goesL_ (some 13) rfl rfl Tryd.func13 (by kernel_rfl) rfl #[.string (⟨#[108, 97, 116, 110]⟩ : ByteArray), .string (⟨#[49, 50, 32, 120]⟩ : ByteArray)] rfl ql ?_; (with_reducible refine (digits_Read.calls (⟨#[108, 97, 116, 110]⟩ : ByteArray) (⟨#[49, 50, 32, 120]⟩ : ByteArray) t112 t113 t114 _ A2.out (by first | exact HG.out | exact HG.out.below HB.out | exact HG.out.below (pw_below_drewN HB.out _) | exact HG.out.below (below_drew HB.out) | exact HG.out.below (by assumption))).mono ?_); rintro e w26 ⟨rfl, hb⟩; refine ⟨_, rfl, ?_⟩; replace HB := qn HB hb; (try clear hb); (try clear hb2); (try clear hk); (try clear hi)) | ((with_reducible refine gate_callee (f := 15) rfl ?_); refine goesL_ (some 18) rfl rfl Tryd.func15 (by kernel_rfl) rfl #[.int .i64 1994, .bool false] rfl ql ?_; (with_reducible refine (digits_Roman.calls k 1994 false t115 t116 _ A3.out).mono ?_); rintro e w27 ⟨rfl, hb⟩; refine ⟨_, rfl, ?_⟩; replace HB := qn HB hb; (try clear hb); (try clear hb2); (try clear hk); (try clear hi)))
     go_ret
     exact ⟨qe, qh HB⟩
 · rw [if_neg c4] at H
   have c4b0 : (t110.toList == ([217, 161, 217, 160] : List UInt8)) = false := beq_eq_false_iff_ne.mpr c4
   have c4b1 : (t110.toList != ([217, 161, 217, 160] : List UInt8)) = true := bne_iff_ne.mpr c4
   obtain rfl := Option.some.inj H
   go_enter Tryd.func12, Tryd.ntmps12
   go_wp2_with (first | ((with_reducible refine gate_callee (f := 10) rfl ?_); refine goesL_ (some 9) rfl rfl Tryd.func10 (by kernel_rfl) rfl #[.string (⟨#[97, 114, 97, 98]⟩ : ByteArray), .string (⟨#[49, 48]⟩ : ByteArray)] rfl ql ?_; (with_reducible refine (digits_Render.calls (⟨#[97, 114, 97, 98]⟩ : ByteArray) (⟨#[49, 48]⟩ : ByteArray) t110 t111 _ A1.out).mono ?_); rintro e w28 ⟨rfl, hb⟩; refine ⟨_, rfl, ?_⟩; replace HB := qn HB hb; (try clear hb); (try clear hb2); (try clear hk); (try clear hi)) | ((with_reducible refine gate_callee (f := 13) rfl ?_); refine goesL_ (some 13) rfl rfl Tryd.func13 (by kernel_rfl) rfl #[.string (⟨#[108, 97, 116, 110]⟩ : ByteArray), .string (⟨#[49, 50, 32, 120]⟩ : ByteArray)] rfl ql ?_; (with_reducible refine (digits_Read.calls (⟨#[108, 97, 116, 110]⟩ : ByteArray) (⟨#[49, 50, 32, 120]⟩ : ByteArray) t112 t113 t114 _ A2.out (by first | exact HG.out | exact HG.out.below HB.out | exact HG.out.below (pw_below_drewN HB.out _) | exact HG.out.below (below_drew HB.out) | exact HG.out.below (by assumption))).mono ?_); rintro e w29 ⟨rfl, hb⟩; refine ⟨_, rfl, ?_⟩; replace HB := qn HB hb; (try clear hb); (try clear hb2); (try clear hk); (try clear hi)) | ((with_reducible refine gate_callee (f := 15) rfl ?_); refine goesL_ (some 18) rfl rfl Tryd.func15 (by kernel_rfl) rfl #[.int .i64 1994, .bool false] rfl ql ?_; (with_reducible refine (digits_Roman.calls k 1994 false t115 t116 _ A3.out).mono ?_); rintro e w30 ⟨rfl, hb⟩; refine ⟨_, rfl, ?_⟩; replace HB := qn HB hb; (try clear hb); (try clear hb2); (try clear hk); (try clear hi)))
   go_ret
   exact ⟨qe, qh HB⟩

def digits_Systems.f : Option (List ByteArray) := some Sys8.names
theorem digits_Systems.calls (l0 : List ByteArray) (w : World) (h : digits_Systems.f = some l0) :
 Calls Tryd.prog 36 #[] w fun e w' => ∃ v0_ : Value, e = .returned (v0_) ∧ Kd.R Kd.string 9 w' w.heap.size (fun _ => True) v0_ l0 ∧ Below w.heap.size w w' := by
 obtain rfl := Option.some.inj h
 exact Sys8.calls w

end Go.Proofs.YtnkjeojhiligpaaDoor.G
namespace Go.Proofs.YtnkjeojhiligpaaDoor.G
open Go.RowKit Go.Proofs.YtnkjeojhiligpaaDoorW.PrintWords Go.Proofs.YtnkjeojhiligpaaDoorW.PrintLast Go.Proofs.YtnkjeojhiligpaaDoorW.PrintMore Go.Proofs.YtnkjeojhiligpaaDoor.Q
attribute [local go_sem] max2_int min2_int max_two min_two max_three min_three max_four min_four   -- for this text's walks alone
set_option linter.unusedVariables false
set_option linter.unusedSimpArgs false

def idiomlaw08_system.f (a0 : Int) : Option (ByteArray × Bool) := (digits_Systems.f).bind fun t117 => (if (t117.length : Int) = 0 then (some ((⟨#[]⟩ : ByteArray), false)) else (if (Int.tmod a0 (t117.length : Int)) < 0 then (if 0 ≤ (wrap64 ((Int.tmod a0 (t117.length : Int)) + (t117.length : Int))) then (if (wrap64 ((Int.tmod a0 (t117.length : Int)) + (t117.length : Int))) < (t117.length : Int) then (some (rdOf ByteArray.empty t117 (wrap64 ((Int.tmod a0 (t117.length : Int)) + (t117.length : Int))), true)) else (none)) else (none)) else (if 0 ≤ (Int.tmod a0 (t117.length : Int)) then (if (Int.tmod a0 (t117.length : Int)) < (t117.length : Int) then (some (rdOf ByteArray.empty t117 (Int.tmod a0 (t117.length : Int)), true)) else (none)) else (none))))
set_option maxHeartbeats 8000000 in
set_option maxRecDepth 100000 in
theorem idiomlaw08_system.calls (a0 : Int) (r1 : ByteArray) (r2 : Bool) (w : World) (h : idiomlaw08_system.f a0 = some (r1, r2)) :
 Calls Tryd.prog 20 #[.int .i64 a0] w fun e w' => e = .returned (.tuple #[.string r1, .bool r2]) ∧ Below w.heap.size w w' := by
 have HB := Aside0.mk (Below.refl w.heap.size w)
 have H : ((digits_Systems.f).bind fun t117 => (if (t117.length : Int) = 0 then (some ((⟨#[]⟩ : ByteArray), false)) else (if (Int.tmod a0 (t117.length : Int)) < 0 then (if 0 ≤ (wrap64 ((Int.tmod a0 (t117.length : Int)) + (t117.length : Int))) then (if (wrap64 ((Int.tmod a0 (t117.length : Int)) + (t117.length : Int))) < (t117.length : Int) then (some (rdOf ByteArray.empty t117 (wrap64 ((Int.tmod a0 (t117.length : Int)) + (t117.length : Int))), true)) else (none)) else (none)) else (if 0 ≤ (Int.tmod a0 (t117.length : Int)) then (if (Int.tmod a0 (t117.length : Int)) < (t117.length : Int) then (some (rdOf ByteArray.empty t117 (Int.tmod a0 (t117.length : Int)), true)) else (none)) else (none))))) = some (r1, r2) := h
 clear h
 replace H := Option.bind_eq_some_iff.mp H
 obtain ⟨t117, A20, H⟩ := H
 replace H : (if (t117.length : Int) = 0 then (some ((⟨#[]⟩ : ByteArray), false)) else (if (Int.tmod a0 (t117.length : Int)) < 0 then (if 0 ≤ (wrap64 ((Int.tmod a0 (t117.length : Int)) + (t117.length : Int))) then (if (wrap64 ((Int.tmod a0 (t117.length : Int)) + (t117.length : Int))) < (t117.length : Int) then (some (rdOf ByteArray.empty t117 (wrap64 ((Int.tmod a0 (t117.length : Int)) + (t117.length : Int))), true)) else (none)) else (none)) else (if 0 ≤ (Int.tmod a0 (t117.length : Int)) then (if (Int.tmod a0 (t117.length : Int)) < (t117.length : Int) then (some (rdOf ByteArray.empty t117 (Int.tmod a0 (t117.length : Int)), true)) else (none)) else (none)))) = some (r1, r2) := H
 have A2 := Aside0.mk A20
 clear A20
 by_cases c3 : (t117.length : Int) = 0
 · rw [if_pos c3] at H
   have c3b0 : ((t117.length : Int) == 0) = true := beq_iff_eq.mpr c3
   have c3b1 : ((t117.length : Int) != 0) = false := bne_eq_false_iff_eq.mpr c3
   try have c3b1z := c3b1
   (try simp only [bne] at c3b1z)
   clear c3
   simp only [Option.some.injEq, Prod.mk.injEq] at H
   obtain ⟨rfl, rfl⟩ := H
   go_enter Tryd.func20, Tryd.ntmps20
   go_wp2_with (first | ((with_reducible refine gate_callee (f := 36) rfl ?_); refine goesL_ (some 5) rfl rfl Tryd.func36 (by kernel_rfl) rfl #[] rfl ql ?_; (with_reducible refine (digits_Systems.calls  t117 _ A2.out).mono ?_); rintro e w4 ⟨v118, rfl, ho0, hb⟩; refine ⟨_, rfl, ?_⟩; have HO119 := Aside0.mk (Kd.R_lower ho0 (below_size (qh HB))); replace HB := qn HB hb; (try clear hb); (try clear hb2); (try clear hk); (try clear hi); (try clear ho0); obtain ⟨Ao5, co5, eo5⟩ := Kd.R_slice HO119.out; subst eo5))
   go_ret2
   exact ⟨qe, qh HB⟩
 · rw [if_neg c3] at H
   have c3b0 : ((t117.length : Int) == 0) = false := beq_eq_false_iff_ne.mpr c3
   have c3b1 : ((t117.length : Int) != 0) = true := bne_iff_ne.mpr c3
   try have c3b1z := c3b1
   (try simp only [bne] at c3b1z)
   have c3b2 : ¬ (t117 = []) := fun h_ => c3 (by rw [h_]; rfl)
   by_cases c6 : (Int.tmod a0 (t117.length : Int)) < 0
   · rw [if_pos c6] at H
     have c6b0 : decide ((Int.tmod a0 (t117.length : Int)) < 0) = true := decide_eq_true c6
     clear c6
     obtain ⟨ji7, hji7⟩ : ∃ j_ : Int, (wrap64 ((Int.tmod a0 (t117.length : Int)) + (t117.length : Int))) = j_ := ⟨_, rfl⟩
     replace H : (if 0 ≤ (ji7) then (if (ji7) < (t117.length : Int) then (some (rdOf ByteArray.empty t117 (ji7), true)) else (none)) else (none)) = some (r1, r2) := by first | (rw [hji7] at H; exact H) | (simp only [hji7] at H ⊢; exact H)
     (try rw [hji7] at A2)
     have hji7w : (IntKind.i64.wrap ((Int.tmod a0 (t117.length : Int)) + (t117.length : Int))) = ji7 := (i64_w _).trans hji7
     by_cases c8 : 0 ≤ (ji7)
     · rw [if_pos c8] at H
       have c8b0 : decide (0 ≤ (ji7)) = true := decide_eq_true c8
       clear c8
       by_cases c9 : (ji7) < (t117.length : Int)
       · rw [if_pos c9] at H
         have c9b0 : decide ((ji7) < (t117.length : Int)) = true := decide_eq_true c9
         clear c9
         simp only [Option.some.injEq, Prod.mk.injEq] at H
         obtain ⟨rfl, rfl⟩ := H
         go_enter Tryd.func20, Tryd.ntmps20
         go_wp2_with (first | ((with_reducible refine gate_callee (f := 36) rfl ?_); refine goesL_ (some 5) rfl rfl Tryd.func36 (by kernel_rfl) rfl #[] rfl ql ?_; (with_reducible refine (digits_Systems.calls  t117 _ A2.out).mono ?_); rintro e w10 ⟨v118, rfl, ho0, hb⟩; refine ⟨_, rfl, ?_⟩; have HO119 := Aside0.mk (Kd.R_lower ho0 (below_size (qh HB))); replace HB := qn HB hb; (try clear hb); (try clear hb2); (try clear hk); (try clear hi); (try clear ho0); obtain ⟨Ao11, co11, eo11⟩ := Kd.R_slice HO119.out; subst eo11; have p120 : 0 ≤ ((ji7) : Int) := of_decide_eq_true qa; have q120 : (ji7) < (t117.length : Int) := of_decide_eq_true qa; obtain ⟨ad120, e120, hx120_0⟩ := Kd.at_string (Kd.R_reads' HO119.out).2.2 (ji7) p120 q120; cases e120; replace p120 := eq_true p120; replace q120 := eq_true q120))
         go_ret2
         exact ⟨by first | rfl | (exact congrArg (fun b => Ending.returned (.bool b)) (Aid.bne_nil _)) | (exact congrArg (fun b => Ending.returned (.bool b)) (Aid.eq_nil _)) | (simp [errW_none, errW_some] <;> rfl) | (simp only [← hji7]; first | rfl | (simp [errW_none, errW_some] <;> rfl)) | (simp [*, errW_none, errW_some] <;> rfl), qh HB⟩
       · rw [if_neg c9] at H
         exact absurd H (by simp)
     · rw [if_neg c8] at H
       exact absurd H (by simp)
   · rw [if_neg c6] at H
     have c6b0 : decide ((Int.tmod a0 (t117.length : Int)) < 0) = false := decide_eq_false c6
     clear c6
     obtain ⟨ji12, hji12⟩ : ∃ j_ : Int, (Int.tmod a0 (t117.length : Int)) = j_ := ⟨_, rfl⟩
     replace H : (if 0 ≤ (ji12) then (if (ji12) < (t117.length : Int) then (some (rdOf ByteArray.empty t117 (ji12), true)) else (none)) else (none)) = some (r1, r2) := by first | (rw [hji12] at H; exact H) | (simp only [hji12] at H ⊢; exact H)
     (try rw [hji12] at c6b0)
     (try rw [hji12] at A2)
     by_cases c13 : 0 ≤ (ji12)
     · rw [if_pos c13] at H
       have c13b0 : decide (0 ≤ (ji12)) = true := decide_eq_true c13
       clear c13
       by_cases c14 : (ji12) < (t117.length : Int)
       · rw [if_pos c14] at H
         have c14b0 : decide ((ji12) < (t117.length : Int)) = true := decide_eq_true c14
         clear c14
         simp only [Option.some.injEq, Prod.mk.injEq] at H
         obtain ⟨rfl, rfl⟩ := H
         go_enter Tryd.func20, Tryd.ntmps20
         go_wp2_with (first | ((with_reducible refine gate_callee (f := 36) rfl ?_); refine goesL_ (some 5) rfl rfl Tryd.func36 (by kernel_rfl) rfl #[] rfl ql ?_; (with_reducible refine (digits_Systems.calls  t117 _ A2.out).mono ?_); rintro e w15 ⟨v118, rfl, ho0, hb⟩; refine ⟨_, rfl, ?_⟩; have HO119 := Aside0.mk (Kd.R_lower ho0 (below_size (qh HB))); replace HB := qn HB hb; (try clear hb); (try clear hb2); (try clear hk); (try clear hi); (try clear ho0); obtain ⟨Ao16, co16, eo16⟩ := Kd.R_slice HO119.out; subst eo16; have p121 : 0 ≤ ((ji12) : Int) := of_decide_eq_true qa; have q121 : (ji12) < (t117.length : Int) := of_decide_eq_true qa; obtain ⟨ad121, e121, hx121_0⟩ := Kd.at_string (Kd.R_reads' HO119.out).2.2 (ji12) p121 q121; cases e121; replace p121 := eq_true p121; replace q121 := eq_true q121))
         go_ret2
         exact ⟨by first | rfl | (exact congrArg (fun b => Ending.returned (.bool b)) (Aid.bne_nil _)) | (exact congrArg (fun b => Ending.returned (.bool b)) (Aid.eq_nil _)) | (simp [errW_none, errW_some] <;> rfl) | (simp only [← hji12]; first | rfl | (simp [errW_none, errW_some] <;> rfl)) | (simp [*, errW_none, errW_some] <;> rfl), qh HB⟩
       · rw [if_neg c14] at H
         exact absurd H (by simp)
     · rw [if_neg c13] at H
       exact absurd H (by simp)

def idiomlaw08_only.l0 : Nat → ByteArray → List Int → Int → Option (ByteArray)
 | 0, _, _, _ => none
 | k + 1, x0, x3, x4 => if x4 < (x0.size : Int) then (if 0 ≤ x4 then (if (bt x0 x4) ≥ 48 then (if (bt x0 x4) ≤ 57 then (if x3.length < 140737488355328 then (idiomlaw08_only.l0 k x0 (x3 ++ [bt x0 x4]) (wrap64 (x4 + 1))) else (none)) else (idiomlaw08_only.l0 k x0 x3 (wrap64 (x4 + 1)))) else (idiomlaw08_only.l0 k x0 x3 (wrap64 (x4 + 1)))) else (none)) else (some (strOfNums x3))
def idiomlaw08_only.f (k : Nat) (a0 : ByteArray) : Option (ByteArray) := idiomlaw08_only.l0 k a0 ([] : List Int) 0
theorem idiomlaw08_only.mono_l : ∀ k, (∀ y0 y1 y2, LeO (idiomlaw08_only.l0 k y0 y1 y2) (idiomlaw08_only.l0 (k + 1) y0 y1 y2))
 | 0 => fun _ _ _ r h => by simp [idiomlaw08_only.l0] at h
 | k + 1 => by
  have ih0 := idiomlaw08_only.mono_l k
  · intro y0 y1 y2
    unfold idiomlaw08_only.l0
    repeat' first
    | (with_reducible exact ih0 _ _ _)
    | (with_reducible exact LeO.refl _)
    | (with_reducible exact LeO.none _)
    | (with_reducible refine LeO.ite ?_ ?_)
    | (with_reducible refine LeO.bind ?_ (fun _ => ?_))
    | exact ih0 _ _ _
    | exact LeO.none _
    | refine LeO.ite ?_ ?_
    | refine LeO.bind ?_ (fun _ => ?_)
theorem idiomlaw08_only.mono : ∀ a0 k, LeO (idiomlaw08_only.f k a0) (idiomlaw08_only.f (k + 1) a0) := by
 intro a0 k
 have ih0 := idiomlaw08_only.mono_l k
 unfold idiomlaw08_only.f
 repeat' first
  | (with_reducible exact ih0 _ _ _)
  | (with_reducible exact LeO.refl _)
  | (with_reducible exact LeO.none _)
  | (with_reducible refine LeO.ite ?_ ?_)
  | (with_reducible refine LeO.bind ?_ (fun _ => ?_))
  | exact ih0 _ _ _
  | exact LeO.none _
  | refine LeO.ite ?_ ?_
  | refine LeO.bind ?_ (fun _ => ?_)
set_option maxHeartbeats 8000000 in
set_option maxRecDepth 100000 in
theorem idiomlaw08_only.calls (k : Nat) (a0 : ByteArray) (r : ByteArray) (w : World) (h : idiomlaw08_only.f k a0 = some r) :
 Calls Tryd.prog 21 #[.string a0] w fun e w' => e = .returned (.string r) ∧ Below w.heap.size w w' := by
 have HB := Aside0.mk (Below.refl w.heap.size w)
 have H : (idiomlaw08_only.l0 k a0 ([] : List Int) 0) = some r := h
 clear h
 have H' := Aside0.mk H
 clear H
 go_enter Tryd.func21, Tryd.ntmps21
 go_wp2
 (try simp only [Act.put, List.setIfInBounds_toArray, List.set_cons_zero, List.set_cons_succ])
 go_loopg [3, 4] k (fun kq v3 v4 w' => ∃ (x3_1 : List Int) (x4_1 : Int), v4 = .int .i64 x4_1 ∧ Aside0 (idiomlaw08_only.l0 kq a0 x3_1 x4_1 = some r) ∧ Aside0 (kq ≤ k) ∧ Aside0 (Kd.R (Kd.int .u8) 5 w' w.heap.size (fun _ => True) v3 x3_1) ∧ Aside0 (Below w.heap.size w w'))
 case atStart => exact ⟨(([] : List Int)), (0), (by first | rfl | (simp; done) | (simp [*]; done)), H', ⟨Nat.le_refl _⟩, ⟨by first | exact Kd.R_nil _ _ _ _ _ | exact Kd.N_nil _ _ _ _ _ | exact Kd.V_nil _ _ _ _ _ | exact Kd.Q_nil _ _ _ _ _ | exact Kd.S_nil _ _ _ _ _⟩, ⟨qh HB⟩⟩
 case round =>
  clear H'
  obtain ⟨x3_1, x4_1, rfl, HA, HK1, HO_3, HB⟩ := hrel
  cases gk with
  | zero => exact absurd HA.out (by simp [idiomlaw08_only.l0])
  | succ k1 =>
   have H := HA.out
   clear HA
   simp only [idiomlaw08_only.l0] at H
   by_cases c2 : x4_1 < (a0.size : Int)
   · rw [if_pos c2] at H
     have c2b0 : decide (x4_1 < (a0.size : Int)) = true := decide_eq_true c2
     clear c2
     by_cases c3 : 0 ≤ x4_1
     · rw [if_pos c3] at H
       have c3b0 : decide (0 ≤ x4_1) = true := decide_eq_true c3
       clear c3
       by_cases c5 : (bt a0 x4_1) ≥ 48
       · rw [if_pos c5] at H
         have c5b0 : decide (48 ≤ (bt a0 x4_1)) = true := decide_eq_true c5
         clear c5
         by_cases c7 : (bt a0 x4_1) ≤ 57
         · rw [if_pos c7] at H
           have c7b0 : decide ((bt a0 x4_1) ≤ 57) = true := decide_eq_true c7
           clear c7
           by_cases c9 : x3_1.length < 140737488355328
           · rw [if_pos c9] at H
             have LMc9 := Aside0.mk c9
             clear c9
             obtain ⟨y122, hy122⟩ : ∃ y_ : List Int, y_ = (x3_1 ++ [bt a0 x4_1]) := ⟨_, rfl⟩
             replace H : (idiomlaw08_only.l0 k1 a0 y122 (wrap64 (x4_1 + 1))) = some r := by first | (rw [hy122]; with_reducible exact H) | (have H2_ := (Option.bind_some _ _).symm.trans H; rw [hy122]; with_reducible exact H2_) | (have H2_ := (Option.bind_some _ _).symm.trans H; with_reducible exact H2_) | with_reducible exact H | (rw [hy122]; exact H) | exact H
             have Ny122 := Aside0.mk hy122
             clear hy122
             have H' := Aside0.mk H
             clear H
             have p4 : 0 ≤ (x4_1 : Int) := of_decide_eq_true qa
             have q4 : x4_1 < (a0.size : Int) := of_decide_eq_true qa
             have hx4 := bt_at a0 x4_1
             replace p4 := eq_true p4
             replace q4 := eq_true q4
             have p6 : 0 ≤ (x4_1 : Int) := of_decide_eq_true qa
             have q6 : x4_1 < (a0.size : Int) := of_decide_eq_true qa
             have hx6 := bt_at a0 x4_1
             replace p6 := eq_true p6
             replace q6 := eq_true q6
             have p8 : 0 ≤ (x4_1 : Int) := of_decide_eq_true qa
             have q8 : x4_1 < (a0.size : Int) := of_decide_eq_true qa
             have hx8 := bt_at a0 x4_1
             replace p8 := eq_true p8
             replace q8 := eq_true q8
             go_wp2_with (first | ((with_reducible refine gate_builtin (b := .append) (xs := #[.tmp 21, .tmp 25]) rfl ?_); at_builtin; refine Kd.R_append (Kd.int .u8) (w0 := w) w.heap.size rfl (.tmp 21) (.tmp 25) 43 5 (.int .u8 0) 1 rfl Tryd.underlying43 info5 rfl (by decide) (by omega) u3 x3_1 (bt a0 x4_1) [.int .u8 (bt a0 x4_1)] (fun _ => True) (fun _ => False) rfl rfl ?aP (fun _ hk => hk.elim) ?aF ?aO ?aB ?aS ?aL ?_; (case aP => exact rfl); (case aB => exact (qh HB)); (case aF => exact (fun _ _ => trivial)); (case aO => exact (by (with_reducible repeat (first | apply Kd.R_alloc | apply Kd.R_drewN | apply Kd.R_drew)); exact HO_3.out)); (case aS => exact (below_size (qh HB))); (case aL => have := LMc9.out; omega); intro v123 w10 ho hb hg hat; rw [← Ny122.out] at ho; have n0_ := Aside0.mk (hb); have n1_ := Aside0.mk (ho); clear HB; clear HO_3; have HB := n0_; have HO124 := n1_; clear n0_ n1_; clear ho hb hg hat))
             go_roundg k1
             case measure => have := HK1.out; omega
             case rel => exact ⟨(y122), (wrap64 (x4_1 + 1)), (by first | rfl | (simp; done) | (simp [*]; done)), H', ⟨by have := HK1.out; omega⟩, ⟨by (with_reducible repeat (first | apply Kd.R_alloc | apply Kd.R_drewN | apply Kd.R_drew)); exact HO124.out⟩, ⟨qh HB⟩⟩
           · rw [if_neg c9] at H
             exact absurd H (by simp)
         · rw [if_neg c7] at H
           have c7b0 : decide ((bt a0 x4_1) ≤ 57) = false := decide_eq_false c7
           clear c7
           have H' := Aside0.mk H
           clear H
           have p4 : 0 ≤ (x4_1 : Int) := of_decide_eq_true qa
           have q4 : x4_1 < (a0.size : Int) := of_decide_eq_true qa
           have hx4 := bt_at a0 x4_1
           replace p4 := eq_true p4
           replace q4 := eq_true q4
           have p6 : 0 ≤ (x4_1 : Int) := of_decide_eq_true qa
           have q6 : x4_1 < (a0.size : Int) := of_decide_eq_true qa
           have hx6 := bt_at a0 x4_1
           replace p6 := eq_true p6
           replace q6 := eq_true q6
           go_wp2
           go_roundg k1
           case measure => have := HK1.out; omega
           case rel => exact ⟨(x3_1), (wrap64 (x4_1 + 1)), (by first | rfl | (simp; done) | (simp [*]; done)), H', ⟨by have := HK1.out; omega⟩, ⟨by (with_reducible repeat (first | apply Kd.R_alloc | apply Kd.R_drewN | apply Kd.R_drew)); exact HO_3.out⟩, ⟨qh HB⟩⟩
       · rw [if_neg c5] at H
         have c5b0 : decide (48 ≤ (bt a0 x4_1)) = false := decide_eq_false c5
         clear c5
         have H' := Aside0.mk H
         clear H
         have p4 : 0 ≤ (x4_1 : Int) := of_decide_eq_true qa
         have q4 : x4_1 < (a0.size : Int) := of_decide_eq_true qa
         have hx4 := bt_at a0 x4_1
         replace p4 := eq_true p4
         replace q4 := eq_true q4
         go_wp2
         go_roundg k1
         case measure => have := HK1.out; omega
         case rel => exact ⟨(x3_1), (wrap64 (x4_1 + 1)), (by first | rfl | (simp; done) | (simp [*]; done)), H', ⟨by have := HK1.out; omega⟩, ⟨by (with_reducible repeat (first | apply Kd.R_alloc | apply Kd.R_drewN | apply Kd.R_drew)); exact HO_3.out⟩, ⟨qh HB⟩⟩
     · rw [if_neg c3] at H
       exact absurd H (by simp)
   · rw [if_neg c2] at H
     have c2b0 : decide (x4_1 < (a0.size : Int)) = false := decide_eq_false c2
     clear c2
     obtain rfl := Option.some.inj H
     have hcv11 := own_string (P := Tryd.prog) Tryd.underlying43 Tryd.underlying5 Tryd.underlying9 (Kd.own_of_R HO_3.out)
     go_wp2
     go_ret
     exact ⟨qe, qh HB⟩

end Go.Proofs.YtnkjeojhiligpaaDoor.G
namespace Go.Proofs.YtnkjeojhiligpaaDoor.G
open Go.RowKit Go.Proofs.YtnkjeojhiligpaaDoorW.PrintWords Go.Proofs.YtnkjeojhiligpaaDoorW.PrintLast Go.Proofs.YtnkjeojhiligpaaDoorW.PrintMore Go.Proofs.YtnkjeojhiligpaaDoor.Q
attribute [local go_sem] max2_int min2_int max_two min_two max_three min_three max_four min_four   -- for this text's walks alone
set_option linter.unusedVariables false
set_option linter.unusedSimpArgs false

mutual
def idiomlaw08_DigitsUnlike.j0 : Nat → ByteArray → ByteArray → ByteArray → Bool → Option (Bool)
 | 0, _, _, _, _ => none
 | k + 1, x2, x7, x9, x35 => if x35 = true then (none) else ((idiomlaw08_only.f k x2).bind fun t147 => (if x7.toList = x9.toList then (idiomlaw08_DigitsUnlike.j1 k x7 x9 t147 true) else (idiomlaw08_DigitsUnlike.j1 k x7 x9 t147 (t147.toList == ([] : List UInt8)))))
def idiomlaw08_DigitsUnlike.j1 : Nat → ByteArray → ByteArray → ByteArray → Bool → Option (Bool)
 | 0, _, _, _, _ => none
 | k + 1, x7, x9, x11, x44 => if x44 = true then (some true) else (if (x11.size : Int) > 10000 then (if 0 ≤ 10000 then (if 10000 ≤ (x11.size : Int) then (idiomlaw08_DigitsUnlike.j2 k x7 x9 (x11.extract 0 10000)) else (none)) else (none)) else (idiomlaw08_DigitsUnlike.j2 k x7 x9 x11))
def idiomlaw08_DigitsUnlike.j2 : Nat → ByteArray → ByteArray → ByteArray → Option (Bool)
 | 0, _, _, _ => none
 | k + 1, x7, x9, x11 => (digits_Render.f x7 x11).bind fun bt148 => ((digits_Render.f x9 x11).bind fun bt150 => (if bt148.2 = 0 then (if bt150.2 = 0 then (idiomlaw08_DigitsUnlike.j3 k x7 x9 bt148.1 bt150.1 (bt148.1.toList == bt150.1.toList)) else (idiomlaw08_DigitsUnlike.j3 k x7 x9 bt148.1 bt150.1 true)) else (idiomlaw08_DigitsUnlike.j3 k x7 x9 bt148.1 bt150.1 true)))
def idiomlaw08_DigitsUnlike.j3 : Nat → ByteArray → ByteArray → ByteArray → ByteArray → Bool → Option (Bool)
 | 0, _, _, _, _, _ => none
 | k + 1, x7, x9, x12, x14, x72 => if x72 = true then (none) else ((digits_Read.f x7 x14).bind fun bt152 => ((digits_Read.f x9 x12).bind fun bt155 => (if bt152.2.2 = 81 then (some (bt155.2.2 == 81)) else (none))))
end
def idiomlaw08_DigitsUnlike.f (k : Nat) (a0 : Int) (a1 : Int) (a2 : ByteArray) : Option (Bool) := (idiomlaw08_system.f a0).bind fun bt142 => ((idiomlaw08_system.f a1).bind fun bt144 => (if bt142.2 = true then (if bt144.2 = true then ((idiomlaw08_awake.f k).bind fun t146 => (idiomlaw08_DigitsUnlike.j0 k a2 bt142.1 bt144.1 (!t146))) else (idiomlaw08_DigitsUnlike.j0 k a2 bt142.1 bt144.1 true)) else (idiomlaw08_DigitsUnlike.j0 k a2 bt142.1 bt144.1 true)))
theorem idiomlaw08_DigitsUnlike.mono_l : ∀ k, (∀ y0 y1 y2 y3, LeO (idiomlaw08_DigitsUnlike.j0 k y0 y1 y2 y3) (idiomlaw08_DigitsUnlike.j0 (k + 1) y0 y1 y2 y3)) ∧ (∀ y0 y1 y2 y3, LeO (idiomlaw08_DigitsUnlike.j1 k y0 y1 y2 y3) (idiomlaw08_DigitsUnlike.j1 (k + 1) y0 y1 y2 y3)) ∧ (∀ y0 y1 y2, LeO (idiomlaw08_DigitsUnlike.j2 k y0 y1 y2) (idiomlaw08_DigitsUnlike.j2 (k + 1) y0 y1 y2)) ∧ (∀ y0 y1 y2 y3 y4, LeO (idiomlaw08_DigitsUnlike.j3 k y0 y1 y2 y3 y4) (idiomlaw08_DigitsUnlike.j3 (k + 1) y0 y1 y2 y3 y4))
 | 0 => ⟨fun _ _ _ _ r h => by simp [idiomlaw08_DigitsUnlike.j0] at h, fun _ _ _ _ r h => by simp [idiomlaw08_DigitsUnlike.j1] at h, fun _ _ _ r h => by simp [idiomlaw08_DigitsUnlike.j2] at h, fun _ _ _ _ _ r h => by simp [idiomlaw08_DigitsUnlike.j3] at h⟩
 | k + 1 => by
  obtain ⟨ih0, ih1, ih2, ih3⟩ := idiomlaw08_DigitsUnlike.mono_l k
  refine ⟨?_, ?_, ?_, ?_⟩
  · intro y0 y1 y2 y3
    unfold idiomlaw08_DigitsUnlike.j0
    repeat' first
    | (with_reducible exact ih0 _ _ _ _)
    | (with_reducible exact ih1 _ _ _ _)
    | (with_reducible exact ih2 _ _ _)
    | (with_reducible exact ih3 _ _ _ _ _)
    | (with_reducible exact idiomlaw08_awake.mono _)
    | (with_reducible exact idiomlaw08_only.mono _ _)
    | (with_reducible exact LeO.refl _)
    | (with_reducible exact LeO.none _)
    | (with_reducible refine LeO.ite ?_ ?_)
    | (with_reducible refine LeO.bind ?_ (fun _ => ?_))
    | exact ih0 _ _ _ _
    | exact ih1 _ _ _ _
    | exact ih2 _ _ _
    | exact ih3 _ _ _ _ _
    | exact idiomlaw08_awake.mono _
    | exact idiomlaw08_only.mono _ _
    | exact LeO.none _
    | refine LeO.ite ?_ ?_
    | refine LeO.bind ?_ (fun _ => ?_)
  · intro y0 y1 y2 y3
    unfold idiomlaw08_DigitsUnlike.j1
    repeat' first
    | (with_reducible exact ih0 _ _ _ _)
    | (with_reducible exact ih1 _ _ _ _)
    | (with_reducible exact ih2 _ _ _)
    | (with_reducible exact ih3 _ _ _ _ _)
    | (with_reducible exact idiomlaw08_awake.mono _)
    | (with_reducible exact idiomlaw08_only.mono _ _)
    | (with_reducible exact LeO.refl _)
    | (with_reducible exact LeO.none _)
    | (with_reducible refine LeO.ite ?_ ?_)
    | (with_reducible refine LeO.bind ?_ (fun _ => ?_))
    | exact ih0 _ _ _ _
    | exact ih1 _ _ _ _
    | exact ih2 _ _ _
    | exact ih3 _ _ _ _ _
    | exact idiomlaw08_awake.mono _
    | exact idiomlaw08_only.mono _ _
    | exact LeO.none _
    | refine LeO.ite ?_ ?_
    | refine LeO.bind ?_ (fun _ => ?_)
  · intro y0 y1 y2
    unfold idiomlaw08_DigitsUnlike.j2
    repeat' first
    | (with_reducible exact ih0 _ _ _ _)
    | (with_reducible exact ih1 _ _ _ _)
    | (with_reducible exact ih2 _ _ _)
    | (with_reducible exact ih3 _ _ _ _ _)
    | (with_reducible exact idiomlaw08_awake.mono _)
    | (with_reducible exact idiomlaw08_only.mono _ _)
    | (with_reducible exact LeO.refl _)
    | (with_reducible exact LeO.none _)
    | (with_reducible refine LeO.ite ?_ ?_)
    | (with_reducible refine LeO.bind ?_ (fun _ => ?_))
    | exact ih0 _ _ _ _
    | exact ih1 _ _ _ _
    | exact ih2 _ _ _
    | exact ih3 _ _ _ _ _
    | exact idiomlaw08_awake.mono _
    | exact idiomlaw08_only.mono _ _
    | exact LeO.none _
    | refine LeO.ite ?_ ?_
    | refine LeO.bind ?_ (fun _ => ?_)
  · intro y0 y1 y2 y3 y4
    unfold idiomlaw08_DigitsUnlike.j3
    repeat' first
    | (with_reducible exact ih0 _ _ _ _)
    | (with_reducible exact ih1 _ _ _ _)
    | (with_reducible exact ih2 _ _ _)
    | (with_reducible exact ih3 _ _ _ _ _)
    | (with_reducible exact idiomlaw08_awake.mono _)
    | (with_reducible exact idiomlaw08_only.mono _ _)
    | (with_reducible exact LeO.refl _)
    | (with_reducible exact LeO.none _)
    | (with_reducible refine LeO.ite ?_ ?_)
    | (with_reducible refine LeO.bind ?_ (fun _ => ?_))
    | exact ih0 _ _ _ _
    | exact ih1 _ _ _ _
    | exact ih2 _ _ _
    | exact ih3 _ _ _ _ _
    | exact idiomlaw08_awake.mono _
    | exact idiomlaw08_only.mono _ _
    | exact LeO.none _
    | refine LeO.ite ?_ ?_
    | refine LeO.bind ?_ (fun _ => ?_)
theorem idiomlaw08_DigitsUnlike.mono : ∀ a0 a1 a2 k, LeO (idiomlaw08_DigitsUnlike.f k a0 a1 a2) (idiomlaw08_DigitsUnlike.f (k + 1) a0 a1 a2) := by
 intro a0 a1 a2 k
 obtain ⟨ih0, ih1, ih2, ih3⟩ := idiomlaw08_DigitsUnlike.mono_l k
 unfold idiomlaw08_DigitsUnlike.f
 repeat' first
  | (with_reducible exact ih0 _ _ _ _)
  | (with_reducible exact ih1 _ _ _ _)
  | (with_reducible exact ih2 _ _ _)
  | (with_reducible exact ih3 _ _ _ _ _)
  | (with_reducible exact idiomlaw08_awake.mono _)
  | (with_reducible exact idiomlaw08_only.mono _ _)
  | (with_reducible exact LeO.refl _)
  | (with_reducible exact LeO.none _)
  | (with_reducible refine LeO.ite ?_ ?_)
  | (with_reducible refine LeO.bind ?_ (fun _ => ?_))
  | exact ih0 _ _ _ _
  | exact ih1 _ _ _ _
  | exact ih2 _ _ _
  | exact ih3 _ _ _ _ _
  | exact idiomlaw08_awake.mono _
  | exact idiomlaw08_only.mono _ _
  | exact LeO.none _
  | refine LeO.ite ?_ ?_
  | refine LeO.bind ?_ (fun _ => ?_)
set_option maxHeartbeats 8000000 in
set_option maxRecDepth 100000 in
theorem idiomlaw08_DigitsUnlike.calls (k : Nat) (a0 : Int) (a1 : Int) (a2 : ByteArray) (r : Bool) (w : World) (h : idiomlaw08_DigitsUnlike.f k a0 a1 a2 = some r) (hG_ : Stray.Tabs w) :
 Calls Tryd.prog 8 #[.int .i64 a0, .int .i64 a1, .string a2] w fun e w' => e = .returned (.bool r) ∧ Below w.heap.size w w' := by
 have HG := Aside0.mk hG_
 clear hG_
 have HB := Aside0.mk (Below.refl w.heap.size w)
 have H : ((idiomlaw08_system.f a0).bind fun bt142 => ((idiomlaw08_system.f a1).bind fun bt144 => (if bt142.2 = true then (if bt144.2 = true then ((idiomlaw08_awake.f k).bind fun t146 => (idiomlaw08_DigitsUnlike.j0 k a2 bt142.1 bt144.1 (!t146))) else (idiomlaw08_DigitsUnlike.j0 k a2 bt142.1 bt144.1 true)) else (idiomlaw08_DigitsUnlike.j0 k a2 bt142.1 bt144.1 true)))) = some r := h
 clear h
 replace H := Option.bind_eq_some_iff.mp H
 obtain ⟨⟨t142, t143⟩, A40, H⟩ := H
 replace H : ((idiomlaw08_system.f a1).bind fun bt144 => (if t143 = true then (if bt144.2 = true then ((idiomlaw08_awake.f k).bind fun t146 => (idiomlaw08_DigitsUnlike.j0 k a2 t142 bt144.1 (!t146))) else (idiomlaw08_DigitsUnlike.j0 k a2 t142 bt144.1 true)) else (idiomlaw08_DigitsUnlike.j0 k a2 t142 bt144.1 true))) = some r := H
 have A4 := Aside0.mk A40
 clear A40
 replace H := Option.bind_eq_some_iff.mp H
 obtain ⟨⟨t144, t145⟩, A50, H⟩ := H
 replace H : (if t143 = true then (if t145 = true then ((idiomlaw08_awake.f k).bind fun t146 => (idiomlaw08_DigitsUnlike.j0 k a2 t142 t144 (!t146))) else (idiomlaw08_DigitsUnlike.j0 k a2 t142 t144 true)) else (idiomlaw08_DigitsUnlike.j0 k a2 t142 t144 true)) = some r := H
 have A5 := Aside0.mk A50
 clear A50
 have HC6 := Aside0.mk H
 clear H
 go_enter Tryd.func8, Tryd.ntmps8
 go_upto_region 3 with (first | ((with_reducible refine gate_callee (f := 20) rfl ?_); refine goesL_ (some 18) rfl rfl Tryd.func20 (by kernel_rfl) rfl #[.int .i64 a0] rfl ql ?_; (with_reducible refine (idiomlaw08_system.calls a0 t142 t143 _ A4.out).mono ?_); rintro e w7 ⟨rfl, hb⟩; refine ⟨_, rfl, ?_⟩; replace HB := qn HB hb; (try clear hb); (try clear hb2); (try clear hk); (try clear hi)) | ((with_reducible refine gate_callee (f := 20) rfl ?_); refine goesL_ (some 23) rfl rfl Tryd.func20 (by kernel_rfl) rfl #[.int .i64 a1] rfl ql ?_; (with_reducible refine (idiomlaw08_system.calls a1 t144 t145 _ A5.out).mono ?_); rintro e w8 ⟨rfl, hb⟩; refine ⟨_, rfl, ?_⟩; replace HB := qn HB hb; (try clear hb); (try clear hb2); (try clear hk); (try clear hi)))
 (try simp only [Act.put, List.setIfInBounds_toArray, List.set_cons_zero, List.set_cons_succ])
 go_cut [35] (fun v35 wc => ∃ (kq : Nat) (x35_5 : Bool), v35 = .bool x35_5 ∧ Aside0 (idiomlaw08_DigitsUnlike.j0 kq a2 t142 t144 x35_5 = some r) ∧ Aside0 (kq ≤ k) ∧ Aside0 (Below w.heap.size w wc))
 case first =>
  have H := HC6.out
  clear HC6
  by_cases c9 : t143 = true
  · subst c9
    have H1 : (if t145 = true then ((idiomlaw08_awake.f k).bind fun t146 => (idiomlaw08_DigitsUnlike.j0 k a2 t142 t144 (!t146))) else (idiomlaw08_DigitsUnlike.j0 k a2 t142 t144 true)) = some r := by rw [if_pos rfl] at H; exact H
    clear H
    have H := H1
    clear H1
    by_cases c10 : t145 = true
    · subst c10
      have H1 : ((idiomlaw08_awake.f k).bind fun t146 => (idiomlaw08_DigitsUnlike.j0 k a2 t142 t144 (!t146))) = some r := by rw [if_pos rfl] at H; exact H
      clear H
      have H := H1
      clear H1
      replace H := Option.bind_eq_some_iff.mp H
      obtain ⟨t146, A110, H⟩ := H
      replace H : (idiomlaw08_DigitsUnlike.j0 k a2 t142 t144 (!t146)) = some r := H
      have A11 := Aside0.mk A110
      clear A110
      have H' := Aside0.mk H
      clear H
      go_wp2_with (first | (go_at_call 12; (with_reducible refine (idiomlaw08_awake.calls k  t146 _ A11.out (by first | exact HG.out | exact HG.out.below HB.out | exact HG.out.below (pw_below_drewN HB.out _) | exact HG.out.below (below_drew HB.out) | exact HG.out.below (by assumption))).mono ?_); rintro e w12 ⟨rfl, hb⟩; replace HB := qn HB hb; (try clear hb); (try clear hb2); (try clear hk); (try clear hi)))
      go_meet
      case rel => exact ⟨_, (!t146), (by first | rfl | (simp; done) | (simp [*]; done)), H', ⟨by first | omega | exact Nat.le_refl _⟩, ⟨qh HB⟩⟩
    · replace c10 := Bool.eq_false_iff.mpr c10
      subst c10
      have H1 : (idiomlaw08_DigitsUnlike.j0 k a2 t142 t144 true) = some r := by rw [if_neg (show ¬ (false = true) by decide)] at H; exact H
      clear H
      have H := H1
      clear H1
      have H' := Aside0.mk H
      clear H
      go_wp2
      go_meet
      case rel => exact ⟨_, (true), (by first | rfl | (simp; done) | (simp [*]; done)), H', ⟨by first | omega | exact Nat.le_refl _⟩, ⟨qh HB⟩⟩
  · replace c9 := Bool.eq_false_iff.mpr c9
    subst c9
    have H1 : (idiomlaw08_DigitsUnlike.j0 k a2 t142 t144 true) = some r := by rw [if_neg (show ¬ (false = true) by decide)] at H; exact H
    clear H
    have H := H1
    clear H1
    have H' := Aside0.mk H
    clear H
    go_wp2
    go_meet
    case rel => exact ⟨_, (true), (by first | rfl | (simp; done) | (simp [*]; done)), H', ⟨by first | omega | exact Nat.le_refl _⟩, ⟨qh HB⟩⟩
 case rest =>
  clear HC6
  try clear c1
  try clear c2
  try clear p2
  try clear c8
  try clear c9
  try clear c10
  obtain ⟨kq, x35_5, rfl, HA, HJ5, HB⟩ := hcut
  cases kq with
  | zero => exact absurd HA.out (by simp [idiomlaw08_DigitsUnlike.j0])
  | succ kj5 =>
   have H := HA.out
   clear HA
   simp only [idiomlaw08_DigitsUnlike.j0] at H
   by_cases c13 : x35_5 = true
   · subst c13
     have H1 : (none) = some r := by rw [if_pos rfl] at H; exact H
     clear H
     have H := H1
     clear H1
     exact absurd H (by simp)
   · replace c13 := Bool.eq_false_iff.mpr c13
     subst c13
     have H1 : ((idiomlaw08_only.f kj5 a2).bind fun t147 => (if t142.toList = t144.toList then (idiomlaw08_DigitsUnlike.j1 kj5 t142 t144 t147 true) else (idiomlaw08_DigitsUnlike.j1 kj5 t142 t144 t147 (t147.toList == ([] : List UInt8))))) = some r := by rw [if_neg (show ¬ (false = true) by decide)] at H; exact H
     clear H
     have H := H1
     clear H1
     replace H := Option.bind_eq_some_iff.mp H
     obtain ⟨t147, A140, H⟩ := H
     replace H : (if t142.toList = t144.toList then (idiomlaw08_DigitsUnlike.j1 kj5 t142 t144 t147 true) else (idiomlaw08_DigitsUnlike.j1 kj5 t142 t144 t147 (t147.toList == ([] : List UInt8)))) = some r := H
     have A14 := Aside0.mk A140
     clear A140
     have HC15 := Aside0.mk H
     clear H
     go_upto_region 6 with (first | ((with_reducible refine gate_callee (f := 21) rfl ?_); refine goesL_ (some 37) rfl rfl Tryd.func21 (by kernel_rfl) rfl #[.string a2] rfl ql ?_; (with_reducible refine (idiomlaw08_only.calls kj5 a2 t147 _ A14.out).mono ?_); rintro e w16 ⟨rfl, hb⟩; refine ⟨_, rfl, ?_⟩; replace HB := qn HB hb; (try clear hb); (try clear hb2); (try clear hk); (try clear hi)))
     (try simp only [Act.put, List.setIfInBounds_toArray, List.set_cons_zero, List.set_cons_succ])
     go_cut [44] (fun v44 wc => ∃ (kq : Nat) (x44_14 : Bool), v44 = .bool x44_14 ∧ Aside0 (idiomlaw08_DigitsUnlike.j1 kq t142 t144 t147 x44_14 = some r) ∧ Aside0 (kq ≤ kj5) ∧ Aside0 (Below w.heap.size w wc))
     case first =>
      have H := HC15.out
      clear HC15
      by_cases c17 : t142.toList = t144.toList
      · rw [if_pos c17] at H
        have c17b0 : (t142.toList == t144.toList) = true := beq_iff_eq.mpr c17
        have c17b1 : (t142.toList != t144.toList) = false := bne_eq_false_iff_eq.mpr c17
        clear c17
        (first | rw [c17b0] | (simp only [i64_w, i32_w]; rw [c17b0]) | skip)
        have H' := Aside0.mk H
        clear H
        go_wp2
        go_meet
        case rel => exact ⟨_, (true), (by first | rfl | (simp; done) | (simp [*]; done)), H', ⟨by have := HJ5.out; first | omega | exact Nat.le_refl _⟩, ⟨qh HB⟩⟩
      · rw [if_neg c17] at H
        have c17b0 : (t142.toList == t144.toList) = false := beq_eq_false_iff_ne.mpr c17
        have c17b1 : (t142.toList != t144.toList) = true := bne_iff_ne.mpr c17
        (first | rw [c17b0] | (simp only [i64_w, i32_w]; rw [c17b0]) | skip)
        have H' := Aside0.mk H
        clear H
        go_wp2
        go_meet
        case rel => exact ⟨_, ((t147.toList == ([] : List UInt8))), (by first | rfl | (simp; done) | (simp [*]; done)), H', ⟨by have := HJ5.out; first | omega | exact Nat.le_refl _⟩, ⟨qh HB⟩⟩
     case rest =>
      clear HC15
      try clear c1
      try clear c2
      try clear p2
      try clear c8
      try clear c9
      try clear c10
      try clear c13
      try clear c17
      try clear c17b0
      try clear c17b1
      try clear p2
      obtain ⟨kq, x44_14, rfl, HA, HJ14, HB⟩ := hcut
      cases kq with
      | zero => exact absurd HA.out (by simp [idiomlaw08_DigitsUnlike.j1])
      | succ kj14 =>
       have H := HA.out
       clear HA
       simp only [idiomlaw08_DigitsUnlike.j1] at H
       by_cases c18 : x44_14 = true
       · subst c18
         have H1 : (some true) = some r := by rw [if_pos rfl] at H; exact H
         clear H
         have H := H1
         clear H1
         obtain rfl := Option.some.inj H
         go_wp2
         go_ret
         exact ⟨qe, qh HB⟩
       · replace c18 := Bool.eq_false_iff.mpr c18
         subst c18
         have H1 : (if (t147.size : Int) > 10000 then (if 0 ≤ 10000 then (if 10000 ≤ (t147.size : Int) then (idiomlaw08_DigitsUnlike.j2 kj14 t142 t144 (t147.extract 0 10000)) else (none)) else (none)) else (idiomlaw08_DigitsUnlike.j2 kj14 t142 t144 t147)) = some r := by rw [if_neg (show ¬ (false = true) by decide)] at H; exact H
         clear H
         have H := H1
         clear H1
         have HC19 := Aside0.mk H
         clear H
         go_upto_if 47 with (fail)
         go_cut [11] (fun v11 wc => ∃ (kq : Nat) (x11_18 : ByteArray), v11 = .string x11_18 ∧ Aside0 (idiomlaw08_DigitsUnlike.j2 kq t142 t144 x11_18 = some r) ∧ Aside0 (kq ≤ kj14) ∧ Aside0 (Below w.heap.size w wc))
         case first =>
          have H := HC19.out
          clear HC19
          by_cases c20 : (t147.size : Int) > 10000
          · rw [if_pos c20] at H
            have c20b0 : decide (10000 < (t147.size : Int)) = true := decide_eq_true c20
            have c20b1 : decide (10000 < t147.size) = true := decide_eq_true (by omega)
            clear c20
            (first | rw [c20b0] | (simp only [i64_w, i32_w]; rw [c20b0]) | skip)
            by_cases c21 : 0 ≤ 10000
            · rw [if_pos c21] at H
              have c21b0 := eq_true c21
              have c21b1 : decide (0 ≤ 10000) = true := decide_eq_true c21
              clear c21
              by_cases c22 : 10000 ≤ (t147.size : Int)
              · rw [if_pos c22] at H
                have c22b0 := eq_true c22
                have c22b1 : decide (10000 ≤ (t147.size : Int)) = true := decide_eq_true c22
                clear c22
                have H' := Aside0.mk H
                clear H
                go_wp2
                go_meet
                case rel => exact ⟨_, (t147.extract 0 10000), (by first | rfl | (simp; done) | (simp [*]; done)), H', ⟨by have := HJ5.out; have := HJ14.out; first | omega | exact Nat.le_refl _⟩, ⟨qh HB⟩⟩
              · rw [if_neg c22] at H
                exact absurd H (by simp)
            · rw [if_neg c21] at H
              exact absurd H (by simp)
          · rw [if_neg c20] at H
            have c20b0 : decide (10000 < (t147.size : Int)) = false := decide_eq_false c20
            have c20b1 : decide (10000 < t147.size) = false := decide_eq_false (by omega)
            clear c20
            (first | rw [c20b0] | (simp only [i64_w, i32_w]; rw [c20b0]) | skip)
            have H' := Aside0.mk H
            clear H
            go_wp2
            go_meet
            case rel => exact ⟨_, (t147), (by first | rfl | (simp; done) | (simp [*]; done)), H', ⟨by have := HJ5.out; have := HJ14.out; first | omega | exact Nat.le_refl _⟩, ⟨qh HB⟩⟩
         case rest =>
          clear HC19
          try clear c1
          try clear c2
          try clear p2
          try clear c8
          try clear c9
          try clear c10
          try clear c13
          try clear c17
          try clear c17b0
          try clear c17b1
          try clear c18
          try clear c20
          try clear c20b0
          try clear c20b1
          try clear c21
          try clear c21b0
          try clear c21b1
          try clear c22
          try clear c22b0
          try clear c22b1
          try clear p2
          obtain ⟨kq, x11_18, rfl, HA, HJ18, HB⟩ := hcut
          cases kq with
          | zero => exact absurd HA.out (by simp [idiomlaw08_DigitsUnlike.j2])
          | succ kj18 =>
           have H := HA.out
           clear HA
           simp only [idiomlaw08_DigitsUnlike.j2] at H
           replace H := Option.bind_eq_some_iff.mp H
           obtain ⟨⟨t148, t149⟩, A230, H⟩ := H
           replace H : ((digits_Render.f t144 x11_18).bind fun bt150 => (if t149 = 0 then (if bt150.2 = 0 then (idiomlaw08_DigitsUnlike.j3 kj18 t142 t144 t148 bt150.1 (t148.toList == bt150.1.toList)) else (idiomlaw08_DigitsUnlike.j3 kj18 t142 t144 t148 bt150.1 true)) else (idiomlaw08_DigitsUnlike.j3 kj18 t142 t144 t148 bt150.1 true))) = some r := H
           have A23 := Aside0.mk A230
           clear A230
           replace H := Option.bind_eq_some_iff.mp H
           obtain ⟨⟨t150, t151⟩, A240, H⟩ := H
           replace H : (if t149 = 0 then (if t151 = 0 then (idiomlaw08_DigitsUnlike.j3 kj18 t142 t144 t148 t150 (t148.toList == t150.toList)) else (idiomlaw08_DigitsUnlike.j3 kj18 t142 t144 t148 t150 true)) else (idiomlaw08_DigitsUnlike.j3 kj18 t142 t144 t148 t150 true)) = some r := H
           have A24 := Aside0.mk A240
           clear A240
           have HC25 := Aside0.mk H
           clear H
           go_upto_region 12 with (first | ((with_reducible refine gate_callee (f := 10) rfl ?_); refine goesL_ (some 53) rfl rfl Tryd.func10 (by kernel_rfl) rfl #[.string t142, .string x11_18] rfl ql ?_; (with_reducible refine (digits_Render.calls t142 x11_18 t148 t149 _ A23.out).mono ?_); rintro e w26 ⟨rfl, hb⟩; refine ⟨_, rfl, ?_⟩; replace HB := qn HB hb; (try clear hb); (try clear hb2); (try clear hk); (try clear hi)) | ((with_reducible refine gate_callee (f := 10) rfl ?_); refine goesL_ (some 59) rfl rfl Tryd.func10 (by kernel_rfl) rfl #[.string t144, .string x11_18] rfl ql ?_; (with_reducible refine (digits_Render.calls t144 x11_18 t150 t151 _ A24.out).mono ?_); rintro e w27 ⟨rfl, hb⟩; refine ⟨_, rfl, ?_⟩; replace HB := qn HB hb; (try clear hb); (try clear hb2); (try clear hk); (try clear hi)))
           (try simp only [Act.put, List.setIfInBounds_toArray, List.set_cons_zero, List.set_cons_succ])
           go_cut [72] (fun v72 wc => ∃ (kq : Nat) (x72_24 : Bool), v72 = .bool x72_24 ∧ Aside0 (idiomlaw08_DigitsUnlike.j3 kq t142 t144 t148 t150 x72_24 = some r) ∧ Aside0 (kq ≤ kj18) ∧ Aside0 (Below w.heap.size w wc))
           case first =>
            have H := HC25.out
            clear HC25
            by_cases c28 : t149 = 0
            · rw [if_pos c28] at H
              have c28b0 : (t149 == 0) = true := beq_iff_eq.mpr c28
              have c28b1 : (t149 != 0) = false := bne_eq_false_iff_eq.mpr c28
              try have c28b1z := c28b1
              (try simp only [bne] at c28b1z)
              clear c28
              (first | rw [c28b0] | (simp only [i64_w, i32_w]; rw [c28b0]) | skip)
              by_cases c29 : t151 = 0
              · rw [if_pos c29] at H
                have c29b0 : (t151 == 0) = true := beq_iff_eq.mpr c29
                have c29b1 : (t151 != 0) = false := bne_eq_false_iff_eq.mpr c29
                try have c29b1z := c29b1
                (try simp only [bne] at c29b1z)
                clear c29
                have H' := Aside0.mk H
                clear H
                go_wp2
                go_meet
                case rel => exact ⟨_, ((t148.toList == t150.toList)), (by first | rfl | (simp; done) | (simp [*]; done)), H', ⟨by have := HJ5.out; have := HJ14.out; have := HJ18.out; first | omega | exact Nat.le_refl _⟩, ⟨qh HB⟩⟩
              · rw [if_neg c29] at H
                have c29b0 : (t151 == 0) = false := beq_eq_false_iff_ne.mpr c29
                have c29b1 : (t151 != 0) = true := bne_iff_ne.mpr c29
                try have c29b1z := c29b1
                (try simp only [bne] at c29b1z)
                have H' := Aside0.mk H
                clear H
                go_wp2
                go_meet
                case rel => exact ⟨_, (true), (by first | rfl | (simp; done) | (simp [*]; done)), H', ⟨by have := HJ5.out; have := HJ14.out; have := HJ18.out; first | omega | exact Nat.le_refl _⟩, ⟨qh HB⟩⟩
            · rw [if_neg c28] at H
              have c28b0 : (t149 == 0) = false := beq_eq_false_iff_ne.mpr c28
              have c28b1 : (t149 != 0) = true := bne_iff_ne.mpr c28
              try have c28b1z := c28b1
              (try simp only [bne] at c28b1z)
              (first | rw [c28b0] | (simp only [i64_w, i32_w]; rw [c28b0]) | skip)
              have H' := Aside0.mk H
              clear H
              go_wp2
              go_meet
              case rel => exact ⟨_, (true), (by first | rfl | (simp; done) | (simp [*]; done)), H', ⟨by have := HJ5.out; have := HJ14.out; have := HJ18.out; first | omega | exact Nat.le_refl _⟩, ⟨qh HB⟩⟩
           case rest =>
            clear HC25
            try clear c1
            try clear c2
            try clear p2
            try clear c8
            try clear c9
            try clear c10
            try clear c13
            try clear c17
            try clear c17b0
            try clear c17b1
            try clear c18
            try clear c20
            try clear c20b0
            try clear c20b1
            try clear c21
            try clear c21b0
            try clear c21b1
            try clear c22
            try clear c22b0
            try clear c22b1
            try clear c28
            try clear c28b0
            try clear c28b1
            try clear c29
            try clear c29b0
            try clear c29b1
            try clear p2
            obtain ⟨kq, x72_24, rfl, HA, HJ24, HB⟩ := hcut
            cases kq with
            | zero => exact absurd HA.out (by simp [idiomlaw08_DigitsUnlike.j3])
            | succ kj24 =>
             have H := HA.out
             clear HA
             simp only [idiomlaw08_DigitsUnlike.j3] at H
             by_cases c30 : x72_24 = true
             · subst c30
               have H1 : (none) = some r := by rw [if_pos rfl] at H; exact H
               clear H
               have H := H1
               clear H1
               exact absurd H (by simp)
             · replace c30 := Bool.eq_false_iff.mpr c30
               subst c30
               have H1 : ((digits_Read.f t142 t150).bind fun bt152 => ((digits_Read.f t144 t148).bind fun bt155 => (if bt152.2.2 = 81 then (some (bt155.2.2 == 81)) else (none)))) = some r := by rw [if_neg (show ¬ (false = true) by decide)] at H; exact H
               clear H
               have H := H1
               clear H1
               replace H := Option.bind_eq_some_iff.mp H
               obtain ⟨⟨t152, t153, t154⟩, A310, H⟩ := H
               replace H : ((digits_Read.f t144 t148).bind fun bt155 => (if t154 = 81 then (some (bt155.2.2 == 81)) else (none))) = some r := H
               have A31 := Aside0.mk A310
               clear A310
               replace H := Option.bind_eq_some_iff.mp H
               obtain ⟨⟨t155, t156, t157⟩, A320, H⟩ := H
               replace H : (if t154 = 81 then (some (t157 == 81)) else (none)) = some r := H
               have A32 := Aside0.mk A320
               clear A320
               by_cases c33 : t154 = 81
               · rw [if_pos c33] at H
                 have c33b0 : (t154 == 81) = true := beq_iff_eq.mpr c33
                 have c33b1 : (t154 != 81) = false := bne_eq_false_iff_eq.mpr c33
                 try have c33b1z := c33b1
                 (try simp only [bne] at c33b1z)
                 clear c33
                 obtain rfl := Option.some.inj H
                 go_wp2_with (first | ((with_reducible refine gate_callee (f := 13) rfl ?_); refine goesL_ (some 76) rfl rfl Tryd.func13 (by kernel_rfl) rfl #[.string t142, .string t150] rfl ql ?_; (with_reducible refine (digits_Read.calls t142 t150 t152 t153 t154 _ A31.out (by first | exact HG.out | exact HG.out.below HB.out | exact HG.out.below (pw_below_drewN HB.out _) | exact HG.out.below (below_drew HB.out) | exact HG.out.below (by assumption))).mono ?_); rintro e w34 ⟨rfl, hb⟩; refine ⟨_, rfl, ?_⟩; replace HB := qn HB hb; (try clear hb); (try clear hb2); (try clear hk); (try clear hi)) | ((with_reducible refine gate_callee (f := 13) rfl ?_); refine goesL_ (some 83) rfl rfl Tryd.func13 (by kernel_rfl) rfl #[.string t144, .string t148] rfl ql ?_; (with_reducible refine (digits_Read.calls t144 t148 t155 t156 t157 _ A32.out (by first | exact HG.out | exact HG.out.below HB.out | exact HG.out.below (pw_below_drewN HB.out _) | exact HG.out.below (below_drew HB.out) | exact HG.out.below (by assumption))).mono ?_); rintro e w35 ⟨rfl, hb⟩; refine ⟨_, rfl, ?_⟩; replace HB := qn HB hb; (try clear hb); (try clear hb2); (try clear hk); (try clear hi)))
                 go_ret
                 exact ⟨qe, qh HB⟩
               · rw [if_neg c33] at H
                 exact absurd H (by simp)

/-- THE ONE PURE STATEMENT of idiomlaw08_DigitsUnlike: yours. -/
def idiomlaw08_DigitsUnlike.Pure : Prop := ∀ (a0 : Int) (a1 : Int) (a2 : ByteArray), (Lit.int .i64 a0).wf = true → (Lit.int .i64 a1).wf = true → a2.size ≤ 140737488351232 → ∃ k, idiomlaw08_DigitsUnlike.f k a0 a1 a2 = some true
end Go.Proofs.YtnkjeojhiligpaaDoor.G
set_option linter.unusedVariables false
set_option linter.unusedSimpArgs false
namespace Go.Proofs.YtnkjeojhiligpaaDoor.Enc08
open Go.RowKit Go.Proofs.YtnkjeojhiligpaaDoor.Ten
theorem nat8 (z : Int) (h0 : 0 ≤ z) (h1 : z ≤ 255) : (z.toNat.toUInt8).toNat = z.toNat := by
  rw [Nat.toUInt8_eq, UInt8.toNat_ofNat']
  omega
/-- Decoded, an encoded rune comes back. -/
theorem dec_enc (r : Nat) (hv : r < 55296 ∨ 57344 ≤ r ∧ r ≤ 1114111) (l : List UInt8) : Lib.decodeL (Lib.encodeRune (r : Int) ++ l) = (r, (Lib.encodeRune (r : Int)).length) := by
  rw [Lib.decodeL_N]
  by_cases c1 : r ≤ 127
  · have e : Lib.encodeRune (r : Int) = [((r : Int)).toNat.toUInt8] := by unfold Lib.encodeRune; rw [Lib.encodeRuneZ_one (by omega) (by omega)]; rfl
    rw [e]
    simp only [List.cons_append, List.nil_append, List.getD_cons_zero, List.length_cons, List.length_nil]
    rw [nat8 _ (by omega) (by omega)]
    unfold Lib.decodeN
    rw [if_pos (by omega)]
    simp
  by_cases c2 : r ≤ 2047
  · have e : Lib.encodeRune (r : Int) = [(192 + (r : Int) / 64).toNat.toUInt8, (128 + (r : Int) % 64).toNat.toUInt8] := by unfold Lib.encodeRune; rw [Lib.encodeRuneZ_two (by omega) (by omega)]; rfl
    rw [e]
    simp only [List.cons_append, List.nil_append, List.getD_cons_zero, List.getD_cons_succ, List.length_cons, List.length_nil]
    rw [nat8 _ (by omega) (by omega), nat8 _ (by omega) (by omega)]
    unfold Lib.decodeN
    rw [if_neg (by omega), if_pos ⟨by omega, by omega, by omega⟩, if_pos (by omega)]
    refine Prod.ext ?_ rfl
    simp only []
    omega
  by_cases c3 : r ≤ 65535
  · have e : Lib.encodeRune (r : Int) = [(224 + (r : Int) / 4096).toNat.toUInt8, (128 + (r : Int) / 64 % 64).toNat.toUInt8, (128 + (r : Int) % 64).toNat.toUInt8] := by unfold Lib.encodeRune; rw [Lib.encodeRuneZ_three (by omega)]; rfl
    rw [e]
    simp only [List.cons_append, List.nil_append, List.getD_cons_zero, List.getD_cons_succ, List.length_cons, List.length_nil]
    rw [nat8 _ (by omega) (by omega), nat8 _ (by omega) (by omega), nat8 _ (by omega) (by omega)]
    unfold Lib.decodeN
    rw [if_neg (by omega), if_neg (by omega), if_pos ⟨by omega, ⟨by omega, by omega⟩, by omega, by omega⟩, if_pos (by omega)]
    refine Prod.ext ?_ rfl
    simp only []
    omega
  · have e : Lib.encodeRune (r : Int) = [(240 + (r : Int) / 262144).toNat.toUInt8, (128 + (r : Int) / 4096 % 64).toNat.toUInt8, (128 + (r : Int) / 64 % 64).toNat.toUInt8, (128 + (r : Int) % 64).toNat.toUInt8] := by unfold Lib.encodeRune; rw [Lib.encodeRuneZ_four (by omega) (by omega)]; rfl
    rw [e]
    simp only [List.cons_append, List.nil_append, List.getD_cons_zero, List.getD_cons_succ, List.length_cons, List.length_nil]
    rw [nat8 _ (by omega) (by omega), nat8 _ (by omega) (by omega), nat8 _ (by omega) (by omega), nat8 _ (by omega) (by omega)]
    unfold Lib.decodeN
    rw [if_neg (by omega), if_neg (by omega), if_neg (by omega), if_pos ⟨by omega, ⟨by omega, by omega⟩, ⟨by omega, by omega⟩, by omega, by omega⟩, if_pos (by omega)]
    refine Prod.ext ?_ rfl
    simp only []
    omega
theorem enc_pos (r : Int) : 0 < (Lib.encodeRune r).length := by
  unfold Lib.encodeRune Lib.encodeRuneZ
  repeat' split
  all_goals simp
theorem encode_eq (r : Nat) (hv : r < 55296 ∨ 57344 ≤ r ∧ r ≤ 1114111) : Utf8.encode (r : Int) = ⟨(Lib.encodeRune (r : Int)).toArray⟩ := by
  have hvalid : Utf8.valid (r : Int) = true := by
    unfold Utf8.valid
    simp
    omega
  unfold Utf8.encode
  simp only [hvalid, if_true, Int.toNat_natCast]
  by_cases c1 : r < 128
  · rw [if_pos c1]
    unfold Lib.encodeRune
    rw [Lib.encodeRuneZ_one (by omega) (by omega)]
    simp
  rw [if_neg c1]
  by_cases c2 : r < 2048
  · rw [if_pos c2]
    unfold Lib.encodeRune
    rw [Lib.encodeRuneZ_two (by omega) (by omega)]
    have e1 : (192 + (r : Int) / 64).toNat = 192 + r / 64 := by omega
    have e2 : (128 + (r : Int) % 64).toNat = 128 + r % 64 := by omega
    simp only [List.map_cons, List.map_nil, e1, e2]
    all_goals rfl
  rw [if_neg c2]
  by_cases c3 : r < 65536
  · rw [if_pos c3]
    unfold Lib.encodeRune
    rw [Lib.encodeRuneZ_three (by omega)]
    have e1 : (224 + (r : Int) / 4096).toNat = 224 + r / 4096 := by omega
    have e2 : (128 + (r : Int) / 64 % 64).toNat = 128 + r / 64 % 64 := by omega
    have e3 : (128 + (r : Int) % 64).toNat = 128 + r % 64 := by omega
    simp only [List.map_cons, List.map_nil, e1, e2, e3]
    all_goals rfl
  · rw [if_neg c3]
    unfold Lib.encodeRune
    rw [Lib.encodeRuneZ_four (by omega) (by omega)]
    have e1 : (240 + (r : Int) / 262144).toNat = 240 + r / 262144 := by omega
    have e2 : (128 + (r : Int) / 4096 % 64).toNat = 128 + r / 4096 % 64 := by omega
    have e3 : (128 + (r : Int) / 64 % 64).toNat = 128 + r / 64 % 64 := by omega
    have e4 : (128 + (r : Int) % 64).toNat = 128 + r % 64 := by omega
    simp only [List.map_cons, List.map_nil, e1, e2, e3, e4]
    all_goals rfl
/-- The rune of a system's digit. -/
def runeOf (z : Int) (h : ByteArray) (j : Nat) : Nat := if h = haniS then (hani j).toNat else z.toNat + j
theorem sys_ok2 : ∀ p ∈ Ten.sys, 0 ≤ p.2.1 ∧ (p.2.1 + 9 < 55296 ∨ 57344 ≤ p.2.1 ∧ p.2.1 + 9 ≤ 70000) := by decide
theorem hani_ok (j : Nat) (h : j < 10) : 0 ≤ hani j ∧ hani j < 55296 := by
  rcases (by omega : j = 0 ∨ j = 1 ∨ j = 2 ∨ j = 3 ∨ j = 4 ∨ j = 5 ∨ j = 6 ∨ j = 7 ∨ j = 8 ∨ j = 9) with rfl | rfl | rfl | rfl | rfl | rfl | rfl | rfl | rfl | rfl <;> exact ⟨by decide, by decide⟩
theorem rune_ok (name : ByteArray) (z : Int) (h : ByteArray) (hq : sysOf name Ten.sys = some (z, h)) (j : Nat) (hj : j < 10) : (runeOf z h j < 55296 ∨ 57344 ≤ runeOf z h j ∧ runeOf z h j ≤ 1114111) ∧ digs z h j = ⟨(Lib.encodeRune (runeOf z h j : Int)).toArray⟩ := by
  obtain ⟨s0, s1⟩ := sys_ok2 _ (sysOf_mem name z h Ten.sys hq)
  simp only [] at s0 s1
  obtain ⟨h0, h1⟩ := hani_ok j hj
  unfold runeOf digs
  by_cases c : h = haniS
  · rw [if_pos c, if_pos c]
    have hv : (hani j).toNat < 55296 ∨ 57344 ≤ (hani j).toNat ∧ (hani j).toNat ≤ 1114111 := .inl (by omega)
    refine ⟨hv, ?_⟩
    rw [← encode_eq _ hv]
    unfold haniD
    congr 1
    omega
  · rw [if_neg c, if_neg c]
    have hv : z.toNat + j < 55296 ∨ 57344 ≤ z.toNat + j ∧ z.toNat + j ≤ 1114111 := by omega
    refine ⟨hv, ?_⟩
    rw [← encode_eq _ hv]
    unfold plain
    congr 1
    omega
end Go.Proofs.YtnkjeojhiligpaaDoor.Enc08
set_option linter.unusedVariables false
set_option linter.unusedSimpArgs false
namespace Go.Proofs.YtnkjeojhiligpaaDoor.Dig08
open Go.RowKit Go.Proofs.YtnkjeojhiligpaaDoor.Ten Go.Proofs.YtnkjeojhiligpaaDoor.Enc08
/-- A digit's bytes. -/
def E (z : Int) (h : ByteArray) (j : Nat) : List UInt8 := Lib.encodeRune (runeOf z h j : Int)
def isD (b : UInt8) : Prop := 48 ≤ b.toNat ∧ b.toNat ≤ 57
def rendL (z : Int) (h : ByteArray) : List UInt8 → List UInt8
  | [] => []
  | b :: l => E z h (b.toNat - 48) ++ rendL z h l
def dl (s : ByteArray) (i : Nat) : List UInt8 := s.data.toList.drop i
theorem dl_cons (s : ByteArray) (i : Nat) (h : i < s.size) : dl s i = s.get! i :: dl s (i + 1) := by
  have hl : i < s.data.toList.length := by rw [Array.length_toList]; exact h
  unfold dl
  rw [List.drop_eq_getElem_cons hl]
  congr 1
  show s.data[i]'h = s.data[i]!
  exact (getElem!_pos s.data i h).symm
theorem dl_nil (s : ByteArray) (i : Nat) (h : s.size ≤ i) : dl s i = [] := by
  unfold dl
  exact List.drop_eq_nil_of_le (by rw [Array.length_toList]; exact h)
theorem dl_drop (s : ByteArray) (i n : Nat) : (dl s i).drop n = dl s (i + n) := by
  unfold dl
  rw [List.drop_drop]
theorem ext_list (s : ByteArray) (i n : Nat) : (s.extract i (i + n)).data.toList = (dl s i).take n := by
  unfold dl
  rw [ByteArray.data_extract, Array.toList_extract, List.extract_eq_take_drop]
  congr 1
  omega
theorem E_len (z : Int) (h : ByteArray) (j : Nat) : 1 ≤ (E z h j).length ∧ (E z h j).length ≤ 4 := by
  have h1 := enc_pos (runeOf z h j : Int)
  have h2 := Lib.runeCells_le (runeOf z h j : Int)
  rw [Lib.runeCells_length] at h2
  unfold E
  omega
theorem rendL_len (z : Int) (h : ByteArray) : ∀ l : List UInt8, l.length ≤ (rendL z h l).length ∧ (rendL z h l).length ≤ 4 * l.length
  | [] => by simp [rendL]
  | b :: l => by
    have h1 := rendL_len z h l
    have h2 := E_len z h (b.toNat - 48)
    simp only [rendL, List.length_append, List.length_cons]
    omega
theorem render_go (name : ByteArray) (z : Int) (h : ByteArray) (hq : sysOf name Ten.sys = some (z, h)) (s : ByteArray) (hs : ∀ b ∈ s.data.toList, isD b) : ∀ (fuel i : Nat) (acc : List UInt8), i ≤ s.size → s.size < i + fuel → Rend.go (tenC name).1 s fuel i acc = (⟨(acc ++ rendL z h (dl s i)).toArray⟩, 0) := by
  intro fuel
  induction fuel with
  | zero => intro i acc h1 h2; omega
  | succ fuel ih =>
    intro i acc h1 h2
    simp only [Rend.go]
    by_cases hi : i < s.size
    · have hm : s.get! i ∈ s.data.toList := by
        have e : s.get! i = s.data[i]'hi := getElem!_pos s.data i hi
        rw [e]
        exact Array.mem_toList_iff.2 (Array.getElem_mem hi)
      obtain ⟨d0, d1⟩ := hs _ hm
      have ht : (tenC name).1 ((s.get! i).toNat - 48) = digs z h ((s.get! i).toNat - 48) := by unfold tenC; rw [hq]
      have hc := (rune_ok name z h hq ((s.get! i).toNat - 48) (by omega)).2
      rw [if_pos hi, if_neg (by omega), ih (i + 1) _ (by omega) (by omega), dl_cons s i hi, ht, hc]
      simp only [rendL, List.append_assoc]
      rfl
    · rw [if_neg hi, dl_nil s i (by omega)]
      simp [rendL]
theorem render_f (name : ByteArray) (z : Int) (h : ByteArray) (hq : sysOf name Ten.sys = some (z, h)) (s : ByteArray) (hs : ∀ b ∈ s.data.toList, isD b) (hz : s.size ≤ 65536) : Rend.f name s = (⟨(rendL z h s.data.toList).toArray⟩, 0) := by
  have he : (tenC name).2 = 0 := by unfold tenC; rw [hq]
  unfold Rend.f
  rw [if_neg (by rw [he]; decide), if_neg (by omega), render_go name z h hq s hs (s.size + 1) 0 [] (by omega) (by omega)]
  rfl
/-- The first digits of a list, and how many bytes they have. -/
def idxL (z : Int) (h : ByteArray) (x : List UInt8) : Nat → Nat → Int
  | 0, _ => -1
  | k + 1, j => if x = E z h j then (j : Int) else idxL z h x k (j + 1)
def readL (z : Int) (h : ByteArray) : Nat → List UInt8 → List UInt8 × Nat
  | 0, _ => ([], 0)
  | k + 1, L => if L = [] then ([], 0) else if idxL z h (L.take (Lib.decodeL L).2) 10 0 < 0 then ([], 0)
    else ((48 + idxL z h (L.take (Lib.decodeL L).2) 10 0).toNat.toUInt8 :: (readL z h k (L.drop (Lib.decodeL L).2)).1, (Lib.decodeL L).2 + (readL z h k (L.drop (Lib.decodeL L).2)).2)
theorem idx_eq (name : ByteArray) (z : Int) (h : ByteArray) (hq : sysOf name Ten.sys = some (z, h)) (x : ByteArray) : ∀ k j, j + k = 10 → Read8.idx (tenC name).1 x k j = idxL z h x.data.toList k j
  | 0, _, _ => rfl
  | k + 1, j, hj => by
    have ht : (tenC name).1 j = digs z h j := by unfold tenC; rw [hq]
    have hc := (rune_ok name z h hq j (by omega)).2
    simp only [Read8.idx, idxL]
    have e : x = (tenC name).1 j ↔ x.data.toList = E z h j := by
      rw [ht, hc]
      constructor
      · intro hx; rw [hx]; unfold E; simp
      · intro hx; apply ByteArray.ext; apply Array.toList_inj.1; rw [hx]; unfold E; simp
    by_cases c : x = (tenC name).1 j
    · rw [if_pos c, if_pos (e.1 c)]
    · rw [if_neg c, if_neg (fun h' => c (e.2 h')), idx_eq name z h hq x k (j + 1) (by omega)]
theorem read_go (name : ByteArray) (z : Int) (h : ByteArray) (hq : sysOf name Ten.sys = some (z, h)) (s : ByteArray) : ∀ (fuel i : Nat) (acc : List UInt8), i ≤ s.size → s.size < i + fuel → Read8.go (tenC name).1 s fuel i acc = Read8.fin (i + (readL z h fuel (dl s i)).2) (acc ++ (readL z h fuel (dl s i)).1) := by
  intro fuel
  induction fuel with
  | zero => intro i acc h1 h2; omega
  | succ fuel ih =>
    intro i acc h1 h2
    simp only [Read8.go, readL]
    by_cases hi : i < s.size
    · have hne : dl s i ≠ [] := by rw [dl_cons s i hi]; simp
      have hf := Read8.fits s i hi
      have hd : Lib.decodeL (dl s i) = Utf8.decode s i := Lib.decodeL_drop s i
      have hw := Stray.width s i hi
      rw [if_pos hi, if_neg hne, idx_eq name z h hq _ 10 0 rfl, ext_list, hd]
      by_cases c : idxL z h ((dl s i).take (Utf8.decode s i).2) 10 0 < 0
      · rw [if_pos c, if_pos c]
        simp
      · rw [if_neg c, if_neg c, ih _ _ hf (by omega), dl_drop]
        simp [Nat.add_assoc, List.append_assoc]
    · rw [if_neg hi, dl_nil s i (by omega), if_pos rfl]
      simp
theorem read_f (name : ByteArray) (z : Int) (h : ByteArray) (hq : sysOf name Ten.sys = some (z, h)) (s : ByteArray) (hz : s.size ≤ 65536) : Read8.f name s = Read8.fin (readL z h (s.size + 1) s.data.toList).2 (readL z h (s.size + 1) s.data.toList).1 := by
  have he : (tenC name).2 = 0 := by unfold tenC; rw [hq]
  unfold Read8.f
  rw [if_neg (by rw [he]; decide), if_neg (by omega), read_go name z h hq s (s.size + 1) 0 [] (by omega) (by omega)]
  simp [dl]
theorem other_ok : (Ten.sys.all fun p => Ten.sys.all fun q => decide (p.1.data.toList = q.1.data.toList) || (List.range 10).all fun i => (List.range 10).all fun j => !(runeOf p.2.1 p.2.2 i == runeOf q.2.1 q.2.2 j)) = true := by kernel_rfl
theorem rune_apart (n1 n2 : ByteArray) (z1 z2 : Int) (h1 h2 : ByteArray) (q1 : sysOf n1 Ten.sys = some (z1, h1)) (q2 : sysOf n2 Ten.sys = some (z2, h2)) (hn : n1.data.toList ≠ n2.data.toList) (i j : Nat) (hi : i < 10) (hj : j < 10) : runeOf z1 h1 i ≠ runeOf z2 h2 j := by
  have a1 := List.all_eq_true.1 other_ok _ (sysOf_mem n1 z1 h1 Ten.sys q1)
  have a2 := List.all_eq_true.1 a1 _ (sysOf_mem n2 z2 h2 Ten.sys q2)
  rw [Bool.or_eq_true] at a2
  rcases a2 with a2 | a2
  · exact absurd (of_decide_eq_true a2) hn
  · have b1 := List.all_eq_true.1 a2 i (List.mem_range.2 hi)
    have b2 := List.all_eq_true.1 b1 j (List.mem_range.2 hj)
    simpa only [Bool.not_eq_true', beq_eq_false_iff_ne] using b2
theorem E_dec (name : ByteArray) (z : Int) (h : ByteArray) (hq : sysOf name Ten.sys = some (z, h)) (j : Nat) (hj : j < 10) (R : List UInt8) : Lib.decodeL (E z h j ++ R) = (runeOf z h j, (E z h j).length) := dec_enc _ (rune_ok name z h hq j hj).1 R
theorem E_inj (n1 n2 : ByteArray) (z1 z2 : Int) (h1 h2 : ByteArray) (q1 : sysOf n1 Ten.sys = some (z1, h1)) (q2 : sysOf n2 Ten.sys = some (z2, h2)) (i j : Nat) (hi : i < 10) (hj : j < 10) (he : E z1 h1 i = E z2 h2 j) : runeOf z1 h1 i = runeOf z2 h2 j := by
  have a := E_dec n1 z1 h1 q1 i hi []
  have b := E_dec n2 z2 h2 q2 j hj []
  rw [he, b] at a
  exact (Prod.ext_iff.1 a).1.symm
theorem idx_miss (z : Int) (h : ByteArray) (x : List UInt8) (hx : ∀ j, j < 10 → x ≠ E z h j) : ∀ k i, i + k = 10 → idxL z h x k i = -1
  | 0, i, h1 => rfl
  | k + 1, i, h1 => by
    simp only [idxL]
    rw [if_neg (hx i (by omega))]
    exact idx_miss z h x hx k (i + 1) (by omega)
theorem readL_stop (z : Int) (h : ByteArray) (R : List UInt8) (hR : R = [] ∨ idxL z h (R.take (Lib.decodeL R).2) 10 0 < 0) : ∀ k, readL z h k R = ([], 0)
  | 0 => rfl
  | k + 1 => by
    simp only [readL]
    rcases hR with hR | hR
    · rw [if_pos hR]
    · split
      · rfl
      · first | rfl | rw [if_pos hR]
/-- What another system has written is not read. -/
theorem miss (n1 n2 : ByteArray) (z1 z2 : Int) (h1 h2 : ByteArray) (q1 : sysOf n1 Ten.sys = some (z1, h1)) (q2 : sysOf n2 Ten.sys = some (z2, h2)) (hn : n1.data.toList ≠ n2.data.toList) (b : UInt8) (hb : isD b) (l : List UInt8) (k : Nat) : readL z1 h1 k (rendL z2 h2 (b :: l)) = ([], 0) := by
  have hj : b.toNat - 48 < 10 := by obtain ⟨a1, a2⟩ := hb; omega
  refine readL_stop z1 h1 _ (.inr ?_) k
  simp only [rendL]
  rw [E_dec n2 z2 h2 q2 _ hj]
  simp only [List.take_left]
  rw [idx_miss z1 h1 _ (fun j hj' he => rune_apart n1 n2 z1 z2 h1 h2 q1 q2 hn j _ hj' hj (E_inj n2 n1 z2 z1 h2 h1 q2 q1 _ j hj hj' he).symm) 10 0 rfl]
  decide
end Go.Proofs.YtnkjeojhiligpaaDoor.Dig08
set_option linter.unusedVariables false
set_option linter.unusedSimpArgs false
namespace Go.Proofs.YtnkjeojhiligpaaDoor.Sat08
open Go.RowKit Go.Proofs.YtnkjeojhiligpaaDoorW.PrintWords Go.Proofs.YtnkjeojhiligpaaDoorW.PrintLast Go.Proofs.YtnkjeojhiligpaaDoorW.PrintMore Go.Proofs.YtnkjeojhiligpaaDoor.G Go.Proofs.YtnkjeojhiligpaaDoor.Ten Go.Proofs.YtnkjeojhiligpaaDoor.Dig08
theorem Ev.some {α : Type} {g : Nat → Option α} {r : α} (h : ∀ k, g (k + 1) = some r) : Ev g r := Ev.step (f := fun _ => Option.some r) h (Ev.now r)
theorem w64 {x : Int} (h0 : -9223372036854775808 ≤ x) (h1 : x ≤ 9223372036854775807) : wrap64 x = x := by unfold wrap64; omega
theorem wr2 {x y : Int} (h : 0 ≤ x ∧ x ≤ 1000000000000000) (e : x = y) : wrap64 x = y := by rw [w64 (by omega) (by omega)]; exact e
theorem wfb {x : Int} (h : (Lit.int .i64 x).wf = true) : -9223372036854775808 ≤ x ∧ x ≤ 9223372036854775807 := (Lit.wf_int_iff .i64 x).1 h
theorem toL (l : Array UInt8) : (⟨l⟩ : ByteArray).toList = l.toList := by rw [ByteArray.toList_eq]
theorem toLd (l : ByteArray) : l.toList = l.data.toList := by rw [ByteArray.toList_eq]
theorem roman94 : digits_roman.f 1994 = some ⟨#[77, 67, 77, 88, 67, 73, 86]⟩ := by kernel_rfl
theorem awake_ev : Ev (fun k => idiomlaw08_awake.f k) true := by
  refine Ev.some fun k => ?_
  have r1 : digits_Render.f (⟨#[97, 114, 97, 98]⟩ : ByteArray) (⟨#[49, 48]⟩ : ByteArray) = some (⟨#[217, 161, 217, 160]⟩, 0) := by kernel_rfl
  have r2 : digits_Read.f (⟨#[108, 97, 116, 110]⟩ : ByteArray) (⟨#[49, 50, 32, 120]⟩ : ByteArray) = some (⟨#[49, 50]⟩, 2, 0) := by kernel_rfl
  have r3 : digits_Roman.f (k + 1) 1994 false = some (⟨#[77, 67, 77, 88, 67, 73, 86]⟩, 0) := by
    unfold digits_Roman.f
    rw [if_neg (by decide)]
    simp only [digits_Roman.j0]
    rw [if_neg (by decide), if_neg Bool.false_ne_true, roman94]
    rfl
  unfold idiomlaw08_awake.f
  rw [r1, r2, r3]
  simp only [Option.bind_some]
  rw [if_pos (by rw [toL]), if_pos trivial, if_pos (by rw [toL]), if_pos trivial, if_pos trivial, if_pos (by rw [toL])]
  rfl
theorem known : (Sys8.names.all fun n => (sysOf n Ten.sys).isSome) = true := by kernel_rfl
theorem at_known (i : Nat) (hi : i < 20) : ∃ z h, sysOf (rdOf ByteArray.empty Sys8.names (i : Int)) Ten.sys = some (z, h) := by
  have hl : i < Sys8.names.length := hi
  have e1 : rdOf ByteArray.empty Sys8.names (i : Int) = Sys8.names[i] := by
    unfold rdOf
    simp [List.getD, List.getElem?_eq_getElem hl]
  have h1 := List.all_eq_true.1 known _ (List.getElem_mem hl)
  rw [e1]
  obtain ⟨p, hp⟩ := Option.isSome_iff_exists.1 h1
  exact ⟨p.1, p.2, hp⟩
theorem system_ok (a : Int) (ha : -9223372036854775808 ≤ a ∧ a ≤ 9223372036854775807) : ∃ name z h, idiomlaw08_system.f a = some (name, true) ∧ sysOf name Ten.sys = some (z, h) := by
  have hl : ((Sys8.names.length : Nat) : Int) = 20 := rfl
  have e0 : digits_Systems.f = some Sys8.names := rfl
  unfold idiomlaw08_system.f
  rw [e0]
  simp only [Option.bind_some]
  rw [hl, if_neg (by decide)]
  have h1 : -20 < Int.tmod a 20 ∧ Int.tmod a 20 < 20 := by
    have e := Int.tmod_add_mul_tdiv a 20
    have e1 := Int.lt_tmod_of_pos a (b := 20) (by decide)
    have e2 := Int.tmod_lt_of_pos a (b := 20) (by decide)
    exact ⟨by omega, e2⟩
  generalize Int.tmod a 20 = m at h1 ⊢
  by_cases c : m < 0
  · obtain ⟨n, hn⟩ : ∃ n : Nat, m + 20 = (n : Int) := ⟨(m + 20).toNat, by omega⟩
    have w : wrap64 (m + 20) = (n : Int) := by rw [w64 (by omega) (by omega), hn]
    rw [if_pos c, w, if_pos (by omega), if_pos (by omega)]
    obtain ⟨z, h, hq⟩ := at_known n (by omega)
    exact ⟨_, z, h, rfl, hq⟩
  · obtain ⟨n, rfl⟩ : ∃ n : Nat, m = (n : Int) := ⟨m.toNat, by omega⟩
    rw [if_neg c, if_pos (by omega), if_pos (by omega)]
    obtain ⟨z, h, hq⟩ := at_known n (by omega)
    exact ⟨_, z, h, rfl, hq⟩
def dig (b : UInt8) : Bool := decide (48 ≤ b.toNat ∧ b.toNat ≤ 57)
def onlyL (l : List UInt8) : List UInt8 := l.filter dig
theorem only_isD (l : List UInt8) : ∀ b ∈ onlyL l, isD b := fun b hb => of_decide_eq_true (p := 48 ≤ b.toNat ∧ b.toNat ≤ 57) (List.mem_filter.1 hb).2
def ints (l : List UInt8) : List Int := l.map fun c => (c.toNat : Int)
theorem ints_length (l : List UInt8) : (ints l).length = l.length := by simp [ints]
theorem ints_snoc (a : List UInt8) (b : UInt8) : ints (a ++ [b]) = ints a ++ [(b.toNat : Int)] := by simp [ints]
theorem str_ints (l : List UInt8) : strOfNums (ints l) = ⟨l.toArray⟩ := by
  simp [strOfNums, ints, Function.comp_def]
theorem bt_nat (s : ByteArray) (i : Nat) (h : i < s.size) : bt s (i : Int) = ((s.get! i).toNat : Int) := by
  have h2 : ((i : Int)).toNat < s.size := by omega
  rw [← bt_at s (i : Int) h2]
  congr 1
  have e : s.get! i = s[i]'h := by
    show s.data[i]! = s.data[i]'h
    exact getElem!_pos s.data i h
  rw [e]
  congr 1
theorem only_loop (s : ByteArray) (hs : s.size ≤ 140737488351232) : ∀ (d i : Nat) (acc : List UInt8), i + d = s.size → acc.length ≤ i → Ev (fun k => idiomlaw08_only.l0 k s (ints acc) (i : Int)) ⟨(acc ++ onlyL (dl s i)).toArray⟩ := by
  intro d
  induction d with
  | zero =>
    intro i acc h1 h2
    refine Ev.some fun k => ?_
    simp only [idiomlaw08_only.l0]
    rw [if_neg (by omega), str_ints, dl_nil s i (by omega)]
    simp [onlyL]
  | succ d ih =>
    intro i acc h1 h2
    have hi : i < s.size := by omega
    have hL := ints_length acc
    have eb := bt_nat s i hi
    have w : wrap64 ((i : Int) + 1) = ((i + 1 : Nat) : Int) := wr2 (by omega) (by omega)
    have first : ∀ k, idiomlaw08_only.l0 (k + 1) s (ints acc) (i : Int) = if ((s.get! i).toNat : Int) ≥ 48 then (if ((s.get! i).toNat : Int) ≤ 57 then idiomlaw08_only.l0 k s (ints (acc ++ [s.get! i])) ((i + 1 : Nat) : Int) else idiomlaw08_only.l0 k s (ints acc) ((i + 1 : Nat) : Int)) else idiomlaw08_only.l0 k s (ints acc) ((i + 1 : Nat) : Int) := by
      intro k
      simp only [idiomlaw08_only.l0]
      rw [if_pos (by clear w; omega), if_pos (by clear w; omega), eb, w, ints_snoc, if_pos (show (ints acc).length < 140737488355328 by clear w; omega)]
    clear w
    refine Ev.step first ?_
    clear first eb
    rw [dl_cons s i hi]
    by_cases c1 : 48 ≤ (s.get! i).toNat
    · refine Ev.congr (fun k => if_pos (by omega)) ?_
      by_cases c2 : (s.get! i).toNat ≤ 57
      · refine Ev.congr (fun k => if_pos (by omega)) ?_
        have e : acc ++ onlyL (s.get! i :: dl s (i + 1)) = (acc ++ [s.get! i]) ++ onlyL (dl s (i + 1)) := by
          unfold onlyL
          rw [List.filter_cons_of_pos (show dig (s.get! i) = true from decide_eq_true (And.intro c1 c2)), List.append_assoc]
          rfl
        rw [e]
        exact ih (i + 1) _ (by omega) (by rw [List.length_append]; simp only [List.length_cons, List.length_nil]; omega)
      · refine Ev.congr (fun k => if_neg (by omega)) ?_
        have e : onlyL (s.get! i :: dl s (i + 1)) = onlyL (dl s (i + 1)) := by
          unfold onlyL
          rw [List.filter_cons_of_neg]
          unfold dig
          rw [decide_eq_true_eq]
          omega
        rw [e]
        exact ih (i + 1) _ (by omega) (by omega)
    · refine Ev.congr (fun k => if_neg (by omega)) ?_
      have e : onlyL (s.get! i :: dl s (i + 1)) = onlyL (dl s (i + 1)) := by
        unfold onlyL
        rw [List.filter_cons_of_neg]
        unfold dig
        rw [decide_eq_true_eq]
        omega
      rw [e]
      exact ih (i + 1) _ (by omega) (by omega)
theorem only_ev (s : ByteArray) (hs : s.size ≤ 140737488351232) : Ev (fun k => idiomlaw08_only.f k s) ⟨(onlyL s.data.toList).toArray⟩ := by
  have h := only_loop s hs s.size 0 [] (by omega) (by simp)
  unfold idiomlaw08_only.f
  exact h
theorem read_is (name s : ByteArray) (hs : s.size ≤ 140737488355328) : digits_Read.f name s = some (Read8.f name s) := if_pos hs
theorem render_is (name s : ByteArray) : digits_Render.f name s = some (Rend.f name s) := rfl
theorem mk_size (l : List UInt8) : (⟨l.toArray⟩ : ByteArray).size = l.length := by
  show l.toArray.size = l.length
  simp
theorem ext0 (l : List UInt8) (n : Nat) : (⟨l.toArray⟩ : ByteArray).extract 0 n = ⟨(l.take n).toArray⟩ := by
  apply ByteArray.ext
  rw [ByteArray.data_extract]
  apply Array.toList_inj.1
  rw [Array.toList_extract, List.extract_eq_take_drop]
  simp
theorem isD_take (l : List UInt8) (n : Nat) (hl : ∀ b ∈ l, isD b) : ∀ b ∈ l.take n, isD b := fun b hb => hl b (List.mem_of_mem_take hb)
end Go.Proofs.YtnkjeojhiligpaaDoor.Sat08
set_option linter.unusedVariables false
set_option linter.unusedSimpArgs false
namespace Go.Proofs.YtnkjeojhiligpaaDoor.DigitsUnlike
open Go.RowKit Go.Proofs.YtnkjeojhiligpaaDoorW.PrintWords Go.Proofs.YtnkjeojhiligpaaDoorW.PrintLast Go.Proofs.YtnkjeojhiligpaaDoorW.PrintMore Go.Proofs.YtnkjeojhiligpaaDoor.G Go.Proofs.YtnkjeojhiligpaaDoor.Ten Go.Proofs.YtnkjeojhiligpaaDoor.Dig08 Go.Proofs.YtnkjeojhiligpaaDoor.Sat08
theorem read_other (n1 n2 : ByteArray) (z1 z2 : Int) (h1 h2 : ByteArray) (q1 : sysOf n1 Ten.sys = some (z1, h1)) (q2 : sysOf n2 Ten.sys = some (z2, h2)) (hn : n1.data.toList ≠ n2.data.toList) (ds : List UInt8) (hd : ∀ b ∈ ds, isD b) (hl : ds.length ≤ 10000) (h0 : ds ≠ []) : digits_Read.f n1 ⟨(rendL z2 h2 ds).toArray⟩ = some (⟨#[]⟩, 0, 81) := by
  have hr := rendL_len z2 h2 ds
  have hsz : (⟨(rendL z2 h2 ds).toArray⟩ : ByteArray).size = (rendL z2 h2 ds).length := mk_size _
  rw [read_is n1 _ (by omega), read_f n1 z1 h1 q1 _ (by omega)]
  cases ds with
  | nil => exact absurd rfl h0
  | cons b l =>
    have m := miss n1 n2 z1 z2 h1 h2 q1 q2 hn b (hd b (List.mem_cons_self ..)) l
    show some (Read8.fin (readL z1 h1 ((⟨(rendL z2 h2 (b :: l)).toArray⟩ : ByteArray).size + 1) (rendL z2 h2 (b :: l))).2 (readL z1 h1 ((⟨(rendL z2 h2 (b :: l)).toArray⟩ : ByteArray).size + 1) (rendL z2 h2 (b :: l))).1) = _
    rw [m]
    rfl
theorem two (n1 n2 : ByteArray) (z1 z2 : Int) (h1 h2 : ByteArray) (q1 : sysOf n1 Ten.sys = some (z1, h1)) (q2 : sysOf n2 Ten.sys = some (z2, h2)) (hn : n1.data.toList ≠ n2.data.toList) (ds : List UInt8) (hd : ∀ b ∈ ds, isD b) (hl : ds.length ≤ 10000) (h0 : ds ≠ []) : Ev (fun k => idiomlaw08_DigitsUnlike.j2 k n1 n2 ⟨ds.toArray⟩) true := by
  have hsz : (⟨ds.toArray⟩ : ByteArray).size = ds.length := mk_size _
  have r1 := render_f n1 z1 h1 q1 ⟨ds.toArray⟩ hd (by omega)
  have r2 := render_f n2 z2 h2 q2 ⟨ds.toArray⟩ hd (by omega)
  have o1 := read_other n1 n2 z1 z2 h1 h2 q1 q2 hn ds hd hl h0
  have o2 := read_other n2 n1 z2 z1 h2 h1 q2 q1 (fun e => hn e.symm) ds hd hl h0
  have hne : ((⟨(rendL z1 h1 ds).toArray⟩ : ByteArray).toList == (⟨(rendL z2 h2 ds).toArray⟩ : ByteArray).toList) = false := by
    rw [toL, toL, beq_eq_false_iff_ne]
    simp only []
    intro e
    cases ds with
    | nil => exact absurd rfl h0
    | cons b l =>
      have hb := hd b (List.mem_cons_self ..)
      have hj : b.toNat - 48 < 10 := by obtain ⟨a1, a2⟩ := hb; omega
      simp only [rendL] at e
      have d1 := E_dec n1 z1 h1 q1 _ hj (rendL z1 h1 l)
      have d2 := E_dec n2 z2 h2 q2 _ hj (rendL z2 h2 l)
      rw [e, d2] at d1
      exact rune_apart n1 n2 z1 z2 h1 h2 q1 q2 hn _ _ hj hj (Prod.ext_iff.1 d1).1.symm
  have second : ∀ k, idiomlaw08_DigitsUnlike.j3 (k + 1) n1 n2 ⟨(rendL z1 h1 ds).toArray⟩ ⟨(rendL z2 h2 ds).toArray⟩ false = some true := by
    intro k
    simp only [idiomlaw08_DigitsUnlike.j3]
    rw [if_neg (by decide), o1, o2]
    rfl
  refine Ev.step (f := fun k => idiomlaw08_DigitsUnlike.j3 k n1 n2 ⟨(rendL z1 h1 ds).toArray⟩ ⟨(rendL z2 h2 ds).toArray⟩ false) (fun k => ?_) (Ev.some second)
  simp only [idiomlaw08_DigitsUnlike.j2]
  rw [render_is, render_is, r1, r2]
  simp only [Option.bind_some]
  rw [if_pos trivial, if_pos trivial, hne]
theorem one (n1 n2 : ByteArray) (z1 z2 : Int) (h1 h2 : ByteArray) (q1 : sysOf n1 Ten.sys = some (z1, h1)) (q2 : sysOf n2 Ten.sys = some (z2, h2)) (hn : n1.data.toList ≠ n2.data.toList) (ds : List UInt8) (hd : ∀ b ∈ ds, isD b) (h0 : ds ≠ []) : Ev (fun k => idiomlaw08_DigitsUnlike.j1 k n1 n2 ⟨ds.toArray⟩ false) true := by
  have hsz : (⟨ds.toArray⟩ : ByteArray).size = ds.length := mk_size _
  refine Ev.step (f := fun k => if (ds.length : Int) > 10000 then idiomlaw08_DigitsUnlike.j2 k n1 n2 ⟨(ds.take 10000).toArray⟩ else idiomlaw08_DigitsUnlike.j2 k n1 n2 ⟨ds.toArray⟩) (fun k => ?_) ?_
  · simp only [idiomlaw08_DigitsUnlike.j1]
    rw [if_neg (by decide), hsz]
    by_cases c : (ds.length : Int) > 10000
    · rw [if_pos c, if_pos c, if_pos (by decide), if_pos (by omega), ext0]
    · rw [if_neg c, if_neg c]
  · by_cases c : (ds.length : Int) > 10000
    · refine Ev.congr (fun k => if_pos c) (two n1 n2 z1 z2 h1 h2 q1 q2 hn _ (isD_take _ _ hd) (by rw [List.length_take]; omega) ?_)
      intro e
      have := congrArg List.length e
      rw [List.length_take] at this
      simp only [List.length_nil] at this
      omega
    · exact Ev.congr (fun k => if_neg c) (two n1 n2 z1 z2 h1 h2 q1 q2 hn _ hd (by omega) h0)
theorem law (a0 a1 : Int) (a2 : ByteArray) (ha : (Lit.int .i64 a0).wf = true) (hb : (Lit.int .i64 a1).wf = true) (h2 : a2.size ≤ 140737488351232) : ∃ k, idiomlaw08_DigitsUnlike.f k a0 a1 a2 = some true := by
  apply Ev.rounds (g := fun k => idiomlaw08_DigitsUnlike.f k a0 a1 a2)
  obtain ⟨n1, z1, g1, e1, q1⟩ := system_ok a0 (wfb ha)
  obtain ⟨n2, z2, g2, e2, q2⟩ := system_ok a1 (wfb hb)
  unfold idiomlaw08_DigitsUnlike.f
  rw [e1, e2]
  simp only [Option.bind_some]
  refine Ev.congr (fun k => by rw [if_pos trivial, if_pos trivial]) (Ev.bind awake_ev ?_)
  have fin : ∀ (x : ByteArray), Ev (fun k => idiomlaw08_DigitsUnlike.j1 k n1 n2 x true) true := fun x => Ev.some fun k => by
    simp only [idiomlaw08_DigitsUnlike.j1]
    rw [if_pos trivial]
  refine Ev.step (f := fun k => (idiomlaw08_only.f k a2).bind fun t147 => (if n1.toList = n2.toList then (idiomlaw08_DigitsUnlike.j1 k n1 n2 t147 true) else (idiomlaw08_DigitsUnlike.j1 k n1 n2 t147 (t147.toList == ([] : List UInt8))))) (fun k => ?_) (Ev.bind (only_ev a2 h2) ?_)
  · simp only [idiomlaw08_DigitsUnlike.j0]
    rw [if_neg (by decide)]
  by_cases hn : n1.toList = n2.toList
  · exact Ev.congr (fun k => if_pos hn) (fin _)
  refine Ev.congr (fun k => if_neg hn) ?_
  rw [toLd, toLd] at hn
  by_cases h0 : onlyL a2.data.toList = []
  · have e : ((⟨(onlyL a2.data.toList).toArray⟩ : ByteArray).toList == ([] : List UInt8)) = true := by rw [toL, h0]; rfl
    exact Ev.congr (fun k => by rw [e]) (fin _)
  · have e : ((⟨(onlyL a2.data.toList).toArray⟩ : ByteArray).toList == ([] : List UInt8)) = false := by rw [toL, beq_eq_false_iff_ne]; exact h0
    exact Ev.congr (fun k => by rw [e]) (one n1 n2 z1 z2 g1 g2 q1 q2 hn _ (only_isD _) h0)
end Go.Proofs.YtnkjeojhiligpaaDoor.DigitsUnlike
set_option linter.unusedVariables false
set_option linter.unusedSimpArgs false
namespace Go.Proofs.YtnkjeojhiligpaaDoor.lawDigitsUnlike
open Go.ChangeShapes Go.WideShapes Go.ChangeAt Go.RowKit
open Go.ChangeMaps (open_string shut_string)
theorem own : ownKnob Tryd.prog.godebug = none := by kernel_rfl
theorem laidOut : laidOutB Tryd.prog = true := by kernel_rfl
set_option maxRecDepth 100000 in
theorem lifted (os : Os) (started : os.Started) (H : Type) (enc : TypeId × Value → H) :
    ReturnsInHanded {} Tryd.checked os 8 .any (fun w args => (Rows.digitsUnlikeSpec.pre enc Tryd.prog Tryd.f8 [] false w args ∧ laidMetH Tryd.prog Rows.digitsUnlikeRow.laid w) ∧ sizedMet enc Tryd.prog Tryd.f8 (OpenSpec.ofChange Rows.digitsUnlikeSpec) false w args)
      (Rows.digitsUnlikeSpec.post enc Tryd.prog Tryd.f8 false true false false) := by
  refine returnsInHanded_of_change_and (C := Tryd.checked) (X := (fun w _ => laidMetH Tryd.prog Rows.digitsUnlikeRow.laid w)) (fun _ _ _ hh h => h.of_heap hh) own started (by kernel_rfl) Tryd.func8
    (ChangeSpec.witness_shaped (enc := enc) (C := Tryd.checked) (os := os) (X := (fun w _ => laidMetH Tryd.prog Rows.digitsUnlikeRow.laid w)) false (World.laidAll Tryd.prog os Rows.digitsUnlikeRow.laid) #[.int .i64 0, .int .i64 0, .string ByteArray.empty] 12 (World.laidAll_os _ _ _)
      (World.shaped_of_ZipB (by kernel_rfl) (by kernel_rfl)) (by kernel_rfl) (by kernel_rfl) (by kernel_rfl)
      (by rw [MakeChecks.laidMetH_plain _ _ _ (by kernel_rfl)]; exact laidMet_laidAll _ (by kernel_rfl) (by kernel_rfl))) ?_
  intro W base args ds gs before hval0 hW _ hsz0 hL0 _
  have hsz : (DataW.weightsEach Tryd.prog (Tryd.f8.params.toList ++ Rows.digitsUnlikeSpec.plain.varTypes Tryd.prog) (ds ++ gs)).all (· ≤ reachBytes) = true := hsz0
  have hval : ∀ (j : Nat) t v, Tryd.f8.params[j]? = some t → args[j]? = some v → Value.okWide Tryd.prog W .any base t v := hval0
  have hW' := hW
  obtain ⟨p, q, hA0, hV, rfl, hfz, hnd⟩ := hW
  have hA : DataW.TrodAll enc Tryd.prog W 0 (fun _ => true) true Tryd.f8.params.toList args.toList ds p := hA0
  rw [Tryd.params8] at hA hval hsz
  obtain ⟨v0, vs0, d0, ds0, p0, q0, hargs, rfl, rfl, h0, r0⟩ := trodAll_cons hA
  obtain ⟨v1, vs1, d1, ds1, p1, q1, rfl, rfl, rfl, h1, r1⟩ := trodAll_cons r0
  obtain ⟨v2, vs2, d2, ds2, p2, q2, rfl, rfl, rfl, h2, r2⟩ := trodAll_cons r1
  obtain ⟨rfl, rfl, rfl⟩ := trodAll_nil r2
  obtain rfl : args = #[v0, v1, v2] := by cases args; simp_all
  obtain ⟨rfl, rfl⟩ := trodVars_none hV
  have k0 := h0
  have lt0 : ∀ x ∈ p0, x.block < W.heap.size := by obtain ⟨m, hm⟩ := k0; exact DataW.trod_lt m _ _ _ hm
  have k1 := h1
  have lt1 : ∀ x ∈ p1, x.block < W.heap.size := by obtain ⟨m, hm⟩ := k1; exact DataW.trod_lt m _ _ _ hm
  have k2 := h2
  have lt2 : ∀ x ∈ p2, x.block < W.heap.size := by obtain ⟨m, hm⟩ := k2; exact DataW.trod_lt m _ _ _ hm
  obtain ⟨a0, rfl, rfl, rfl, w0⟩ := open_int Tryd.underlying3 (hval 0 3 v0 rfl rfl) h0
  obtain ⟨a1, rfl, rfl, rfl, w1⟩ := open_int Tryd.underlying3 (hval 1 3 v1 rfl rfl) h1
  obtain ⟨a2, rfl, rfl, rfl, y2⟩ := open_string Tryd.underlying9 (hval 2 9 v2 rfl rfl) h2
  have w2 : a2.size ≤ 140737488351232 := by
    have z := sized_string hsz (j := 2) (t := 9) rfl rfl
    rw [Array.length_toList] at z
    exact z
  have hL1 : laidMet Tryd.prog Rows.digitsUnlikeRow.laid W := hL0
  have hG : Stray.Tabs W := utf8Tabs_of_reads (ρ := Tryd.lays260_ren) { Tryd.lays260 with } ⟨by kernel_rfl, by kernel_rfl, by kernel_rfl, by kernel_rfl, by kernel_rfl, by kernel_rfl, by kernel_rfl⟩ (Lib.laidMet.reads hL1 (.tail _ (.tail _ (.head _)))) (Lib.laidMet.reads hL1 (.head _))
  obtain ⟨k, hk⟩ := DigitsUnlike.law a0 a1 a2 w0 w1 w2
  refine (G.idiomlaw08_DigitsUnlike.calls k a0 a1 a2 true W hk hG).mono fun e W' ⟨he, bel0⟩ => ?_
  have bel : Below W.heap.size W W' := by first | exact bel0 | exact YtnkjeojhiligpaaDoorW.PrintWords.Drawn0.below bel0
  subst he
  exact ⟨_, rfl, _, _, _, [], _, [], hW', trodAll_mk1 (shut_bool Tryd.underlying4 _), (trodAll_cons_mk (Below.trod laidOut (by kernel_rfl) (of_decide_eq_true (by kernel_rfl)) k0 bel lt0) (trodAll_cons_mk (Below.trod laidOut (by kernel_rfl) (of_decide_eq_true (by kernel_rfl)) k1 bel lt1) (trodAll_cons_mk (Below.trod laidOut (by kernel_rfl) (of_decide_eq_true (by kernel_rfl)) k2 bel lt2) trodAll_mk0))), rfl, bel.frame _, fun h => by cases h⟩
theorem said : Rows.digitsUnlikeRow.holds Tryd.pinned (OpenSpec.ofChange Rows.digitsUnlikeSpec) :=
  OpenClaim.holds_of_wide 8 Tryd.f8 rfl rfl rfl rfl rfl rfl rfl ⟨rfl, rfl, rfl, rfl, rfl⟩ rfl rfl rfl rfl rfl (by kernel_rfl) Tryd.func8 (by kernel_rfl)
    (of_decide_eq_true (by kernel_rfl)) (by unfold Func.isWrapper; first | (rw [if_pos (by decide +kernel)]; kernel_rfl) | (rw [if_neg (by decide +kernel)]; exact ⟨rfl, rfl⟩))
    (fun os started H enc _ => lifted os started H enc)
theorem plain (f : FuncId) (fn : Func) (hf : Tryd.pinned.checked.prog.funcNamed "idiom/idiomlaw08.DigitsUnlike" = some f) (hfn : Tryd.pinned.checked.prog.funcs[f]? = some fn) :
    false = Tryd.pinned.checked.prog.looks [] ∧ ∀ (j : Nat) t, fn.params[j]? = some t → Tryd.pinned.checked.prog.wantsStandIn t = false := by
  obtain rfl : f = 8 := Option.some.inj ((show Tryd.prog.funcNamed "idiom/idiomlaw08.DigitsUnlike" = some 8 by kernel_rfl).symm.trans hf) |>.symm
  obtain rfl : fn = Tryd.f8 := (Option.some.inj (Tryd.func8.symm.trans hfn)).symm
  refine ⟨by kernel_rfl, fun j t ht => ?_⟩
  rw [Tryd.params8] at ht
  have hm : t ∈ [3, 3, 9] := by simpa using Array.mem_of_getElem? ht
  have hall : ([3, 3, 9].all fun u => !Tryd.prog.wantsStandIn u) = true := by kernel_rfl
  exact (show Tryd.prog.wantsStandIn t = false by simpa using List.all_eq_true.1 hall t hm)
/-- THE CARD. -/
theorem card : Rows.DigitsUnlikeCardSaid :=
  Claim7.holds_tied_plain_at .later [] _ _ _ _ said (fun _ h => by cases h) (by kernel_rfl) (fun _ h => by cases h) digitsUnlike_row_tie rfl ⟨rfl, rfl⟩ (by kernel_rfl) rfl plain (by kernel_rfl)
#print axioms card
end Go.Proofs.YtnkjeojhiligpaaDoor.lawDigitsUnlike
namespace Go.Proofs.YtnkjeojhiligpaaDoor
/-- The claim, under a short name. -/
theorem digitsUnlike_holds : Rows.DigitsUnlikeCardSaid := lawDigitsUnlike.card
end Go.Proofs.YtnkjeojhiligpaaDoor
