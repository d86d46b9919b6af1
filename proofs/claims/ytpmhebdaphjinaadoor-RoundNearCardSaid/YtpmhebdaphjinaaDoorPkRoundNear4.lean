/- Part 5 of 7 of the proof of the law RoundNear: it is true at every input. Conditions: those of the given row, no others. -/
import Derived.Test.YtpmhebdaphjinaaDoorPkRoundNear0
import Derived.Test.YtpmhebdaphjinaaDoorPkRoundNear1
import Derived.Test.YtpmhebdaphjinaaDoorPkRoundNear3
import Derived.Test.YtpmhebdaphjinaaDoorPkRoundNear2
namespace Go.Proofs.YtpmhebdaphjinaaDoor.F
open Go.RowKit Go.Proofs.YtpmhebdaphjinaaDoorW.PrintWords Go.Proofs.YtpmhebdaphjinaaDoorW.PrintLast Go.Proofs.YtpmhebdaphjinaaDoorW.PrintMore Go.Proofs.YtpmhebdaphjinaaDoor.Q
attribute [local go_sem] max2_int min2_int max_two min_two max_three min_three max_four min_four   -- for this text's walks alone
set_option linter.unusedVariables false
set_option linter.unusedSimpArgs false

def idiomref02_sum.f (k : Nat) (a0_0 : Bool) (a0_1 : ByteArray) (a0_2 : ByteArray) (a1_0 : Bool) (a1_1 : ByteArray) (a1_2 : ByteArray) (a2 : Bool) : Option (Bool × ByteArray × ByteArray × Int) := (idiomref02_Check.f k a0_0 a0_1 a0_2).bind fun t253 => ((idiomref02_Check.f k a1_0 a1_1 a1_2).bind fun t254 => ((idiomref02_First.f k (([t253, t254] : List Int))).bind fun t258 => (if t258 = 0 then ((idiomref02_raised.f k a0_0 a0_1 a0_2 (mx (a0_2.size : Int) (a1_2.size : Int))).bind fun t259 => ((idiomref02_raised.f k a1_0 a1_1 a1_2 (mx (a0_2.size : Int) (a1_2.size : Int))).bind fun t260 => (if (a0_0 == (a1_0 != a2)) = true then ((idiomref02_Plus.f k t259 t260).bind fun t261 => ((idiomref02_Make.f k (a1_0 != a2) t261 (mx (a0_2.size : Int) (a1_2.size : Int))).bind fun bt262 => (some (bt262.1, bt262.2.1, bt262.2.2.1, bt262.2.2.2)))) else ((idiomref02_Cmp.f k t259 t260).bind fun t266 => (if t266 ≥ 0 then ((idiomref02_Minus.f k t259 t260).bind fun t267 => ((idiomref02_Make.f k a0_0 t267 (mx (a0_2.size : Int) (a1_2.size : Int))).bind fun bt268 => (some (bt268.1, bt268.2.1, bt268.2.2.1, bt268.2.2.2)))) else ((idiomref02_Minus.f k t260 t259).bind fun t272 => ((idiomref02_Make.f k (a1_0 != a2) t272 (mx (a0_2.size : Int) (a1_2.size : Int))).bind fun bt273 => (some (bt273.1, bt273.2.1, bt273.2.2.1, bt273.2.2.2))))))))) else (some (false, (⟨#[]⟩ : ByteArray), (⟨#[]⟩ : ByteArray), t258)))))
theorem idiomref02_sum.mono : ∀ a0 a1 a2 a3 a4 a5 a6 k, LeO (idiomref02_sum.f k a0 a1 a2 a3 a4 a5 a6) (idiomref02_sum.f (k + 1) a0 a1 a2 a3 a4 a5 a6) := by
 intro a0 a1 a2 a3 a4 a5 a6 k
 unfold idiomref02_sum.f
 repeat' first
  | (with_reducible exact idiomref02_Check.mono _ _ _ _)
  | (with_reducible exact idiomref02_Cmp.mono _ _ _)
  | (with_reducible exact idiomref02_First.mono _ _)
  | (with_reducible exact idiomref02_Make.mono _ _ _ _)
  | (with_reducible exact idiomref02_Minus.mono _ _ _)
  | (with_reducible exact idiomref02_Plus.mono _ _ _)
  | (with_reducible exact idiomref02_raised.mono _ _ _ _ _)
  | (with_reducible exact LeO.refl _)
  | (with_reducible exact LeO.none _)
  | (with_reducible refine LeO.ite ?_ ?_)
  | (with_reducible refine LeO.bind ?_ (fun _ => ?_))
  | exact idiomref02_Check.mono _ _ _ _
  | exact idiomref02_Cmp.mono _ _ _
  | exact idiomref02_First.mono _ _
  | exact idiomref02_Make.mono _ _ _ _
  | exact idiomref02_Minus.mono _ _ _
  | exact idiomref02_Plus.mono _ _ _
  | exact idiomref02_raised.mono _ _ _ _ _
  | exact LeO.none _
  | refine LeO.ite ?_ ?_
  | refine LeO.bind ?_ (fun _ => ?_)
def idiomref02_sum.T5 : Bool × List (List Nat × List Nat) := (true, [([], []), ([], []), ([0, 1], [0, 1]), ([], []), ([], []), ([3, 4, 2], [3, 4]), ([2, 5, 0, 1, 2], [2]), ([5, 6, 0, 1, 2, 3, 4, 5, 6], [5])])
def idiomref02_sum.B5 : List Nat := [0, 0, 3, 0, 0, 31, 63, 127]
theorem idiomref02_sum.tab5 : rtab .any (opsOf Tryd.f30 5) = idiomref02_sum.T5 := by kernel_rfl
theorem idiomref02_sum.bits5 : waitsOk idiomref02_sum.T5.2 idiomref02_sum.B5 = true := by kernel_rfl
def idiomref02_sum.T10 : Bool × List (List Nat × List Nat) := (true, [([], []), ([0], [0]), ([], []), ([], []), ([2, 3], [2, 3]), ([], []), ([1, 4, 5, 4], [1, 4, 5]), ([6], [6]), ([6], [6]), ([7, 6, 0, 1, 2, 3, 4, 5, 6, 7, 8], [7]), ([8, 9, 0, 1, 2, 3, 4, 5, 6, 7, 8, 9], [8])])
def idiomref02_sum.B10 : List Nat := [0, 1, 0, 0, 12, 0, 63, 127, 127, 511, 1023]
theorem idiomref02_sum.tab10 : rtab .any (opsOf Tryd.f30 10) = idiomref02_sum.T10 := by kernel_rfl
theorem idiomref02_sum.bits10 : waitsOk idiomref02_sum.T10.2 idiomref02_sum.B10 = true := by kernel_rfl
set_option maxHeartbeats 8000000 in
set_option maxRecDepth 100000 in
theorem idiomref02_sum.calls (k : Nat) (a0_0 : Bool) (a0_1 : ByteArray) (a0_2 : ByteArray) (a1_0 : Bool) (a1_1 : ByteArray) (a1_2 : ByteArray) (a2 : Bool) (r1 : Bool) (r2 : ByteArray) (r3 : ByteArray) (r4 : Int) (w : World) (h : idiomref02_sum.f k a0_0 a0_1 a0_2 a1_0 a1_1 a1_2 a2 = some (r1, r2, r3, r4)) :
 Calls Tryd.prog 30 #[.agg #[.bool a0_0, .string a0_1, .string a0_2], .agg #[.bool a1_0, .string a1_1, .string a1_2], .bool a2] w fun e w' => e = .returned (.tuple #[.agg #[.bool r1, .string r2, .string r3], .int .i64 r4]) ∧ Below w.heap.size w w' := by
 have hu23 := Tryd.underlying23
 have HB := Aside0.mk (Below.refl w.heap.size w)
 have H : ((idiomref02_Check.f k a0_0 a0_1 a0_2).bind fun t253 => ((idiomref02_Check.f k a1_0 a1_1 a1_2).bind fun t254 => ((idiomref02_First.f k (([t253, t254] : List Int))).bind fun t258 => (if t258 = 0 then ((idiomref02_raised.f k a0_0 a0_1 a0_2 (mx (a0_2.size : Int) (a1_2.size : Int))).bind fun t259 => ((idiomref02_raised.f k a1_0 a1_1 a1_2 (mx (a0_2.size : Int) (a1_2.size : Int))).bind fun t260 => (if (a0_0 == (a1_0 != a2)) = true then ((idiomref02_Plus.f k t259 t260).bind fun t261 => ((idiomref02_Make.f k (a1_0 != a2) t261 (mx (a0_2.size : Int) (a1_2.size : Int))).bind fun bt262 => (some (bt262.1, bt262.2.1, bt262.2.2.1, bt262.2.2.2)))) else ((idiomref02_Cmp.f k t259 t260).bind fun t266 => (if t266 ≥ 0 then ((idiomref02_Minus.f k t259 t260).bind fun t267 => ((idiomref02_Make.f k a0_0 t267 (mx (a0_2.size : Int) (a1_2.size : Int))).bind fun bt268 => (some (bt268.1, bt268.2.1, bt268.2.2.1, bt268.2.2.2)))) else ((idiomref02_Minus.f k t260 t259).bind fun t272 => ((idiomref02_Make.f k (a1_0 != a2) t272 (mx (a0_2.size : Int) (a1_2.size : Int))).bind fun bt273 => (some (bt273.1, bt273.2.1, bt273.2.2.1, bt273.2.2.2))))))))) else (some (false, (⟨#[]⟩ : ByteArray), (⟨#[]⟩ : ByteArray), t258)))))) = some (r1, r2, r3, r4) := h
 clear h
 replace H := Option.bind_eq_some_iff.mp H
 obtain ⟨t253, A40, H⟩ := H
 replace H : ((idiomref02_Check.f k a1_0 a1_1 a1_2).bind fun t254 => ((idiomref02_First.f k (([t253, t254] : List Int))).bind fun t258 => (if t258 = 0 then ((idiomref02_raised.f k a0_0 a0_1 a0_2 (mx (a0_2.size : Int) (a1_2.size : Int))).bind fun t259 => ((idiomref02_raised.f k a1_0 a1_1 a1_2 (mx (a0_2.size : Int) (a1_2.size : Int))).bind fun t260 => (if (a0_0 == (a1_0 != a2)) = true then ((idiomref02_Plus.f k t259 t260).bind fun t261 => ((idiomref02_Make.f k (a1_0 != a2) t261 (mx (a0_2.size : Int) (a1_2.size : Int))).bind fun bt262 => (some (bt262.1, bt262.2.1, bt262.2.2.1, bt262.2.2.2)))) else ((idiomref02_Cmp.f k t259 t260).bind fun t266 => (if t266 ≥ 0 then ((idiomref02_Minus.f k t259 t260).bind fun t267 => ((idiomref02_Make.f k a0_0 t267 (mx (a0_2.size : Int) (a1_2.size : Int))).bind fun bt268 => (some (bt268.1, bt268.2.1, bt268.2.2.1, bt268.2.2.2)))) else ((idiomref02_Minus.f k t260 t259).bind fun t272 => ((idiomref02_Make.f k (a1_0 != a2) t272 (mx (a0_2.size : Int) (a1_2.size : Int))).bind fun bt273 => (some (bt273.1, bt273.2.1, bt273.2.2.1, bt273.2.2.2))))))))) else (some (false, (⟨#[]⟩ : ByteArray), (⟨#[]⟩ : ByteArray), t258))))) = some (r1, r2, r3, r4) := H
 have A4 := Aside0.mk A40
 clear A40
 replace H := Option.bind_eq_some_iff.mp H
 obtain ⟨t254, A50, H⟩ := H
 replace H : ((idiomref02_First.f k (([t253, t254] : List Int))).bind fun t258 => (if t258 = 0 then ((idiomref02_raised.f k a0_0 a0_1 a0_2 (mx (a0_2.size : Int) (a1_2.size : Int))).bind fun t259 => ((idiomref02_raised.f k a1_0 a1_1 a1_2 (mx (a0_2.size : Int) (a1_2.size : Int))).bind fun t260 => (if (a0_0 == (a1_0 != a2)) = true then ((idiomref02_Plus.f k t259 t260).bind fun t261 => ((idiomref02_Make.f k (a1_0 != a2) t261 (mx (a0_2.size : Int) (a1_2.size : Int))).bind fun bt262 => (some (bt262.1, bt262.2.1, bt262.2.2.1, bt262.2.2.2)))) else ((idiomref02_Cmp.f k t259 t260).bind fun t266 => (if t266 ≥ 0 then ((idiomref02_Minus.f k t259 t260).bind fun t267 => ((idiomref02_Make.f k a0_0 t267 (mx (a0_2.size : Int) (a1_2.size : Int))).bind fun bt268 => (some (bt268.1, bt268.2.1, bt268.2.2.1, bt268.2.2.2)))) else ((idiomref02_Minus.f k t260 t259).bind fun t272 => ((idiomref02_Make.f k (a1_0 != a2) t272 (mx (a0_2.size : Int) (a1_2.size : Int))).bind fun bt273 => (some (bt273.1, bt273.2.1, bt273.2.2.1, bt273.2.2.2))))))))) else (some (false, (⟨#[]⟩ : ByteArray), (⟨#[]⟩ : ByteArray), t258)))) = some (r1, r2, r3, r4) := H
 have A5 := Aside0.mk A50
 clear A50
 obtain ⟨y255, hy255⟩ : ∃ y_ : List Int, y_ = (([t253, t254] : List Int)) := ⟨_, rfl⟩
 replace H : ((idiomref02_First.f k y255).bind fun t258 => (if t258 = 0 then ((idiomref02_raised.f k a0_0 a0_1 a0_2 (mx (a0_2.size : Int) (a1_2.size : Int))).bind fun t259 => ((idiomref02_raised.f k a1_0 a1_1 a1_2 (mx (a0_2.size : Int) (a1_2.size : Int))).bind fun t260 => (if (a0_0 == (a1_0 != a2)) = true then ((idiomref02_Plus.f k t259 t260).bind fun t261 => ((idiomref02_Make.f k (a1_0 != a2) t261 (mx (a0_2.size : Int) (a1_2.size : Int))).bind fun bt262 => (some (bt262.1, bt262.2.1, bt262.2.2.1, bt262.2.2.2)))) else ((idiomref02_Cmp.f k t259 t260).bind fun t266 => (if t266 ≥ 0 then ((idiomref02_Minus.f k t259 t260).bind fun t267 => ((idiomref02_Make.f k a0_0 t267 (mx (a0_2.size : Int) (a1_2.size : Int))).bind fun bt268 => (some (bt268.1, bt268.2.1, bt268.2.2.1, bt268.2.2.2)))) else ((idiomref02_Minus.f k t260 t259).bind fun t272 => ((idiomref02_Make.f k (a1_0 != a2) t272 (mx (a0_2.size : Int) (a1_2.size : Int))).bind fun bt273 => (some (bt273.1, bt273.2.1, bt273.2.2.1, bt273.2.2.2))))))))) else (some (false, (⟨#[]⟩ : ByteArray), (⟨#[]⟩ : ByteArray), t258)))) = some (r1, r2, r3, r4) := by first | (rw [hy255]; with_reducible exact H) | (have H2_ := (Option.bind_some _ _).symm.trans H; rw [hy255]; with_reducible exact H2_) | (have H2_ := (Option.bind_some _ _).symm.trans H; with_reducible exact H2_) | with_reducible exact H | (rw [hy255]; exact H) | exact H
 have Ny255 := Aside0.mk hy255
 clear hy255
 replace H := Option.bind_eq_some_iff.mp H
 obtain ⟨t258, A60, H⟩ := H
 replace H : (if t258 = 0 then ((idiomref02_raised.f k a0_0 a0_1 a0_2 (mx (a0_2.size : Int) (a1_2.size : Int))).bind fun t259 => ((idiomref02_raised.f k a1_0 a1_1 a1_2 (mx (a0_2.size : Int) (a1_2.size : Int))).bind fun t260 => (if (a0_0 == (a1_0 != a2)) = true then ((idiomref02_Plus.f k t259 t260).bind fun t261 => ((idiomref02_Make.f k (a1_0 != a2) t261 (mx (a0_2.size : Int) (a1_2.size : Int))).bind fun bt262 => (some (bt262.1, bt262.2.1, bt262.2.2.1, bt262.2.2.2)))) else ((idiomref02_Cmp.f k t259 t260).bind fun t266 => (if t266 ≥ 0 then ((idiomref02_Minus.f k t259 t260).bind fun t267 => ((idiomref02_Make.f k a0_0 t267 (mx (a0_2.size : Int) (a1_2.size : Int))).bind fun bt268 => (some (bt268.1, bt268.2.1, bt268.2.2.1, bt268.2.2.2)))) else ((idiomref02_Minus.f k t260 t259).bind fun t272 => ((idiomref02_Make.f k (a1_0 != a2) t272 (mx (a0_2.size : Int) (a1_2.size : Int))).bind fun bt273 => (some (bt273.1, bt273.2.1, bt273.2.2.1, bt273.2.2.2))))))))) else (some (false, (⟨#[]⟩ : ByteArray), (⟨#[]⟩ : ByteArray), t258))) = some (r1, r2, r3, r4) := H
 have A6 := Aside0.mk A60
 clear A60
 by_cases c7 : t258 = 0
 · rw [if_pos c7] at H
   have c7b0 : (t258 == 0) = true := beq_iff_eq.mpr c7
   have c7b1 : (t258 != 0) = false := bne_eq_false_iff_eq.mpr c7
   try have c7b1z := c7b1
   (try simp only [bne] at c7b1z)
   clear c7
   obtain ⟨ji8, hji8⟩ : ∃ j_ : Int, (mx (a0_2.size : Int) (a1_2.size : Int)) = j_ := ⟨_, rfl⟩
   replace H : ((idiomref02_raised.f k a0_0 a0_1 a0_2 (ji8)).bind fun t259 => ((idiomref02_raised.f k a1_0 a1_1 a1_2 (ji8)).bind fun t260 => (if (a0_0 == (a1_0 != a2)) = true then ((idiomref02_Plus.f k t259 t260).bind fun t261 => ((idiomref02_Make.f k (a1_0 != a2) t261 (ji8)).bind fun bt262 => (some (bt262.1, bt262.2.1, bt262.2.2.1, bt262.2.2.2)))) else ((idiomref02_Cmp.f k t259 t260).bind fun t266 => (if t266 ≥ 0 then ((idiomref02_Minus.f k t259 t260).bind fun t267 => ((idiomref02_Make.f k a0_0 t267 (ji8)).bind fun bt268 => (some (bt268.1, bt268.2.1, bt268.2.2.1, bt268.2.2.2)))) else ((idiomref02_Minus.f k t260 t259).bind fun t272 => ((idiomref02_Make.f k (a1_0 != a2) t272 (ji8)).bind fun bt273 => (some (bt273.1, bt273.2.1, bt273.2.2.1, bt273.2.2.2))))))))) = some (r1, r2, r3, r4) := by first | (rw [hji8] at H; exact H) | (simp only [hji8] at H ⊢; exact H)
   (try rw [hji8] at A4)
   (try rw [hji8] at A5)
   (try rw [hji8] at A6)
   (try (have hji8l : 0 ≤ ji8 := by (rw [← hji8]; unfold mx; (repeat' split) <;> omega)))
   (try (have hji8m : 0 ≤ ji8 := by omega))
   have hji8_ : (if (a0_2.size : Int) < (a1_2.size : Int) then (a1_2.size : Int) else (a0_2.size : Int)) = ji8 := hji8
   try have hji8_z := hji8_
   (try simp only [go_sem, Int.ofNat_lt, ByteArray.size_extract, ByteArray.size_append, Nat.min_self, Int.natCast_add] at hji8_z)
   replace H := Option.bind_eq_some_iff.mp H
   obtain ⟨t259, A90, H⟩ := H
   replace H : ((idiomref02_raised.f k a1_0 a1_1 a1_2 (ji8)).bind fun t260 => (if (a0_0 == (a1_0 != a2)) = true then ((idiomref02_Plus.f k t259 t260).bind fun t261 => ((idiomref02_Make.f k (a1_0 != a2) t261 (ji8)).bind fun bt262 => (some (bt262.1, bt262.2.1, bt262.2.2.1, bt262.2.2.2)))) else ((idiomref02_Cmp.f k t259 t260).bind fun t266 => (if t266 ≥ 0 then ((idiomref02_Minus.f k t259 t260).bind fun t267 => ((idiomref02_Make.f k a0_0 t267 (ji8)).bind fun bt268 => (some (bt268.1, bt268.2.1, bt268.2.2.1, bt268.2.2.2)))) else ((idiomref02_Minus.f k t260 t259).bind fun t272 => ((idiomref02_Make.f k (a1_0 != a2) t272 (ji8)).bind fun bt273 => (some (bt273.1, bt273.2.1, bt273.2.2.1, bt273.2.2.2)))))))) = some (r1, r2, r3, r4) := H
   have A9 := Aside0.mk A90
   clear A90
   replace H := Option.bind_eq_some_iff.mp H
   obtain ⟨t260, A100, H⟩ := H
   replace H : (if (a0_0 == (a1_0 != a2)) = true then ((idiomref02_Plus.f k t259 t260).bind fun t261 => ((idiomref02_Make.f k (a1_0 != a2) t261 (ji8)).bind fun bt262 => (some (bt262.1, bt262.2.1, bt262.2.2.1, bt262.2.2.2)))) else ((idiomref02_Cmp.f k t259 t260).bind fun t266 => (if t266 ≥ 0 then ((idiomref02_Minus.f k t259 t260).bind fun t267 => ((idiomref02_Make.f k a0_0 t267 (ji8)).bind fun bt268 => (some (bt268.1, bt268.2.1, bt268.2.2.1, bt268.2.2.2)))) else ((idiomref02_Minus.f k t260 t259).bind fun t272 => ((idiomref02_Make.f k (a1_0 != a2) t272 (ji8)).bind fun bt273 => (some (bt273.1, bt273.2.1, bt273.2.2.1, bt273.2.2.2))))))) = some (r1, r2, r3, r4) := H
   have A10 := Aside0.mk A100
   clear A100
   by_cases c11 : (a0_0 == (a1_0 != a2)) = true
   · rw [if_pos c11] at H
     have c11b0 : (a0_0 == (a1_0 != a2)) = true := c11
     try have c11b0z := c11b0
     (try simp only [bne] at c11b0z)
     (try (have c11b1 : decide (a0_0 = (a1_0 != a2)) = true := by simpa using c11))
     (try (have c11b2 : (a0_0 == (a1_0 != a2)) = true := by simpa using c11))
     clear c11
     replace H := Option.bind_eq_some_iff.mp H
     obtain ⟨t261, A120, H⟩ := H
     replace H : ((idiomref02_Make.f k (a1_0 != a2) t261 (ji8)).bind fun bt262 => (some (bt262.1, bt262.2.1, bt262.2.2.1, bt262.2.2.2))) = some (r1, r2, r3, r4) := H
     have A12 := Aside0.mk A120
     clear A120
     replace H := Option.bind_eq_some_iff.mp H
     obtain ⟨⟨t262, t263, t264, t265⟩, A130, H⟩ := H
     replace H : (some (t262, t263, t264, t265)) = some (r1, r2, r3, r4) := H
     have A13 := Aside0.mk A130
     clear A130
     simp only [Option.some.injEq, Prod.mk.injEq] at H
     obtain ⟨rfl, rfl, rfl, rfl⟩ := H
     go_enter Tryd.func30, Tryd.ntmps30
     try go_wp2_with (first | ((with_reducible refine gate_dst (N := 3) rfl ?_); refine qx 3 #[.bool a0_0, .string a0_1, .string a0_2] 23 ?_; intro gb250 hg w14 hbox hb; have BK250 := Aside0.mk (hbox); have GW250 := qs hg HB; have GE250 := GW250; replace HB := qn HB hb; clear hb hbox hg) | ((with_reducible refine gate_dst (N := 4) rfl ?_); refine qx 4 #[.bool a1_0, .string a1_1, .string a1_2] 23 ?_; intro gb251 hg w15 hbox hb; have BK251 := Aside0.mk (hbox); have GW251 := qs hg HB; have GE251 := GW251; have NB250_251 := ql_ hg BK250; have NB251_250 := qg_ hg BK250; replace BK250 := qb BK250 hb; replace HB := qn HB hb; clear hb hbox hg) | ((with_reducible refine gate_dst (N := 6) rfl ?_); refine qx 6 #[.bool false, .string (⟨#[]⟩ : ByteArray), .string (⟨#[]⟩ : ByteArray)] 23 ?_; intro gb252 hg w16 hbox hb; have BK252 := Aside0.mk (hbox); have GW252 := qs hg HB; have GE252 := GW252; have NB250_252 := ql_ hg BK250; have NB252_250 := qg_ hg BK250; have NB251_252 := ql_ hg BK251; have NB252_251 := qg_ hg BK251; replace BK250 := qb BK250 hb; replace BK251 := qb BK251 hb; replace HB := qn HB hb; clear hb hbox hg))
     replace BK250 := Aside0.mk (blk_drew BK250.out)
     replace BK251 := Aside0.mk (blk_drew BK251.out)
     replace BK252 := Aside0.mk (blk_drew BK252.out)
     replace HB := Aside0.mk (below_drew1 HB.out)
     refine start_ (n := 7) (S := fun w' => w'.cell? ⟨gb250, 0, none⟩ = some (.bool a0_0) ∧ w'.cell? ⟨gb250, 1, none⟩ = some (.string a0_1) ∧ w'.cell? ⟨gb250, 2, none⟩ = some (.string a0_2) ∧ w'.cell? ⟨gb251, 0, none⟩ = some (.bool a1_0) ∧ w'.cell? ⟨gb251, 1, none⟩ = some (.string a1_1) ∧ w'.cell? ⟨gb251, 2, none⟩ = some (.string a1_2)) (ds := []) #[false, false, false, false, false, false, false] (by kernel_rfl) rfl rfl ⟨c_ BK250 0, c_ BK250 1, c_ BK250 2, c_ BK251 0, c_ BK251 1, c_ BK251 2⟩ (fun hHeld => ?_)
     generalize w16.drew = w17 at BK250 BK251 BK252 HB hHeld ⊢
     refine take_ (i := 0) (N := some 13) (v := ?_) (a' := ?_) #[true, false, false, false, false, false, false] rfl rfl (by kernel_rfl) (fun _ _ _ h => h) (Or.inl ⟨by rfl, ?_⟩) hHeld ?_ ?_
     rotate_left
     · rintro w' ⟨s0, s1, s2, s3, s4, s5⟩
       go_simp
       with_reducible rfl
     rotate_left
     · simp only [Act.put, List.setIfInBounds_toArray, List.set_cons_zero, List.set_cons_succ, i64_w, i32_w]
       rfl
     refine take_ (i := 2) (N := some 15) (v := ?_) (a' := ?_) #[true, false, true, false, false, false, false] rfl rfl (by kernel_rfl) (fun _ _ _ h => h) (Or.inl ⟨by rfl, ?_⟩) hHeld ?_ ?_
     rotate_left
     · rintro w' ⟨s0, s1, s2, s3, s4, s5⟩
       go_simp
       with_reducible rfl
     rotate_left
     · simp only [Act.put, List.setIfInBounds_toArray, List.set_cons_zero, List.set_cons_succ, i64_w, i32_w]
       rfl
     refine one_ (i := 1) (N := some 14) #[true, true, true, false, false, false, false] rfl rfl (by kernel_rfl) (by decide) (fun K hK => ?_)
     refine goes_ Tryd.func32 (by kernel_rfl) rfl #[.agg #[.bool a0_0, .string a0_1, .string a0_2]] (by rfl) rfl rfl ql ?_
     with_reducible refine (idiomref02_Check.calls k a0_0 a0_1 a0_2 t253 _ A4.out).mono ?_
     rintro e w18 ⟨rfl, hb⟩
     refine ⟨_, rfl, ?_⟩
     replace BK250 := qb BK250 hb
     replace BK251 := qb BK251 hb
     replace BK252 := qb BK252 hb
     replace HB := qn HB hb
     (try clear hb)
     (try clear hb2)
     (try clear hk)
     (try clear hi)
     refine hK.out _ _ ⟨c_ BK250 0, c_ BK250 1, c_ BK250 2, c_ BK251 0, c_ BK251 1, c_ BK251 2⟩ (fun hHeld => ?_)
     clear hK K
     refine nz (some 14) ?_
     refine one_ (i := 3) (N := some 16) #[true, true, true, true, false, false, false] rfl rfl (by kernel_rfl) (by decide) (fun K hK => ?_)
     refine goes_ Tryd.func32 (by kernel_rfl) rfl #[.agg #[.bool a1_0, .string a1_1, .string a1_2]] (by rfl) rfl rfl ql ?_
     with_reducible refine (idiomref02_Check.calls k a1_0 a1_1 a1_2 t254 _ A5.out).mono ?_
     rintro e w19 ⟨rfl, hb⟩
     refine ⟨_, rfl, ?_⟩
     replace BK250 := qb BK250 hb
     replace BK251 := qb BK251 hb
     replace BK252 := qb BK252 hb
     replace HB := qn HB hb
     (try clear hb)
     (try clear hb2)
     (try clear hk)
     (try clear hi)
     refine hK.out _ _ ⟨c_ BK250 0, c_ BK250 1, c_ BK250 2, c_ BK251 0, c_ BK251 1, c_ BK251 2⟩ (fun hHeld => ?_)
     clear hK K
     refine nz (some 16) ?_
     refine one_ (i := 4) (N := some 17) #[true, true, true, true, true, false, false] rfl rfl (by kernel_rfl) (by decide) (fun K hK => ?_)
     refine Kd.R_lit_step (Kd.int .i64) _ 24 ?hg (N := 17) ?hd (xs := ([t253, t254] : List Int)) (inner := [.int .i64 t253, .int .i64 t254]) (ok := fun _ => True) (okp := fun _ => True) ?hr ?hp (fun _ hk => hk) trivial (Below.refl _ _) (Nat.le_refl _) (by simp) ?_; (case hd => rfl); (case hg => rfl); (case hr => first | (go_simp; done) | (go_simp; rfl)); (case hp => exact (Reps.one (show Kd.M (Kd.int .i64) _ _ _ t253 [.int .i64 t253] from rfl) (Reps.one (show Kd.M (Kd.int .i64) _ _ _ t254 [.int .i64 t254] from rfl) (Reps.none _ _))))
     intro v256 w20 ho21 hb hg_ hnew_
     clear hg_ hnew_
     (first | rw [← Ny255.out] at ho21 | (simp only [Int.reduceToNat] at ho21; rw [← Ny255.out] at ho21))
     have HO257 := Aside0.mk (Kd.R_lower ho21 (below_size (qh HB)))
     replace BK250 := qb BK250 hb
     replace BK251 := qb BK251 hb
     replace BK252 := qb BK252 hb
     replace HB := qn HB hb
     clear hb ho21
     obtain ⟨Ao22, co22, eo22⟩ := Kd.R_slice HO257.out
     (first | subst eo22 | (injection eo22 with f1_ f2_ f3_; have f4_ := f1_.symm; have f5_ := f3_.symm; clear f1_ f2_ f3_; subst f4_; subst f5_))
     refine hK.out _ _ ⟨c_ BK250 0, c_ BK250 1, c_ BK250 2, c_ BK251 0, c_ BK251 1, c_ BK251 2⟩ (fun hHeld => ?_)
     clear hK K
     refine nz (some 17) ?_
     refine one_ (i := 5) (N := some 18) #[true, true, true, true, true, true, false] rfl rfl (by kernel_rfl) (by decide) (fun K hK => ?_)
     refine goes_ Tryd.func31 (by kernel_rfl) rfl #[.slice Ao22 y255.length co22] (by rfl) rfl rfl ql ?_
     with_reducible refine (idiomref02_First.calls k _ _ y255 t258 _ ?side1 ?side2 A6.out).mono ?_
     (case side1 => repeat (first | exact (Kd.R_reads' HO257.out).2.2 | (with_reducible refine Kd.C_alloc ?_ _) | (with_reducible refine Kd.C_drewN ?_ _) | (with_reducible refine Kd.C_drew ?_)))
     (case side2 => exact (Kd.R_reads' HO257.out).2.1)
     rintro e w' ⟨rfl, ⟨nd, rfl⟩⟩
     refine ⟨_, rfl, ?_⟩
     refine hK.out _ _ ⟨c_ BK250 0, c_ BK250 1, c_ BK250 2, c_ BK251 0, c_ BK251 1, c_ BK251 2⟩ (fun hHeld => ?_)
     clear hK K
     refine nz (some 18) ?_
     refine pure_ (i := 6) (N := some 8) (v := ?_) (a' := ?_) #[true, true, true, true, true, true, true] rfl rfl (by kernel_rfl) (fun _ _ _ h => h) (Or.inl ⟨by rfl, ?_⟩) ?_ ?_
     rotate_left
     · intro w'
       go_simp
       with_reducible rfl
     rotate_left
     · simp only [Act.put, List.setIfInBounds_toArray, List.set_cons_zero, List.set_cons_succ, i64_w, i32_w]
       rfl
     refine done_ (by kernel_rfl) ?_
     have hnb23 := NB250_251.out
     have hnc23 := NB251_250.out
     have hnb24 := NB250_252.out
     have hnc24 := NB252_250.out
     obtain ⟨hcz25_0, hcz25_1, hcz25_2, hfz25_0, hfz25_1, hfz25_2⟩ := q3 BK250
     have hnb26 := NB251_252.out
     have hnc26 := NB252_251.out
     obtain ⟨hcz27_0, hcz27_1, hcz27_2, hfz27_0, hfz27_1, hfz27_2⟩ := q3 BK251
     try go_wp2
     (try (rw [drewN_self w20]; generalize hq_ : World.drewN w20 _ = w20; have n0_ : Aside0 (Kd.R (Kd.int .i64) 24 w20 w.heap.size (fun _ => True) (.slice Ao22 y255.length co22) y255) := ⟨by rw [← hq_]; exact (by (with_reducible repeat (first | apply Kd.R_alloc | apply Kd.R_drewN | apply Kd.R_drew)); exact HO257.out)⟩; have n1_ : Aside0 (w20.heap[gb250]? = some (.cells #[.bool a0_0, .string a0_1, .string a0_2] 23 (0, 0))) := ⟨by rw [← hq_]; exact (qk BK250)⟩; have n2_ : Aside0 (w20.heap[gb251]? = some (.cells #[.bool a1_0, .string a1_1, .string a1_2] 23 (0, 0))) := ⟨by rw [← hq_]; exact (qk BK251)⟩; have n3_ : Aside0 (w20.heap[gb252]? = some (.cells #[.bool false, .string (⟨#[]⟩ : ByteArray), .string (⟨#[]⟩ : ByteArray)] 23 (0, 0))) := ⟨by rw [← hq_]; exact (qk BK252)⟩; have n4_ : Aside0 (Below w.heap.size w w20) := ⟨by rw [← hq_]; exact (qh HB)⟩; clear HO257 BK250 BK251 BK252 HB hq_; have HO257 := n0_; have BK250 := n1_; have BK251 := n2_; have BK252 := n3_; have HB := n4_; clear n0_ n1_ n2_ n3_ n4_; (try have hcy250_0 : w20.cell? ⟨gb250, 0, none⟩ = some (.bool a0_0) := c_ BK250 0); (try have hfy250_0 := blk_frozen BK250.out 0); (try have hcy250_1 : w20.cell? ⟨gb250, 1, none⟩ = some (.string a0_1) := c_ BK250 1); (try have hfy250_1 := blk_frozen BK250.out 1); (try have hcy250_2 : w20.cell? ⟨gb250, 2, none⟩ = some (.string a0_2) := c_ BK250 2); (try have hfy250_2 := blk_frozen BK250.out 2); (try have hcy251_0 : w20.cell? ⟨gb251, 0, none⟩ = some (.bool a1_0) := c_ BK251 0); (try have hfy251_0 := blk_frozen BK251.out 0); (try have hcy251_1 : w20.cell? ⟨gb251, 1, none⟩ = some (.string a1_1) := c_ BK251 1); (try have hfy251_1 := blk_frozen BK251.out 1); (try have hcy251_2 : w20.cell? ⟨gb251, 2, none⟩ = some (.string a1_2) := c_ BK251 2); (try have hfy251_2 := blk_frozen BK251.out 2); (try have hcy252_0 : w20.cell? ⟨gb252, 0, none⟩ = some (.bool false) := c_ BK252 0); (try have hfy252_0 := blk_frozen BK252.out 0); (try have hcy252_1 : w20.cell? ⟨gb252, 1, none⟩ = some (.string (⟨#[]⟩ : ByteArray)) := c_ BK252 1); (try have hfy252_1 := blk_frozen BK252.out 1); (try have hcy252_2 : w20.cell? ⟨gb252, 2, none⟩ = some (.string (⟨#[]⟩ : ByteArray)) := c_ BK252 2); (try have hfy252_2 := blk_frozen BK252.out 2)))
     replace HO257 := Aside0.mk (Kd.R_drew HO257.out)
     replace BK250 := Aside0.mk (blk_drew BK250.out)
     replace BK251 := Aside0.mk (blk_drew BK251.out)
     replace BK252 := Aside0.mk (blk_drew BK252.out)
     replace HB := Aside0.mk (below_drew1 HB.out)
     refine start_ (n := 8) (S := fun w' => w'.cell? ⟨gb250, 0, none⟩ = some (.bool a0_0) ∧ w'.cell? ⟨gb250, 1, none⟩ = some (.string a0_1) ∧ w'.cell? ⟨gb250, 2, none⟩ = some (.string a0_2) ∧ w'.cell? ⟨gb251, 0, none⟩ = some (.bool a1_0) ∧ w'.cell? ⟨gb251, 1, none⟩ = some (.string a1_1) ∧ w'.cell? ⟨gb251, 2, none⟩ = some (.string a1_2)) (ds := []) #[false, false, false, false, false, false, false, false] (by kernel_rfl) rfl rfl ⟨c_ BK250 0, c_ BK250 1, c_ BK250 2, c_ BK251 0, c_ BK251 1, c_ BK251 2⟩ (fun hHeld => ?_); refine with_tabW idiomref02_sum.tab5 idiomref02_sum.bits5 (fun HT_ HW_ => ?_)
     generalize w20.drew = w28 at HO257 BK250 BK251 BK252 HB hHeld ⊢
     refine pz 1 (some 31) #[false, true, false, false, false, false, false, false] HT_ ?_
     refine pz 4 (some 34) #[false, true, false, false, true, false, false, false] HT_ ?_
     refine tw6 0 (some 30) #[true, true, false, false, true, false, false, false] HT_ HW_ hHeld ?_
     refine tw6 3 (some 33) #[true, true, false, true, true, false, false, false] HT_ HW_ hHeld ?_
     refine one_ (i := 2) (N := some 32) #[true, true, true, true, true, false, false, false] rfl rfl (one_of HT_.out (by kernel_rfl)) (by decide) (fun K hK => ?_)
     refine goes_ Tryd.func34 (by kernel_rfl) rfl #[.agg #[.bool a0_0, .string a0_1, .string a0_2], .int .i64 ji8] (by rfl) rfl rfl (by (try simp only [List.map_toArray, List.map_cons, List.map_nil]); first | done | (simp only [hji8]; rfl) | rfl | (simp only [List.length_drop, List.length_take]; rfl)) ?_
     with_reducible refine (idiomref02_raised.calls k a0_0 a0_1 a0_2 ji8 t259 _ A9.out).mono ?_
     rintro e w29 ⟨rfl, hb⟩
     refine ⟨_, rfl, ?_⟩
     replace HO257 := Aside0.mk (Kd.R_below (by (with_reducible repeat (first | apply Kd.R_alloc | apply Kd.R_drewN | apply Kd.R_drew)); exact HO257.out) hb)
     replace BK250 := qb BK250 hb
     replace BK251 := qb BK251 hb
     replace BK252 := qb BK252 hb
     replace HB := qn HB hb
     (try clear hb)
     (try clear hb2)
     (try clear hk)
     (try clear hi)
     refine hK.out _ _ ⟨c_ BK250 0, c_ BK250 1, c_ BK250 2, c_ BK251 0, c_ BK251 1, c_ BK251 2⟩ (fun hHeld => ?_)
     clear hK K
     refine nz (some 32) ?_
     refine one_ (i := 5) (N := some 35) #[true, true, true, true, true, true, false, false] rfl rfl (one_of HT_.out (by kernel_rfl)) (by decide) (fun K hK => ?_)
     refine goes_ Tryd.func34 (by kernel_rfl) rfl #[.agg #[.bool a1_0, .string a1_1, .string a1_2], .int .i64 ji8] (by rfl) rfl rfl (by (try simp only [List.map_toArray, List.map_cons, List.map_nil]); first | done | (simp only [hji8]; rfl) | rfl | (simp only [List.length_drop, List.length_take]; rfl)) ?_
     with_reducible refine (idiomref02_raised.calls k a1_0 a1_1 a1_2 ji8 t260 _ A10.out).mono ?_
     rintro e w30 ⟨rfl, hb⟩
     refine ⟨_, rfl, ?_⟩
     replace HO257 := Aside0.mk (Kd.R_below (by (with_reducible repeat (first | apply Kd.R_alloc | apply Kd.R_drewN | apply Kd.R_drew)); exact HO257.out) hb)
     replace BK250 := qb BK250 hb
     replace BK251 := qb BK251 hb
     replace BK252 := qb BK252 hb
     replace HB := qn HB hb
     (try clear hb)
     (try clear hb2)
     (try clear hk)
     (try clear hi)
     refine hK.out _ _ ⟨c_ BK250 0, c_ BK250 1, c_ BK250 2, c_ BK251 0, c_ BK251 1, c_ BK251 2⟩ (fun hHeld => ?_)
     clear hK K
     refine nz (some 35) ?_
     refine pz 6 (some 10) #[true, true, true, true, true, true, true, false] HT_ ?_
     refine pz 7 (some 11) #[true, true, true, true, true, true, true, true] HT_ ?_
     refine done_ (done_of HT_.out (by kernel_rfl)) ?_
     obtain ⟨hcz31_0, hcz31_1, hcz31_2, hfz31_0, hfz31_1, hfz31_2⟩ := q3 BK251
     obtain ⟨hcz32_0, hcz32_1, hcz32_2, hfz32_0, hfz32_1, hfz32_2⟩ := q3 BK250
     try go_wp2_with (first | ((with_reducible refine gate_callee (f := 58) rfl ?_); refine goesL_ (some 48) rfl rfl Tryd.func58 (by kernel_rfl) rfl #[.string t259, .string t260] rfl ql ?_; (with_reducible refine (idiomref02_Plus.calls k t259 t260 t261 _ A12.out).mono ?_); rintro e w33 ⟨rfl, hb⟩; refine ⟨_, rfl, ?_⟩; replace HO257 := Aside0.mk (Kd.R_below (by (with_reducible repeat (first | apply Kd.R_alloc | apply Kd.R_drewN | apply Kd.R_drew)); exact HO257.out) hb); replace BK250 := qb BK250 hb; replace BK251 := qb BK251 hb; replace BK252 := qb BK252 hb; replace HB := qn HB hb; (try clear hb); (try clear hb2); (try clear hk); (try clear hi)) | ((with_reducible refine gate_callee (f := 57) rfl ?_); refine goesL_ (some 50) rfl rfl Tryd.func57 (by kernel_rfl) rfl #[.bool (a1_0 != a2), .string t261, .int .i64 ji8] rfl (by (try simp only [List.map_toArray, List.map_cons, List.map_nil]); first | done | (simp only [hji8]; rfl) | rfl | (simp only [List.length_drop, List.length_take]; rfl)) ?_; (with_reducible refine (idiomref02_Make.calls k (a1_0 != a2) t261 ji8 t262 t263 t264 t265 _ A13.out).mono ?_); rintro e w34 ⟨rfl, hb⟩; refine ⟨_, rfl, ?_⟩; replace HO257 := Aside0.mk (Kd.R_below (by (with_reducible repeat (first | apply Kd.R_alloc | apply Kd.R_drewN | apply Kd.R_drew)); exact HO257.out) hb); replace BK250 := qb BK250 hb; replace BK251 := qb BK251 hb; replace BK252 := qb BK252 hb; replace HB := qn HB hb; (try clear hb); (try clear hb2); (try clear hk); (try clear hi); obtain ⟨hcz35_0, hcz35_1, hcz35_2, hfz35_0, hfz35_1, hfz35_2⟩ := q3 BK252))
     refine bodyPost_ret (results_ct rfl _ _ gb252 23 #[.bool t262, .string t263, .string t264] (0, 0) _ rfl (by refine qp 2 #[.bool t262, .string t263, .string (⟨#[]⟩ : ByteArray)] ?_; refine qp 1 #[.bool t262, .string (⟨#[]⟩ : ByteArray), .string (⟨#[]⟩ : ByteArray)] ?_; refine qp 0 #[.bool false, .string (⟨#[]⟩ : ByteArray), .string (⟨#[]⟩ : ByteArray)] ?_; exact qk BK252) Tryd.underlying23 rfl (by kernel_rfl)) rfl ?_
     exact ⟨by first | rfl | (exact congrArg (fun b => Ending.returned (.bool b)) (Aid.bne_nil _)) | (exact congrArg (fun b => Ending.returned (.bool b)) (Aid.eq_nil _)) | (simp [errW_none, errW_some] <;> rfl) | (simp only [← hji8]; first | rfl | (simp [errW_none, errW_some] <;> rfl)) | (simp [*, errW_none, errW_some] <;> rfl), qh HB⟩
   · rw [if_neg c11] at H
     have c11b0 : (a0_0 == (a1_0 != a2)) = false := by simpa using c11
     try have c11b0z := c11b0
     (try simp only [bne] at c11b0z)
     (try (have c11b1 : decide (a0_0 = (a1_0 != a2)) = false := by simpa using c11))
     (try (have c11b2 : (a0_0 == (a1_0 != a2)) = false := by simpa using c11))
     (try (have c11b3 : ¬ (a0_0 = (a1_0 != a2)) := by simpa using c11))
     clear c11
     replace H := Option.bind_eq_some_iff.mp H
     obtain ⟨t266, A360, H⟩ := H
     replace H : (if t266 ≥ 0 then ((idiomref02_Minus.f k t259 t260).bind fun t267 => ((idiomref02_Make.f k a0_0 t267 (ji8)).bind fun bt268 => (some (bt268.1, bt268.2.1, bt268.2.2.1, bt268.2.2.2)))) else ((idiomref02_Minus.f k t260 t259).bind fun t272 => ((idiomref02_Make.f k (a1_0 != a2) t272 (ji8)).bind fun bt273 => (some (bt273.1, bt273.2.1, bt273.2.2.1, bt273.2.2.2))))) = some (r1, r2, r3, r4) := H
     have A36 := Aside0.mk A360
     clear A360
     by_cases c37 : t266 ≥ 0
     · rw [if_pos c37] at H
       have c37b0 : decide (0 ≤ t266) = true := decide_eq_true c37
       clear c37
       replace H := Option.bind_eq_some_iff.mp H
       obtain ⟨t267, A380, H⟩ := H
       replace H : ((idiomref02_Make.f k a0_0 t267 (ji8)).bind fun bt268 => (some (bt268.1, bt268.2.1, bt268.2.2.1, bt268.2.2.2))) = some (r1, r2, r3, r4) := H
       have A38 := Aside0.mk A380
       clear A380
       replace H := Option.bind_eq_some_iff.mp H
       obtain ⟨⟨t268, t269, t270, t271⟩, A390, H⟩ := H
       replace H : (some (t268, t269, t270, t271)) = some (r1, r2, r3, r4) := H
       have A39 := Aside0.mk A390
       clear A390
       simp only [Option.some.injEq, Prod.mk.injEq] at H
       obtain ⟨rfl, rfl, rfl, rfl⟩ := H
       go_enter Tryd.func30, Tryd.ntmps30
       try go_wp2_with (first | ((with_reducible refine gate_dst (N := 3) rfl ?_); refine qx 3 #[.bool a0_0, .string a0_1, .string a0_2] 23 ?_; intro gb250 hg w40 hbox hb; have BK250 := Aside0.mk (hbox); have GW250 := qs hg HB; have GE250 := GW250; replace HB := qn HB hb; clear hb hbox hg) | ((with_reducible refine gate_dst (N := 4) rfl ?_); refine qx 4 #[.bool a1_0, .string a1_1, .string a1_2] 23 ?_; intro gb251 hg w41 hbox hb; have BK251 := Aside0.mk (hbox); have GW251 := qs hg HB; have GE251 := GW251; have NB250_251 := ql_ hg BK250; have NB251_250 := qg_ hg BK250; replace BK250 := qb BK250 hb; replace HB := qn HB hb; clear hb hbox hg) | ((with_reducible refine gate_dst (N := 6) rfl ?_); refine qx 6 #[.bool false, .string (⟨#[]⟩ : ByteArray), .string (⟨#[]⟩ : ByteArray)] 23 ?_; intro gb252 hg w42 hbox hb; have BK252 := Aside0.mk (hbox); have GW252 := qs hg HB; have GE252 := GW252; have NB250_252 := ql_ hg BK250; have NB252_250 := qg_ hg BK250; have NB251_252 := ql_ hg BK251; have NB252_251 := qg_ hg BK251; replace BK250 := qb BK250 hb; replace BK251 := qb BK251 hb; replace HB := qn HB hb; clear hb hbox hg))
       replace BK250 := Aside0.mk (blk_drew BK250.out)
       replace BK251 := Aside0.mk (blk_drew BK251.out)
       replace BK252 := Aside0.mk (blk_drew BK252.out)
       replace HB := Aside0.mk (below_drew1 HB.out)
       refine start_ (n := 7) (S := fun w' => w'.cell? ⟨gb250, 0, none⟩ = some (.bool a0_0) ∧ w'.cell? ⟨gb250, 1, none⟩ = some (.string a0_1) ∧ w'.cell? ⟨gb250, 2, none⟩ = some (.string a0_2) ∧ w'.cell? ⟨gb251, 0, none⟩ = some (.bool a1_0) ∧ w'.cell? ⟨gb251, 1, none⟩ = some (.string a1_1) ∧ w'.cell? ⟨gb251, 2, none⟩ = some (.string a1_2)) (ds := []) #[false, false, false, false, false, false, false] (by kernel_rfl) rfl rfl ⟨c_ BK250 0, c_ BK250 1, c_ BK250 2, c_ BK251 0, c_ BK251 1, c_ BK251 2⟩ (fun hHeld => ?_)
       generalize w42.drew = w43 at BK250 BK251 BK252 HB hHeld ⊢
       refine take_ (i := 0) (N := some 13) (v := ?_) (a' := ?_) #[true, false, false, false, false, false, false] rfl rfl (by kernel_rfl) (fun _ _ _ h => h) (Or.inl ⟨by rfl, ?_⟩) hHeld ?_ ?_
       rotate_left
       · rintro w' ⟨s0, s1, s2, s3, s4, s5⟩
         go_simp
         with_reducible rfl
       rotate_left
       · simp only [Act.put, List.setIfInBounds_toArray, List.set_cons_zero, List.set_cons_succ, i64_w, i32_w]
         rfl
       refine take_ (i := 2) (N := some 15) (v := ?_) (a' := ?_) #[true, false, true, false, false, false, false] rfl rfl (by kernel_rfl) (fun _ _ _ h => h) (Or.inl ⟨by rfl, ?_⟩) hHeld ?_ ?_
       rotate_left
       · rintro w' ⟨s0, s1, s2, s3, s4, s5⟩
         go_simp
         with_reducible rfl
       rotate_left
       · simp only [Act.put, List.setIfInBounds_toArray, List.set_cons_zero, List.set_cons_succ, i64_w, i32_w]
         rfl
       refine one_ (i := 1) (N := some 14) #[true, true, true, false, false, false, false] rfl rfl (by kernel_rfl) (by decide) (fun K hK => ?_)
       refine goes_ Tryd.func32 (by kernel_rfl) rfl #[.agg #[.bool a0_0, .string a0_1, .string a0_2]] (by rfl) rfl rfl ql ?_
       with_reducible refine (idiomref02_Check.calls k a0_0 a0_1 a0_2 t253 _ A4.out).mono ?_
       rintro e w44 ⟨rfl, hb⟩
       refine ⟨_, rfl, ?_⟩
       replace BK250 := qb BK250 hb
       replace BK251 := qb BK251 hb
       replace BK252 := qb BK252 hb
       replace HB := qn HB hb
       (try clear hb)
       (try clear hb2)
       (try clear hk)
       (try clear hi)
       refine hK.out _ _ ⟨c_ BK250 0, c_ BK250 1, c_ BK250 2, c_ BK251 0, c_ BK251 1, c_ BK251 2⟩ (fun hHeld => ?_)
       clear hK K
       refine nz (some 14) ?_
       refine one_ (i := 3) (N := some 16) #[true, true, true, true, false, false, false] rfl rfl (by kernel_rfl) (by decide) (fun K hK => ?_)
       refine goes_ Tryd.func32 (by kernel_rfl) rfl #[.agg #[.bool a1_0, .string a1_1, .string a1_2]] (by rfl) rfl rfl ql ?_
       with_reducible refine (idiomref02_Check.calls k a1_0 a1_1 a1_2 t254 _ A5.out).mono ?_
       rintro e w45 ⟨rfl, hb⟩
       refine ⟨_, rfl, ?_⟩
       replace BK250 := qb BK250 hb
       replace BK251 := qb BK251 hb
       replace BK252 := qb BK252 hb
       replace HB := qn HB hb
       (try clear hb)
       (try clear hb2)
       (try clear hk)
       (try clear hi)
       refine hK.out _ _ ⟨c_ BK250 0, c_ BK250 1, c_ BK250 2, c_ BK251 0, c_ BK251 1, c_ BK251 2⟩ (fun hHeld => ?_)
       clear hK K
       refine nz (some 16) ?_
       refine one_ (i := 4) (N := some 17) #[true, true, true, true, true, false, false] rfl rfl (by kernel_rfl) (by decide) (fun K hK => ?_)
       refine Kd.R_lit_step (Kd.int .i64) _ 24 ?hg (N := 17) ?hd (xs := ([t253, t254] : List Int)) (inner := [.int .i64 t253, .int .i64 t254]) (ok := fun _ => True) (okp := fun _ => True) ?hr ?hp (fun _ hk => hk) trivial (Below.refl _ _) (Nat.le_refl _) (by simp) ?_; (case hd => rfl); (case hg => rfl); (case hr => first | (go_simp; done) | (go_simp; rfl)); (case hp => exact (Reps.one (show Kd.M (Kd.int .i64) _ _ _ t253 [.int .i64 t253] from rfl) (Reps.one (show Kd.M (Kd.int .i64) _ _ _ t254 [.int .i64 t254] from rfl) (Reps.none _ _))))
       intro v256 w46 ho47 hb hg_ hnew_
       clear hg_ hnew_
       (first | rw [← Ny255.out] at ho47 | (simp only [Int.reduceToNat] at ho47; rw [← Ny255.out] at ho47))
       have HO257 := Aside0.mk (Kd.R_lower ho47 (below_size (qh HB)))
       replace BK250 := qb BK250 hb
       replace BK251 := qb BK251 hb
       replace BK252 := qb BK252 hb
       replace HB := qn HB hb
       clear hb ho47
       obtain ⟨Ao48, co48, eo48⟩ := Kd.R_slice HO257.out
       (first | subst eo48 | (injection eo48 with f1_ f2_ f3_; have f4_ := f1_.symm; have f5_ := f3_.symm; clear f1_ f2_ f3_; subst f4_; subst f5_))
       refine hK.out _ _ ⟨c_ BK250 0, c_ BK250 1, c_ BK250 2, c_ BK251 0, c_ BK251 1, c_ BK251 2⟩ (fun hHeld => ?_)
       clear hK K
       refine nz (some 17) ?_
       refine one_ (i := 5) (N := some 18) #[true, true, true, true, true, true, false] rfl rfl (by kernel_rfl) (by decide) (fun K hK => ?_)
       refine goes_ Tryd.func31 (by kernel_rfl) rfl #[.slice Ao48 y255.length co48] (by rfl) rfl rfl ql ?_
       with_reducible refine (idiomref02_First.calls k _ _ y255 t258 _ ?side1 ?side2 A6.out).mono ?_
       (case side1 => repeat (first | exact (Kd.R_reads' HO257.out).2.2 | (with_reducible refine Kd.C_alloc ?_ _) | (with_reducible refine Kd.C_drewN ?_ _) | (with_reducible refine Kd.C_drew ?_)))
       (case side2 => exact (Kd.R_reads' HO257.out).2.1)
       rintro e w' ⟨rfl, ⟨nd, rfl⟩⟩
       refine ⟨_, rfl, ?_⟩
       refine hK.out _ _ ⟨c_ BK250 0, c_ BK250 1, c_ BK250 2, c_ BK251 0, c_ BK251 1, c_ BK251 2⟩ (fun hHeld => ?_)
       clear hK K
       refine nz (some 18) ?_
       refine pure_ (i := 6) (N := some 8) (v := ?_) (a' := ?_) #[true, true, true, true, true, true, true] rfl rfl (by kernel_rfl) (fun _ _ _ h => h) (Or.inl ⟨by rfl, ?_⟩) ?_ ?_
       rotate_left
       · intro w'
         go_simp
         with_reducible rfl
       rotate_left
       · simp only [Act.put, List.setIfInBounds_toArray, List.set_cons_zero, List.set_cons_succ, i64_w, i32_w]
         rfl
       refine done_ (by kernel_rfl) ?_
       have hnb49 := NB250_251.out
       have hnc49 := NB251_250.out
       have hnb50 := NB250_252.out
       have hnc50 := NB252_250.out
       obtain ⟨hcz51_0, hcz51_1, hcz51_2, hfz51_0, hfz51_1, hfz51_2⟩ := q3 BK250
       have hnb52 := NB251_252.out
       have hnc52 := NB252_251.out
       obtain ⟨hcz53_0, hcz53_1, hcz53_2, hfz53_0, hfz53_1, hfz53_2⟩ := q3 BK251
       try go_wp2
       (try (rw [drewN_self w46]; generalize hq_ : World.drewN w46 _ = w46; have n0_ : Aside0 (Kd.R (Kd.int .i64) 24 w46 w.heap.size (fun _ => True) (.slice Ao48 y255.length co48) y255) := ⟨by rw [← hq_]; exact (by (with_reducible repeat (first | apply Kd.R_alloc | apply Kd.R_drewN | apply Kd.R_drew)); exact HO257.out)⟩; have n1_ : Aside0 (w46.heap[gb250]? = some (.cells #[.bool a0_0, .string a0_1, .string a0_2] 23 (0, 0))) := ⟨by rw [← hq_]; exact (qk BK250)⟩; have n2_ : Aside0 (w46.heap[gb251]? = some (.cells #[.bool a1_0, .string a1_1, .string a1_2] 23 (0, 0))) := ⟨by rw [← hq_]; exact (qk BK251)⟩; have n3_ : Aside0 (w46.heap[gb252]? = some (.cells #[.bool false, .string (⟨#[]⟩ : ByteArray), .string (⟨#[]⟩ : ByteArray)] 23 (0, 0))) := ⟨by rw [← hq_]; exact (qk BK252)⟩; have n4_ : Aside0 (Below w.heap.size w w46) := ⟨by rw [← hq_]; exact (qh HB)⟩; clear HO257 BK250 BK251 BK252 HB hq_; have HO257 := n0_; have BK250 := n1_; have BK251 := n2_; have BK252 := n3_; have HB := n4_; clear n0_ n1_ n2_ n3_ n4_; (try have hcy250_0 : w46.cell? ⟨gb250, 0, none⟩ = some (.bool a0_0) := c_ BK250 0); (try have hfy250_0 := blk_frozen BK250.out 0); (try have hcy250_1 : w46.cell? ⟨gb250, 1, none⟩ = some (.string a0_1) := c_ BK250 1); (try have hfy250_1 := blk_frozen BK250.out 1); (try have hcy250_2 : w46.cell? ⟨gb250, 2, none⟩ = some (.string a0_2) := c_ BK250 2); (try have hfy250_2 := blk_frozen BK250.out 2); (try have hcy251_0 : w46.cell? ⟨gb251, 0, none⟩ = some (.bool a1_0) := c_ BK251 0); (try have hfy251_0 := blk_frozen BK251.out 0); (try have hcy251_1 : w46.cell? ⟨gb251, 1, none⟩ = some (.string a1_1) := c_ BK251 1); (try have hfy251_1 := blk_frozen BK251.out 1); (try have hcy251_2 : w46.cell? ⟨gb251, 2, none⟩ = some (.string a1_2) := c_ BK251 2); (try have hfy251_2 := blk_frozen BK251.out 2); (try have hcy252_0 : w46.cell? ⟨gb252, 0, none⟩ = some (.bool false) := c_ BK252 0); (try have hfy252_0 := blk_frozen BK252.out 0); (try have hcy252_1 : w46.cell? ⟨gb252, 1, none⟩ = some (.string (⟨#[]⟩ : ByteArray)) := c_ BK252 1); (try have hfy252_1 := blk_frozen BK252.out 1); (try have hcy252_2 : w46.cell? ⟨gb252, 2, none⟩ = some (.string (⟨#[]⟩ : ByteArray)) := c_ BK252 2); (try have hfy252_2 := blk_frozen BK252.out 2)))
       replace HO257 := Aside0.mk (Kd.R_drew HO257.out)
       replace BK250 := Aside0.mk (blk_drew BK250.out)
       replace BK251 := Aside0.mk (blk_drew BK251.out)
       replace BK252 := Aside0.mk (blk_drew BK252.out)
       replace HB := Aside0.mk (below_drew1 HB.out)
       refine start_ (n := 8) (S := fun w' => w'.cell? ⟨gb250, 0, none⟩ = some (.bool a0_0) ∧ w'.cell? ⟨gb250, 1, none⟩ = some (.string a0_1) ∧ w'.cell? ⟨gb250, 2, none⟩ = some (.string a0_2) ∧ w'.cell? ⟨gb251, 0, none⟩ = some (.bool a1_0) ∧ w'.cell? ⟨gb251, 1, none⟩ = some (.string a1_1) ∧ w'.cell? ⟨gb251, 2, none⟩ = some (.string a1_2)) (ds := []) #[false, false, false, false, false, false, false, false] (by kernel_rfl) rfl rfl ⟨c_ BK250 0, c_ BK250 1, c_ BK250 2, c_ BK251 0, c_ BK251 1, c_ BK251 2⟩ (fun hHeld => ?_); refine with_tabW idiomref02_sum.tab5 idiomref02_sum.bits5 (fun HT_ HW_ => ?_)
       generalize w46.drew = w54 at HO257 BK250 BK251 BK252 HB hHeld ⊢
       refine pz 1 (some 31) #[false, true, false, false, false, false, false, false] HT_ ?_
       refine pz 4 (some 34) #[false, true, false, false, true, false, false, false] HT_ ?_
       refine tw6 0 (some 30) #[true, true, false, false, true, false, false, false] HT_ HW_ hHeld ?_
       refine tw6 3 (some 33) #[true, true, false, true, true, false, false, false] HT_ HW_ hHeld ?_
       refine one_ (i := 2) (N := some 32) #[true, true, true, true, true, false, false, false] rfl rfl (one_of HT_.out (by kernel_rfl)) (by decide) (fun K hK => ?_)
       refine goes_ Tryd.func34 (by kernel_rfl) rfl #[.agg #[.bool a0_0, .string a0_1, .string a0_2], .int .i64 ji8] (by rfl) rfl rfl (by (try simp only [List.map_toArray, List.map_cons, List.map_nil]); first | done | (simp only [hji8]; rfl) | rfl | (simp only [List.length_drop, List.length_take]; rfl)) ?_
       with_reducible refine (idiomref02_raised.calls k a0_0 a0_1 a0_2 ji8 t259 _ A9.out).mono ?_
       rintro e w55 ⟨rfl, hb⟩
       refine ⟨_, rfl, ?_⟩
       replace HO257 := Aside0.mk (Kd.R_below (by (with_reducible repeat (first | apply Kd.R_alloc | apply Kd.R_drewN | apply Kd.R_drew)); exact HO257.out) hb)
       replace BK250 := qb BK250 hb
       replace BK251 := qb BK251 hb
       replace BK252 := qb BK252 hb
       replace HB := qn HB hb
       (try clear hb)
       (try clear hb2)
       (try clear hk)
       (try clear hi)
       refine hK.out _ _ ⟨c_ BK250 0, c_ BK250 1, c_ BK250 2, c_ BK251 0, c_ BK251 1, c_ BK251 2⟩ (fun hHeld => ?_)
       clear hK K
       refine nz (some 32) ?_
       refine one_ (i := 5) (N := some 35) #[true, true, true, true, true, true, false, false] rfl rfl (one_of HT_.out (by kernel_rfl)) (by decide) (fun K hK => ?_)
       refine goes_ Tryd.func34 (by kernel_rfl) rfl #[.agg #[.bool a1_0, .string a1_1, .string a1_2], .int .i64 ji8] (by rfl) rfl rfl (by (try simp only [List.map_toArray, List.map_cons, List.map_nil]); first | done | (simp only [hji8]; rfl) | rfl | (simp only [List.length_drop, List.length_take]; rfl)) ?_
       with_reducible refine (idiomref02_raised.calls k a1_0 a1_1 a1_2 ji8 t260 _ A10.out).mono ?_
       rintro e w56 ⟨rfl, hb⟩
       refine ⟨_, rfl, ?_⟩
       replace HO257 := Aside0.mk (Kd.R_below (by (with_reducible repeat (first | apply Kd.R_alloc | apply Kd.R_drewN | apply Kd.R_drew)); exact HO257.out) hb)
       replace BK250 := qb BK250 hb
       replace BK251 := qb BK251 hb
       replace BK252 := qb BK252 hb
       replace HB := qn HB hb
       (try clear hb)
       (try clear hb2)
       (try clear hk)
       (try clear hi)
       refine hK.out _ _ ⟨c_ BK250 0, c_ BK250 1, c_ BK250 2, c_ BK251 0, c_ BK251 1, c_ BK251 2⟩ (fun hHeld => ?_)
       clear hK K
       refine nz (some 35) ?_
       refine pz 6 (some 10) #[true, true, true, true, true, true, true, false] HT_ ?_
       refine pz 7 (some 11) #[true, true, true, true, true, true, true, true] HT_ ?_
       refine done_ (done_of HT_.out (by kernel_rfl)) ?_
       obtain ⟨hcz57_0, hcz57_1, hcz57_2, hfz57_0, hfz57_1, hfz57_2⟩ := q3 BK251
       obtain ⟨hcz58_0, hcz58_1, hcz58_2, hfz58_0, hfz58_1, hfz58_2⟩ := q3 BK250
       try go_wp2_with (first | ((with_reducible refine gate_callee (f := 33) rfl ?_); refine goesL_ (some 56) rfl rfl Tryd.func33 (by kernel_rfl) rfl #[.string t259, .string t260] rfl ql ?_; (with_reducible refine (idiomref02_Cmp.calls k t259 t260 t266 _ A36.out).mono ?_); rintro e w' ⟨rfl, ⟨nd, rfl⟩⟩; refine ⟨_, rfl, ?_⟩; (try (rw [drewN_self w56]; generalize hq_ : World.drewN w56 _ = w56; have n0_ : Aside0 (Kd.R (Kd.int .i64) 24 w56 w.heap.size (fun _ => True) (.slice Ao48 y255.length co48) y255) := ⟨by rw [← hq_]; exact (by (with_reducible repeat (first | apply Kd.R_alloc | apply Kd.R_drewN | apply Kd.R_drew)); exact HO257.out)⟩; have n1_ : Aside0 (w56.heap[gb250]? = some (.cells #[.bool a0_0, .string a0_1, .string a0_2] 23 (0, 0))) := ⟨by rw [← hq_]; exact (qk BK250)⟩; have n2_ : Aside0 (w56.heap[gb251]? = some (.cells #[.bool a1_0, .string a1_1, .string a1_2] 23 (0, 0))) := ⟨by rw [← hq_]; exact (qk BK251)⟩; have n3_ : Aside0 (w56.heap[gb252]? = some (.cells #[.bool false, .string (⟨#[]⟩ : ByteArray), .string (⟨#[]⟩ : ByteArray)] 23 (0, 0))) := ⟨by rw [← hq_]; exact (qk BK252)⟩; have n4_ : Aside0 (Below w.heap.size w w56) := ⟨by rw [← hq_]; exact (qh HB)⟩; clear HO257 BK250 BK251 BK252 HB hq_; have HO257 := n0_; have BK250 := n1_; have BK251 := n2_; have BK252 := n3_; have HB := n4_; clear n0_ n1_ n2_ n3_ n4_; (try have hcy250_0 : w56.cell? ⟨gb250, 0, none⟩ = some (.bool a0_0) := c_ BK250 0); (try have hfy250_0 := blk_frozen BK250.out 0); (try have hcy250_1 : w56.cell? ⟨gb250, 1, none⟩ = some (.string a0_1) := c_ BK250 1); (try have hfy250_1 := blk_frozen BK250.out 1); (try have hcy250_2 : w56.cell? ⟨gb250, 2, none⟩ = some (.string a0_2) := c_ BK250 2); (try have hfy250_2 := blk_frozen BK250.out 2); (try have hcy251_0 : w56.cell? ⟨gb251, 0, none⟩ = some (.bool a1_0) := c_ BK251 0); (try have hfy251_0 := blk_frozen BK251.out 0); (try have hcy251_1 : w56.cell? ⟨gb251, 1, none⟩ = some (.string a1_1) := c_ BK251 1); (try have hfy251_1 := blk_frozen BK251.out 1); (try have hcy251_2 : w56.cell? ⟨gb251, 2, none⟩ = some (.string a1_2) := c_ BK251 2); (try have hfy251_2 := blk_frozen BK251.out 2); (try have hcy252_0 : w56.cell? ⟨gb252, 0, none⟩ = some (.bool false) := c_ BK252 0); (try have hfy252_0 := blk_frozen BK252.out 0); (try have hcy252_1 : w56.cell? ⟨gb252, 1, none⟩ = some (.string (⟨#[]⟩ : ByteArray)) := c_ BK252 1); (try have hfy252_1 := blk_frozen BK252.out 1); (try have hcy252_2 : w56.cell? ⟨gb252, 2, none⟩ = some (.string (⟨#[]⟩ : ByteArray)) := c_ BK252 2); (try have hfy252_2 := blk_frozen BK252.out 2)))))
       replace HO257 := Aside0.mk (Kd.R_drew HO257.out)
       replace BK250 := Aside0.mk (blk_drew BK250.out)
       replace BK251 := Aside0.mk (blk_drew BK251.out)
       replace BK252 := Aside0.mk (blk_drew BK252.out)
       replace HB := Aside0.mk (below_drew1 HB.out)
       refine start_ (n := 11) (S := fun w' => w'.cell? ⟨gb250, 0, none⟩ = some (.bool a0_0) ∧ w'.cell? ⟨gb250, 1, none⟩ = some (.string a0_1) ∧ w'.cell? ⟨gb250, 2, none⟩ = some (.string a0_2)) (ds := []) #[false, false, false, false, false, false, false, false, false, false, false] (by kernel_rfl) rfl rfl ⟨c_ BK250 0, c_ BK250 1, c_ BK250 2⟩ (fun hHeld => ?_); refine with_tabW idiomref02_sum.tab10 idiomref02_sum.bits10 (fun HT_ HW_ => ?_)
       generalize w56.drew = w59 at HO257 BK250 BK251 BK252 HB hHeld ⊢
       refine pz 0 (some 58) #[true, false, false, false, false, false, false, false, false, false, false] HT_ ?_
       refine pz 2 (some 60) #[true, false, true, false, false, false, false, false, false, false, false] HT_ ?_
       refine pz 3 (some 61) #[true, false, true, true, false, false, false, false, false, false, false] HT_ ?_
       refine pz 5 (some 63) #[true, false, true, true, false, true, false, false, false, false, false] HT_ ?_
       refine tw3 1 (some 59) #[true, true, true, true, false, true, false, false, false, false, false] HT_ HW_ hHeld ?_
       refine one_ (i := 4) (N := some 62) #[true, true, true, true, true, true, false, false, false, false, false] rfl rfl (one_of HT_.out (by kernel_rfl)) (by decide) (fun K hK => ?_)
       refine goes_ Tryd.func59 (by kernel_rfl) rfl #[.string t259, .string t260] (by rfl) rfl rfl ql ?_
       with_reducible refine (idiomref02_Minus.calls k t259 t260 t267 _ A38.out).mono ?_
       rintro e w60 ⟨rfl, hb⟩
       refine ⟨_, rfl, ?_⟩
       replace HO257 := Aside0.mk (Kd.R_below (by (with_reducible repeat (first | apply Kd.R_alloc | apply Kd.R_drewN | apply Kd.R_drew)); exact HO257.out) hb)
       replace BK250 := qb BK250 hb
       replace BK251 := qb BK251 hb
       replace BK252 := qb BK252 hb
       replace HB := qn HB hb
       (try clear hb)
       (try clear hb2)
       (try clear hk)
       (try clear hi)
       refine hK.out _ _ ⟨c_ BK250 0, c_ BK250 1, c_ BK250 2⟩ (fun hHeld => ?_)
       clear hK K
       refine nz (some 62) ?_
       refine one_ (i := 6) (N := some 64) #[true, true, true, true, true, true, true, false, false, false, false] rfl rfl (one_of HT_.out (by kernel_rfl)) (by decide) (fun K hK => ?_)
       refine goes_ Tryd.func57 (by kernel_rfl) rfl #[.bool a0_0, .string t267, .int .i64 ji8] (by rfl) rfl rfl (by (try simp only [List.map_toArray, List.map_cons, List.map_nil]); first | done | (simp only [hji8]; rfl) | rfl | (simp only [List.length_drop, List.length_take]; rfl)) ?_
       with_reducible refine (idiomref02_Make.calls k a0_0 t267 ji8 t268 t269 t270 t271 _ A39.out).mono ?_
       rintro e w61 ⟨rfl, hb⟩
       refine ⟨_, rfl, ?_⟩
       replace HO257 := Aside0.mk (Kd.R_below (by (with_reducible repeat (first | apply Kd.R_alloc | apply Kd.R_drewN | apply Kd.R_drew)); exact HO257.out) hb)
       replace BK250 := qb BK250 hb
       replace BK251 := qb BK251 hb
       replace BK252 := qb BK252 hb
       replace HB := qn HB hb
       (try clear hb)
       (try clear hb2)
       (try clear hk)
       (try clear hi)
       refine hK.out _ _ ⟨c_ BK250 0, c_ BK250 1, c_ BK250 2⟩ (fun hHeld => ?_)
       clear hK K
       refine nz (some 64) ?_
       refine pz 7 (some 65) #[true, true, true, true, true, true, true, true, false, false, false] HT_ ?_
       refine pz 8 (some 66) #[true, true, true, true, true, true, true, true, true, false, false] HT_ ?_
       refine one_ (i := 9) (N := none) #[true, true, true, true, true, true, true, true, true, true, false] rfl rfl (one_of HT_.out (by kernel_rfl)) (by decide) (fun K hK => ?_)
       have hs62 : w61.cell? ⟨gb252, 0, none⟩ = some (.bool false) := c_ BK252 0
       have hfs62 := blk_frozen BK252.out 0
       have hns62_0 := NB250_252.out
       have hns62_1 := NB251_252.out
       have hms62_0 := NB252_250.out
       have hms62_1 := NB252_251.out
       have hs63 : w61.cell? ⟨gb252, 1, none⟩ = some (.string (⟨#[]⟩ : ByteArray)) := c_ BK252 1
       have hfs63 := blk_frozen BK252.out 1
       have hns63_0 := NB250_252.out
       have hns63_1 := NB251_252.out
       have hms63_0 := NB252_250.out
       have hms63_1 := NB252_251.out
       have hs64 : w61.cell? ⟨gb252, 2, none⟩ = some (.string (⟨#[]⟩ : ByteArray)) := c_ BK252 2
       have hfs64 := blk_frozen BK252.out 2
       have hns64_0 := NB250_252.out
       have hns64_1 := NB251_252.out
       have hms64_0 := NB252_250.out
       have hms64_1 := NB252_251.out
       refine skip_ (w1 := ?_) (by rfl) rfl ?_ ?_
       rotate_left
       · go_simp
         rfl
       refine hK.out _ _ ⟨((cell_far (p := ⟨gb252, _, none⟩) NB250_252.out _).trans (((cell_far (p := ⟨gb252, _, none⟩) NB250_252.out _).trans (((cell_far (p := ⟨gb252, _, none⟩) NB250_252.out _).trans (hHeld.1)))))), ((cell_far (p := ⟨gb252, _, none⟩) NB250_252.out _).trans (((cell_far (p := ⟨gb252, _, none⟩) NB250_252.out _).trans (((cell_far (p := ⟨gb252, _, none⟩) NB250_252.out _).trans (hHeld.2.1)))))), ((cell_far (p := ⟨gb252, _, none⟩) NB250_252.out _).trans (((cell_far (p := ⟨gb252, _, none⟩) NB250_252.out _).trans (((cell_far (p := ⟨gb252, _, none⟩) NB250_252.out _).trans (hHeld.2.2))))))⟩ (fun hHeld => ?_)
       clear hK K
       refine pz 10 (some 7) #[true, true, true, true, true, true, true, true, true, true, true] HT_ ?_
       refine done_ (done_of HT_.out (by kernel_rfl)) ?_
       try go_wp2
       refine bodyPost_ret (results_ct rfl _ _ gb252 23 #[.bool t268, .string t269, .string t270] (0, 0) _ rfl (by refine qp 2 #[.bool t268, .string t269, .string (⟨#[]⟩ : ByteArray)] ?_; refine qp 1 #[.bool t268, .string (⟨#[]⟩ : ByteArray), .string (⟨#[]⟩ : ByteArray)] ?_; refine qp 0 #[.bool false, .string (⟨#[]⟩ : ByteArray), .string (⟨#[]⟩ : ByteArray)] ?_; exact qk BK252) Tryd.underlying23 rfl (by kernel_rfl)) rfl ?_
       exact ⟨by first | rfl | (exact congrArg (fun b => Ending.returned (.bool b)) (Aid.bne_nil _)) | (exact congrArg (fun b => Ending.returned (.bool b)) (Aid.eq_nil _)) | (simp [errW_none, errW_some] <;> rfl) | (simp only [← hji8]; first | rfl | (simp [errW_none, errW_some] <;> rfl)) | (simp [*, errW_none, errW_some] <;> rfl), qh HB⟩
     · rw [if_neg c37] at H
       have c37b0 : decide (0 ≤ t266) = false := decide_eq_false c37
       clear c37
       replace H := Option.bind_eq_some_iff.mp H
       obtain ⟨t272, A650, H⟩ := H
       replace H : ((idiomref02_Make.f k (a1_0 != a2) t272 (ji8)).bind fun bt273 => (some (bt273.1, bt273.2.1, bt273.2.2.1, bt273.2.2.2))) = some (r1, r2, r3, r4) := H
       have A65 := Aside0.mk A650
       clear A650
       replace H := Option.bind_eq_some_iff.mp H
       obtain ⟨⟨t273, t274, t275, t276⟩, A660, H⟩ := H
       replace H : (some (t273, t274, t275, t276)) = some (r1, r2, r3, r4) := H
       have A66 := Aside0.mk A660
       clear A660
       simp only [Option.some.injEq, Prod.mk.injEq] at H
       obtain ⟨rfl, rfl, rfl, rfl⟩ := H
       go_enter Tryd.func30, Tryd.ntmps30
       try go_wp2_with (first | ((with_reducible refine gate_dst (N := 3) rfl ?_); refine qx 3 #[.bool a0_0, .string a0_1, .string a0_2] 23 ?_; intro gb250 hg w67 hbox hb; have BK250 := Aside0.mk (hbox); have GW250 := qs hg HB; have GE250 := GW250; replace HB := qn HB hb; clear hb hbox hg) | ((with_reducible refine gate_dst (N := 4) rfl ?_); refine qx 4 #[.bool a1_0, .string a1_1, .string a1_2] 23 ?_; intro gb251 hg w68 hbox hb; have BK251 := Aside0.mk (hbox); have GW251 := qs hg HB; have GE251 := GW251; have NB250_251 := ql_ hg BK250; have NB251_250 := qg_ hg BK250; replace BK250 := qb BK250 hb; replace HB := qn HB hb; clear hb hbox hg) | ((with_reducible refine gate_dst (N := 6) rfl ?_); refine qx 6 #[.bool false, .string (⟨#[]⟩ : ByteArray), .string (⟨#[]⟩ : ByteArray)] 23 ?_; intro gb252 hg w69 hbox hb; have BK252 := Aside0.mk (hbox); have GW252 := qs hg HB; have GE252 := GW252; have NB250_252 := ql_ hg BK250; have NB252_250 := qg_ hg BK250; have NB251_252 := ql_ hg BK251; have NB252_251 := qg_ hg BK251; replace BK250 := qb BK250 hb; replace BK251 := qb BK251 hb; replace HB := qn HB hb; clear hb hbox hg))
       replace BK250 := Aside0.mk (blk_drew BK250.out)
       replace BK251 := Aside0.mk (blk_drew BK251.out)
       replace BK252 := Aside0.mk (blk_drew BK252.out)
       replace HB := Aside0.mk (below_drew1 HB.out)
       refine start_ (n := 7) (S := fun w' => w'.cell? ⟨gb250, 0, none⟩ = some (.bool a0_0) ∧ w'.cell? ⟨gb250, 1, none⟩ = some (.string a0_1) ∧ w'.cell? ⟨gb250, 2, none⟩ = some (.string a0_2) ∧ w'.cell? ⟨gb251, 0, none⟩ = some (.bool a1_0) ∧ w'.cell? ⟨gb251, 1, none⟩ = some (.string a1_1) ∧ w'.cell? ⟨gb251, 2, none⟩ = some (.string a1_2)) (ds := []) #[false, false, false, false, false, false, false] (by kernel_rfl) rfl rfl ⟨c_ BK250 0, c_ BK250 1, c_ BK250 2, c_ BK251 0, c_ BK251 1, c_ BK251 2⟩ (fun hHeld => ?_)
       generalize w69.drew = w70 at BK250 BK251 BK252 HB hHeld ⊢
       refine take_ (i := 0) (N := some 13) (v := ?_) (a' := ?_) #[true, false, false, false, false, false, false] rfl rfl (by kernel_rfl) (fun _ _ _ h => h) (Or.inl ⟨by rfl, ?_⟩) hHeld ?_ ?_
       rotate_left
       · rintro w' ⟨s0, s1, s2, s3, s4, s5⟩
         go_simp
         with_reducible rfl
       rotate_left
       · simp only [Act.put, List.setIfInBounds_toArray, List.set_cons_zero, List.set_cons_succ, i64_w, i32_w]
         rfl
       refine take_ (i := 2) (N := some 15) (v := ?_) (a' := ?_) #[true, false, true, false, false, false, false] rfl rfl (by kernel_rfl) (fun _ _ _ h => h) (Or.inl ⟨by rfl, ?_⟩) hHeld ?_ ?_
       rotate_left
       · rintro w' ⟨s0, s1, s2, s3, s4, s5⟩
         go_simp
         with_reducible rfl
       rotate_left
       · simp only [Act.put, List.setIfInBounds_toArray, List.set_cons_zero, List.set_cons_succ, i64_w, i32_w]
         rfl
       refine one_ (i := 1) (N := some 14) #[true, true, true, false, false, false, false] rfl rfl (by kernel_rfl) (by decide) (fun K hK => ?_)
       refine goes_ Tryd.func32 (by kernel_rfl) rfl #[.agg #[.bool a0_0, .string a0_1, .string a0_2]] (by rfl) rfl rfl ql ?_
       with_reducible refine (idiomref02_Check.calls k a0_0 a0_1 a0_2 t253 _ A4.out).mono ?_
       rintro e w71 ⟨rfl, hb⟩
       refine ⟨_, rfl, ?_⟩
       replace BK250 := qb BK250 hb
       replace BK251 := qb BK251 hb
       replace BK252 := qb BK252 hb
       replace HB := qn HB hb
       (try clear hb)
       (try clear hb2)
       (try clear hk)
       (try clear hi)
       refine hK.out _ _ ⟨c_ BK250 0, c_ BK250 1, c_ BK250 2, c_ BK251 0, c_ BK251 1, c_ BK251 2⟩ (fun hHeld => ?_)
       clear hK K
       refine nz (some 14) ?_
       refine one_ (i := 3) (N := some 16) #[true, true, true, true, false, false, false] rfl rfl (by kernel_rfl) (by decide) (fun K hK => ?_)
       refine goes_ Tryd.func32 (by kernel_rfl) rfl #[.agg #[.bool a1_0, .string a1_1, .string a1_2]] (by rfl) rfl rfl ql ?_
       with_reducible refine (idiomref02_Check.calls k a1_0 a1_1 a1_2 t254 _ A5.out).mono ?_
       rintro e w72 ⟨rfl, hb⟩
       refine ⟨_, rfl, ?_⟩
       replace BK250 := qb BK250 hb
       replace BK251 := qb BK251 hb
       replace BK252 := qb BK252 hb
       replace HB := qn HB hb
       (try clear hb)
       (try clear hb2)
       (try clear hk)
       (try clear hi)
       refine hK.out _ _ ⟨c_ BK250 0, c_ BK250 1, c_ BK250 2, c_ BK251 0, c_ BK251 1, c_ BK251 2⟩ (fun hHeld => ?_)
       clear hK K
       refine nz (some 16) ?_
       refine one_ (i := 4) (N := some 17) #[true, true, true, true, true, false, false] rfl rfl (by kernel_rfl) (by decide) (fun K hK => ?_)
       refine Kd.R_lit_step (Kd.int .i64) _ 24 ?hg (N := 17) ?hd (xs := ([t253, t254] : List Int)) (inner := [.int .i64 t253, .int .i64 t254]) (ok := fun _ => True) (okp := fun _ => True) ?hr ?hp (fun _ hk => hk) trivial (Below.refl _ _) (Nat.le_refl _) (by simp) ?_; (case hd => rfl); (case hg => rfl); (case hr => first | (go_simp; done) | (go_simp; rfl)); (case hp => exact (Reps.one (show Kd.M (Kd.int .i64) _ _ _ t253 [.int .i64 t253] from rfl) (Reps.one (show Kd.M (Kd.int .i64) _ _ _ t254 [.int .i64 t254] from rfl) (Reps.none _ _))))
       intro v256 w73 ho74 hb hg_ hnew_
       clear hg_ hnew_
       (first | rw [← Ny255.out] at ho74 | (simp only [Int.reduceToNat] at ho74; rw [← Ny255.out] at ho74))
       have HO257 := Aside0.mk (Kd.R_lower ho74 (below_size (qh HB)))
       replace BK250 := qb BK250 hb
       replace BK251 := qb BK251 hb
       replace BK252 := qb BK252 hb
       replace HB := qn HB hb
       clear hb ho74
       obtain ⟨Ao75, co75, eo75⟩ := Kd.R_slice HO257.out
       (first | subst eo75 | (injection eo75 with f1_ f2_ f3_; have f4_ := f1_.symm; have f5_ := f3_.symm; clear f1_ f2_ f3_; subst f4_; subst f5_))
       refine hK.out _ _ ⟨c_ BK250 0, c_ BK250 1, c_ BK250 2, c_ BK251 0, c_ BK251 1, c_ BK251 2⟩ (fun hHeld => ?_)
       clear hK K
       refine nz (some 17) ?_
       refine one_ (i := 5) (N := some 18) #[true, true, true, true, true, true, false] rfl rfl (by kernel_rfl) (by decide) (fun K hK => ?_)
       refine goes_ Tryd.func31 (by kernel_rfl) rfl #[.slice Ao75 y255.length co75] (by rfl) rfl rfl ql ?_
       with_reducible refine (idiomref02_First.calls k _ _ y255 t258 _ ?side1 ?side2 A6.out).mono ?_
       (case side1 => repeat (first | exact (Kd.R_reads' HO257.out).2.2 | (with_reducible refine Kd.C_alloc ?_ _) | (with_reducible refine Kd.C_drewN ?_ _) | (with_reducible refine Kd.C_drew ?_)))
       (case side2 => exact (Kd.R_reads' HO257.out).2.1)
       rintro e w' ⟨rfl, ⟨nd, rfl⟩⟩
       refine ⟨_, rfl, ?_⟩
       refine hK.out _ _ ⟨c_ BK250 0, c_ BK250 1, c_ BK250 2, c_ BK251 0, c_ BK251 1, c_ BK251 2⟩ (fun hHeld => ?_)
       clear hK K
       refine nz (some 18) ?_
       refine pure_ (i := 6) (N := some 8) (v := ?_) (a' := ?_) #[true, true, true, true, true, true, true] rfl rfl (by kernel_rfl) (fun _ _ _ h => h) (Or.inl ⟨by rfl, ?_⟩) ?_ ?_
       rotate_left
       · intro w'
         go_simp
         with_reducible rfl
       rotate_left
       · simp only [Act.put, List.setIfInBounds_toArray, List.set_cons_zero, List.set_cons_succ, i64_w, i32_w]
         rfl
       refine done_ (by kernel_rfl) ?_
       have hnb76 := NB250_251.out
       have hnc76 := NB251_250.out
       have hnb77 := NB250_252.out
       have hnc77 := NB252_250.out
       obtain ⟨hcz78_0, hcz78_1, hcz78_2, hfz78_0, hfz78_1, hfz78_2⟩ := q3 BK250
       have hnb79 := NB251_252.out
       have hnc79 := NB252_251.out
       obtain ⟨hcz80_0, hcz80_1, hcz80_2, hfz80_0, hfz80_1, hfz80_2⟩ := q3 BK251
       try go_wp2
       (try (rw [drewN_self w73]; generalize hq_ : World.drewN w73 _ = w73; have n0_ : Aside0 (Kd.R (Kd.int .i64) 24 w73 w.heap.size (fun _ => True) (.slice Ao75 y255.length co75) y255) := ⟨by rw [← hq_]; exact (by (with_reducible repeat (first | apply Kd.R_alloc | apply Kd.R_drewN | apply Kd.R_drew)); exact HO257.out)⟩; have n1_ : Aside0 (w73.heap[gb250]? = some (.cells #[.bool a0_0, .string a0_1, .string a0_2] 23 (0, 0))) := ⟨by rw [← hq_]; exact (qk BK250)⟩; have n2_ : Aside0 (w73.heap[gb251]? = some (.cells #[.bool a1_0, .string a1_1, .string a1_2] 23 (0, 0))) := ⟨by rw [← hq_]; exact (qk BK251)⟩; have n3_ : Aside0 (w73.heap[gb252]? = some (.cells #[.bool false, .string (⟨#[]⟩ : ByteArray), .string (⟨#[]⟩ : ByteArray)] 23 (0, 0))) := ⟨by rw [← hq_]; exact (qk BK252)⟩; have n4_ : Aside0 (Below w.heap.size w w73) := ⟨by rw [← hq_]; exact (qh HB)⟩; clear HO257 BK250 BK251 BK252 HB hq_; have HO257 := n0_; have BK250 := n1_; have BK251 := n2_; have BK252 := n3_; have HB := n4_; clear n0_ n1_ n2_ n3_ n4_; (try have hcy250_0 : w73.cell? ⟨gb250, 0, none⟩ = some (.bool a0_0) := c_ BK250 0); (try have hfy250_0 := blk_frozen BK250.out 0); (try have hcy250_1 : w73.cell? ⟨gb250, 1, none⟩ = some (.string a0_1) := c_ BK250 1); (try have hfy250_1 := blk_frozen BK250.out 1); (try have hcy250_2 : w73.cell? ⟨gb250, 2, none⟩ = some (.string a0_2) := c_ BK250 2); (try have hfy250_2 := blk_frozen BK250.out 2); (try have hcy251_0 : w73.cell? ⟨gb251, 0, none⟩ = some (.bool a1_0) := c_ BK251 0); (try have hfy251_0 := blk_frozen BK251.out 0); (try have hcy251_1 : w73.cell? ⟨gb251, 1, none⟩ = some (.string a1_1) := c_ BK251 1); (try have hfy251_1 := blk_frozen BK251.out 1); (try have hcy251_2 : w73.cell? ⟨gb251, 2, none⟩ = some (.string a1_2) := c_ BK251 2); (try have hfy251_2 := blk_frozen BK251.out 2); (try have hcy252_0 : w73.cell? ⟨gb252, 0, none⟩ = some (.bool false) := c_ BK252 0); (try have hfy252_0 := blk_frozen BK252.out 0); (try have hcy252_1 : w73.cell? ⟨gb252, 1, none⟩ = some (.string (⟨#[]⟩ : ByteArray)) := c_ BK252 1); (try have hfy252_1 := blk_frozen BK252.out 1); (try have hcy252_2 : w73.cell? ⟨gb252, 2, none⟩ = some (.string (⟨#[]⟩ : ByteArray)) := c_ BK252 2); (try have hfy252_2 := blk_frozen BK252.out 2)))
       replace HO257 := Aside0.mk (Kd.R_drew HO257.out)
       replace BK250 := Aside0.mk (blk_drew BK250.out)
       replace BK251 := Aside0.mk (blk_drew BK251.out)
       replace BK252 := Aside0.mk (blk_drew BK252.out)
       replace HB := Aside0.mk (below_drew1 HB.out)
       refine start_ (n := 8) (S := fun w' => w'.cell? ⟨gb250, 0, none⟩ = some (.bool a0_0) ∧ w'.cell? ⟨gb250, 1, none⟩ = some (.string a0_1) ∧ w'.cell? ⟨gb250, 2, none⟩ = some (.string a0_2) ∧ w'.cell? ⟨gb251, 0, none⟩ = some (.bool a1_0) ∧ w'.cell? ⟨gb251, 1, none⟩ = some (.string a1_1) ∧ w'.cell? ⟨gb251, 2, none⟩ = some (.string a1_2)) (ds := []) #[false, false, false, false, false, false, false, false] (by kernel_rfl) rfl rfl ⟨c_ BK250 0, c_ BK250 1, c_ BK250 2, c_ BK251 0, c_ BK251 1, c_ BK251 2⟩ (fun hHeld => ?_); refine with_tabW idiomref02_sum.tab5 idiomref02_sum.bits5 (fun HT_ HW_ => ?_)
       generalize w73.drew = w81 at HO257 BK250 BK251 BK252 HB hHeld ⊢
       refine pz 1 (some 31) #[false, true, false, false, false, false, false, false] HT_ ?_
       refine pz 4 (some 34) #[false, true, false, false, true, false, false, false] HT_ ?_
       refine tw6 0 (some 30) #[true, true, false, false, true, false, false, false] HT_ HW_ hHeld ?_
       refine tw6 3 (some 33) #[true, true, false, true, true, false, false, false] HT_ HW_ hHeld ?_
       refine one_ (i := 2) (N := some 32) #[true, true, true, true, true, false, false, false] rfl rfl (one_of HT_.out (by kernel_rfl)) (by decide) (fun K hK => ?_)
       refine goes_ Tryd.func34 (by kernel_rfl) rfl #[.agg #[.bool a0_0, .string a0_1, .string a0_2], .int .i64 ji8] (by rfl) rfl rfl (by (try simp only [List.map_toArray, List.map_cons, List.map_nil]); first | done | (simp only [hji8]; rfl) | rfl | (simp only [List.length_drop, List.length_take]; rfl)) ?_
       with_reducible refine (idiomref02_raised.calls k a0_0 a0_1 a0_2 ji8 t259 _ A9.out).mono ?_
       rintro e w82 ⟨rfl, hb⟩
       refine ⟨_, rfl, ?_⟩
       replace HO257 := Aside0.mk (Kd.R_below (by (with_reducible repeat (first | apply Kd.R_alloc | apply Kd.R_drewN | apply Kd.R_drew)); exact HO257.out) hb)
       replace BK250 := qb BK250 hb
       replace BK251 := qb BK251 hb
       replace BK252 := qb BK252 hb
       replace HB := qn HB hb
       (try clear hb)
       (try clear hb2)
       (try clear hk)
       (try clear hi)
       refine hK.out _ _ ⟨c_ BK250 0, c_ BK250 1, c_ BK250 2, c_ BK251 0, c_ BK251 1, c_ BK251 2⟩ (fun hHeld => ?_)
       clear hK K
       refine nz (some 32) ?_
       refine one_ (i := 5) (N := some 35) #[true, true, true, true, true, true, false, false] rfl rfl (one_of HT_.out (by kernel_rfl)) (by decide) (fun K hK => ?_)
       refine goes_ Tryd.func34 (by kernel_rfl) rfl #[.agg #[.bool a1_0, .string a1_1, .string a1_2], .int .i64 ji8] (by rfl) rfl rfl (by (try simp only [List.map_toArray, List.map_cons, List.map_nil]); first | done | (simp only [hji8]; rfl) | rfl | (simp only [List.length_drop, List.length_take]; rfl)) ?_
       with_reducible refine (idiomref02_raised.calls k a1_0 a1_1 a1_2 ji8 t260 _ A10.out).mono ?_
       rintro e w83 ⟨rfl, hb⟩
       refine ⟨_, rfl, ?_⟩
       replace HO257 := Aside0.mk (Kd.R_below (by (with_reducible repeat (first | apply Kd.R_alloc | apply Kd.R_drewN | apply Kd.R_drew)); exact HO257.out) hb)
       replace BK250 := qb BK250 hb
       replace BK251 := qb BK251 hb
       replace BK252 := qb BK252 hb
       replace HB := qn HB hb
       (try clear hb)
       (try clear hb2)
       (try clear hk)
       (try clear hi)
       refine hK.out _ _ ⟨c_ BK250 0, c_ BK250 1, c_ BK250 2, c_ BK251 0, c_ BK251 1, c_ BK251 2⟩ (fun hHeld => ?_)
       clear hK K
       refine nz (some 35) ?_
       refine pz 6 (some 10) #[true, true, true, true, true, true, true, false] HT_ ?_
       refine pz 7 (some 11) #[true, true, true, true, true, true, true, true] HT_ ?_
       refine done_ (done_of HT_.out (by kernel_rfl)) ?_
       obtain ⟨hcz84_0, hcz84_1, hcz84_2, hfz84_0, hfz84_1, hfz84_2⟩ := q3 BK251
       obtain ⟨hcz85_0, hcz85_1, hcz85_2, hfz85_0, hfz85_1, hfz85_2⟩ := q3 BK250
       try go_wp2_with (first | ((with_reducible refine gate_callee (f := 33) rfl ?_); refine goesL_ (some 56) rfl rfl Tryd.func33 (by kernel_rfl) rfl #[.string t259, .string t260] rfl ql ?_; (with_reducible refine (idiomref02_Cmp.calls k t259 t260 t266 _ A36.out).mono ?_); rintro e w' ⟨rfl, ⟨nd, rfl⟩⟩; refine ⟨_, rfl, ?_⟩; (try (rw [drewN_self w83]; generalize hq_ : World.drewN w83 _ = w83; have n0_ : Aside0 (Kd.R (Kd.int .i64) 24 w83 w.heap.size (fun _ => True) (.slice Ao75 y255.length co75) y255) := ⟨by rw [← hq_]; exact (by (with_reducible repeat (first | apply Kd.R_alloc | apply Kd.R_drewN | apply Kd.R_drew)); exact HO257.out)⟩; have n1_ : Aside0 (w83.heap[gb250]? = some (.cells #[.bool a0_0, .string a0_1, .string a0_2] 23 (0, 0))) := ⟨by rw [← hq_]; exact (qk BK250)⟩; have n2_ : Aside0 (w83.heap[gb251]? = some (.cells #[.bool a1_0, .string a1_1, .string a1_2] 23 (0, 0))) := ⟨by rw [← hq_]; exact (qk BK251)⟩; have n3_ : Aside0 (w83.heap[gb252]? = some (.cells #[.bool false, .string (⟨#[]⟩ : ByteArray), .string (⟨#[]⟩ : ByteArray)] 23 (0, 0))) := ⟨by rw [← hq_]; exact (qk BK252)⟩; have n4_ : Aside0 (Below w.heap.size w w83) := ⟨by rw [← hq_]; exact (qh HB)⟩; clear HO257 BK250 BK251 BK252 HB hq_; have HO257 := n0_; have BK250 := n1_; have BK251 := n2_; have BK252 := n3_; have HB := n4_; clear n0_ n1_ n2_ n3_ n4_; (try have hcy250_0 : w83.cell? ⟨gb250, 0, none⟩ = some (.bool a0_0) := c_ BK250 0); (try have hfy250_0 := blk_frozen BK250.out 0); (try have hcy250_1 : w83.cell? ⟨gb250, 1, none⟩ = some (.string a0_1) := c_ BK250 1); (try have hfy250_1 := blk_frozen BK250.out 1); (try have hcy250_2 : w83.cell? ⟨gb250, 2, none⟩ = some (.string a0_2) := c_ BK250 2); (try have hfy250_2 := blk_frozen BK250.out 2); (try have hcy251_0 : w83.cell? ⟨gb251, 0, none⟩ = some (.bool a1_0) := c_ BK251 0); (try have hfy251_0 := blk_frozen BK251.out 0); (try have hcy251_1 : w83.cell? ⟨gb251, 1, none⟩ = some (.string a1_1) := c_ BK251 1); (try have hfy251_1 := blk_frozen BK251.out 1); (try have hcy251_2 : w83.cell? ⟨gb251, 2, none⟩ = some (.string a1_2) := c_ BK251 2); (try have hfy251_2 := blk_frozen BK251.out 2); (try have hcy252_0 : w83.cell? ⟨gb252, 0, none⟩ = some (.bool false) := c_ BK252 0); (try have hfy252_0 := blk_frozen BK252.out 0); (try have hcy252_1 : w83.cell? ⟨gb252, 1, none⟩ = some (.string (⟨#[]⟩ : ByteArray)) := c_ BK252 1); (try have hfy252_1 := blk_frozen BK252.out 1); (try have hcy252_2 : w83.cell? ⟨gb252, 2, none⟩ = some (.string (⟨#[]⟩ : ByteArray)) := c_ BK252 2); (try have hfy252_2 := blk_frozen BK252.out 2)))) | ((with_reducible refine gate_callee (f := 59) rfl ?_); refine goesL_ (some 70) rfl rfl Tryd.func59 (by kernel_rfl) rfl #[.string t260, .string t259] rfl ql ?_; (with_reducible refine (idiomref02_Minus.calls k t260 t259 t272 _ A65.out).mono ?_); rintro e w86 ⟨rfl, hb⟩; refine ⟨_, rfl, ?_⟩; replace HO257 := Aside0.mk (Kd.R_below (by (with_reducible repeat (first | apply Kd.R_alloc | apply Kd.R_drewN | apply Kd.R_drew)); exact HO257.out) hb); replace BK250 := qb BK250 hb; replace BK251 := qb BK251 hb; replace BK252 := qb BK252 hb; replace HB := qn HB hb; (try clear hb); (try clear hb2); (try clear hk); (try clear hi)) | ((with_reducible refine gate_callee (f := 57) rfl ?_); refine goesL_ (some 72) rfl rfl Tryd.func57 (by kernel_rfl) rfl #[.bool (a1_0 != a2), .string t272, .int .i64 ji8] rfl (by (try simp only [List.map_toArray, List.map_cons, List.map_nil]); first | done | (simp only [hji8]; rfl) | rfl | (simp only [List.length_drop, List.length_take]; rfl)) ?_; (with_reducible refine (idiomref02_Make.calls k (a1_0 != a2) t272 ji8 t273 t274 t275 t276 _ A66.out).mono ?_); rintro e w87 ⟨rfl, hb⟩; refine ⟨_, rfl, ?_⟩; replace HO257 := Aside0.mk (Kd.R_below (by (with_reducible repeat (first | apply Kd.R_alloc | apply Kd.R_drewN | apply Kd.R_drew)); exact HO257.out) hb); replace BK250 := qb BK250 hb; replace BK251 := qb BK251 hb; replace BK252 := qb BK252 hb; replace HB := qn HB hb; (try clear hb); (try clear hb2); (try clear hk); (try clear hi); obtain ⟨hcz88_0, hcz88_1, hcz88_2, hfz88_0, hfz88_1, hfz88_2⟩ := q3 BK252))
       refine bodyPost_ret (results_ct rfl _ _ gb252 23 #[.bool t273, .string t274, .string t275] (0, 0) _ rfl (by refine qp 2 #[.bool t273, .string t274, .string (⟨#[]⟩ : ByteArray)] ?_; refine qp 1 #[.bool t273, .string (⟨#[]⟩ : ByteArray), .string (⟨#[]⟩ : ByteArray)] ?_; refine qp 0 #[.bool false, .string (⟨#[]⟩ : ByteArray), .string (⟨#[]⟩ : ByteArray)] ?_; exact qk BK252) Tryd.underlying23 rfl (by kernel_rfl)) rfl ?_
       exact ⟨by first | rfl | (exact congrArg (fun b => Ending.returned (.bool b)) (Aid.bne_nil _)) | (exact congrArg (fun b => Ending.returned (.bool b)) (Aid.eq_nil _)) | (simp [errW_none, errW_some] <;> rfl) | (simp only [← hji8]; first | rfl | (simp [errW_none, errW_some] <;> rfl)) | (simp [*, errW_none, errW_some] <;> rfl), qh HB⟩
 · rw [if_neg c7] at H
   have c7b0 : (t258 == 0) = false := beq_eq_false_iff_ne.mpr c7
   have c7b1 : (t258 != 0) = true := bne_iff_ne.mpr c7
   try have c7b1z := c7b1
   (try simp only [bne] at c7b1z)
   simp only [Option.some.injEq, Prod.mk.injEq] at H
   obtain ⟨rfl, rfl, rfl, rfl⟩ := H
   go_enter Tryd.func30, Tryd.ntmps30
   try go_wp2_with (first | ((with_reducible refine gate_dst (N := 3) rfl ?_); refine qx 3 #[.bool a0_0, .string a0_1, .string a0_2] 23 ?_; intro gb250 hg w89 hbox hb; have BK250 := Aside0.mk (hbox); have GW250 := qs hg HB; have GE250 := GW250; replace HB := qn HB hb; clear hb hbox hg) | ((with_reducible refine gate_dst (N := 4) rfl ?_); refine qx 4 #[.bool a1_0, .string a1_1, .string a1_2] 23 ?_; intro gb251 hg w90 hbox hb; have BK251 := Aside0.mk (hbox); have GW251 := qs hg HB; have GE251 := GW251; have NB250_251 := ql_ hg BK250; have NB251_250 := qg_ hg BK250; replace BK250 := qb BK250 hb; replace HB := qn HB hb; clear hb hbox hg) | ((with_reducible refine gate_dst (N := 6) rfl ?_); refine qx 6 #[.bool false, .string (⟨#[]⟩ : ByteArray), .string (⟨#[]⟩ : ByteArray)] 23 ?_; intro gb252 hg w91 hbox hb; have BK252 := Aside0.mk (hbox); have GW252 := qs hg HB; have GE252 := GW252; have NB250_252 := ql_ hg BK250; have NB252_250 := qg_ hg BK250; have NB251_252 := ql_ hg BK251; have NB252_251 := qg_ hg BK251; replace BK250 := qb BK250 hb; replace BK251 := qb BK251 hb; replace HB := qn HB hb; clear hb hbox hg))
   replace BK250 := Aside0.mk (blk_drew BK250.out)
   replace BK251 := Aside0.mk (blk_drew BK251.out)
   replace BK252 := Aside0.mk (blk_drew BK252.out)
   replace HB := Aside0.mk (below_drew1 HB.out)
   refine start_ (n := 7) (S := fun w' => w'.cell? ⟨gb250, 0, none⟩ = some (.bool a0_0) ∧ w'.cell? ⟨gb250, 1, none⟩ = some (.string a0_1) ∧ w'.cell? ⟨gb250, 2, none⟩ = some (.string a0_2) ∧ w'.cell? ⟨gb251, 0, none⟩ = some (.bool a1_0) ∧ w'.cell? ⟨gb251, 1, none⟩ = some (.string a1_1) ∧ w'.cell? ⟨gb251, 2, none⟩ = some (.string a1_2)) (ds := []) #[false, false, false, false, false, false, false] (by kernel_rfl) rfl rfl ⟨c_ BK250 0, c_ BK250 1, c_ BK250 2, c_ BK251 0, c_ BK251 1, c_ BK251 2⟩ (fun hHeld => ?_)
   generalize w91.drew = w92 at BK250 BK251 BK252 HB hHeld ⊢
   refine take_ (i := 0) (N := some 13) (v := ?_) (a' := ?_) #[true, false, false, false, false, false, false] rfl rfl (by kernel_rfl) (fun _ _ _ h => h) (Or.inl ⟨by rfl, ?_⟩) hHeld ?_ ?_
   rotate_left
   · rintro w' ⟨s0, s1, s2, s3, s4, s5⟩
     go_simp
     with_reducible rfl
   rotate_left
   · simp only [Act.put, List.setIfInBounds_toArray, List.set_cons_zero, List.set_cons_succ, i64_w, i32_w]
     rfl
   refine take_ (i := 2) (N := some 15) (v := ?_) (a' := ?_) #[true, false, true, false, false, false, false] rfl rfl (by kernel_rfl) (fun _ _ _ h => h) (Or.inl ⟨by rfl, ?_⟩) hHeld ?_ ?_
   rotate_left
   · rintro w' ⟨s0, s1, s2, s3, s4, s5⟩
     go_simp
     with_reducible rfl
   rotate_left
   · simp only [Act.put, List.setIfInBounds_toArray, List.set_cons_zero, List.set_cons_succ, i64_w, i32_w]
     rfl
   refine one_ (i := 1) (N := some 14) #[true, true, true, false, false, false, false] rfl rfl (by kernel_rfl) (by decide) (fun K hK => ?_)
   refine goes_ Tryd.func32 (by kernel_rfl) rfl #[.agg #[.bool a0_0, .string a0_1, .string a0_2]] (by rfl) rfl rfl ql ?_
   with_reducible refine (idiomref02_Check.calls k a0_0 a0_1 a0_2 t253 _ A4.out).mono ?_
   rintro e w93 ⟨rfl, hb⟩
   refine ⟨_, rfl, ?_⟩
   replace BK250 := qb BK250 hb
   replace BK251 := qb BK251 hb
   replace BK252 := qb BK252 hb
   replace HB := qn HB hb
   (try clear hb)
   (try clear hb2)
   (try clear hk)
   (try clear hi)
   refine hK.out _ _ ⟨c_ BK250 0, c_ BK250 1, c_ BK250 2, c_ BK251 0, c_ BK251 1, c_ BK251 2⟩ (fun hHeld => ?_)
   clear hK K
   refine nz (some 14) ?_
   refine one_ (i := 3) (N := some 16) #[true, true, true, true, false, false, false] rfl rfl (by kernel_rfl) (by decide) (fun K hK => ?_)
   refine goes_ Tryd.func32 (by kernel_rfl) rfl #[.agg #[.bool a1_0, .string a1_1, .string a1_2]] (by rfl) rfl rfl ql ?_
   with_reducible refine (idiomref02_Check.calls k a1_0 a1_1 a1_2 t254 _ A5.out).mono ?_
   rintro e w94 ⟨rfl, hb⟩
   refine ⟨_, rfl, ?_⟩
   replace BK250 := qb BK250 hb
   replace BK251 := qb BK251 hb
   replace BK252 := qb BK252 hb
   replace HB := qn HB hb
   (try clear hb)
   (try clear hb2)
   (try clear hk)
   (try clear hi)
   refine hK.out _ _ ⟨c_ BK250 0, c_ BK250 1, c_ BK250 2, c_ BK251 0, c_ BK251 1, c_ BK251 2⟩ (fun hHeld => ?_)
   clear hK K
   refine nz (some 16) ?_
   refine one_ (i := 4) (N := some 17) #[true, true, true, true, true, false, false] rfl rfl (by kernel_rfl) (by decide) (fun K hK => ?_)
   refine Kd.R_lit_step (Kd.int .i64) _ 24 ?hg (N := 17) ?hd (xs := ([t253, t254] : List Int)) (inner := [.int .i64 t253, .int .i64 t254]) (ok := fun _ => True) (okp := fun _ => True) ?hr ?hp (fun _ hk => hk) trivial (Below.refl _ _) (Nat.le_refl _) (by simp) ?_; (case hd => rfl); (case hg => rfl); (case hr => first | (go_simp; done) | (go_simp; rfl)); (case hp => exact (Reps.one (show Kd.M (Kd.int .i64) _ _ _ t253 [.int .i64 t253] from rfl) (Reps.one (show Kd.M (Kd.int .i64) _ _ _ t254 [.int .i64 t254] from rfl) (Reps.none _ _))))
   intro v256 w95 ho96 hb hg_ hnew_
   clear hg_ hnew_
   (first | rw [← Ny255.out] at ho96 | (simp only [Int.reduceToNat] at ho96; rw [← Ny255.out] at ho96))
   have HO257 := Aside0.mk (Kd.R_lower ho96 (below_size (qh HB)))
   replace BK250 := qb BK250 hb
   replace BK251 := qb BK251 hb
   replace BK252 := qb BK252 hb
   replace HB := qn HB hb
   clear hb ho96
   obtain ⟨Ao97, co97, eo97⟩ := Kd.R_slice HO257.out
   (first | subst eo97 | (injection eo97 with f1_ f2_ f3_; have f4_ := f1_.symm; have f5_ := f3_.symm; clear f1_ f2_ f3_; subst f4_; subst f5_))
   refine hK.out _ _ ⟨c_ BK250 0, c_ BK250 1, c_ BK250 2, c_ BK251 0, c_ BK251 1, c_ BK251 2⟩ (fun hHeld => ?_)
   clear hK K
   refine nz (some 17) ?_
   refine one_ (i := 5) (N := some 18) #[true, true, true, true, true, true, false] rfl rfl (by kernel_rfl) (by decide) (fun K hK => ?_)
   refine goes_ Tryd.func31 (by kernel_rfl) rfl #[.slice Ao97 y255.length co97] (by rfl) rfl rfl ql ?_
   with_reducible refine (idiomref02_First.calls k _ _ y255 t258 _ ?side1 ?side2 A6.out).mono ?_
   (case side1 => repeat (first | exact (Kd.R_reads' HO257.out).2.2 | (with_reducible refine Kd.C_alloc ?_ _) | (with_reducible refine Kd.C_drewN ?_ _) | (with_reducible refine Kd.C_drew ?_)))
   (case side2 => exact (Kd.R_reads' HO257.out).2.1)
   rintro e w' ⟨rfl, ⟨nd, rfl⟩⟩
   refine ⟨_, rfl, ?_⟩
   refine hK.out _ _ ⟨c_ BK250 0, c_ BK250 1, c_ BK250 2, c_ BK251 0, c_ BK251 1, c_ BK251 2⟩ (fun hHeld => ?_)
   clear hK K
   refine nz (some 18) ?_
   refine pure_ (i := 6) (N := some 8) (v := ?_) (a' := ?_) #[true, true, true, true, true, true, true] rfl rfl (by kernel_rfl) (fun _ _ _ h => h) (Or.inl ⟨by rfl, ?_⟩) ?_ ?_
   rotate_left
   · intro w'
     go_simp
     with_reducible rfl
   rotate_left
   · simp only [Act.put, List.setIfInBounds_toArray, List.set_cons_zero, List.set_cons_succ, i64_w, i32_w]
     rfl
   refine done_ (by kernel_rfl) ?_
   have hnb98 := NB252_250.out
   have hnc98 := NB250_252.out
   have hnb99 := NB252_251.out
   have hnc99 := NB251_252.out
   obtain ⟨hcz100_0, hcz100_1, hcz100_2, hfz100_0, hfz100_1, hfz100_2⟩ := q3 BK252
   try go_wp2
   refine bodyPost_ret (results_ct rfl _ _ gb252 23 #[.bool false, .string (⟨#[]⟩ : ByteArray), .string (⟨#[]⟩ : ByteArray)] (0, 0) _ rfl (by refine qp 2 #[.bool false, .string (⟨#[]⟩ : ByteArray), .string (⟨#[]⟩ : ByteArray)] ?_; refine qp 1 #[.bool false, .string (⟨#[]⟩ : ByteArray), .string (⟨#[]⟩ : ByteArray)] ?_; refine qp 0 #[.bool false, .string (⟨#[]⟩ : ByteArray), .string (⟨#[]⟩ : ByteArray)] ?_; exact qk BK252) Tryd.underlying23 rfl (by kernel_rfl)) rfl ?_
   exact ⟨qe, qh HB⟩

end Go.Proofs.YtpmhebdaphjinaaDoor.F
namespace Go.Proofs.YtpmhebdaphjinaaDoor.F
open Go.RowKit Go.Proofs.YtpmhebdaphjinaaDoorW.PrintWords Go.Proofs.YtpmhebdaphjinaaDoorW.PrintLast Go.Proofs.YtpmhebdaphjinaaDoorW.PrintMore Go.Proofs.YtpmhebdaphjinaaDoor.Q
attribute [local go_sem] max2_int min2_int max_two min_two max_three min_three max_four min_four   -- for this text's walks alone
set_option linter.unusedVariables false
set_option linter.unusedSimpArgs false

def idiomref02_Sub.f (k : Nat) (a0_0 : Bool) (a0_1 : ByteArray) (a0_2 : ByteArray) (a1_0 : Bool) (a1_1 : ByteArray) (a1_2 : ByteArray) : Option (Bool × ByteArray × ByteArray × Int) := (idiomref02_sum.f k a0_0 a0_1 a0_2 a1_0 a1_1 a1_2 true).bind fun bt280 => (some (bt280.1, bt280.2.1, bt280.2.2.1, bt280.2.2.2))
theorem idiomref02_Sub.mono : ∀ a0 a1 a2 a3 a4 a5 k, LeO (idiomref02_Sub.f k a0 a1 a2 a3 a4 a5) (idiomref02_Sub.f (k + 1) a0 a1 a2 a3 a4 a5) := by
 intro a0 a1 a2 a3 a4 a5 k
 unfold idiomref02_Sub.f
 repeat' first
  | (with_reducible exact idiomref02_sum.mono _ _ _ _ _ _ _ _)
  | (with_reducible exact LeO.refl _)
  | (with_reducible exact LeO.none _)
  | (with_reducible refine LeO.ite ?_ ?_)
  | (with_reducible refine LeO.bind ?_ (fun _ => ?_))
  | exact idiomref02_sum.mono _ _ _ _ _ _ _ _
  | exact LeO.none _
  | refine LeO.ite ?_ ?_
  | refine LeO.bind ?_ (fun _ => ?_)
set_option maxHeartbeats 8000000 in
set_option maxRecDepth 100000 in
theorem idiomref02_Sub.calls (k : Nat) (a0_0 : Bool) (a0_1 : ByteArray) (a0_2 : ByteArray) (a1_0 : Bool) (a1_1 : ByteArray) (a1_2 : ByteArray) (r1 : Bool) (r2 : ByteArray) (r3 : ByteArray) (r4 : Int) (w : World) (h : idiomref02_Sub.f k a0_0 a0_1 a0_2 a1_0 a1_1 a1_2 = some (r1, r2, r3, r4)) :
 Calls Tryd.prog 13 #[.agg #[.bool a0_0, .string a0_1, .string a0_2], .agg #[.bool a1_0, .string a1_1, .string a1_2]] w fun e w' => e = .returned (.tuple #[.agg #[.bool r1, .string r2, .string r3], .int .i64 r4]) ∧ Below w.heap.size w w' := by
 have hu23 := Tryd.underlying23
 have HB := Aside0.mk (Below.refl w.heap.size w)
 have H : ((idiomref02_sum.f k a0_0 a0_1 a0_2 a1_0 a1_1 a1_2 true).bind fun bt280 => (some (bt280.1, bt280.2.1, bt280.2.2.1, bt280.2.2.2))) = some (r1, r2, r3, r4) := h
 clear h
 replace H := Option.bind_eq_some_iff.mp H
 obtain ⟨⟨t280, t281, t282, t283⟩, A30, H⟩ := H
 replace H : (some (t280, t281, t282, t283)) = some (r1, r2, r3, r4) := H
 have A3 := Aside0.mk A30
 clear A30
 simp only [Option.some.injEq, Prod.mk.injEq] at H
 obtain ⟨rfl, rfl, rfl, rfl⟩ := H
 go_enter Tryd.func13, Tryd.ntmps13
 go_wp2_with (first | ((with_reducible refine gate_dst (N := 2) rfl ?_); refine qx 2 #[.bool a0_0, .string a0_1, .string a0_2] 23 ?_; intro gb277 hg w4 hbox hb; have BK277 := Aside0.mk (hbox); have GW277 := qs hg HB; have GE277 := GW277; replace HB := qn HB hb; clear hb hbox hg) | ((with_reducible refine gate_dst (N := 3) rfl ?_); refine qx 3 #[.bool a1_0, .string a1_1, .string a1_2] 23 ?_; intro gb278 hg w5 hbox hb; have BK278 := Aside0.mk (hbox); have GW278 := qs hg HB; have GE278 := GW278; have NB277_278 := ql_ hg BK277; have NB278_277 := qg_ hg BK277; replace BK277 := qb BK277 hb; replace HB := qn HB hb; clear hb hbox hg) | ((with_reducible refine gate_dst (N := 4) rfl ?_); refine qx 4 #[.bool false, .string (⟨#[]⟩ : ByteArray), .string (⟨#[]⟩ : ByteArray)] 23 ?_; intro gb279 hg w6 hbox hb; have BK279 := Aside0.mk (hbox); have GW279 := qs hg HB; have GE279 := GW279; have NB277_279 := ql_ hg BK277; have NB279_277 := qg_ hg BK277; have NB278_279 := ql_ hg BK278; have NB279_278 := qg_ hg BK278; replace BK277 := qb BK277 hb; replace BK278 := qb BK278 hb; replace HB := qn HB hb; clear hb hbox hg; have hnb7 := NB277_278.out; have hnc7 := NB278_277.out; have hnb8 := NB277_279.out; have hnc8 := NB279_277.out; obtain ⟨hcz9_0, hcz9_1, hcz9_2, hfz9_0, hfz9_1, hfz9_2⟩ := q3 BK277; have hnb10 := NB278_279.out; have hnc10 := NB279_278.out; obtain ⟨hcz11_0, hcz11_1, hcz11_2, hfz11_0, hfz11_1, hfz11_2⟩ := q3 BK278) | ((with_reducible refine gate_callee (f := 30) rfl ?_); refine goesL_ (some 8) rfl rfl Tryd.func30 (by kernel_rfl) rfl #[.agg #[.bool a0_0, .string a0_1, .string a0_2], .agg #[.bool a1_0, .string a1_1, .string a1_2], .bool true] rfl ql ?_; (with_reducible refine (idiomref02_sum.calls k a0_0 a0_1 a0_2 a1_0 a1_1 a1_2 true t280 t281 t282 t283 _ A3.out).mono ?_); rintro e w12 ⟨rfl, hb⟩; refine ⟨_, rfl, ?_⟩; replace BK277 := qb BK277 hb; replace BK278 := qb BK278 hb; replace BK279 := qb BK279 hb; replace HB := qn HB hb; (try clear hb); (try clear hb2); (try clear hk); (try clear hi); obtain ⟨hcz13_0, hcz13_1, hcz13_2, hfz13_0, hfz13_1, hfz13_2⟩ := q3 BK279))
 refine bodyPost_ret (results_ct rfl _ _ gb279 23 #[.bool t280, .string t281, .string t282] (0, 0) _ rfl (by refine qp 2 #[.bool t280, .string t281, .string (⟨#[]⟩ : ByteArray)] ?_; refine qp 1 #[.bool t280, .string (⟨#[]⟩ : ByteArray), .string (⟨#[]⟩ : ByteArray)] ?_; refine qp 0 #[.bool false, .string (⟨#[]⟩ : ByteArray), .string (⟨#[]⟩ : ByteArray)] ?_; exact qk BK279) Tryd.underlying23 rfl (by kernel_rfl)) rfl ?_
 exact ⟨qe, qh HB⟩

def idiomlaw03_worth.f (a0_0 : Bool) (a0_1 : ByteArray) (a0_2 : ByteArray) : Option (Bool × ByteArray × ByteArray) := some (false, a0_1, a0_2)
set_option maxHeartbeats 8000000 in
set_option maxRecDepth 100000 in
theorem idiomlaw03_worth.calls (a0_0 : Bool) (a0_1 : ByteArray) (a0_2 : ByteArray) (r1 : Bool) (r2 : ByteArray) (r3 : ByteArray) (w : World) (h : idiomlaw03_worth.f a0_0 a0_1 a0_2 = some (r1, r2, r3)) :
 Calls Tryd.prog 14 #[.agg #[.bool a0_0, .string a0_1, .string a0_2]] w fun e w' => e = .returned (.agg #[.bool r1, .string r2, .string r3]) ∧ Below w.heap.size w w' := by
 have hu23 := Tryd.underlying23
 have HB := Aside0.mk (Below.refl w.heap.size w)
 have H : (some (false, a0_1, a0_2)) = some (r1, r2, r3) := h
 clear h
 simp only [Option.some.injEq, Prod.mk.injEq] at H
 obtain ⟨rfl, rfl, rfl⟩ := H
 go_enter Tryd.func14, Tryd.ntmps14
 go_wp2_with (first | ((with_reducible refine gate_dst (N := 1) rfl ?_); refine qx 1 #[.bool a0_0, .string a0_1, .string a0_2] 23 ?_; intro gb284 hg w2 hbox hb; have BK284 := Aside0.mk (hbox); have GW284 := qs hg HB; have GE284 := GW284; replace HB := qn HB hb; clear hb hbox hg) | ((with_reducible refine gate_dst (N := 2) rfl ?_); refine qx 2 #[.bool false, .string (⟨#[]⟩ : ByteArray), .string (⟨#[]⟩ : ByteArray)] 23 ?_; intro gb285 hg w3 hbox hb; have BK285 := Aside0.mk (hbox); have GW285 := qs hg HB; have GE285 := GW285; have NB284_285 := ql_ hg BK284; have NB285_284 := qg_ hg BK284; replace BK284 := qb BK284 hb; replace HB := qn HB hb; clear hb hbox hg; have hnb4 := NB284_285.out; have hnc4 := NB285_284.out; obtain ⟨hcz5_0, hcz5_1, hcz5_2, hfz5_0, hfz5_1, hfz5_2⟩ := q3 BK284; obtain ⟨hcz6_0, hcz6_1, hcz6_2, hfz6_0, hfz6_1, hfz6_2⟩ := q3 BK285))
 refine bodyPost_ret (results_cell_row rfl _ _ gb285 23 #[.bool false, .string a0_1, .string a0_2] (0, 0) _ rfl (by refine qp 2 #[.bool false, .string a0_1, .string (⟨#[]⟩ : ByteArray)] ?_; refine qp 1 #[.bool false, .string (⟨#[]⟩ : ByteArray), .string (⟨#[]⟩ : ByteArray)] ?_; refine qp 0 #[.bool false, .string (⟨#[]⟩ : ByteArray), .string (⟨#[]⟩ : ByteArray)] ?_; refine qf NB285_284 ?_; exact qk BK285) Tryd.underlying23 rfl (by kernel_rfl)) rfl ?_
 exact ⟨qe, qh HB⟩

end Go.Proofs.YtpmhebdaphjinaaDoor.F
namespace Go.Proofs.YtpmhebdaphjinaaDoor.F
open Go.RowKit Go.Proofs.YtpmhebdaphjinaaDoorW.PrintWords Go.Proofs.YtpmhebdaphjinaaDoorW.PrintLast Go.Proofs.YtpmhebdaphjinaaDoorW.PrintMore Go.Proofs.YtpmhebdaphjinaaDoor.Q
attribute [local go_sem] max2_int min2_int max_two min_two max_three min_three max_four min_four   -- for this text's walks alone
set_option linter.unusedVariables false
set_option linter.unusedSimpArgs false

def idiomref02_Compare.j0 : Nat → Int → Bool → Bool → ByteArray → ByteArray → Bool → ByteArray → ByteArray → Option (Int × Int)
 | 0, _, _, _, _, _, _, _, _ => none
 | k + 1, x8, x32, x287000, x287001, x287002, x288000, x288001, x288002 => if x32 = true then (some (wrap64 (-x8), 0)) else (if x287000 = true then (some ((-1), 0)) else (if x288000 = true then (some (1, 0)) else (some (x8, 0))))
def idiomref02_Compare.f (k : Nat) (a0_0 : Bool) (a0_1 : ByteArray) (a0_2 : ByteArray) (a1_0 : Bool) (a1_1 : ByteArray) (a1_2 : ByteArray) : Option (Int × Int) := (idiomref02_Check.f k a0_0 a0_1 a0_2).bind fun t288 => ((idiomref02_Check.f k a1_0 a1_1 a1_2).bind fun t289 => ((idiomref02_First.f k (([t288, t289] : List Int))).bind fun t293 => (if t293 = 0 then ((idiomref02_raised.f k a0_0 a0_1 a0_2 (mx (a0_2.size : Int) (a1_2.size : Int))).bind fun t294 => ((idiomref02_raised.f k a1_0 a1_1 a1_2 (mx (a0_2.size : Int) (a1_2.size : Int))).bind fun t295 => ((idiomref02_Cmp.f k t294 t295).bind fun t296 => (if a0_0 = true then (idiomref02_Compare.j0 k t296 a1_0 a0_0 a0_1 a0_2 a1_0 a1_1 a1_2) else (idiomref02_Compare.j0 k t296 false a0_0 a0_1 a0_2 a1_0 a1_1 a1_2))))) else (some (0, t293)))))
theorem idiomref02_Compare.mono_l : ∀ k, (∀ y0 y1 y2 y3 y4 y5 y6 y7, LeO (idiomref02_Compare.j0 k y0 y1 y2 y3 y4 y5 y6 y7) (idiomref02_Compare.j0 (k + 1) y0 y1 y2 y3 y4 y5 y6 y7))
 | 0 => fun _ _ _ _ _ _ _ _ r h => by simp [idiomref02_Compare.j0] at h
 | k + 1 => by
  have ih0 := idiomref02_Compare.mono_l k
  · intro y0 y1 y2 y3 y4 y5 y6 y7
    unfold idiomref02_Compare.j0
    repeat' first
    | (with_reducible exact ih0 _ _ _ _ _ _ _ _)
    | (with_reducible exact idiomref02_Check.mono _ _ _ _)
    | (with_reducible exact idiomref02_Cmp.mono _ _ _)
    | (with_reducible exact idiomref02_First.mono _ _)
    | (with_reducible exact idiomref02_raised.mono _ _ _ _ _)
    | (with_reducible exact LeO.refl _)
    | (with_reducible exact LeO.none _)
    | (with_reducible refine LeO.ite ?_ ?_)
    | (with_reducible refine LeO.bind ?_ (fun _ => ?_))
    | exact ih0 _ _ _ _ _ _ _ _
    | exact idiomref02_Check.mono _ _ _ _
    | exact idiomref02_Cmp.mono _ _ _
    | exact idiomref02_First.mono _ _
    | exact idiomref02_raised.mono _ _ _ _ _
    | exact LeO.none _
    | refine LeO.ite ?_ ?_
    | refine LeO.bind ?_ (fun _ => ?_)
theorem idiomref02_Compare.mono : ∀ a0 a1 a2 a3 a4 a5 k, LeO (idiomref02_Compare.f k a0 a1 a2 a3 a4 a5) (idiomref02_Compare.f (k + 1) a0 a1 a2 a3 a4 a5) := by
 intro a0 a1 a2 a3 a4 a5 k
 have ih0 := idiomref02_Compare.mono_l k
 unfold idiomref02_Compare.f
 repeat' first
  | (with_reducible exact ih0 _ _ _ _ _ _ _ _)
  | (with_reducible exact idiomref02_Check.mono _ _ _ _)
  | (with_reducible exact idiomref02_Cmp.mono _ _ _)
  | (with_reducible exact idiomref02_First.mono _ _)
  | (with_reducible exact idiomref02_raised.mono _ _ _ _ _)
  | (with_reducible exact LeO.refl _)
  | (with_reducible exact LeO.none _)
  | (with_reducible refine LeO.ite ?_ ?_)
  | (with_reducible refine LeO.bind ?_ (fun _ => ?_))
  | exact ih0 _ _ _ _ _ _ _ _
  | exact idiomref02_Check.mono _ _ _ _
  | exact idiomref02_Cmp.mono _ _ _
  | exact idiomref02_First.mono _ _
  | exact idiomref02_raised.mono _ _ _ _ _
  | exact LeO.none _
  | refine LeO.ite ?_ ?_
  | refine LeO.bind ?_ (fun _ => ?_)
def idiomref02_Compare.T5 : Bool × List (List Nat × List Nat) := (true, [([], []), ([], []), ([0, 1], [0, 1]), ([], []), ([], []), ([3, 4, 2], [3, 4]), ([2, 5, 5], [2, 5]), ([6, 6, 0, 1, 2, 3, 4, 5, 6], [6])])
def idiomref02_Compare.B5 : List Nat := [0, 0, 3, 0, 0, 31, 63, 127]
theorem idiomref02_Compare.tab5 : rtab .any (opsOf Tryd.f15 5) = idiomref02_Compare.T5 := by kernel_rfl
theorem idiomref02_Compare.bits5 : waitsOk idiomref02_Compare.T5.2 idiomref02_Compare.B5 = true := by kernel_rfl
set_option maxHeartbeats 8000000 in
set_option maxRecDepth 100000 in
theorem idiomref02_Compare.calls (k : Nat) (a0_0 : Bool) (a0_1 : ByteArray) (a0_2 : ByteArray) (a1_0 : Bool) (a1_1 : ByteArray) (a1_2 : ByteArray) (r1 : Int) (r2 : Int) (w : World) (h : idiomref02_Compare.f k a0_0 a0_1 a0_2 a1_0 a1_1 a1_2 = some (r1, r2)) :
 Calls Tryd.prog 15 #[.agg #[.bool a0_0, .string a0_1, .string a0_2], .agg #[.bool a1_0, .string a1_1, .string a1_2]] w fun e w' => e = .returned (.tuple #[.int .i64 r1, .int .i64 r2]) ∧ Below w.heap.size w w' := by
 have hu23 := Tryd.underlying23
 have HB := Aside0.mk (Below.refl w.heap.size w)
 have H : ((idiomref02_Check.f k a0_0 a0_1 a0_2).bind fun t288 => ((idiomref02_Check.f k a1_0 a1_1 a1_2).bind fun t289 => ((idiomref02_First.f k (([t288, t289] : List Int))).bind fun t293 => (if t293 = 0 then ((idiomref02_raised.f k a0_0 a0_1 a0_2 (mx (a0_2.size : Int) (a1_2.size : Int))).bind fun t294 => ((idiomref02_raised.f k a1_0 a1_1 a1_2 (mx (a0_2.size : Int) (a1_2.size : Int))).bind fun t295 => ((idiomref02_Cmp.f k t294 t295).bind fun t296 => (if a0_0 = true then (idiomref02_Compare.j0 k t296 a1_0 a0_0 a0_1 a0_2 a1_0 a1_1 a1_2) else (idiomref02_Compare.j0 k t296 false a0_0 a0_1 a0_2 a1_0 a1_1 a1_2))))) else (some (0, t293)))))) = some (r1, r2) := h
 clear h
 replace H := Option.bind_eq_some_iff.mp H
 obtain ⟨t288, A30, H⟩ := H
 replace H : ((idiomref02_Check.f k a1_0 a1_1 a1_2).bind fun t289 => ((idiomref02_First.f k (([t288, t289] : List Int))).bind fun t293 => (if t293 = 0 then ((idiomref02_raised.f k a0_0 a0_1 a0_2 (mx (a0_2.size : Int) (a1_2.size : Int))).bind fun t294 => ((idiomref02_raised.f k a1_0 a1_1 a1_2 (mx (a0_2.size : Int) (a1_2.size : Int))).bind fun t295 => ((idiomref02_Cmp.f k t294 t295).bind fun t296 => (if a0_0 = true then (idiomref02_Compare.j0 k t296 a1_0 a0_0 a0_1 a0_2 a1_0 a1_1 a1_2) else (idiomref02_Compare.j0 k t296 false a0_0 a0_1 a0_2 a1_0 a1_1 a1_2))))) else (some (0, t293))))) = some (r1, r2) := H
 have A3 := Aside0.mk A30
 clear A30
 replace H := Option.bind_eq_some_iff.mp H
 obtain ⟨t289, A40, H⟩ := H
 replace H : ((idiomref02_First.f k (([t288, t289] : List Int))).bind fun t293 => (if t293 = 0 then ((idiomref02_raised.f k a0_0 a0_1 a0_2 (mx (a0_2.size : Int) (a1_2.size : Int))).bind fun t294 => ((idiomref02_raised.f k a1_0 a1_1 a1_2 (mx (a0_2.size : Int) (a1_2.size : Int))).bind fun t295 => ((idiomref02_Cmp.f k t294 t295).bind fun t296 => (if a0_0 = true then (idiomref02_Compare.j0 k t296 a1_0 a0_0 a0_1 a0_2 a1_0 a1_1 a1_2) else (idiomref02_Compare.j0 k t296 false a0_0 a0_1 a0_2 a1_0 a1_1 a1_2))))) else (some (0, t293)))) = some (r1, r2) := H
 have A4 := Aside0.mk A40
 clear A40
 obtain ⟨y290, hy290⟩ : ∃ y_ : List Int, y_ = (([t288, t289] : List Int)) := ⟨_, rfl⟩
 replace H : ((idiomref02_First.f k y290).bind fun t293 => (if t293 = 0 then ((idiomref02_raised.f k a0_0 a0_1 a0_2 (mx (a0_2.size : Int) (a1_2.size : Int))).bind fun t294 => ((idiomref02_raised.f k a1_0 a1_1 a1_2 (mx (a0_2.size : Int) (a1_2.size : Int))).bind fun t295 => ((idiomref02_Cmp.f k t294 t295).bind fun t296 => (if a0_0 = true then (idiomref02_Compare.j0 k t296 a1_0 a0_0 a0_1 a0_2 a1_0 a1_1 a1_2) else (idiomref02_Compare.j0 k t296 false a0_0 a0_1 a0_2 a1_0 a1_1 a1_2))))) else (some (0, t293)))) = some (r1, r2) := by first | (rw [hy290]; with_reducible exact H) | (have H2_ := (Option.bind_some _ _).symm.trans H; rw [hy290]; with_reducible exact H2_) | (have H2_ := (Option.bind_some _ _).symm.trans H; with_reducible exact H2_) | with_reducible exact H | (rw [hy290]; exact H) | exact H
 have Ny290 := Aside0.mk hy290
 clear hy290
 replace H := Option.bind_eq_some_iff.mp H
 obtain ⟨t293, A50, H⟩ := H
 replace H : (if t293 = 0 then ((idiomref02_raised.f k a0_0 a0_1 a0_2 (mx (a0_2.size : Int) (a1_2.size : Int))).bind fun t294 => ((idiomref02_raised.f k a1_0 a1_1 a1_2 (mx (a0_2.size : Int) (a1_2.size : Int))).bind fun t295 => ((idiomref02_Cmp.f k t294 t295).bind fun t296 => (if a0_0 = true then (idiomref02_Compare.j0 k t296 a1_0 a0_0 a0_1 a0_2 a1_0 a1_1 a1_2) else (idiomref02_Compare.j0 k t296 false a0_0 a0_1 a0_2 a1_0 a1_1 a1_2))))) else (some (0, t293))) = some (r1, r2) := H
 have A5 := Aside0.mk A50
 clear A50
 by_cases c6 : t293 = 0
 · rw [if_pos c6] at H
   have c6b0 : (t293 == 0) = true := beq_iff_eq.mpr c6
   have c6b1 : (t293 != 0) = false := bne_eq_false_iff_eq.mpr c6
   try have c6b1z := c6b1
   (try simp only [bne] at c6b1z)
   clear c6
   obtain ⟨ji7, hji7⟩ : ∃ j_ : Int, (mx (a0_2.size : Int) (a1_2.size : Int)) = j_ := ⟨_, rfl⟩
   replace H : ((idiomref02_raised.f k a0_0 a0_1 a0_2 (ji7)).bind fun t294 => ((idiomref02_raised.f k a1_0 a1_1 a1_2 (ji7)).bind fun t295 => ((idiomref02_Cmp.f k t294 t295).bind fun t296 => (if a0_0 = true then (idiomref02_Compare.j0 k t296 a1_0 a0_0 a0_1 a0_2 a1_0 a1_1 a1_2) else (idiomref02_Compare.j0 k t296 false a0_0 a0_1 a0_2 a1_0 a1_1 a1_2))))) = some (r1, r2) := by first | (rw [hji7] at H; exact H) | (simp only [hji7] at H ⊢; exact H)
   (try rw [hji7] at A3)
   (try rw [hji7] at A4)
   (try rw [hji7] at A5)
   (try (have hji7l : 0 ≤ ji7 := by (rw [← hji7]; unfold mx; (repeat' split) <;> omega)))
   (try (have hji7m : 0 ≤ ji7 := by omega))
   have hji7_ : (if (a0_2.size : Int) < (a1_2.size : Int) then (a1_2.size : Int) else (a0_2.size : Int)) = ji7 := hji7
   try have hji7_z := hji7_
   (try simp only [go_sem, Int.ofNat_lt, ByteArray.size_extract, ByteArray.size_append, Nat.min_self, Int.natCast_add] at hji7_z)
   replace H := Option.bind_eq_some_iff.mp H
   obtain ⟨t294, A80, H⟩ := H
   replace H : ((idiomref02_raised.f k a1_0 a1_1 a1_2 (ji7)).bind fun t295 => ((idiomref02_Cmp.f k t294 t295).bind fun t296 => (if a0_0 = true then (idiomref02_Compare.j0 k t296 a1_0 a0_0 a0_1 a0_2 a1_0 a1_1 a1_2) else (idiomref02_Compare.j0 k t296 false a0_0 a0_1 a0_2 a1_0 a1_1 a1_2)))) = some (r1, r2) := H
   have A8 := Aside0.mk A80
   clear A80
   replace H := Option.bind_eq_some_iff.mp H
   obtain ⟨t295, A90, H⟩ := H
   replace H : ((idiomref02_Cmp.f k t294 t295).bind fun t296 => (if a0_0 = true then (idiomref02_Compare.j0 k t296 a1_0 a0_0 a0_1 a0_2 a1_0 a1_1 a1_2) else (idiomref02_Compare.j0 k t296 false a0_0 a0_1 a0_2 a1_0 a1_1 a1_2))) = some (r1, r2) := H
   have A9 := Aside0.mk A90
   clear A90
   replace H := Option.bind_eq_some_iff.mp H
   obtain ⟨t296, A100, H⟩ := H
   replace H : (if a0_0 = true then (idiomref02_Compare.j0 k t296 a1_0 a0_0 a0_1 a0_2 a1_0 a1_1 a1_2) else (idiomref02_Compare.j0 k t296 false a0_0 a0_1 a0_2 a1_0 a1_1 a1_2)) = some (r1, r2) := H
   have A10 := Aside0.mk A100
   clear A100
   have HC11 := Aside0.mk H
   clear H
   go_enter Tryd.func15, Tryd.ntmps15
   try go_wp2_with (first | ((with_reducible refine gate_dst (N := 2) rfl ?_); refine qx 2 #[.bool a0_0, .string a0_1, .string a0_2] 23 ?_; intro gb286 hg w12 hbox hb; have BK286 := Aside0.mk (hbox); have GW286 := qs hg HB; have GE286 := GW286; replace HB := qn HB hb; clear hb hbox hg) | ((with_reducible refine gate_dst (N := 3) rfl ?_); refine qx 3 #[.bool a1_0, .string a1_1, .string a1_2] 23 ?_; intro gb287 hg w13 hbox hb; have BK287 := Aside0.mk (hbox); have GW287 := qs hg HB; have GE287 := GW287; have NB286_287 := ql_ hg BK286; have NB287_286 := qg_ hg BK286; replace BK286 := qb BK286 hb; replace HB := qn HB hb; clear hb hbox hg))
   replace BK286 := Aside0.mk (blk_drew BK286.out)
   replace BK287 := Aside0.mk (blk_drew BK287.out)
   replace HB := Aside0.mk (below_drew1 HB.out)
   refine start_ (n := 7) (S := fun w' => w'.cell? ⟨gb286, 0, none⟩ = some (.bool a0_0) ∧ w'.cell? ⟨gb286, 1, none⟩ = some (.string a0_1) ∧ w'.cell? ⟨gb286, 2, none⟩ = some (.string a0_2) ∧ w'.cell? ⟨gb287, 0, none⟩ = some (.bool a1_0) ∧ w'.cell? ⟨gb287, 1, none⟩ = some (.string a1_1) ∧ w'.cell? ⟨gb287, 2, none⟩ = some (.string a1_2)) (ds := []) #[false, false, false, false, false, false, false] (by kernel_rfl) rfl rfl ⟨c_ BK286 0, c_ BK286 1, c_ BK286 2, c_ BK287 0, c_ BK287 1, c_ BK287 2⟩ (fun hHeld => ?_)
   generalize w13.drew = w14 at BK286 BK287 HB hHeld ⊢
   refine take_ (i := 0) (N := some 9) (v := ?_) (a' := ?_) #[true, false, false, false, false, false, false] rfl rfl (by kernel_rfl) (fun _ _ _ h => h) (Or.inl ⟨by rfl, ?_⟩) hHeld ?_ ?_
   rotate_left
   · rintro w' ⟨s0, s1, s2, s3, s4, s5⟩
     go_simp
     with_reducible rfl
   rotate_left
   · simp only [Act.put, List.setIfInBounds_toArray, List.set_cons_zero, List.set_cons_succ, i64_w, i32_w]
     rfl
   refine take_ (i := 2) (N := some 11) (v := ?_) (a' := ?_) #[true, false, true, false, false, false, false] rfl rfl (by kernel_rfl) (fun _ _ _ h => h) (Or.inl ⟨by rfl, ?_⟩) hHeld ?_ ?_
   rotate_left
   · rintro w' ⟨s0, s1, s2, s3, s4, s5⟩
     go_simp
     with_reducible rfl
   rotate_left
   · simp only [Act.put, List.setIfInBounds_toArray, List.set_cons_zero, List.set_cons_succ, i64_w, i32_w]
     rfl
   refine one_ (i := 1) (N := some 10) #[true, true, true, false, false, false, false] rfl rfl (by kernel_rfl) (by decide) (fun K hK => ?_)
   refine goes_ Tryd.func32 (by kernel_rfl) rfl #[.agg #[.bool a0_0, .string a0_1, .string a0_2]] (by rfl) rfl rfl ql ?_
   with_reducible refine (idiomref02_Check.calls k a0_0 a0_1 a0_2 t288 _ A3.out).mono ?_
   rintro e w15 ⟨rfl, hb⟩
   refine ⟨_, rfl, ?_⟩
   replace BK286 := qb BK286 hb
   replace BK287 := qb BK287 hb
   replace HB := qn HB hb
   (try clear hb)
   (try clear hb2)
   (try clear hk)
   (try clear hi)
   refine hK.out _ _ ⟨c_ BK286 0, c_ BK286 1, c_ BK286 2, c_ BK287 0, c_ BK287 1, c_ BK287 2⟩ (fun hHeld => ?_)
   clear hK K
   refine nz (some 10) ?_
   refine one_ (i := 3) (N := some 12) #[true, true, true, true, false, false, false] rfl rfl (by kernel_rfl) (by decide) (fun K hK => ?_)
   refine goes_ Tryd.func32 (by kernel_rfl) rfl #[.agg #[.bool a1_0, .string a1_1, .string a1_2]] (by rfl) rfl rfl ql ?_
   with_reducible refine (idiomref02_Check.calls k a1_0 a1_1 a1_2 t289 _ A4.out).mono ?_
   rintro e w16 ⟨rfl, hb⟩
   refine ⟨_, rfl, ?_⟩
   replace BK286 := qb BK286 hb
   replace BK287 := qb BK287 hb
   replace HB := qn HB hb
   (try clear hb)
   (try clear hb2)
   (try clear hk)
   (try clear hi)
   refine hK.out _ _ ⟨c_ BK286 0, c_ BK286 1, c_ BK286 2, c_ BK287 0, c_ BK287 1, c_ BK287 2⟩ (fun hHeld => ?_)
   clear hK K
   refine nz (some 12) ?_
   refine one_ (i := 4) (N := some 13) #[true, true, true, true, true, false, false] rfl rfl (by kernel_rfl) (by decide) (fun K hK => ?_)
   refine Kd.R_lit_step (Kd.int .i64) _ 24 ?hg (N := 13) ?hd (xs := ([t288, t289] : List Int)) (inner := [.int .i64 t288, .int .i64 t289]) (ok := fun _ => True) (okp := fun _ => True) ?hr ?hp (fun _ hk => hk) trivial (Below.refl _ _) (Nat.le_refl _) (by simp) ?_; (case hd => rfl); (case hg => rfl); (case hr => first | (go_simp; done) | (go_simp; rfl)); (case hp => exact (Reps.one (show Kd.M (Kd.int .i64) _ _ _ t288 [.int .i64 t288] from rfl) (Reps.one (show Kd.M (Kd.int .i64) _ _ _ t289 [.int .i64 t289] from rfl) (Reps.none _ _))))
   intro v291 w17 ho18 hb hg_ hnew_
   clear hg_ hnew_
   (first | rw [← Ny290.out] at ho18 | (simp only [Int.reduceToNat] at ho18; rw [← Ny290.out] at ho18))
   have HO292 := Aside0.mk (Kd.R_lower ho18 (below_size (qh HB)))
   replace BK286 := qb BK286 hb
   replace BK287 := qb BK287 hb
   replace HB := qn HB hb
   clear hb ho18
   obtain ⟨Ao19, co19, eo19⟩ := Kd.R_slice HO292.out
   (first | subst eo19 | (injection eo19 with f1_ f2_ f3_; have f4_ := f1_.symm; have f5_ := f3_.symm; clear f1_ f2_ f3_; subst f4_; subst f5_))
   refine hK.out _ _ ⟨c_ BK286 0, c_ BK286 1, c_ BK286 2, c_ BK287 0, c_ BK287 1, c_ BK287 2⟩ (fun hHeld => ?_)
   clear hK K
   refine nz (some 13) ?_
   refine one_ (i := 5) (N := some 14) #[true, true, true, true, true, true, false] rfl rfl (by kernel_rfl) (by decide) (fun K hK => ?_)
   refine goes_ Tryd.func31 (by kernel_rfl) rfl #[.slice Ao19 y290.length co19] (by rfl) rfl rfl ql ?_
   with_reducible refine (idiomref02_First.calls k _ _ y290 t293 _ ?side1 ?side2 A5.out).mono ?_
   (case side1 => repeat (first | exact (Kd.R_reads' HO292.out).2.2 | (with_reducible refine Kd.C_alloc ?_ _) | (with_reducible refine Kd.C_drewN ?_ _) | (with_reducible refine Kd.C_drew ?_)))
   (case side2 => exact (Kd.R_reads' HO292.out).2.1)
   rintro e w' ⟨rfl, ⟨nd, rfl⟩⟩
   refine ⟨_, rfl, ?_⟩
   refine hK.out _ _ ⟨c_ BK286 0, c_ BK286 1, c_ BK286 2, c_ BK287 0, c_ BK287 1, c_ BK287 2⟩ (fun hHeld => ?_)
   clear hK K
   refine nz (some 14) ?_
   refine pure_ (i := 6) (N := some 6) (v := ?_) (a' := ?_) #[true, true, true, true, true, true, true] rfl rfl (by kernel_rfl) (fun _ _ _ h => h) (Or.inl ⟨by rfl, ?_⟩) ?_ ?_
   rotate_left
   · intro w'
     go_simp
     with_reducible rfl
   rotate_left
   · simp only [Act.put, List.setIfInBounds_toArray, List.set_cons_zero, List.set_cons_succ, i64_w, i32_w]
     rfl
   refine done_ (by kernel_rfl) ?_
   have hnb20 := NB286_287.out
   have hnc20 := NB287_286.out
   obtain ⟨hcz21_0, hcz21_1, hcz21_2, hfz21_0, hfz21_1, hfz21_2⟩ := q3 BK286
   obtain ⟨hcz22_0, hcz22_1, hcz22_2, hfz22_0, hfz22_1, hfz22_2⟩ := q3 BK287
   try go_wp2
   (try (rw [drewN_self w17]; generalize hq_ : World.drewN w17 _ = w17; have n0_ : Aside0 (Kd.R (Kd.int .i64) 24 w17 w.heap.size (fun _ => True) (.slice Ao19 y290.length co19) y290) := ⟨by rw [← hq_]; exact (by (with_reducible repeat (first | apply Kd.R_alloc | apply Kd.R_drewN | apply Kd.R_drew)); exact HO292.out)⟩; have n1_ : Aside0 (w17.heap[gb286]? = some (.cells #[.bool a0_0, .string a0_1, .string a0_2] 23 (0, 0))) := ⟨by rw [← hq_]; exact (qk BK286)⟩; have n2_ : Aside0 (w17.heap[gb287]? = some (.cells #[.bool a1_0, .string a1_1, .string a1_2] 23 (0, 0))) := ⟨by rw [← hq_]; exact (qk BK287)⟩; have n3_ : Aside0 (Below w.heap.size w w17) := ⟨by rw [← hq_]; exact (qh HB)⟩; clear HO292 BK286 BK287 HB hq_; have HO292 := n0_; have BK286 := n1_; have BK287 := n2_; have HB := n3_; clear n0_ n1_ n2_ n3_; (try have hcy286_0 : w17.cell? ⟨gb286, 0, none⟩ = some (.bool a0_0) := c_ BK286 0); (try have hfy286_0 := blk_frozen BK286.out 0); (try have hcy286_1 : w17.cell? ⟨gb286, 1, none⟩ = some (.string a0_1) := c_ BK286 1); (try have hfy286_1 := blk_frozen BK286.out 1); (try have hcy286_2 : w17.cell? ⟨gb286, 2, none⟩ = some (.string a0_2) := c_ BK286 2); (try have hfy286_2 := blk_frozen BK286.out 2); (try have hcy287_0 : w17.cell? ⟨gb287, 0, none⟩ = some (.bool a1_0) := c_ BK287 0); (try have hfy287_0 := blk_frozen BK287.out 0); (try have hcy287_1 : w17.cell? ⟨gb287, 1, none⟩ = some (.string a1_1) := c_ BK287 1); (try have hfy287_1 := blk_frozen BK287.out 1); (try have hcy287_2 : w17.cell? ⟨gb287, 2, none⟩ = some (.string a1_2) := c_ BK287 2); (try have hfy287_2 := blk_frozen BK287.out 2)))
   replace HO292 := Aside0.mk (Kd.R_drew HO292.out)
   replace BK286 := Aside0.mk (blk_drew BK286.out)
   replace BK287 := Aside0.mk (blk_drew BK287.out)
   replace HB := Aside0.mk (below_drew1 HB.out)
   refine start_ (n := 8) (S := fun w' => w'.cell? ⟨gb286, 0, none⟩ = some (.bool a0_0) ∧ w'.cell? ⟨gb286, 1, none⟩ = some (.string a0_1) ∧ w'.cell? ⟨gb286, 2, none⟩ = some (.string a0_2) ∧ w'.cell? ⟨gb287, 0, none⟩ = some (.bool a1_0) ∧ w'.cell? ⟨gb287, 1, none⟩ = some (.string a1_1) ∧ w'.cell? ⟨gb287, 2, none⟩ = some (.string a1_2)) (ds := []) #[false, false, false, false, false, false, false, false] (by kernel_rfl) rfl rfl ⟨c_ BK286 0, c_ BK286 1, c_ BK286 2, c_ BK287 0, c_ BK287 1, c_ BK287 2⟩ (fun hHeld => ?_); refine with_tabW idiomref02_Compare.tab5 idiomref02_Compare.bits5 (fun HT_ HW_ => ?_)
   generalize w17.drew = w23 at HO292 BK286 BK287 HB hHeld ⊢
   refine pz 1 (some 26) #[false, true, false, false, false, false, false, false] HT_ ?_
   refine pz 4 (some 29) #[false, true, false, false, true, false, false, false] HT_ ?_
   refine tw6 0 (some 25) #[true, true, false, false, true, false, false, false] HT_ HW_ hHeld ?_
   refine tw6 3 (some 28) #[true, true, false, true, true, false, false, false] HT_ HW_ hHeld ?_
   refine one_ (i := 2) (N := some 27) #[true, true, true, true, true, false, false, false] rfl rfl (one_of HT_.out (by kernel_rfl)) (by decide) (fun K hK => ?_)
   refine goes_ Tryd.func34 (by kernel_rfl) rfl #[.agg #[.bool a0_0, .string a0_1, .string a0_2], .int .i64 ji7] (by rfl) rfl rfl (by (try simp only [List.map_toArray, List.map_cons, List.map_nil]); first | done | (simp only [hji7]; rfl) | rfl | (simp only [List.length_drop, List.length_take]; rfl)) ?_
   with_reducible refine (idiomref02_raised.calls k a0_0 a0_1 a0_2 ji7 t294 _ A8.out).mono ?_
   rintro e w24 ⟨rfl, hb⟩
   refine ⟨_, rfl, ?_⟩
   replace HO292 := Aside0.mk (Kd.R_below (by (with_reducible repeat (first | apply Kd.R_alloc | apply Kd.R_drewN | apply Kd.R_drew)); exact HO292.out) hb)
   replace BK286 := qb BK286 hb
   replace BK287 := qb BK287 hb
   replace HB := qn HB hb
   (try clear hb)
   (try clear hb2)
   (try clear hk)
   (try clear hi)
   refine hK.out _ _ ⟨c_ BK286 0, c_ BK286 1, c_ BK286 2, c_ BK287 0, c_ BK287 1, c_ BK287 2⟩ (fun hHeld => ?_)
   clear hK K
   refine nz (some 27) ?_
   refine one_ (i := 5) (N := some 30) #[true, true, true, true, true, true, false, false] rfl rfl (one_of HT_.out (by kernel_rfl)) (by decide) (fun K hK => ?_)
   refine goes_ Tryd.func34 (by kernel_rfl) rfl #[.agg #[.bool a1_0, .string a1_1, .string a1_2], .int .i64 ji7] (by rfl) rfl rfl (by (try simp only [List.map_toArray, List.map_cons, List.map_nil]); first | done | (simp only [hji7]; rfl) | rfl | (simp only [List.length_drop, List.length_take]; rfl)) ?_
   with_reducible refine (idiomref02_raised.calls k a1_0 a1_1 a1_2 ji7 t295 _ A9.out).mono ?_
   rintro e w25 ⟨rfl, hb⟩
   refine ⟨_, rfl, ?_⟩
   replace HO292 := Aside0.mk (Kd.R_below (by (with_reducible repeat (first | apply Kd.R_alloc | apply Kd.R_drewN | apply Kd.R_drew)); exact HO292.out) hb)
   replace BK286 := qb BK286 hb
   replace BK287 := qb BK287 hb
   replace HB := qn HB hb
   (try clear hb)
   (try clear hb2)
   (try clear hk)
   (try clear hi)
   refine hK.out _ _ ⟨c_ BK286 0, c_ BK286 1, c_ BK286 2, c_ BK287 0, c_ BK287 1, c_ BK287 2⟩ (fun hHeld => ?_)
   clear hK K
   refine nz (some 30) ?_
   refine one_ (i := 6) (N := some 31) #[true, true, true, true, true, true, true, false] rfl rfl (one_of HT_.out (by kernel_rfl)) (by decide) (fun K hK => ?_)
   refine goes_ Tryd.func33 (by kernel_rfl) rfl #[.string t294, .string t295] (by rfl) rfl rfl ql ?_
   with_reducible refine (idiomref02_Cmp.calls k t294 t295 t296 _ A10.out).mono ?_
   rintro e w' ⟨rfl, ⟨nd, rfl⟩⟩
   refine ⟨_, rfl, ?_⟩
   refine hK.out _ _ ⟨c_ BK286 0, c_ BK286 1, c_ BK286 2, c_ BK287 0, c_ BK287 1, c_ BK287 2⟩ (fun hHeld => ?_)
   clear hK K
   refine nz (some 31) ?_
   refine pz 7 (some 8) #[true, true, true, true, true, true, true, true] HT_ ?_
   refine done_ (done_of HT_.out (by kernel_rfl)) ?_
   go_upto_region 6 with (fail)
   go_cut [32] (fun v32 wc => ∃ (kq : Nat) (x32_10 : Bool), v32 = .bool x32_10 ∧ Aside0 (idiomref02_Compare.j0 kq t296 x32_10 a0_0 a0_1 a0_2 a1_0 a1_1 a1_2 = some (r1, r2)) ∧ Aside0 (kq ≤ k) ∧ Aside0 (wc.heap[gb286]? = some (.cells #[.bool a0_0, .string a0_1, .string a0_2] 23 (0, 0))) ∧ Aside0 (wc.heap[gb287]? = some (.cells #[.bool a1_0, .string a1_1, .string a1_2] 23 (0, 0))) ∧ Aside0 (Below w.heap.size w wc))
   case first =>
    have H := HC11.out
    clear HC11
    by_cases c26 : a0_0 = true
    · subst c26
      have H1 : (idiomref02_Compare.j0 k t296 a1_0 true a0_1 a0_2 a1_0 a1_1 a1_2) = some (r1, r2) := by rw [if_pos rfl] at H; exact H
      clear H
      have H := H1
      clear H1
      have H' := Aside0.mk H
      clear H
      have hnb27 := NB286_287.out
      have hnc27 := NB287_286.out
      obtain ⟨hcz28_0, hcz28_1, hcz28_2, hfz28_0, hfz28_1, hfz28_2⟩ := q3 BK286
      obtain ⟨hcz29_0, hcz29_1, hcz29_2, hfz29_0, hfz29_1, hfz29_2⟩ := q3 BK287
      go_wp2
      go_meet
      case rel => exact ⟨_, (a1_0), (by first | rfl | (simp; done) | (simp [*]; done)), H', ⟨by first | omega | exact Nat.le_refl _⟩, ⟨qk BK286⟩, ⟨qk BK287⟩, ⟨qh HB⟩⟩
    · replace c26 := Bool.eq_false_iff.mpr c26
      subst c26
      have H1 : (idiomref02_Compare.j0 k t296 false false a0_1 a0_2 a1_0 a1_1 a1_2) = some (r1, r2) := by rw [if_neg (show ¬ (false = true) by decide)] at H; exact H
      clear H
      have H := H1
      clear H1
      have H' := Aside0.mk H
      clear H
      have hnb30 := NB286_287.out
      have hnc30 := NB287_286.out
      obtain ⟨hcz31_0, hcz31_1, hcz31_2, hfz31_0, hfz31_1, hfz31_2⟩ := q3 BK286
      go_wp2
      go_meet
      case rel => exact ⟨_, (false), (by first | rfl | (simp; done) | (simp [*]; done)), H', ⟨by first | omega | exact Nat.le_refl _⟩, ⟨qk BK286⟩, ⟨qk BK287⟩, ⟨qh HB⟩⟩
   case rest =>
    clear HC11
    try clear c1
    try clear c2
    try clear p2
    try clear c3
    try clear c6
    try clear c6b0
    try clear c6b1
    try clear c15
    try clear c20
    try clear c26
    try clear c27
    try clear c30
    try clear c31
    try clear hcz21_0
    try clear hcz21_1
    try clear hcz21_2
    try clear hcz22_0
    try clear hcz22_1
    try clear hcz22_2
    try clear hcz28_0
    try clear hcz28_1
    try clear hcz28_2
    try clear hcz29_0
    try clear hcz29_1
    try clear hcz29_2
    try clear hcz31_0
    try clear hcz31_1
    try clear hcz31_2
    try clear hfz21_0
    try clear hfz21_1
    try clear hfz21_2
    try clear hfz22_0
    try clear hfz22_1
    try clear hfz22_2
    try clear hfz28_0
    try clear hfz28_1
    try clear hfz28_2
    try clear hfz29_0
    try clear hfz29_1
    try clear hfz29_2
    try clear hfz31_0
    try clear hfz31_1
    try clear hfz31_2
    obtain ⟨kq, x32_10, rfl, HA, HJ10, BK286, BK287, HB⟩ := hcut
    cases kq with
    | zero => exact absurd HA.out (by simp [idiomref02_Compare.j0])
    | succ kj10 =>
     have H := HA.out
     clear HA
     simp only [idiomref02_Compare.j0] at H
     by_cases c32 : x32_10 = true
     · subst c32
       have H1 : (some (wrap64 (-t296), 0)) = some (r1, r2) := by rw [if_pos rfl] at H; exact H
       clear H
       have H := H1
       clear H1
       simp only [Option.some.injEq, Prod.mk.injEq] at H
       obtain ⟨rfl, rfl⟩ := H
       go_wp2
       go_ret2
       exact ⟨by first | rfl | (exact congrArg (fun b => Ending.returned (.bool b)) (Aid.bne_nil _)) | (exact congrArg (fun b => Ending.returned (.bool b)) (Aid.eq_nil _)) | (simp [errW_none, errW_some] <;> rfl) | (simp only [← hji7]; first | rfl | (simp [errW_none, errW_some] <;> rfl)) | (simp [*, errW_none, errW_some] <;> rfl), qh HB⟩
     · replace c32 := Bool.eq_false_iff.mpr c32
       subst c32
       have H1 : (if a0_0 = true then (some ((-1), 0)) else (if a1_0 = true then (some (1, 0)) else (some (t296, 0)))) = some (r1, r2) := by rw [if_neg (show ¬ (false = true) by decide)] at H; exact H
       clear H
       have H := H1
       clear H1
       by_cases c33 : a0_0 = true
       · subst c33
         have H1 : (some ((-1), 0)) = some (r1, r2) := by rw [if_pos rfl] at H; exact H
         clear H
         have H := H1
         clear H1
         simp only [Option.some.injEq, Prod.mk.injEq] at H
         obtain ⟨rfl, rfl⟩ := H
         have hnb34 := NB286_287.out
         have hnc34 := NB287_286.out
         obtain ⟨hcz35_0, hcz35_1, hcz35_2, hfz35_0, hfz35_1, hfz35_2⟩ := q3 BK286
         go_wp2
         go_ret2
         exact ⟨by first | rfl | (exact congrArg (fun b => Ending.returned (.bool b)) (Aid.bne_nil _)) | (exact congrArg (fun b => Ending.returned (.bool b)) (Aid.eq_nil _)) | (simp [errW_none, errW_some] <;> rfl) | (simp only [← hji7]; first | rfl | (simp [errW_none, errW_some] <;> rfl)) | (simp [*, errW_none, errW_some] <;> rfl), qh HB⟩
       · replace c33 := Bool.eq_false_iff.mpr c33
         subst c33
         have H1 : (if a1_0 = true then (some (1, 0)) else (some (t296, 0))) = some (r1, r2) := by rw [if_neg (show ¬ (false = true) by decide)] at H; exact H
         clear H
         have H := H1
         clear H1
         by_cases c36 : a1_0 = true
         · subst c36
           have H1 : (some (1, 0)) = some (r1, r2) := by rw [if_pos rfl] at H; exact H
           clear H
           have H := H1
           clear H1
           simp only [Option.some.injEq, Prod.mk.injEq] at H
           obtain ⟨rfl, rfl⟩ := H
           have hnb37 := NB286_287.out
           have hnc37 := NB287_286.out
           obtain ⟨hcz38_0, hcz38_1, hcz38_2, hfz38_0, hfz38_1, hfz38_2⟩ := q3 BK286
           obtain ⟨hcz39_0, hcz39_1, hcz39_2, hfz39_0, hfz39_1, hfz39_2⟩ := q3 BK287
           go_wp2
           go_ret2
           exact ⟨by first | rfl | (exact congrArg (fun b => Ending.returned (.bool b)) (Aid.bne_nil _)) | (exact congrArg (fun b => Ending.returned (.bool b)) (Aid.eq_nil _)) | (simp [errW_none, errW_some] <;> rfl) | (simp only [← hji7]; first | rfl | (simp [errW_none, errW_some] <;> rfl)) | (simp [*, errW_none, errW_some] <;> rfl), qh HB⟩
         · replace c36 := Bool.eq_false_iff.mpr c36
           subst c36
           have H1 : (some (t296, 0)) = some (r1, r2) := by rw [if_neg (show ¬ (false = true) by decide)] at H; exact H
           clear H
           have H := H1
           clear H1
           simp only [Option.some.injEq, Prod.mk.injEq] at H
           obtain ⟨rfl, rfl⟩ := H
           have hnb40 := NB286_287.out
           have hnc40 := NB287_286.out
           obtain ⟨hcz41_0, hcz41_1, hcz41_2, hfz41_0, hfz41_1, hfz41_2⟩ := q3 BK286
           obtain ⟨hcz42_0, hcz42_1, hcz42_2, hfz42_0, hfz42_1, hfz42_2⟩ := q3 BK287
           go_wp2
           go_ret2
           exact ⟨by first | rfl | (exact congrArg (fun b => Ending.returned (.bool b)) (Aid.bne_nil _)) | (exact congrArg (fun b => Ending.returned (.bool b)) (Aid.eq_nil _)) | (simp [errW_none, errW_some] <;> rfl) | (simp only [← hji7]; first | rfl | (simp [errW_none, errW_some] <;> rfl)) | (simp [*, errW_none, errW_some] <;> rfl), qh HB⟩
 · rw [if_neg c6] at H
   have c6b0 : (t293 == 0) = false := beq_eq_false_iff_ne.mpr c6
   have c6b1 : (t293 != 0) = true := bne_iff_ne.mpr c6
   try have c6b1z := c6b1
   (try simp only [bne] at c6b1z)
   simp only [Option.some.injEq, Prod.mk.injEq] at H
   obtain ⟨rfl, rfl⟩ := H
   go_enter Tryd.func15, Tryd.ntmps15
   try go_wp2_with (first | ((with_reducible refine gate_dst (N := 2) rfl ?_); refine qx 2 #[.bool a0_0, .string a0_1, .string a0_2] 23 ?_; intro gb286 hg w43 hbox hb; have BK286 := Aside0.mk (hbox); have GW286 := qs hg HB; have GE286 := GW286; replace HB := qn HB hb; clear hb hbox hg) | ((with_reducible refine gate_dst (N := 3) rfl ?_); refine qx 3 #[.bool a1_0, .string a1_1, .string a1_2] 23 ?_; intro gb287 hg w44 hbox hb; have BK287 := Aside0.mk (hbox); have GW287 := qs hg HB; have GE287 := GW287; have NB286_287 := ql_ hg BK286; have NB287_286 := qg_ hg BK286; replace BK286 := qb BK286 hb; replace HB := qn HB hb; clear hb hbox hg))
   replace BK286 := Aside0.mk (blk_drew BK286.out)
   replace BK287 := Aside0.mk (blk_drew BK287.out)
   replace HB := Aside0.mk (below_drew1 HB.out)
   refine start_ (n := 7) (S := fun w' => w'.cell? ⟨gb286, 0, none⟩ = some (.bool a0_0) ∧ w'.cell? ⟨gb286, 1, none⟩ = some (.string a0_1) ∧ w'.cell? ⟨gb286, 2, none⟩ = some (.string a0_2) ∧ w'.cell? ⟨gb287, 0, none⟩ = some (.bool a1_0) ∧ w'.cell? ⟨gb287, 1, none⟩ = some (.string a1_1) ∧ w'.cell? ⟨gb287, 2, none⟩ = some (.string a1_2)) (ds := []) #[false, false, false, false, false, false, false] (by kernel_rfl) rfl rfl ⟨c_ BK286 0, c_ BK286 1, c_ BK286 2, c_ BK287 0, c_ BK287 1, c_ BK287 2⟩ (fun hHeld => ?_)
   generalize w44.drew = w45 at BK286 BK287 HB hHeld ⊢
   refine take_ (i := 0) (N := some 9) (v := ?_) (a' := ?_) #[true, false, false, false, false, false, false] rfl rfl (by kernel_rfl) (fun _ _ _ h => h) (Or.inl ⟨by rfl, ?_⟩) hHeld ?_ ?_
   rotate_left
   · rintro w' ⟨s0, s1, s2, s3, s4, s5⟩
     go_simp
     with_reducible rfl
   rotate_left
   · simp only [Act.put, List.setIfInBounds_toArray, List.set_cons_zero, List.set_cons_succ, i64_w, i32_w]
     rfl
   refine take_ (i := 2) (N := some 11) (v := ?_) (a' := ?_) #[true, false, true, false, false, false, false] rfl rfl (by kernel_rfl) (fun _ _ _ h => h) (Or.inl ⟨by rfl, ?_⟩) hHeld ?_ ?_
   rotate_left
   · rintro w' ⟨s0, s1, s2, s3, s4, s5⟩
     go_simp
     with_reducible rfl
   rotate_left
   · simp only [Act.put, List.setIfInBounds_toArray, List.set_cons_zero, List.set_cons_succ, i64_w, i32_w]
     rfl
   refine one_ (i := 1) (N := some 10) #[true, true, true, false, false, false, false] rfl rfl (by kernel_rfl) (by decide) (fun K hK => ?_)
   refine goes_ Tryd.func32 (by kernel_rfl) rfl #[.agg #[.bool a0_0, .string a0_1, .string a0_2]] (by rfl) rfl rfl ql ?_
   with_reducible refine (idiomref02_Check.calls k a0_0 a0_1 a0_2 t288 _ A3.out).mono ?_
   rintro e w46 ⟨rfl, hb⟩
   refine ⟨_, rfl, ?_⟩
   replace BK286 := qb BK286 hb
   replace BK287 := qb BK287 hb
   replace HB := qn HB hb
   (try clear hb)
   (try clear hb2)
   (try clear hk)
   (try clear hi)
   refine hK.out _ _ ⟨c_ BK286 0, c_ BK286 1, c_ BK286 2, c_ BK287 0, c_ BK287 1, c_ BK287 2⟩ (fun hHeld => ?_)
   clear hK K
   refine nz (some 10) ?_
   refine one_ (i := 3) (N := some 12) #[true, true, true, true, false, false, false] rfl rfl (by kernel_rfl) (by decide) (fun K hK => ?_)
   refine goes_ Tryd.func32 (by kernel_rfl) rfl #[.agg #[.bool a1_0, .string a1_1, .string a1_2]] (by rfl) rfl rfl ql ?_
   with_reducible refine (idiomref02_Check.calls k a1_0 a1_1 a1_2 t289 _ A4.out).mono ?_
   rintro e w47 ⟨rfl, hb⟩
   refine ⟨_, rfl, ?_⟩
   replace BK286 := qb BK286 hb
   replace BK287 := qb BK287 hb
   replace HB := qn HB hb
   (try clear hb)
   (try clear hb2)
   (try clear hk)
   (try clear hi)
   refine hK.out _ _ ⟨c_ BK286 0, c_ BK286 1, c_ BK286 2, c_ BK287 0, c_ BK287 1, c_ BK287 2⟩ (fun hHeld => ?_)
   clear hK K
   refine nz (some 12) ?_
   refine one_ (i := 4) (N := some 13) #[true, true, true, true, true, false, false] rfl rfl (by kernel_rfl) (by decide) (fun K hK => ?_)
   refine Kd.R_lit_step (Kd.int .i64) _ 24 ?hg (N := 13) ?hd (xs := ([t288, t289] : List Int)) (inner := [.int .i64 t288, .int .i64 t289]) (ok := fun _ => True) (okp := fun _ => True) ?hr ?hp (fun _ hk => hk) trivial (Below.refl _ _) (Nat.le_refl _) (by simp) ?_; (case hd => rfl); (case hg => rfl); (case hr => first | (go_simp; done) | (go_simp; rfl)); (case hp => exact (Reps.one (show Kd.M (Kd.int .i64) _ _ _ t288 [.int .i64 t288] from rfl) (Reps.one (show Kd.M (Kd.int .i64) _ _ _ t289 [.int .i64 t289] from rfl) (Reps.none _ _))))
   intro v291 w48 ho49 hb hg_ hnew_
   clear hg_ hnew_
   (first | rw [← Ny290.out] at ho49 | (simp only [Int.reduceToNat] at ho49; rw [← Ny290.out] at ho49))
   have HO292 := Aside0.mk (Kd.R_lower ho49 (below_size (qh HB)))
   replace BK286 := qb BK286 hb
   replace BK287 := qb BK287 hb
   replace HB := qn HB hb
   clear hb ho49
   obtain ⟨Ao50, co50, eo50⟩ := Kd.R_slice HO292.out
   (first | subst eo50 | (injection eo50 with f1_ f2_ f3_; have f4_ := f1_.symm; have f5_ := f3_.symm; clear f1_ f2_ f3_; subst f4_; subst f5_))
   refine hK.out _ _ ⟨c_ BK286 0, c_ BK286 1, c_ BK286 2, c_ BK287 0, c_ BK287 1, c_ BK287 2⟩ (fun hHeld => ?_)
   clear hK K
   refine nz (some 13) ?_
   refine one_ (i := 5) (N := some 14) #[true, true, true, true, true, true, false] rfl rfl (by kernel_rfl) (by decide) (fun K hK => ?_)
   refine goes_ Tryd.func31 (by kernel_rfl) rfl #[.slice Ao50 y290.length co50] (by rfl) rfl rfl ql ?_
   with_reducible refine (idiomref02_First.calls k _ _ y290 t293 _ ?side1 ?side2 A5.out).mono ?_
   (case side1 => repeat (first | exact (Kd.R_reads' HO292.out).2.2 | (with_reducible refine Kd.C_alloc ?_ _) | (with_reducible refine Kd.C_drewN ?_ _) | (with_reducible refine Kd.C_drew ?_)))
   (case side2 => exact (Kd.R_reads' HO292.out).2.1)
   rintro e w' ⟨rfl, ⟨nd, rfl⟩⟩
   refine ⟨_, rfl, ?_⟩
   refine hK.out _ _ ⟨c_ BK286 0, c_ BK286 1, c_ BK286 2, c_ BK287 0, c_ BK287 1, c_ BK287 2⟩ (fun hHeld => ?_)
   clear hK K
   refine nz (some 14) ?_
   refine pure_ (i := 6) (N := some 6) (v := ?_) (a' := ?_) #[true, true, true, true, true, true, true] rfl rfl (by kernel_rfl) (fun _ _ _ h => h) (Or.inl ⟨by rfl, ?_⟩) ?_ ?_
   rotate_left
   · intro w'
     go_simp
     with_reducible rfl
   rotate_left
   · simp only [Act.put, List.setIfInBounds_toArray, List.set_cons_zero, List.set_cons_succ, i64_w, i32_w]
     rfl
   refine done_ (by kernel_rfl) ?_
   try go_wp2
   go_ret2
   exact ⟨qe, qh HB⟩

end Go.Proofs.YtpmhebdaphjinaaDoor.F
namespace Go.Proofs.YtpmhebdaphjinaaDoor.F
open Go.RowKit Go.Proofs.YtpmhebdaphjinaaDoorW.PrintWords Go.Proofs.YtpmhebdaphjinaaDoorW.PrintLast Go.Proofs.YtpmhebdaphjinaaDoorW.PrintMore Go.Proofs.YtpmhebdaphjinaaDoor.Q
attribute [local go_sem] max2_int min2_int max_two min_two max_three min_three max_four min_four   -- for this text's walks alone
set_option linter.unusedVariables false
set_option linter.unusedSimpArgs false

def idiomlaw03_unit.f (k : Nat) (a0 : Int) : Option (Bool × ByteArray × ByteArray) := if a0 = 0 then (some (false, (⟨#[49]⟩ : ByteArray), (⟨#[]⟩ : ByteArray))) else ((idiomref03_Noughts.f k (wrap64 (a0 - 1))).bind fun t298 => (if t298.size + 1 ≤ 9223372036854775807 then (some (false, (⟨#[48]⟩ : ByteArray), t298 ++ (⟨#[49]⟩ : ByteArray))) else (none)))
theorem idiomlaw03_unit.mono : ∀ a0 k, LeO (idiomlaw03_unit.f k a0) (idiomlaw03_unit.f (k + 1) a0) := by
 intro a0 k
 unfold idiomlaw03_unit.f
 repeat' first
  | (with_reducible exact idiomref03_Noughts.mono _ _)
  | (with_reducible exact LeO.refl _)
  | (with_reducible exact LeO.none _)
  | (with_reducible refine LeO.ite ?_ ?_)
  | (with_reducible refine LeO.bind ?_ (fun _ => ?_))
  | exact idiomref03_Noughts.mono _ _
  | exact LeO.none _
  | refine LeO.ite ?_ ?_
  | refine LeO.bind ?_ (fun _ => ?_)
set_option maxHeartbeats 8000000 in
set_option maxRecDepth 100000 in
theorem idiomlaw03_unit.calls (k : Nat) (a0 : Int) (r1 : Bool) (r2 : ByteArray) (r3 : ByteArray) (w : World) (h : idiomlaw03_unit.f k a0 = some (r1, r2, r3)) :
 Calls Tryd.prog 16 #[.int .i64 a0] w fun e w' => e = .returned (.agg #[.bool r1, .string r2, .string r3]) ∧ Below w.heap.size w w' := by
 have hu23 := Tryd.underlying23
 have HB := Aside0.mk (Below.refl w.heap.size w)
 have H : (if a0 = 0 then (some (false, (⟨#[49]⟩ : ByteArray), (⟨#[]⟩ : ByteArray))) else ((idiomref03_Noughts.f k (wrap64 (a0 - 1))).bind fun t298 => (if t298.size + 1 ≤ 9223372036854775807 then (some (false, (⟨#[48]⟩ : ByteArray), t298 ++ (⟨#[49]⟩ : ByteArray))) else (none)))) = some (r1, r2, r3) := h
 clear h
 by_cases c2 : a0 = 0
 · rw [if_pos c2] at H
   have c2b0 : (a0 == 0) = true := beq_iff_eq.mpr c2
   have c2b1 : (a0 != 0) = false := bne_eq_false_iff_eq.mpr c2
   try have c2b1z := c2b1
   (try simp only [bne] at c2b1z)
   clear c2
   simp only [Option.some.injEq, Prod.mk.injEq] at H
   obtain ⟨rfl, rfl, rfl⟩ := H
   go_enter Tryd.func16, Tryd.ntmps16
   go_wp2_with (first | ((with_reducible refine gate_dst (N := 2) rfl ?_); refine qx 2 #[.bool false, .string (⟨#[]⟩ : ByteArray), .string (⟨#[]⟩ : ByteArray)] 23 ?_; intro gb297 hg w3 hbox hb; have BK297 := Aside0.mk (hbox); have GW297 := qs hg HB; have GE297 := GW297; replace HB := qn HB hb; clear hb hbox hg; obtain ⟨hcz4_0, hcz4_1, hcz4_2, hfz4_0, hfz4_1, hfz4_2⟩ := q3 BK297))
   refine bodyPost_ret (results_cell_row rfl _ _ gb297 23 #[.bool false, .string (⟨#[49]⟩ : ByteArray), .string (⟨#[]⟩ : ByteArray)] (0, 0) _ rfl (by refine qp 2 #[.bool false, .string (⟨#[49]⟩ : ByteArray), .string (⟨#[]⟩ : ByteArray)] ?_; refine qp 1 #[.bool false, .string (⟨#[]⟩ : ByteArray), .string (⟨#[]⟩ : ByteArray)] ?_; refine qp 0 #[.bool false, .string (⟨#[]⟩ : ByteArray), .string (⟨#[]⟩ : ByteArray)] ?_; exact qk BK297) Tryd.underlying23 rfl (by kernel_rfl)) rfl ?_
   exact ⟨qe, qh HB⟩
 · rw [if_neg c2] at H
   have c2b0 : (a0 == 0) = false := beq_eq_false_iff_ne.mpr c2
   have c2b1 : (a0 != 0) = true := bne_iff_ne.mpr c2
   try have c2b1z := c2b1
   (try simp only [bne] at c2b1z)
   replace H := Option.bind_eq_some_iff.mp H
   obtain ⟨t298, A50, H⟩ := H
   replace H : (if t298.size + 1 ≤ 9223372036854775807 then (some (false, (⟨#[48]⟩ : ByteArray), t298 ++ (⟨#[49]⟩ : ByteArray))) else (none)) = some (r1, r2, r3) := H
   have A5 := Aside0.mk A50
   clear A50
   by_cases c6 : t298.size + 1 ≤ 9223372036854775807
   · rw [if_pos c6] at H
     have c6b0 := eq_true c6
     have c6b1 : decide (t298.size + 1 ≤ 9223372036854775807) = true := decide_eq_true c6
     try have c6b2 : (9223372036854775807 < t298.size + 1) = False := eq_false (Nat.not_lt.2 c6)
     simp only [Option.some.injEq, Prod.mk.injEq] at H
     obtain ⟨rfl, rfl, rfl⟩ := H
     go_enter Tryd.func16, Tryd.ntmps16
     go_wp2_with (first | ((with_reducible refine gate_dst (N := 2) rfl ?_); refine qx 2 #[.bool false, .string (⟨#[]⟩ : ByteArray), .string (⟨#[]⟩ : ByteArray)] 23 ?_; intro gb297 hg w7 hbox hb; have BK297 := Aside0.mk (hbox); have GW297 := qs hg HB; have GE297 := GW297; replace HB := qn HB hb; clear hb hbox hg) | ((with_reducible refine gate_callee (f := 28) rfl ?_); refine goesL_ (some 8) rfl rfl Tryd.func28 (by kernel_rfl) rfl #[.int .i64 (wrap64 (a0 - 1))] rfl ql ?_; (with_reducible refine (idiomref03_Noughts.calls k (wrap64 (a0 - 1)) t298 _ A5.out).mono ?_); rintro e w8 ⟨rfl, hb⟩; refine ⟨_, rfl, ?_⟩; replace BK297 := qb BK297 hb; replace HB := qn HB hb; (try clear hb); (try clear hb2); (try clear hk); (try clear hi); obtain ⟨hcz9_0, hcz9_1, hcz9_2, hfz9_0, hfz9_1, hfz9_2⟩ := q3 BK297))
     refine bodyPost_ret (results_cell_row rfl _ _ gb297 23 #[.bool false, .string (⟨#[48]⟩ : ByteArray), .string (t298 ++ (⟨#[49]⟩ : ByteArray))] (0, 0) _ rfl (by refine qp 2 #[.bool false, .string (⟨#[48]⟩ : ByteArray), .string (⟨#[]⟩ : ByteArray)] ?_; refine qp 1 #[.bool false, .string (⟨#[]⟩ : ByteArray), .string (⟨#[]⟩ : ByteArray)] ?_; refine qp 0 #[.bool false, .string (⟨#[]⟩ : ByteArray), .string (⟨#[]⟩ : ByteArray)] ?_; exact qk BK297) Tryd.underlying23 rfl (by kernel_rfl)) rfl ?_
     exact ⟨qe, qh HB⟩
   · rw [if_neg c6] at H
     exact absurd H (by simp)

def idiomref02_Add.f (k : Nat) (a0_0 : Bool) (a0_1 : ByteArray) (a0_2 : ByteArray) (a1_0 : Bool) (a1_1 : ByteArray) (a1_2 : ByteArray) : Option (Bool × ByteArray × ByteArray × Int) := (idiomref02_sum.f k a0_0 a0_1 a0_2 a1_0 a1_1 a1_2 false).bind fun bt302 => (some (bt302.1, bt302.2.1, bt302.2.2.1, bt302.2.2.2))
theorem idiomref02_Add.mono : ∀ a0 a1 a2 a3 a4 a5 k, LeO (idiomref02_Add.f k a0 a1 a2 a3 a4 a5) (idiomref02_Add.f (k + 1) a0 a1 a2 a3 a4 a5) := by
 intro a0 a1 a2 a3 a4 a5 k
 unfold idiomref02_Add.f
 repeat' first
  | (with_reducible exact idiomref02_sum.mono _ _ _ _ _ _ _ _)
  | (with_reducible exact LeO.refl _)
  | (with_reducible exact LeO.none _)
  | (with_reducible refine LeO.ite ?_ ?_)
  | (with_reducible refine LeO.bind ?_ (fun _ => ?_))
  | exact idiomref02_sum.mono _ _ _ _ _ _ _ _
  | exact LeO.none _
  | refine LeO.ite ?_ ?_
  | refine LeO.bind ?_ (fun _ => ?_)
set_option maxHeartbeats 8000000 in
set_option maxRecDepth 100000 in
theorem idiomref02_Add.calls (k : Nat) (a0_0 : Bool) (a0_1 : ByteArray) (a0_2 : ByteArray) (a1_0 : Bool) (a1_1 : ByteArray) (a1_2 : ByteArray) (r1 : Bool) (r2 : ByteArray) (r3 : ByteArray) (r4 : Int) (w : World) (h : idiomref02_Add.f k a0_0 a0_1 a0_2 a1_0 a1_1 a1_2 = some (r1, r2, r3, r4)) :
 Calls Tryd.prog 17 #[.agg #[.bool a0_0, .string a0_1, .string a0_2], .agg #[.bool a1_0, .string a1_1, .string a1_2]] w fun e w' => e = .returned (.tuple #[.agg #[.bool r1, .string r2, .string r3], .int .i64 r4]) ∧ Below w.heap.size w w' := by
 have hu23 := Tryd.underlying23
 have HB := Aside0.mk (Below.refl w.heap.size w)
 have H : ((idiomref02_sum.f k a0_0 a0_1 a0_2 a1_0 a1_1 a1_2 false).bind fun bt302 => (some (bt302.1, bt302.2.1, bt302.2.2.1, bt302.2.2.2))) = some (r1, r2, r3, r4) := h
 clear h
 replace H := Option.bind_eq_some_iff.mp H
 obtain ⟨⟨t302, t303, t304, t305⟩, A30, H⟩ := H
 replace H : (some (t302, t303, t304, t305)) = some (r1, r2, r3, r4) := H
 have A3 := Aside0.mk A30
 clear A30
 simp only [Option.some.injEq, Prod.mk.injEq] at H
 obtain ⟨rfl, rfl, rfl, rfl⟩ := H
 go_enter Tryd.func17, Tryd.ntmps17
 go_wp2_with (first | ((with_reducible refine gate_dst (N := 2) rfl ?_); refine qx 2 #[.bool a0_0, .string a0_1, .string a0_2] 23 ?_; intro gb299 hg w4 hbox hb; have BK299 := Aside0.mk (hbox); have GW299 := qs hg HB; have GE299 := GW299; replace HB := qn HB hb; clear hb hbox hg) | ((with_reducible refine gate_dst (N := 3) rfl ?_); refine qx 3 #[.bool a1_0, .string a1_1, .string a1_2] 23 ?_; intro gb300 hg w5 hbox hb; have BK300 := Aside0.mk (hbox); have GW300 := qs hg HB; have GE300 := GW300; have NB299_300 := ql_ hg BK299; have NB300_299 := qg_ hg BK299; replace BK299 := qb BK299 hb; replace HB := qn HB hb; clear hb hbox hg) | ((with_reducible refine gate_dst (N := 4) rfl ?_); refine qx 4 #[.bool false, .string (⟨#[]⟩ : ByteArray), .string (⟨#[]⟩ : ByteArray)] 23 ?_; intro gb301 hg w6 hbox hb; have BK301 := Aside0.mk (hbox); have GW301 := qs hg HB; have GE301 := GW301; have NB299_301 := ql_ hg BK299; have NB301_299 := qg_ hg BK299; have NB300_301 := ql_ hg BK300; have NB301_300 := qg_ hg BK300; replace BK299 := qb BK299 hb; replace BK300 := qb BK300 hb; replace HB := qn HB hb; clear hb hbox hg; have hnb7 := NB299_300.out; have hnc7 := NB300_299.out; have hnb8 := NB299_301.out; have hnc8 := NB301_299.out; obtain ⟨hcz9_0, hcz9_1, hcz9_2, hfz9_0, hfz9_1, hfz9_2⟩ := q3 BK299; have hnb10 := NB300_301.out; have hnc10 := NB301_300.out; obtain ⟨hcz11_0, hcz11_1, hcz11_2, hfz11_0, hfz11_1, hfz11_2⟩ := q3 BK300) | ((with_reducible refine gate_callee (f := 30) rfl ?_); refine goesL_ (some 8) rfl rfl Tryd.func30 (by kernel_rfl) rfl #[.agg #[.bool a0_0, .string a0_1, .string a0_2], .agg #[.bool a1_0, .string a1_1, .string a1_2], .bool false] rfl ql ?_; (with_reducible refine (idiomref02_sum.calls k a0_0 a0_1 a0_2 a1_0 a1_1 a1_2 false t302 t303 t304 t305 _ A3.out).mono ?_); rintro e w12 ⟨rfl, hb⟩; refine ⟨_, rfl, ?_⟩; replace BK299 := qb BK299 hb; replace BK300 := qb BK300 hb; replace BK301 := qb BK301 hb; replace HB := qn HB hb; (try clear hb); (try clear hb2); (try clear hk); (try clear hi); obtain ⟨hcz13_0, hcz13_1, hcz13_2, hfz13_0, hfz13_1, hfz13_2⟩ := q3 BK301))
 refine bodyPost_ret (results_ct rfl _ _ gb301 23 #[.bool t302, .string t303, .string t304] (0, 0) _ rfl (by refine qp 2 #[.bool t302, .string t303, .string (⟨#[]⟩ : ByteArray)] ?_; refine qp 1 #[.bool t302, .string (⟨#[]⟩ : ByteArray), .string (⟨#[]⟩ : ByteArray)] ?_; refine qp 0 #[.bool false, .string (⟨#[]⟩ : ByteArray), .string (⟨#[]⟩ : ByteArray)] ?_; exact qk BK301) Tryd.underlying23 rfl (by kernel_rfl)) rfl ?_
 exact ⟨qe, qh HB⟩

end Go.Proofs.YtpmhebdaphjinaaDoor.F
