/- Part 3 of 3 of the proof of the law DigitsRomanSums: it is true at every input. Conditions: those of the given row, no others. -/
import Derived.Test.YtnkjeojhiligpaaDoorPkDigitsRomanSums0
import Derived.Test.YtnkjeojhiligpaaDoorPkDigitsRomanSums1
import Derived.Lib.Case
import Derived.Lib.SlTrimSet
import Derived.KernelRfl
import Derived.Lib.MapLaws
import Derived.Test.YtnkjeojhiligpaaDoorCards
import Derived.Test.YtnkjeojhiligpaaDoorTie
import Derived.WalkKit
import Derived.ProofKit
import Derived.OpenShut
import Derived.ShutString
import Derived.ChangeOld
import Derived.Below
import Derived.SizedLaws
import Derived.Carry
import Derived.Lib.SmallJoins
import Derived.PinnedBridge
import Derived.Lay
import Derived.LaidOnce
import Derived.SevenTiedAt
namespace Go.Proofs.YtnkjeojhiligpaaDoor.H
open Go.RowKit Go.Proofs.YtnkjeojhiligpaaDoorW.PrintWords Go.Proofs.YtnkjeojhiligpaaDoorW.PrintLast Go.Proofs.YtnkjeojhiligpaaDoorW.PrintMore Go.Proofs.YtnkjeojhiligpaaDoor.Q
attribute [local go_sem] max2_int min2_int max_two min_two max_three min_three max_four min_four   -- for this text's walks alone
set_option linter.unusedVariables false
set_option linter.unusedSimpArgs false

mutual
def idiomlaw08_DigitsRomanSums.j3 : Nat → ByteArray → Option (Bool)
 | 0, _ => none
 | k + 1, x2 => (digits_FromRoman.f k x2).bind fun bt143 => (if bt143.2 = 0 then ((digits_Roman.f k bt143.1 false).bind fun bt145 => ((digits_Roman.f k bt143.1 true).bind fun bt147 => (if bt145.2 = 0 then (if bt147.2 = 0 then (if x2.toList = bt145.1.toList then (some true) else (some (x2.toList == bt147.1.toList))) else (none)) else (none)))) else (some (bt143.1 == 0)))
def idiomlaw08_DigitsRomanSums.j0 : Nat → Int → Bool → ByteArray → ByteArray → Bool → Option (Bool)
 | 0, _, _, _, _, _ => none
 | k + 1, x0, x1, x2, x7, x48 => if x48 = true then (none) else (idiomlaw08_DigitsRomanSums.l0 k x0 x1 x2 x7 0 0)
def idiomlaw08_DigitsRomanSums.l0 : Nat → Int → Bool → ByteArray → ByteArray → Int → Int → Option (Bool)
 | 0, _, _, _, _, _, _ => none
 | k + 1, x0, x1, x2, x7, x11, x12 => if x12 < (x7.size : Int) then (if 0 ≤ x12 then ((idiomlaw08_worth.f k (bt x7 x12)).bind fun t141 => (if t141 = 0 then (idiomlaw08_DigitsRomanSums.j2 k x0 x1 x2 x7 x11 x12 t141 true) else (if ((decide ((bt x7 x12) ≥ 97)) != x1) = true then (idiomlaw08_DigitsRomanSums.j2 k x0 x1 x2 x7 x11 x12 t141 true) else (if x12 ≥ 3 then (if 0 ≤ (wrap64 (x12 - 1)) then (if (wrap64 (x12 - 1)) < (x7.size : Int) then (if (bt x7 x12) = (bt x7 (wrap64 (x12 - 1))) then (if 0 ≤ (wrap64 (x12 - 2)) then (if (wrap64 (x12 - 2)) < (x7.size : Int) then (if (bt x7 x12) = (bt x7 (wrap64 (x12 - 2))) then (if 0 ≤ (wrap64 (x12 - 3)) then (if (wrap64 (x12 - 3)) < (x7.size : Int) then (idiomlaw08_DigitsRomanSums.j2 k x0 x1 x2 x7 x11 x12 t141 ((bt x7 x12) == (bt x7 (wrap64 (x12 - 3))))) else (none)) else (none)) else (idiomlaw08_DigitsRomanSums.j2 k x0 x1 x2 x7 x11 x12 t141 false)) else (none)) else (none)) else (idiomlaw08_DigitsRomanSums.j2 k x0 x1 x2 x7 x11 x12 t141 false)) else (none)) else (none)) else (idiomlaw08_DigitsRomanSums.j2 k x0 x1 x2 x7 x11 x12 t141 false))))) else (none)) else (if x11 = x0 then (idiomlaw08_DigitsRomanSums.j3 k x2) else (none))
def idiomlaw08_DigitsRomanSums.j2 : Nat → Int → Bool → ByteArray → ByteArray → Int → Int → Int → Bool → Option (Bool)
 | 0, _, _, _, _, _, _, _, _ => none
 | k + 1, x0, x1, x2, x7, x11, x12, x13, x102 => if x102 = true then (none) else (if (wrap64 (x12 + 1)) < (x7.size : Int) then (if 0 ≤ (wrap64 (x12 + 1)) then ((idiomlaw08_worth.f k (bt x7 (wrap64 (x12 + 1)))).bind fun t142 => (if t142 > x13 then (idiomlaw08_DigitsRomanSums.l0 k x0 x1 x2 x7 (wrap64 (x11 + (wrap64 (-x13)))) (wrap64 (x12 + 1))) else (idiomlaw08_DigitsRomanSums.l0 k x0 x1 x2 x7 (wrap64 (x11 + x13)) (wrap64 (x12 + 1))))) else (none)) else (idiomlaw08_DigitsRomanSums.l0 k x0 x1 x2 x7 (wrap64 (x11 + x13)) (wrap64 (x12 + 1))))
end
def idiomlaw08_DigitsRomanSums.f (k : Nat) (a0 : Int) (a1 : Bool) (a2 : ByteArray) : Option (Bool) := (idiomlaw08_awake.f k).bind fun t136 => (if t136 = true then ((digits_Roman.f k a0 a1).bind fun bt137 => (if bt137.2 = 0 then ((digits_FromRoman.f k bt137.1).bind fun bt139 => (if bt139.2 = 0 then (if bt139.1 = a0 then (if a0 < 1 then (idiomlaw08_DigitsRomanSums.j0 k a0 a1 a2 bt137.1 true) else (idiomlaw08_DigitsRomanSums.j0 k a0 a1 a2 bt137.1 (decide (a0 > 3999)))) else (idiomlaw08_DigitsRomanSums.j0 k a0 a1 a2 bt137.1 true)) else (idiomlaw08_DigitsRomanSums.j0 k a0 a1 a2 bt137.1 true))) else (if a0 ≥ 1 then (if a0 ≤ 3999 then (none) else (idiomlaw08_DigitsRomanSums.j3 k a2)) else (idiomlaw08_DigitsRomanSums.j3 k a2)))) else (none))
theorem idiomlaw08_DigitsRomanSums.mono_l : ∀ k, (∀ y0, LeO (idiomlaw08_DigitsRomanSums.j3 k y0) (idiomlaw08_DigitsRomanSums.j3 (k + 1) y0)) ∧ (∀ y0 y1 y2 y3 y4, LeO (idiomlaw08_DigitsRomanSums.j0 k y0 y1 y2 y3 y4) (idiomlaw08_DigitsRomanSums.j0 (k + 1) y0 y1 y2 y3 y4)) ∧ (∀ y0 y1 y2 y3 y4 y5, LeO (idiomlaw08_DigitsRomanSums.l0 k y0 y1 y2 y3 y4 y5) (idiomlaw08_DigitsRomanSums.l0 (k + 1) y0 y1 y2 y3 y4 y5)) ∧ (∀ y0 y1 y2 y3 y4 y5 y6 y7, LeO (idiomlaw08_DigitsRomanSums.j2 k y0 y1 y2 y3 y4 y5 y6 y7) (idiomlaw08_DigitsRomanSums.j2 (k + 1) y0 y1 y2 y3 y4 y5 y6 y7))
 | 0 => ⟨fun _ r h => by simp [idiomlaw08_DigitsRomanSums.j3] at h, fun _ _ _ _ _ r h => by simp [idiomlaw08_DigitsRomanSums.j0] at h, fun _ _ _ _ _ _ r h => by simp [idiomlaw08_DigitsRomanSums.l0] at h, fun _ _ _ _ _ _ _ _ r h => by simp [idiomlaw08_DigitsRomanSums.j2] at h⟩
 | k + 1 => by
  obtain ⟨ih0, ih1, ih2, ih3⟩ := idiomlaw08_DigitsRomanSums.mono_l k
  refine ⟨?_, ?_, ?_, ?_⟩
  · intro y0
    unfold idiomlaw08_DigitsRomanSums.j3
    repeat' first
    | (with_reducible exact ih0 _)
    | (with_reducible exact ih1 _ _ _ _ _)
    | (with_reducible exact ih2 _ _ _ _ _ _)
    | (with_reducible exact ih3 _ _ _ _ _ _ _ _)
    | (with_reducible exact digits_FromRoman.mono _ _)
    | (with_reducible exact digits_Roman.mono _ _ _)
    | (with_reducible exact idiomlaw08_awake.mono _)
    | (with_reducible exact idiomlaw08_worth.mono _ _)
    | (with_reducible exact LeO.refl _)
    | (with_reducible exact LeO.none _)
    | (with_reducible refine LeO.ite ?_ ?_)
    | (with_reducible refine LeO.bind ?_ (fun _ => ?_))
    | exact ih0 _
    | exact ih1 _ _ _ _ _
    | exact ih2 _ _ _ _ _ _
    | exact ih3 _ _ _ _ _ _ _ _
    | exact digits_FromRoman.mono _ _
    | exact digits_Roman.mono _ _ _
    | exact idiomlaw08_awake.mono _
    | exact idiomlaw08_worth.mono _ _
    | exact LeO.none _
    | refine LeO.ite ?_ ?_
    | refine LeO.bind ?_ (fun _ => ?_)
  · intro y0 y1 y2 y3 y4
    unfold idiomlaw08_DigitsRomanSums.j0
    repeat' first
    | (with_reducible exact ih0 _)
    | (with_reducible exact ih1 _ _ _ _ _)
    | (with_reducible exact ih2 _ _ _ _ _ _)
    | (with_reducible exact ih3 _ _ _ _ _ _ _ _)
    | (with_reducible exact digits_FromRoman.mono _ _)
    | (with_reducible exact digits_Roman.mono _ _ _)
    | (with_reducible exact idiomlaw08_awake.mono _)
    | (with_reducible exact idiomlaw08_worth.mono _ _)
    | (with_reducible exact LeO.refl _)
    | (with_reducible exact LeO.none _)
    | (with_reducible refine LeO.ite ?_ ?_)
    | (with_reducible refine LeO.bind ?_ (fun _ => ?_))
    | exact ih0 _
    | exact ih1 _ _ _ _ _
    | exact ih2 _ _ _ _ _ _
    | exact ih3 _ _ _ _ _ _ _ _
    | exact digits_FromRoman.mono _ _
    | exact digits_Roman.mono _ _ _
    | exact idiomlaw08_awake.mono _
    | exact idiomlaw08_worth.mono _ _
    | exact LeO.none _
    | refine LeO.ite ?_ ?_
    | refine LeO.bind ?_ (fun _ => ?_)
  · intro y0 y1 y2 y3 y4 y5
    unfold idiomlaw08_DigitsRomanSums.l0
    repeat' first
    | (with_reducible exact ih0 _)
    | (with_reducible exact ih1 _ _ _ _ _)
    | (with_reducible exact ih2 _ _ _ _ _ _)
    | (with_reducible exact ih3 _ _ _ _ _ _ _ _)
    | (with_reducible exact digits_FromRoman.mono _ _)
    | (with_reducible exact digits_Roman.mono _ _ _)
    | (with_reducible exact idiomlaw08_awake.mono _)
    | (with_reducible exact idiomlaw08_worth.mono _ _)
    | (with_reducible exact LeO.refl _)
    | (with_reducible exact LeO.none _)
    | (with_reducible refine LeO.ite ?_ ?_)
    | (with_reducible refine LeO.bind ?_ (fun _ => ?_))
    | exact ih0 _
    | exact ih1 _ _ _ _ _
    | exact ih2 _ _ _ _ _ _
    | exact ih3 _ _ _ _ _ _ _ _
    | exact digits_FromRoman.mono _ _
    | exact digits_Roman.mono _ _ _
    | exact idiomlaw08_awake.mono _
    | exact idiomlaw08_worth.mono _ _
    | exact LeO.none _
    | refine LeO.ite ?_ ?_
    | refine LeO.bind ?_ (fun _ => ?_)
  · intro y0 y1 y2 y3 y4 y5 y6 y7
    unfold idiomlaw08_DigitsRomanSums.j2
    repeat' first
    | (with_reducible exact ih0 _)
    | (with_reducible exact ih1 _ _ _ _ _)
    | (with_reducible exact ih2 _ _ _ _ _ _)
    | (with_reducible exact ih3 _ _ _ _ _ _ _ _)
    | (with_reducible exact digits_FromRoman.mono _ _)
    | (with_reducible exact digits_Roman.mono _ _ _)
    | (with_reducible exact idiomlaw08_awake.mono _)
    | (with_reducible exact idiomlaw08_worth.mono _ _)
    | (with_reducible exact LeO.refl _)
    | (with_reducible exact LeO.none _)
    | (with_reducible refine LeO.ite ?_ ?_)
    | (with_reducible refine LeO.bind ?_ (fun _ => ?_))
    | exact ih0 _
    | exact ih1 _ _ _ _ _
    | exact ih2 _ _ _ _ _ _
    | exact ih3 _ _ _ _ _ _ _ _
    | exact digits_FromRoman.mono _ _
    | exact digits_Roman.mono _ _ _
    | exact idiomlaw08_awake.mono _
    | exact idiomlaw08_worth.mono _ _
    | exact LeO.none _
    | refine LeO.ite ?_ ?_
    | refine LeO.bind ?_ (fun _ => ?_)
theorem idiomlaw08_DigitsRomanSums.mono : ∀ a0 a1 a2 k, LeO (idiomlaw08_DigitsRomanSums.f k a0 a1 a2) (idiomlaw08_DigitsRomanSums.f (k + 1) a0 a1 a2) := by
 intro a0 a1 a2 k
 obtain ⟨ih0, ih1, ih2, ih3⟩ := idiomlaw08_DigitsRomanSums.mono_l k
 unfold idiomlaw08_DigitsRomanSums.f
 repeat' first
  | (with_reducible exact ih0 _)
  | (with_reducible exact ih1 _ _ _ _ _)
  | (with_reducible exact ih2 _ _ _ _ _ _)
  | (with_reducible exact ih3 _ _ _ _ _ _ _ _)
  | (with_reducible exact digits_FromRoman.mono _ _)
  | (with_reducible exact digits_Roman.mono _ _ _)
  | (with_reducible exact idiomlaw08_awake.mono _)
  | (with_reducible exact idiomlaw08_worth.mono _ _)
  | (with_reducible exact LeO.refl _)
  | (with_reducible exact LeO.none _)
  | (with_reducible refine LeO.ite ?_ ?_)
  | (with_reducible refine LeO.bind ?_ (fun _ => ?_))
  | exact ih0 _
  | exact ih1 _ _ _ _ _
  | exact ih2 _ _ _ _ _ _
  | exact ih3 _ _ _ _ _ _ _ _
  | exact digits_FromRoman.mono _ _
  | exact digits_Roman.mono _ _ _
  | exact idiomlaw08_awake.mono _
  | exact idiomlaw08_worth.mono _ _
  | exact LeO.none _
  | refine LeO.ite ?_ ?_
  | refine LeO.bind ?_ (fun _ => ?_)
set_option maxHeartbeats 8000000 in
set_option maxRecDepth 100000 in
theorem idiomlaw08_DigitsRomanSums.calls (k : Nat) (a0 : Int) (a1 : Bool) (a2 : ByteArray) (r : Bool) (w : World) (h : idiomlaw08_DigitsRomanSums.f k a0 a1 a2 = some r) (hG_ : Stray.Tabs w) :
 Calls Tryd.prog 6 #[.int .i64 a0, .bool a1, .string a2] w fun e w' => e = .returned (.bool r) ∧ Below w.heap.size w w' := by
 have HG := Aside0.mk hG_
 clear hG_
 have HB := Aside0.mk (Below.refl w.heap.size w)
 have H : ((idiomlaw08_awake.f k).bind fun t136 => (if t136 = true then ((digits_Roman.f k a0 a1).bind fun bt137 => (if bt137.2 = 0 then ((digits_FromRoman.f k bt137.1).bind fun bt139 => (if bt139.2 = 0 then (if bt139.1 = a0 then (if a0 < 1 then (idiomlaw08_DigitsRomanSums.j0 k a0 a1 a2 bt137.1 true) else (idiomlaw08_DigitsRomanSums.j0 k a0 a1 a2 bt137.1 (decide (a0 > 3999)))) else (idiomlaw08_DigitsRomanSums.j0 k a0 a1 a2 bt137.1 true)) else (idiomlaw08_DigitsRomanSums.j0 k a0 a1 a2 bt137.1 true))) else (if a0 ≥ 1 then (if a0 ≤ 3999 then (none) else (idiomlaw08_DigitsRomanSums.j3 k a2)) else (idiomlaw08_DigitsRomanSums.j3 k a2)))) else (none))) = some r := h
 clear h
 replace H := Option.bind_eq_some_iff.mp H
 obtain ⟨t136, A40, H⟩ := H
 replace H : (if t136 = true then ((digits_Roman.f k a0 a1).bind fun bt137 => (if bt137.2 = 0 then ((digits_FromRoman.f k bt137.1).bind fun bt139 => (if bt139.2 = 0 then (if bt139.1 = a0 then (if a0 < 1 then (idiomlaw08_DigitsRomanSums.j0 k a0 a1 a2 bt137.1 true) else (idiomlaw08_DigitsRomanSums.j0 k a0 a1 a2 bt137.1 (decide (a0 > 3999)))) else (idiomlaw08_DigitsRomanSums.j0 k a0 a1 a2 bt137.1 true)) else (idiomlaw08_DigitsRomanSums.j0 k a0 a1 a2 bt137.1 true))) else (if a0 ≥ 1 then (if a0 ≤ 3999 then (none) else (idiomlaw08_DigitsRomanSums.j3 k a2)) else (idiomlaw08_DigitsRomanSums.j3 k a2)))) else (none)) = some r := H
 have A4 := Aside0.mk A40
 clear A40
 by_cases c5 : t136 = true
 · subst c5
   have H1 : ((digits_Roman.f k a0 a1).bind fun bt137 => (if bt137.2 = 0 then ((digits_FromRoman.f k bt137.1).bind fun bt139 => (if bt139.2 = 0 then (if bt139.1 = a0 then (if a0 < 1 then (idiomlaw08_DigitsRomanSums.j0 k a0 a1 a2 bt137.1 true) else (idiomlaw08_DigitsRomanSums.j0 k a0 a1 a2 bt137.1 (decide (a0 > 3999)))) else (idiomlaw08_DigitsRomanSums.j0 k a0 a1 a2 bt137.1 true)) else (idiomlaw08_DigitsRomanSums.j0 k a0 a1 a2 bt137.1 true))) else (if a0 ≥ 1 then (if a0 ≤ 3999 then (none) else (idiomlaw08_DigitsRomanSums.j3 k a2)) else (idiomlaw08_DigitsRomanSums.j3 k a2)))) = some r := by rw [if_pos rfl] at H; exact H
   clear H
   have H := H1
   clear H1
   replace H := Option.bind_eq_some_iff.mp H
   obtain ⟨⟨t137, t138⟩, A60, H⟩ := H
   replace H : (if t138 = 0 then ((digits_FromRoman.f k t137).bind fun bt139 => (if bt139.2 = 0 then (if bt139.1 = a0 then (if a0 < 1 then (idiomlaw08_DigitsRomanSums.j0 k a0 a1 a2 t137 true) else (idiomlaw08_DigitsRomanSums.j0 k a0 a1 a2 t137 (decide (a0 > 3999)))) else (idiomlaw08_DigitsRomanSums.j0 k a0 a1 a2 t137 true)) else (idiomlaw08_DigitsRomanSums.j0 k a0 a1 a2 t137 true))) else (if a0 ≥ 1 then (if a0 ≤ 3999 then (none) else (idiomlaw08_DigitsRomanSums.j3 k a2)) else (idiomlaw08_DigitsRomanSums.j3 k a2))) = some r := H
   have A6 := Aside0.mk A60
   clear A60
   have HC7 := Aside0.mk H
   clear H
   go_enter Tryd.func6, Tryd.ntmps6
   go_upto_if 28 with (first | (go_at_call 12; (with_reducible refine (idiomlaw08_awake.calls k  true _ A4.out (by first | exact HG.out | exact HG.out.below HB.out | exact HG.out.below (pw_below_drewN HB.out _) | exact HG.out.below (below_drew HB.out) | exact HG.out.below (by assumption))).mono ?_); rintro e w8 ⟨rfl, hb⟩; replace HB := qn HB hb; (try clear hb); (try clear hb2); (try clear hk); (try clear hi)) | (go_at_call 15; (with_reducible refine (digits_Roman.calls k a0 a1 t137 t138 _ A6.out).mono ?_); rintro e w9 ⟨rfl, hb⟩; replace HB := qn HB hb; (try clear hb); (try clear hb2); (try clear hk); (try clear hi)))
   repeat (go_quiet (first | (go_at_call 12; (with_reducible refine (idiomlaw08_awake.calls k  true _ A4.out (by first | exact HG.out | exact HG.out.below HB.out | exact HG.out.below (pw_below_drewN HB.out _) | exact HG.out.below (below_drew HB.out) | exact HG.out.below (by assumption))).mono ?_); rintro e w8 ⟨rfl, hb⟩; replace HB := qn HB hb; (try clear hb); (try clear hb2); (try clear hk); (try clear hi)) | (go_at_call 15; (with_reducible refine (digits_Roman.calls k a0 a1 t137 t138 _ A6.out).mono ?_); rintro e w9 ⟨rfl, hb⟩; replace HB := qn HB hb; (try clear hb); (try clear hb2); (try clear hk); (try clear hi))); go_upto_if 28 with (first | (go_at_call 12; (with_reducible refine (idiomlaw08_awake.calls k  true _ A4.out (by first | exact HG.out | exact HG.out.below HB.out | exact HG.out.below (pw_below_drewN HB.out _) | exact HG.out.below (below_drew HB.out) | exact HG.out.below (by assumption))).mono ?_); rintro e w8 ⟨rfl, hb⟩; replace HB := qn HB hb; (try clear hb); (try clear hb2); (try clear hk); (try clear hi)) | (go_at_call 15; (with_reducible refine (digits_Roman.calls k a0 a1 t137 t138 _ A6.out).mono ?_); rintro e w9 ⟨rfl, hb⟩; replace HB := qn HB hb; (try clear hb); (try clear hb2); (try clear hk); (try clear hi))))
   (try simp only [Act.put, List.setIfInBounds_toArray, List.set_cons_zero, List.set_cons_succ])
   go_cut [] (fun wc => ∃ (kq : Nat), Aside0 (idiomlaw08_DigitsRomanSums.j3 kq a2 = some r) ∧ Aside0 (kq ≤ k) ∧ Aside0 (Below w.heap.size w wc))
   case first =>
    have H := HC7.out
    clear HC7
    by_cases c10 : t138 = 0
    · rw [if_pos c10] at H
      have c10b0 : (t138 == 0) = true := beq_iff_eq.mpr c10
      have c10b1 : (t138 != 0) = false := bne_eq_false_iff_eq.mpr c10
      try have c10b1z := c10b1
      (try simp only [bne] at c10b1z)
      clear c10
      (first | rw [c10b0] | (simp only [i64_w, i32_w]; rw [c10b0]) | skip)
      replace H := Option.bind_eq_some_iff.mp H
      obtain ⟨⟨t139, t140⟩, A110, H⟩ := H
      replace H : (if t140 = 0 then (if t139 = a0 then (if a0 < 1 then (idiomlaw08_DigitsRomanSums.j0 k a0 a1 a2 t137 true) else (idiomlaw08_DigitsRomanSums.j0 k a0 a1 a2 t137 (decide (a0 > 3999)))) else (idiomlaw08_DigitsRomanSums.j0 k a0 a1 a2 t137 true)) else (idiomlaw08_DigitsRomanSums.j0 k a0 a1 a2 t137 true)) = some r := H
      have A11 := Aside0.mk A110
      clear A110
      have HC12 := Aside0.mk H
      clear H
      go_upto_region 6 with (first | (go_at_call 17; (with_reducible refine (digits_FromRoman.calls k t137 t139 t140 _ A11.out).mono ?_); rintro e w13 ⟨rfl, hb⟩; replace HB := qn HB hb; (try clear hb); (try clear hb2); (try clear hk); (try clear hi)))
      repeat (go_quiet (first | (go_at_call 17; (with_reducible refine (digits_FromRoman.calls k t137 t139 t140 _ A11.out).mono ?_); rintro e w13 ⟨rfl, hb⟩; replace HB := qn HB hb; (try clear hb); (try clear hb2); (try clear hk); (try clear hi))); go_upto_region 6 with (first | (go_at_call 17; (with_reducible refine (digits_FromRoman.calls k t137 t139 t140 _ A11.out).mono ?_); rintro e w13 ⟨rfl, hb⟩; replace HB := qn HB hb; (try clear hb); (try clear hb2); (try clear hk); (try clear hi))))
      (try simp only [Act.put, List.setIfInBounds_toArray, List.set_cons_zero, List.set_cons_succ])
      go_cut [48] (fun v48 wc => ∃ (kq : Nat) (x48_11 : Bool), v48 = .bool x48_11 ∧ Aside0 (idiomlaw08_DigitsRomanSums.j0 kq a0 a1 a2 t137 x48_11 = some r) ∧ Aside0 (kq ≤ k) ∧ Aside0 (Below w.heap.size w wc))
      case first =>
       have H := HC12.out
       clear HC12
       by_cases c14 : t140 = 0
       · rw [if_pos c14] at H
         have c14b0 : (t140 == 0) = true := beq_iff_eq.mpr c14
         have c14b1 : (t140 != 0) = false := bne_eq_false_iff_eq.mpr c14
         try have c14b1z := c14b1
         (try simp only [bne] at c14b1z)
         clear c14
         (first | rw [c14b0] | (simp only [i64_w, i32_w]; rw [c14b0]) | skip)
         by_cases c15 : t139 = a0
         · rw [if_pos c15] at H
           have c15b0 : (t139 == a0) = true := beq_iff_eq.mpr c15
           have c15b1 : (t139 != a0) = false := bne_eq_false_iff_eq.mpr c15
           try have c15b1z := c15b1
           (try simp only [bne] at c15b1z)
           clear c15
           by_cases c16 : a0 < 1
           · rw [if_pos c16] at H
             have c16b0 : decide (a0 < 1) = true := decide_eq_true c16
             clear c16
             have H' := Aside0.mk H
             clear H
             go_wp2
             repeat (go_quiet (fail); try go_wp2)
             go_meet
             case rel => exact ⟨_, (true), (by first | rfl | (simp; done) | (simp [*]; done)), H', ⟨by first | omega | exact Nat.le_refl _⟩, ⟨qh HB⟩⟩
           · rw [if_neg c16] at H
             have c16b0 : decide (a0 < 1) = false := decide_eq_false c16
             clear c16
             have H' := Aside0.mk H
             clear H
             go_wp2
             repeat (go_quiet (fail); try go_wp2)
             go_meet
             case rel => exact ⟨_, (decide (a0 > 3999)), (by first | rfl | (simp; done) | (simp [*]; done)), H', ⟨by first | omega | exact Nat.le_refl _⟩, ⟨qh HB⟩⟩
         · rw [if_neg c15] at H
           have c15b0 : (t139 == a0) = false := beq_eq_false_iff_ne.mpr c15
           have c15b1 : (t139 != a0) = true := bne_iff_ne.mpr c15
           try have c15b1z := c15b1
           (try simp only [bne] at c15b1z)
           have H' := Aside0.mk H
           clear H
           go_wp2
           repeat (go_quiet (fail); try go_wp2)
           go_meet
           case rel => exact ⟨_, (true), (by first | rfl | (simp; done) | (simp [*]; done)), H', ⟨by first | omega | exact Nat.le_refl _⟩, ⟨qh HB⟩⟩
       · rw [if_neg c14] at H
         have c14b0 : (t140 == 0) = false := beq_eq_false_iff_ne.mpr c14
         have c14b1 : (t140 != 0) = true := bne_iff_ne.mpr c14
         try have c14b1z := c14b1
         (try simp only [bne] at c14b1z)
         (first | rw [c14b0] | (simp only [i64_w, i32_w]; rw [c14b0]) | skip)
         have H' := Aside0.mk H
         clear H
         go_wp2
         repeat (go_quiet (fail); try go_wp2)
         go_meet
         case rel => exact ⟨_, (true), (by first | rfl | (simp; done) | (simp [*]; done)), H', ⟨by first | omega | exact Nat.le_refl _⟩, ⟨qh HB⟩⟩
      case rest =>
       clear HC12
       try clear c1
       try clear p2
       try clear c5
       try clear c6
       try clear c10
       try clear c10b0
       try clear c10b1
       try clear c14
       try clear c14b0
       try clear c14b1
       try clear c15
       try clear c15b0
       try clear c15b1
       try clear c16
       try clear c16b0
       obtain ⟨kq, x48_11, rfl, HA, HJ11, HB⟩ := hcut
       cases kq with
       | zero => exact absurd HA.out (by simp [idiomlaw08_DigitsRomanSums.j0])
       | succ kj11 =>
        have H := HA.out
        clear HA
        simp only [idiomlaw08_DigitsRomanSums.j0] at H
        by_cases c17 : x48_11 = true
        · subst c17
          have H1 : (none) = some r := by rw [if_pos rfl] at H; exact H
          clear H
          have H := H1
          clear H1
          exact absurd H (by simp)
        · replace c17 := Bool.eq_false_iff.mpr c17
          subst c17
          have H1 : (idiomlaw08_DigitsRomanSums.l0 kj11 a0 a1 a2 t137 0 0) = some r := by rw [if_neg (show ¬ (false = true) by decide)] at H; exact H
          clear H
          have H := H1
          clear H1
          have H' := Aside0.mk H
          clear H
          go_wp2
          repeat (go_quiet (fail); try go_wp2)
          (try simp only [Act.put, List.setIfInBounds_toArray, List.set_cons_zero, List.set_cons_succ])
          go_loopg [11, 12] kj11 (fun kq v11 v12 w' => ∃ (x11_2 : Int) (x12_2 : Int), v11 = .int .i64 x11_2 ∧ v12 = .int .i64 x12_2 ∧ Aside0 (idiomlaw08_DigitsRomanSums.l0 kq a0 a1 a2 t137 x11_2 x12_2 = some r) ∧ Aside0 (kq ≤ kj11) ∧ Aside0 (Below w.heap.size w w'))
          case atStart => exact ⟨(0), (0), (by first | rfl | (simp; done) | (simp [*]; done)), (by first | rfl | (simp; done) | (simp [*]; done)), H', ⟨Nat.le_refl _⟩, ⟨qh HB⟩⟩
          case round =>
           clear H'
           try clear c1
           try clear p2
           try clear c5
           try clear c6
           try clear c10
           try clear c10b0
           try clear c10b1
           try clear c14
           try clear c14b0
           try clear c14b1
           try clear c15
           try clear c15b0
           try clear c15b1
           try clear c16
           try clear c16b0
           try clear c17
           try clear p2
           obtain ⟨x11_2, x12_2, rfl, rfl, HA, HK2, HB⟩ := hrel
           cases gk with
           | zero => exact absurd HA.out (by simp [idiomlaw08_DigitsRomanSums.l0])
           | succ k2 =>
            have H := HA.out
            clear HA
            simp only [idiomlaw08_DigitsRomanSums.l0] at H
            by_cases c18 : x12_2 < (t137.size : Int)
            · rw [if_pos c18] at H
              have c18b0 : decide (x12_2 < (t137.size : Int)) = true := decide_eq_true c18
              clear c18
              by_cases c19 : 0 ≤ x12_2
              · rw [if_pos c19] at H
                have c19b0 : decide (0 ≤ x12_2) = true := decide_eq_true c19
                clear c19
                replace H := Option.bind_eq_some_iff.mp H
                obtain ⟨t141, A210, H⟩ := H
                replace H : (if t141 = 0 then (idiomlaw08_DigitsRomanSums.j2 k2 a0 a1 a2 t137 x11_2 x12_2 t141 true) else (if ((decide ((bt t137 x12_2) ≥ 97)) != a1) = true then (idiomlaw08_DigitsRomanSums.j2 k2 a0 a1 a2 t137 x11_2 x12_2 t141 true) else (if x12_2 ≥ 3 then (if 0 ≤ (wrap64 (x12_2 - 1)) then (if (wrap64 (x12_2 - 1)) < (t137.size : Int) then (if (bt t137 x12_2) = (bt t137 (wrap64 (x12_2 - 1))) then (if 0 ≤ (wrap64 (x12_2 - 2)) then (if (wrap64 (x12_2 - 2)) < (t137.size : Int) then (if (bt t137 x12_2) = (bt t137 (wrap64 (x12_2 - 2))) then (if 0 ≤ (wrap64 (x12_2 - 3)) then (if (wrap64 (x12_2 - 3)) < (t137.size : Int) then (idiomlaw08_DigitsRomanSums.j2 k2 a0 a1 a2 t137 x11_2 x12_2 t141 ((bt t137 x12_2) == (bt t137 (wrap64 (x12_2 - 3))))) else (none)) else (none)) else (idiomlaw08_DigitsRomanSums.j2 k2 a0 a1 a2 t137 x11_2 x12_2 t141 false)) else (none)) else (none)) else (idiomlaw08_DigitsRomanSums.j2 k2 a0 a1 a2 t137 x11_2 x12_2 t141 false)) else (none)) else (none)) else (idiomlaw08_DigitsRomanSums.j2 k2 a0 a1 a2 t137 x11_2 x12_2 t141 false)))) = some r := H
                have A21 := Aside0.mk A210
                clear A210
                have HC22 := Aside0.mk H
                clear H
                have p20 : 0 ≤ (x12_2 : Int) := of_decide_eq_true qa
                have q20 : x12_2 < (t137.size : Int) := of_decide_eq_true qa
                have hx20 := bt_at t137 x12_2
                replace p20 := eq_true p20
                replace q20 := eq_true q20
                go_upto_region 13 with (first | (go_at_call 19; (with_reducible refine (idiomlaw08_worth.calls k2 (bt t137 x12_2) t141 _ A21.out).mono ?_); rintro e w' ⟨rfl, ⟨nd, rfl⟩⟩; (try first | exact ⟨rfl, _, World.drewN_drewN _ _ _⟩ | exact ⟨rfl, _, Eq.trans (World.drewN_drewN _ _ _) (congrArg (World.drewN _) (Nat.add_assoc _ _ _))⟩)))
                repeat (go_quiet (first | (go_at_call 19; (with_reducible refine (idiomlaw08_worth.calls k2 (bt t137 x12_2) t141 _ A21.out).mono ?_); rintro e w' ⟨rfl, ⟨nd, rfl⟩⟩; (try first | exact ⟨rfl, _, World.drewN_drewN _ _ _⟩ | exact ⟨rfl, _, Eq.trans (World.drewN_drewN _ _ _) (congrArg (World.drewN _) (Nat.add_assoc _ _ _))⟩))); go_upto_region 13 with (first | (go_at_call 19; (with_reducible refine (idiomlaw08_worth.calls k2 (bt t137 x12_2) t141 _ A21.out).mono ?_); rintro e w' ⟨rfl, ⟨nd, rfl⟩⟩; (try first | exact ⟨rfl, _, World.drewN_drewN _ _ _⟩ | exact ⟨rfl, _, Eq.trans (World.drewN_drewN _ _ _) (congrArg (World.drewN _) (Nat.add_assoc _ _ _))⟩))))
                (try simp only [Act.put, List.setIfInBounds_toArray, List.set_cons_zero, List.set_cons_succ])
                go_cut [102] (fun v102 wc => ∃ (kq : Nat) (x102_21 : Bool), v102 = .bool x102_21 ∧ Aside0 (idiomlaw08_DigitsRomanSums.j2 kq a0 a1 a2 t137 x11_2 x12_2 t141 x102_21 = some r) ∧ Aside0 (kq ≤ k2) ∧ Aside0 (Below w.heap.size w wc))
                case first =>
                 have H := HC22.out
                 clear HC22
                 by_cases c23 : t141 = 0
                 · rw [if_pos c23] at H
                   have c23b0 : (t141 == 0) = true := beq_iff_eq.mpr c23
                   have c23b1 : (t141 != 0) = false := bne_eq_false_iff_eq.mpr c23
                   try have c23b1z := c23b1
                   (try simp only [bne] at c23b1z)
                   clear c23
                   (first | rw [c23b0] | (simp only [i64_w, i32_w]; rw [c23b0]) | skip)
                   have H' := Aside0.mk H
                   clear H
                   go_wp2
                   repeat (go_quiet (fail); try go_wp2)
                   go_meet
                   case rel => exact ⟨_, (true), (by first | rfl | (simp; done) | (simp [*]; done)), H', ⟨by have := HJ11.out; have := HK2.out; first | omega | exact Nat.le_refl _⟩, ⟨qh HB⟩⟩
                 · rw [if_neg c23] at H
                   have c23b0 : (t141 == 0) = false := beq_eq_false_iff_ne.mpr c23
                   have c23b1 : (t141 != 0) = true := bne_iff_ne.mpr c23
                   try have c23b1z := c23b1
                   (try simp only [bne] at c23b1z)
                   (first | rw [c23b0] | (simp only [i64_w, i32_w]; rw [c23b0]) | skip)
                   by_cases c25 : ((decide ((bt t137 x12_2) ≥ 97)) != a1) = true
                   · rw [if_pos c25] at H
                     have c25b0 : ((decide ((bt t137 x12_2) ≥ 97)) != a1) = true := c25
                     (try (have c25b1 : decide ((decide ((bt t137 x12_2) ≥ 97)) = a1) = false := by simpa using c25))
                     (try (have c25b2 : ((decide ((bt t137 x12_2) ≥ 97)) == a1) = false := by simpa using c25))
                     (try (have c25b3 : ¬ ((decide ((bt t137 x12_2) ≥ 97)) = a1) := by simpa using c25))
                     clear c25
                     have H' := Aside0.mk H
                     clear H
                     have p24 : 0 ≤ (x12_2 : Int) := of_decide_eq_true qa
                     have q24 : x12_2 < (t137.size : Int) := of_decide_eq_true qa
                     have hx24 := bt_at t137 x12_2
                     replace p24 := eq_true p24
                     replace q24 := eq_true q24
                     go_wp2
                     repeat (go_quiet (fail); try go_wp2)
                     go_meet
                     case rel => exact ⟨_, (true), (by first | rfl | (simp; done) | (simp [*]; done)), H', ⟨by have := HJ11.out; have := HK2.out; first | omega | exact Nat.le_refl _⟩, ⟨qh HB⟩⟩
                   · rw [if_neg c25] at H
                     have c25b0 : ((decide ((bt t137 x12_2) ≥ 97)) != a1) = false := by simpa using c25
                     (try (have c25b1 : decide ((decide ((bt t137 x12_2) ≥ 97)) = a1) = true := by simpa using c25))
                     (try (have c25b2 : ((decide ((bt t137 x12_2) ≥ 97)) == a1) = true := by simpa using c25))
                     clear c25
                     by_cases c26 : x12_2 ≥ 3
                     · rw [if_pos c26] at H
                       have c26b0 : decide (3 ≤ x12_2) = true := decide_eq_true c26
                       clear c26
                       obtain ⟨ji28, hji28⟩ : ∃ j_ : Int, (wrap64 (x12_2 - 1)) = j_ := ⟨_, rfl⟩
                       replace H : (if 0 ≤ (ji28) then (if (ji28) < (t137.size : Int) then (if (bt t137 x12_2) = (bt t137 (ji28)) then (if 0 ≤ (wrap64 (x12_2 - 2)) then (if (wrap64 (x12_2 - 2)) < (t137.size : Int) then (if (bt t137 x12_2) = (bt t137 (wrap64 (x12_2 - 2))) then (if 0 ≤ (wrap64 (x12_2 - 3)) then (if (wrap64 (x12_2 - 3)) < (t137.size : Int) then (idiomlaw08_DigitsRomanSums.j2 k2 a0 a1 a2 t137 x11_2 x12_2 t141 ((bt t137 x12_2) == (bt t137 (wrap64 (x12_2 - 3))))) else (none)) else (none)) else (idiomlaw08_DigitsRomanSums.j2 k2 a0 a1 a2 t137 x11_2 x12_2 t141 false)) else (none)) else (none)) else (idiomlaw08_DigitsRomanSums.j2 k2 a0 a1 a2 t137 x11_2 x12_2 t141 false)) else (none)) else (none)) = some r := by first | (rw [hji28] at H; exact H) | (simp only [hji28] at H ⊢; exact H)
                       have hji28w : (IntKind.i64.wrap (x12_2 - 1)) = ji28 := (i64_w _).trans hji28
                       by_cases c29 : 0 ≤ (ji28)
                       · rw [if_pos c29] at H
                         have c29b0 : decide (0 ≤ (ji28)) = true := decide_eq_true c29
                         clear c29
                         by_cases c30 : (ji28) < (t137.size : Int)
                         · rw [if_pos c30] at H
                           have c30b0 : decide ((ji28) < (t137.size : Int)) = true := decide_eq_true c30
                           clear c30
                           by_cases c32 : (bt t137 x12_2) = (bt t137 (ji28))
                           · rw [if_pos c32] at H
                             have c32b0 : ((bt t137 x12_2) == (bt t137 (ji28))) = true := beq_iff_eq.mpr c32
                             have c32b1 : ((bt t137 x12_2) != (bt t137 (ji28))) = false := bne_eq_false_iff_eq.mpr c32
                             clear c32
                             obtain ⟨ji34, hji34⟩ : ∃ j_ : Int, (wrap64 (x12_2 - 2)) = j_ := ⟨_, rfl⟩
                             replace H : (if 0 ≤ (ji34) then (if (ji34) < (t137.size : Int) then (if (bt t137 x12_2) = (bt t137 (ji34)) then (if 0 ≤ (wrap64 (x12_2 - 3)) then (if (wrap64 (x12_2 - 3)) < (t137.size : Int) then (idiomlaw08_DigitsRomanSums.j2 k2 a0 a1 a2 t137 x11_2 x12_2 t141 ((bt t137 x12_2) == (bt t137 (wrap64 (x12_2 - 3))))) else (none)) else (none)) else (idiomlaw08_DigitsRomanSums.j2 k2 a0 a1 a2 t137 x11_2 x12_2 t141 false)) else (none)) else (none)) = some r := by first | (rw [hji34] at H; exact H) | (simp only [hji34] at H ⊢; exact H)
                             have hji34w : (IntKind.i64.wrap (x12_2 - 2)) = ji34 := (i64_w _).trans hji34
                             by_cases c35 : 0 ≤ (ji34)
                             · rw [if_pos c35] at H
                               have c35b0 : decide (0 ≤ (ji34)) = true := decide_eq_true c35
                               clear c35
                               by_cases c36 : (ji34) < (t137.size : Int)
                               · rw [if_pos c36] at H
                                 have c36b0 : decide ((ji34) < (t137.size : Int)) = true := decide_eq_true c36
                                 clear c36
                                 by_cases c38 : (bt t137 x12_2) = (bt t137 (ji34))
                                 · rw [if_pos c38] at H
                                   have c38b0 : ((bt t137 x12_2) == (bt t137 (ji34))) = true := beq_iff_eq.mpr c38
                                   have c38b1 : ((bt t137 x12_2) != (bt t137 (ji34))) = false := bne_eq_false_iff_eq.mpr c38
                                   clear c38
                                   obtain ⟨ji40, hji40⟩ : ∃ j_ : Int, (wrap64 (x12_2 - 3)) = j_ := ⟨_, rfl⟩
                                   replace H : (if 0 ≤ (ji40) then (if (ji40) < (t137.size : Int) then (idiomlaw08_DigitsRomanSums.j2 k2 a0 a1 a2 t137 x11_2 x12_2 t141 ((bt t137 x12_2) == (bt t137 (ji40)))) else (none)) else (none)) = some r := by first | (rw [hji40] at H; exact H) | (simp only [hji40] at H ⊢; exact H)
                                   have hji40w : (IntKind.i64.wrap (x12_2 - 3)) = ji40 := (i64_w _).trans hji40
                                   by_cases c41 : 0 ≤ (ji40)
                                   · rw [if_pos c41] at H
                                     have c41b0 : decide (0 ≤ (ji40)) = true := decide_eq_true c41
                                     clear c41
                                     by_cases c42 : (ji40) < (t137.size : Int)
                                     · rw [if_pos c42] at H
                                       have c42b0 : decide ((ji40) < (t137.size : Int)) = true := decide_eq_true c42
                                       clear c42
                                       have H' := Aside0.mk H
                                       clear H
                                       have p24 : 0 ≤ (x12_2 : Int) := of_decide_eq_true qa
                                       have q24 : x12_2 < (t137.size : Int) := of_decide_eq_true qa
                                       have hx24 := bt_at t137 x12_2
                                       replace p24 := eq_true p24
                                       replace q24 := eq_true q24
                                       have p27 : 0 ≤ (x12_2 : Int) := of_decide_eq_true qa
                                       have q27 : x12_2 < (t137.size : Int) := of_decide_eq_true qa
                                       have hx27 := bt_at t137 x12_2
                                       replace p27 := eq_true p27
                                       replace q27 := eq_true q27
                                       have p31 : 0 ≤ ((ji28) : Int) := of_decide_eq_true qa
                                       have q31 : (ji28) < (t137.size : Int) := of_decide_eq_true qa
                                       have hx31 := bt_at t137 (ji28)
                                       replace p31 := eq_true p31
                                       replace q31 := eq_true q31
                                       have p33 : 0 ≤ (x12_2 : Int) := of_decide_eq_true qa
                                       have q33 : x12_2 < (t137.size : Int) := of_decide_eq_true qa
                                       have hx33 := bt_at t137 x12_2
                                       replace p33 := eq_true p33
                                       replace q33 := eq_true q33
                                       have p37 : 0 ≤ ((ji34) : Int) := of_decide_eq_true qa
                                       have q37 : (ji34) < (t137.size : Int) := of_decide_eq_true qa
                                       have hx37 := bt_at t137 (ji34)
                                       replace p37 := eq_true p37
                                       replace q37 := eq_true q37
                                       have p39 : 0 ≤ (x12_2 : Int) := of_decide_eq_true qa
                                       have q39 : x12_2 < (t137.size : Int) := of_decide_eq_true qa
                                       have hx39 := bt_at t137 x12_2
                                       replace p39 := eq_true p39
                                       replace q39 := eq_true q39
                                       have p43 : 0 ≤ ((ji40) : Int) := of_decide_eq_true qa
                                       have q43 : (ji40) < (t137.size : Int) := of_decide_eq_true qa
                                       have hx43 := bt_at t137 (ji40)
                                       replace p43 := eq_true p43
                                       replace q43 := eq_true q43
                                       go_wp2
                                       repeat (go_quiet (fail); try go_wp2)
                                       first | go_meet | (simp only [← hji28, ← hji34, ← hji40]; go_meet)
                                       case rel => exact ⟨_, (((bt t137 x12_2) == (bt t137 (ji40)))), (by first | rfl | (simp; done) | (simp only [← hji40] <;> (first | rfl | simp)) | (simp [*]; done)), H', ⟨by have := HJ11.out; have := HK2.out; first | omega | exact Nat.le_refl _⟩, ⟨qh HB⟩⟩
                                     · rw [if_neg c42] at H
                                       exact absurd H (by simp)
                                   · rw [if_neg c41] at H
                                     exact absurd H (by simp)
                                 · rw [if_neg c38] at H
                                   have c38b0 : ((bt t137 x12_2) == (bt t137 (ji34))) = false := beq_eq_false_iff_ne.mpr c38
                                   have c38b1 : ((bt t137 x12_2) != (bt t137 (ji34))) = true := bne_iff_ne.mpr c38
                                   have H' := Aside0.mk H
                                   clear H
                                   have p24 : 0 ≤ (x12_2 : Int) := of_decide_eq_true qa
                                   have q24 : x12_2 < (t137.size : Int) := of_decide_eq_true qa
                                   have hx24 := bt_at t137 x12_2
                                   replace p24 := eq_true p24
                                   replace q24 := eq_true q24
                                   have p27 : 0 ≤ (x12_2 : Int) := of_decide_eq_true qa
                                   have q27 : x12_2 < (t137.size : Int) := of_decide_eq_true qa
                                   have hx27 := bt_at t137 x12_2
                                   replace p27 := eq_true p27
                                   replace q27 := eq_true q27
                                   have p31 : 0 ≤ ((ji28) : Int) := of_decide_eq_true qa
                                   have q31 : (ji28) < (t137.size : Int) := of_decide_eq_true qa
                                   have hx31 := bt_at t137 (ji28)
                                   replace p31 := eq_true p31
                                   replace q31 := eq_true q31
                                   have p33 : 0 ≤ (x12_2 : Int) := of_decide_eq_true qa
                                   have q33 : x12_2 < (t137.size : Int) := of_decide_eq_true qa
                                   have hx33 := bt_at t137 x12_2
                                   replace p33 := eq_true p33
                                   replace q33 := eq_true q33
                                   have p37 : 0 ≤ ((ji34) : Int) := of_decide_eq_true qa
                                   have q37 : (ji34) < (t137.size : Int) := of_decide_eq_true qa
                                   have hx37 := bt_at t137 (ji34)
                                   replace p37 := eq_true p37
                                   replace q37 := eq_true q37
                                   go_wp2
                                   repeat (go_quiet (fail); try go_wp2)
                                   first | go_meet | (simp only [← hji28, ← hji34]; go_meet)
                                   case rel => exact ⟨_, (false), (by first | rfl | (simp; done) | (simp [*]; done)), H', ⟨by have := HJ11.out; have := HK2.out; first | omega | exact Nat.le_refl _⟩, ⟨qh HB⟩⟩
                               · rw [if_neg c36] at H
                                 exact absurd H (by simp)
                             · rw [if_neg c35] at H
                               exact absurd H (by simp)
                           · rw [if_neg c32] at H
                             have c32b0 : ((bt t137 x12_2) == (bt t137 (ji28))) = false := beq_eq_false_iff_ne.mpr c32
                             have c32b1 : ((bt t137 x12_2) != (bt t137 (ji28))) = true := bne_iff_ne.mpr c32
                             have H' := Aside0.mk H
                             clear H
                             have p24 : 0 ≤ (x12_2 : Int) := of_decide_eq_true qa
                             have q24 : x12_2 < (t137.size : Int) := of_decide_eq_true qa
                             have hx24 := bt_at t137 x12_2
                             replace p24 := eq_true p24
                             replace q24 := eq_true q24
                             have p27 : 0 ≤ (x12_2 : Int) := of_decide_eq_true qa
                             have q27 : x12_2 < (t137.size : Int) := of_decide_eq_true qa
                             have hx27 := bt_at t137 x12_2
                             replace p27 := eq_true p27
                             replace q27 := eq_true q27
                             have p31 : 0 ≤ ((ji28) : Int) := of_decide_eq_true qa
                             have q31 : (ji28) < (t137.size : Int) := of_decide_eq_true qa
                             have hx31 := bt_at t137 (ji28)
                             replace p31 := eq_true p31
                             replace q31 := eq_true q31
                             go_wp2
                             repeat (go_quiet (fail); try go_wp2)
                             first | go_meet | (simp only [← hji28]; go_meet)
                             case rel => exact ⟨_, (false), (by first | rfl | (simp; done) | (simp [*]; done)), H', ⟨by have := HJ11.out; have := HK2.out; first | omega | exact Nat.le_refl _⟩, ⟨qh HB⟩⟩
                         · rw [if_neg c30] at H
                           exact absurd H (by simp)
                       · rw [if_neg c29] at H
                         exact absurd H (by simp)
                     · rw [if_neg c26] at H
                       have c26b0 : decide (3 ≤ x12_2) = false := decide_eq_false c26
                       clear c26
                       have H' := Aside0.mk H
                       clear H
                       have p24 : 0 ≤ (x12_2 : Int) := of_decide_eq_true qa
                       have q24 : x12_2 < (t137.size : Int) := of_decide_eq_true qa
                       have hx24 := bt_at t137 x12_2
                       replace p24 := eq_true p24
                       replace q24 := eq_true q24
                       go_wp2
                       repeat (go_quiet (fail); try go_wp2)
                       go_meet
                       case rel => exact ⟨_, (false), (by first | rfl | (simp; done) | (simp [*]; done)), H', ⟨by have := HJ11.out; have := HK2.out; first | omega | exact Nat.le_refl _⟩, ⟨qh HB⟩⟩
                case rest =>
                 clear HC22
                 try clear c1
                 try clear c2
                 try clear p2
                 try clear q2
                 try clear hx2
                 try clear c3
                 try clear p3
                 try clear q3
                 try clear hx3
                 try clear c4
                 try clear p4
                 try clear q4
                 try clear hx4
                 try clear c5
                 try clear c6
                 try clear p6
                 try clear c10
                 try clear c10b0
                 try clear c10b1
                 try clear c14
                 try clear c14b0
                 try clear c14b1
                 try clear c15
                 try clear c15b0
                 try clear c15b1
                 try clear c16
                 try clear c16b0
                 try clear c17
                 try clear c18
                 try clear c18b0
                 try clear c19
                 try clear c19b0
                 try clear p20
                 try clear q20
                 try clear hx20
                 try clear c23
                 try clear c23b0
                 try clear c23b1
                 try clear p24
                 try clear q24
                 try clear hx24
                 try clear c25
                 try clear c25b0
                 try clear c25b1
                 try clear c25b2
                 try clear c26
                 try clear c26b0
                 try clear p27
                 try clear q27
                 try clear hx27
                 try clear c29
                 try clear c29b0
                 try clear c30
                 try clear c30b0
                 try clear p31
                 try clear q31
                 try clear hx31
                 try clear c32
                 try clear c32b0
                 try clear c32b1
                 try clear p33
                 try clear q33
                 try clear hx33
                 try clear c35
                 try clear c35b0
                 try clear c36
                 try clear c36b0
                 try clear p37
                 try clear q37
                 try clear hx37
                 try clear c38
                 try clear c38b0
                 try clear c38b1
                 try clear p39
                 try clear q39
                 try clear hx39
                 try clear c41
                 try clear c41b0
                 try clear c42
                 try clear c42b0
                 try clear p43
                 try clear q43
                 try clear hx43
                 try clear p2
                 try clear p20
                 try clear p24
                 try clear p27
                 try clear p31
                 try clear p33
                 try clear p37
                 try clear p39
                 try clear p43
                 try clear q20
                 try clear q24
                 try clear q27
                 try clear q31
                 try clear q33
                 try clear q37
                 try clear q39
                 try clear q43
                 obtain ⟨kq, x102_21, rfl, HA, HJ21, HB⟩ := hcut
                 cases kq with
                 | zero => exact absurd HA.out (by simp [idiomlaw08_DigitsRomanSums.j2])
                 | succ kj21 =>
                  have H := HA.out
                  clear HA
                  simp only [idiomlaw08_DigitsRomanSums.j2] at H
                  by_cases c44 : x102_21 = true
                  · subst c44
                    have H1 : (none) = some r := by rw [if_pos rfl] at H; exact H
                    clear H
                    have H := H1
                    clear H1
                    exact absurd H (by simp)
                  · replace c44 := Bool.eq_false_iff.mpr c44
                    subst c44
                    have H1 : (if (wrap64 (x12_2 + 1)) < (t137.size : Int) then (if 0 ≤ (wrap64 (x12_2 + 1)) then ((idiomlaw08_worth.f kj21 (bt t137 (wrap64 (x12_2 + 1)))).bind fun t142 => (if t142 > t141 then (idiomlaw08_DigitsRomanSums.l0 kj21 a0 a1 a2 t137 (wrap64 (x11_2 + (wrap64 (-t141)))) (wrap64 (x12_2 + 1))) else (idiomlaw08_DigitsRomanSums.l0 kj21 a0 a1 a2 t137 (wrap64 (x11_2 + t141)) (wrap64 (x12_2 + 1))))) else (none)) else (idiomlaw08_DigitsRomanSums.l0 kj21 a0 a1 a2 t137 (wrap64 (x11_2 + t141)) (wrap64 (x12_2 + 1)))) = some r := by rw [if_neg (show ¬ (false = true) by decide)] at H; exact H
                    clear H
                    have H := H1
                    clear H1
                    by_cases c45 : (wrap64 (x12_2 + 1)) < (t137.size : Int)
                    · rw [if_pos c45] at H
                      have c45b0 : decide ((wrap64 (x12_2 + 1)) < (t137.size : Int)) = true := decide_eq_true c45
                      clear c45
                      obtain ⟨ji46, hji46⟩ : ∃ j_ : Int, (wrap64 (x12_2 + 1)) = j_ := ⟨_, rfl⟩
                      replace H : (if 0 ≤ (ji46) then ((idiomlaw08_worth.f kj21 (bt t137 (ji46))).bind fun t142 => (if t142 > t141 then (idiomlaw08_DigitsRomanSums.l0 kj21 a0 a1 a2 t137 (wrap64 (x11_2 + (wrap64 (-t141)))) ji46) else (idiomlaw08_DigitsRomanSums.l0 kj21 a0 a1 a2 t137 (wrap64 (x11_2 + t141)) ji46))) else (none)) = some r := by first | (rw [hji46] at H; exact H) | (simp only [hji46] at H ⊢; exact H)
                      (try rw [hji46] at c45b0)
                      have hji46w : (IntKind.i64.wrap (x12_2 + 1)) = ji46 := (i64_w _).trans hji46
                      by_cases c47 : 0 ≤ (ji46)
                      · rw [if_pos c47] at H
                        have c47b0 : decide (0 ≤ (ji46)) = true := decide_eq_true c47
                        clear c47
                        replace H := Option.bind_eq_some_iff.mp H
                        obtain ⟨t142, A490, H⟩ := H
                        replace H : (if t142 > t141 then (idiomlaw08_DigitsRomanSums.l0 kj21 a0 a1 a2 t137 (wrap64 (x11_2 + (wrap64 (-t141)))) ji46) else (idiomlaw08_DigitsRomanSums.l0 kj21 a0 a1 a2 t137 (wrap64 (x11_2 + t141)) ji46)) = some r := H
                        have A49 := Aside0.mk A490
                        clear A490
                        by_cases c50 : t142 > t141
                        · rw [if_pos c50] at H
                          have c50b0 : decide (t141 < t142) = true := decide_eq_true c50
                          clear c50
                          have H' := Aside0.mk H
                          clear H
                          have p48 : 0 ≤ ((ji46) : Int) := of_decide_eq_true qa
                          have q48 : (ji46) < (t137.size : Int) := of_decide_eq_true qa
                          have hx48 := bt_at t137 (ji46)
                          replace p48 := eq_true p48
                          replace q48 := eq_true q48
                          go_wp2_with (first | (go_at_call 19; (with_reducible refine (idiomlaw08_worth.calls kj21 (bt t137 (ji46)) t142 _ A49.out).mono ?_); rintro e w' ⟨rfl, ⟨nd, rfl⟩⟩; (try first | exact ⟨rfl, _, World.drewN_drewN _ _ _⟩ | exact ⟨rfl, _, Eq.trans (World.drewN_drewN _ _ _) (congrArg (World.drewN _) (Nat.add_assoc _ _ _))⟩)))
                          repeat (go_quiet (first | (go_at_call 19; (with_reducible refine (idiomlaw08_worth.calls kj21 (bt t137 (ji46)) t142 _ A49.out).mono ?_); rintro e w' ⟨rfl, ⟨nd, rfl⟩⟩; (try first | exact ⟨rfl, _, World.drewN_drewN _ _ _⟩ | exact ⟨rfl, _, Eq.trans (World.drewN_drewN _ _ _) (congrArg (World.drewN _) (Nat.add_assoc _ _ _))⟩))); try go_wp2_with (first | (go_at_call 19; (with_reducible refine (idiomlaw08_worth.calls kj21 (bt t137 (ji46)) t142 _ A49.out).mono ?_); rintro e w' ⟨rfl, ⟨nd, rfl⟩⟩; (try first | exact ⟨rfl, _, World.drewN_drewN _ _ _⟩ | exact ⟨rfl, _, Eq.trans (World.drewN_drewN _ _ _) (congrArg (World.drewN _) (Nat.add_assoc _ _ _))⟩))))
                          go_roundg kj21
                          case measure => have := HJ11.out; have := HK2.out; have := HJ21.out; omega
                          case rel => exact ⟨(wrap64 (x11_2 + (wrap64 (-t141)))), (ji46), (by first | rfl | (simp; done) | (simp [*]; done)), (by first | rfl | (simp; done) | (simp only [← hji46] <;> (first | rfl | simp)) | (simp [*]; done)), H', ⟨by have := HJ11.out; have := HK2.out; have := HJ21.out; omega⟩, ⟨qh HB⟩⟩
                        · rw [if_neg c50] at H
                          have c50b0 : decide (t141 < t142) = false := decide_eq_false c50
                          clear c50
                          have H' := Aside0.mk H
                          clear H
                          have p48 : 0 ≤ ((ji46) : Int) := of_decide_eq_true qa
                          have q48 : (ji46) < (t137.size : Int) := of_decide_eq_true qa
                          have hx48 := bt_at t137 (ji46)
                          replace p48 := eq_true p48
                          replace q48 := eq_true q48
                          go_wp2_with (first | (go_at_call 19; (with_reducible refine (idiomlaw08_worth.calls kj21 (bt t137 (ji46)) t142 _ A49.out).mono ?_); rintro e w' ⟨rfl, ⟨nd, rfl⟩⟩; (try first | exact ⟨rfl, _, World.drewN_drewN _ _ _⟩ | exact ⟨rfl, _, Eq.trans (World.drewN_drewN _ _ _) (congrArg (World.drewN _) (Nat.add_assoc _ _ _))⟩)))
                          repeat (go_quiet (first | (go_at_call 19; (with_reducible refine (idiomlaw08_worth.calls kj21 (bt t137 (ji46)) t142 _ A49.out).mono ?_); rintro e w' ⟨rfl, ⟨nd, rfl⟩⟩; (try first | exact ⟨rfl, _, World.drewN_drewN _ _ _⟩ | exact ⟨rfl, _, Eq.trans (World.drewN_drewN _ _ _) (congrArg (World.drewN _) (Nat.add_assoc _ _ _))⟩))); try go_wp2_with (first | (go_at_call 19; (with_reducible refine (idiomlaw08_worth.calls kj21 (bt t137 (ji46)) t142 _ A49.out).mono ?_); rintro e w' ⟨rfl, ⟨nd, rfl⟩⟩; (try first | exact ⟨rfl, _, World.drewN_drewN _ _ _⟩ | exact ⟨rfl, _, Eq.trans (World.drewN_drewN _ _ _) (congrArg (World.drewN _) (Nat.add_assoc _ _ _))⟩))))
                          go_roundg kj21
                          case measure => have := HJ11.out; have := HK2.out; have := HJ21.out; omega
                          case rel => exact ⟨(wrap64 (x11_2 + t141)), (ji46), (by first | rfl | (simp; done) | (simp [*]; done)), (by first | rfl | (simp; done) | (simp only [← hji46] <;> (first | rfl | simp)) | (simp [*]; done)), H', ⟨by have := HJ11.out; have := HK2.out; have := HJ21.out; omega⟩, ⟨qh HB⟩⟩
                      · rw [if_neg c47] at H
                        exact absurd H (by simp)
                    · rw [if_neg c45] at H
                      have c45b0 : decide ((wrap64 (x12_2 + 1)) < (t137.size : Int)) = false := decide_eq_false c45
                      clear c45
                      have H' := Aside0.mk H
                      clear H
                      go_wp2
                      repeat (go_quiet (fail); try go_wp2)
                      go_roundg kj21
                      case measure => have := HJ11.out; have := HK2.out; have := HJ21.out; omega
                      case rel => exact ⟨(wrap64 (x11_2 + t141)), (wrap64 (x12_2 + 1)), (by first | rfl | (simp; done) | (simp [*]; done)), (by first | rfl | (simp; done) | (simp [*]; done)), H', ⟨by have := HJ11.out; have := HK2.out; have := HJ21.out; omega⟩, ⟨qh HB⟩⟩
              · rw [if_neg c19] at H
                exact absurd H (by simp)
            · rw [if_neg c18] at H
              have c18b0 : decide (x12_2 < (t137.size : Int)) = false := decide_eq_false c18
              clear c18
              by_cases c51 : x11_2 = a0
              · rw [if_pos c51] at H
                have c51b0 : (x11_2 == a0) = true := beq_iff_eq.mpr c51
                have c51b1 : (x11_2 != a0) = false := bne_eq_false_iff_eq.mpr c51
                try have c51b1z := c51b1
                (try simp only [bne] at c51b1z)
                clear c51
                have H' := Aside0.mk H
                clear H
                go_wp2
                repeat (go_quiet (fail); try go_wp2)
                go_meet
                case rel => exact ⟨_, H', ⟨by have := HJ11.out; have := HK2.out; first | omega | exact Nat.le_refl _⟩, ⟨qh HB⟩⟩
              · rw [if_neg c51] at H
                exact absurd H (by simp)
    · rw [if_neg c10] at H
      have c10b0 : (t138 == 0) = false := beq_eq_false_iff_ne.mpr c10
      have c10b1 : (t138 != 0) = true := bne_iff_ne.mpr c10
      try have c10b1z := c10b1
      (try simp only [bne] at c10b1z)
      (first | rw [c10b0] | (simp only [i64_w, i32_w]; rw [c10b0]) | skip)
      by_cases c52 : a0 ≥ 1
      · rw [if_pos c52] at H
        have c52b0 : decide (1 ≤ a0) = true := decide_eq_true c52
        clear c52
        by_cases c53 : a0 ≤ 3999
        · rw [if_pos c53] at H
          exact absurd H (by simp)
        · rw [if_neg c53] at H
          have c53b0 : decide (a0 ≤ 3999) = false := decide_eq_false c53
          clear c53
          have H' := Aside0.mk H
          clear H
          go_wp2
          repeat (go_quiet (fail); try go_wp2)
          go_meet
          case rel => exact ⟨_, H', ⟨by first | omega | exact Nat.le_refl _⟩, ⟨qh HB⟩⟩
      · rw [if_neg c52] at H
        have c52b0 : decide (1 ≤ a0) = false := decide_eq_false c52
        clear c52
        have H' := Aside0.mk H
        clear H
        go_wp2
        repeat (go_quiet (fail); try go_wp2)
        go_meet
        case rel => exact ⟨_, H', ⟨by first | omega | exact Nat.le_refl _⟩, ⟨qh HB⟩⟩
   case rest =>
    clear HC7
    try clear c1
    try clear c2
    try clear p2
    try clear q2
    try clear hx2
    try clear c3
    try clear p3
    try clear q3
    try clear hx3
    try clear c4
    try clear p4
    try clear q4
    try clear hx4
    try clear c5
    try clear c6
    try clear p6
    try clear c10
    try clear c10b0
    try clear c10b1
    try clear c14
    try clear c14b0
    try clear c14b1
    try clear c15
    try clear c15b0
    try clear c15b1
    try clear c16
    try clear c16b0
    try clear c17
    try clear c18
    try clear c18b0
    try clear c19
    try clear c19b0
    try clear p20
    try clear q20
    try clear hx20
    try clear c23
    try clear c23b0
    try clear c23b1
    try clear p24
    try clear q24
    try clear hx24
    try clear c25
    try clear c25b0
    try clear c25b1
    try clear c25b2
    try clear c26
    try clear c26b0
    try clear p27
    try clear q27
    try clear hx27
    try clear c29
    try clear c29b0
    try clear c30
    try clear c30b0
    try clear p31
    try clear q31
    try clear hx31
    try clear c32
    try clear c32b0
    try clear c32b1
    try clear p33
    try clear q33
    try clear hx33
    try clear c35
    try clear c35b0
    try clear c36
    try clear c36b0
    try clear p37
    try clear q37
    try clear hx37
    try clear c38
    try clear c38b0
    try clear c38b1
    try clear p39
    try clear q39
    try clear hx39
    try clear c41
    try clear c41b0
    try clear c42
    try clear c42b0
    try clear p43
    try clear q43
    try clear hx43
    try clear c44
    try clear c45
    try clear c45b0
    try clear c47
    try clear c47b0
    try clear p48
    try clear q48
    try clear hx48
    try clear c50
    try clear c50b0
    try clear c51
    try clear c51b0
    try clear c51b1
    try clear c52
    try clear c52b0
    try clear c53
    try clear c53b0
    try clear p2
    try clear p20
    try clear p24
    try clear p27
    try clear p3
    try clear p31
    try clear p33
    try clear p37
    try clear p39
    try clear p4
    try clear p43
    try clear p48
    try clear p6
    try clear q2
    try clear q20
    try clear q24
    try clear q27
    try clear q3
    try clear q31
    try clear q33
    try clear q37
    try clear q39
    try clear q4
    try clear q43
    try clear q48
    obtain ⟨kq, HA, HJ6, HB⟩ := hcut
    cases kq with
    | zero => exact absurd HA.out (by simp [idiomlaw08_DigitsRomanSums.j3])
    | succ kj6 =>
     have H := HA.out
     clear HA
     simp only [idiomlaw08_DigitsRomanSums.j3] at H
     replace H := Option.bind_eq_some_iff.mp H
     obtain ⟨⟨t143, t144⟩, A540, H⟩ := H
     replace H : (if t144 = 0 then ((digits_Roman.f kj6 t143 false).bind fun bt145 => ((digits_Roman.f kj6 t143 true).bind fun bt147 => (if bt145.2 = 0 then (if bt147.2 = 0 then (if a2.toList = bt145.1.toList then (some true) else (some (a2.toList == bt147.1.toList))) else (none)) else (none)))) else (some (t143 == 0))) = some r := H
     have A54 := Aside0.mk A540
     clear A540
     by_cases c55 : t144 = 0
     · rw [if_pos c55] at H
       have c55b0 : (t144 == 0) = true := beq_iff_eq.mpr c55
       have c55b1 : (t144 != 0) = false := bne_eq_false_iff_eq.mpr c55
       try have c55b1z := c55b1
       (try simp only [bne] at c55b1z)
       clear c55
       replace H := Option.bind_eq_some_iff.mp H
       obtain ⟨⟨t145, t146⟩, A560, H⟩ := H
       replace H : ((digits_Roman.f kj6 t143 true).bind fun bt147 => (if t146 = 0 then (if bt147.2 = 0 then (if a2.toList = t145.toList then (some true) else (some (a2.toList == bt147.1.toList))) else (none)) else (none))) = some r := H
       have A56 := Aside0.mk A560
       clear A560
       replace H := Option.bind_eq_some_iff.mp H
       obtain ⟨⟨t147, t148⟩, A570, H⟩ := H
       replace H : (if t146 = 0 then (if t148 = 0 then (if a2.toList = t145.toList then (some true) else (some (a2.toList == t147.toList))) else (none)) else (none)) = some r := H
       have A57 := Aside0.mk A570
       clear A570
       by_cases c58 : t146 = 0
       · rw [if_pos c58] at H
         have c58b0 : (t146 == 0) = true := beq_iff_eq.mpr c58
         have c58b1 : (t146 != 0) = false := bne_eq_false_iff_eq.mpr c58
         try have c58b1z := c58b1
         (try simp only [bne] at c58b1z)
         clear c58
         by_cases c59 : t148 = 0
         · rw [if_pos c59] at H
           have c59b0 : (t148 == 0) = true := beq_iff_eq.mpr c59
           have c59b1 : (t148 != 0) = false := bne_eq_false_iff_eq.mpr c59
           try have c59b1z := c59b1
           (try simp only [bne] at c59b1z)
           clear c59
           by_cases c60 : a2.toList = t145.toList
           · rw [if_pos c60] at H
             have c60b0 : (a2.toList == t145.toList) = true := beq_iff_eq.mpr c60
             have c60b1 : (a2.toList != t145.toList) = false := bne_eq_false_iff_eq.mpr c60
             clear c60
             obtain rfl := Option.some.inj H
             go_wp2_with (first | (go_at_call 17; (with_reducible refine (digits_FromRoman.calls kj6 a2 t143 t144 _ A54.out).mono ?_); rintro e w61 ⟨rfl, hb⟩; replace HB := qn HB hb; (try clear hb); (try clear hb2); (try clear hk); (try clear hi)) | (go_at_call 15; (with_reducible refine (digits_Roman.calls kj6 t143 false t145 t146 _ A56.out).mono ?_); rintro e w62 ⟨rfl, hb⟩; replace HB := qn HB hb; (try clear hb); (try clear hb2); (try clear hk); (try clear hi)) | (go_at_call 15; (with_reducible refine (digits_Roman.calls kj6 t143 true t147 t148 _ A57.out).mono ?_); rintro e w63 ⟨rfl, hb⟩; replace HB := qn HB hb; (try clear hb); (try clear hb2); (try clear hk); (try clear hi)))
             repeat (go_quiet (first | (go_at_call 17; (with_reducible refine (digits_FromRoman.calls kj6 a2 t143 t144 _ A54.out).mono ?_); rintro e w61 ⟨rfl, hb⟩; replace HB := qn HB hb; (try clear hb); (try clear hb2); (try clear hk); (try clear hi)) | (go_at_call 15; (with_reducible refine (digits_Roman.calls kj6 t143 false t145 t146 _ A56.out).mono ?_); rintro e w62 ⟨rfl, hb⟩; replace HB := qn HB hb; (try clear hb); (try clear hb2); (try clear hk); (try clear hi)) | (go_at_call 15; (with_reducible refine (digits_Roman.calls kj6 t143 true t147 t148 _ A57.out).mono ?_); rintro e w63 ⟨rfl, hb⟩; replace HB := qn HB hb; (try clear hb); (try clear hb2); (try clear hk); (try clear hi))); try go_wp2_with (first | (go_at_call 17; (with_reducible refine (digits_FromRoman.calls kj6 a2 t143 t144 _ A54.out).mono ?_); rintro e w61 ⟨rfl, hb⟩; replace HB := qn HB hb; (try clear hb); (try clear hb2); (try clear hk); (try clear hi)) | (go_at_call 15; (with_reducible refine (digits_Roman.calls kj6 t143 false t145 t146 _ A56.out).mono ?_); rintro e w62 ⟨rfl, hb⟩; replace HB := qn HB hb; (try clear hb); (try clear hb2); (try clear hk); (try clear hi)) | (go_at_call 15; (with_reducible refine (digits_Roman.calls kj6 t143 true t147 t148 _ A57.out).mono ?_); rintro e w63 ⟨rfl, hb⟩; replace HB := qn HB hb; (try clear hb); (try clear hb2); (try clear hk); (try clear hi))))
             go_ret
             exact ⟨qe, qh HB⟩
           · rw [if_neg c60] at H
             have c60b0 : (a2.toList == t145.toList) = false := beq_eq_false_iff_ne.mpr c60
             have c60b1 : (a2.toList != t145.toList) = true := bne_iff_ne.mpr c60
             obtain rfl := Option.some.inj H
             go_wp2_with (first | (go_at_call 17; (with_reducible refine (digits_FromRoman.calls kj6 a2 t143 t144 _ A54.out).mono ?_); rintro e w64 ⟨rfl, hb⟩; replace HB := qn HB hb; (try clear hb); (try clear hb2); (try clear hk); (try clear hi)) | (go_at_call 15; (with_reducible refine (digits_Roman.calls kj6 t143 false t145 t146 _ A56.out).mono ?_); rintro e w65 ⟨rfl, hb⟩; replace HB := qn HB hb; (try clear hb); (try clear hb2); (try clear hk); (try clear hi)) | (go_at_call 15; (with_reducible refine (digits_Roman.calls kj6 t143 true t147 t148 _ A57.out).mono ?_); rintro e w66 ⟨rfl, hb⟩; replace HB := qn HB hb; (try clear hb); (try clear hb2); (try clear hk); (try clear hi)))
             repeat (go_quiet (first | (go_at_call 17; (with_reducible refine (digits_FromRoman.calls kj6 a2 t143 t144 _ A54.out).mono ?_); rintro e w64 ⟨rfl, hb⟩; replace HB := qn HB hb; (try clear hb); (try clear hb2); (try clear hk); (try clear hi)) | (go_at_call 15; (with_reducible refine (digits_Roman.calls kj6 t143 false t145 t146 _ A56.out).mono ?_); rintro e w65 ⟨rfl, hb⟩; replace HB := qn HB hb; (try clear hb); (try clear hb2); (try clear hk); (try clear hi)) | (go_at_call 15; (with_reducible refine (digits_Roman.calls kj6 t143 true t147 t148 _ A57.out).mono ?_); rintro e w66 ⟨rfl, hb⟩; replace HB := qn HB hb; (try clear hb); (try clear hb2); (try clear hk); (try clear hi))); try go_wp2_with (first | (go_at_call 17; (with_reducible refine (digits_FromRoman.calls kj6 a2 t143 t144 _ A54.out).mono ?_); rintro e w64 ⟨rfl, hb⟩; replace HB := qn HB hb; (try clear hb); (try clear hb2); (try clear hk); (try clear hi)) | (go_at_call 15; (with_reducible refine (digits_Roman.calls kj6 t143 false t145 t146 _ A56.out).mono ?_); rintro e w65 ⟨rfl, hb⟩; replace HB := qn HB hb; (try clear hb); (try clear hb2); (try clear hk); (try clear hi)) | (go_at_call 15; (with_reducible refine (digits_Roman.calls kj6 t143 true t147 t148 _ A57.out).mono ?_); rintro e w66 ⟨rfl, hb⟩; replace HB := qn HB hb; (try clear hb); (try clear hb2); (try clear hk); (try clear hi))))
             go_ret
             exact ⟨qe, qh HB⟩
         · rw [if_neg c59] at H
           exact absurd H (by simp)
       · rw [if_neg c58] at H
         exact absurd H (by simp)
     · rw [if_neg c55] at H
       have c55b0 : (t144 == 0) = false := beq_eq_false_iff_ne.mpr c55
       have c55b1 : (t144 != 0) = true := bne_iff_ne.mpr c55
       try have c55b1z := c55b1
       (try simp only [bne] at c55b1z)
       obtain rfl := Option.some.inj H
       go_wp2_with (first | (go_at_call 17; (with_reducible refine (digits_FromRoman.calls kj6 a2 t143 t144 _ A54.out).mono ?_); rintro e w67 ⟨rfl, hb⟩; replace HB := qn HB hb; (try clear hb); (try clear hb2); (try clear hk); (try clear hi)))
       repeat (go_quiet (first | (go_at_call 17; (with_reducible refine (digits_FromRoman.calls kj6 a2 t143 t144 _ A54.out).mono ?_); rintro e w67 ⟨rfl, hb⟩; replace HB := qn HB hb; (try clear hb); (try clear hb2); (try clear hk); (try clear hi))); try go_wp2_with (first | (go_at_call 17; (with_reducible refine (digits_FromRoman.calls kj6 a2 t143 t144 _ A54.out).mono ?_); rintro e w67 ⟨rfl, hb⟩; replace HB := qn HB hb; (try clear hb); (try clear hb2); (try clear hk); (try clear hi))))
       go_ret
       exact ⟨qe, qh HB⟩
 · replace c5 := Bool.eq_false_iff.mpr c5
   subst c5
   have H1 : (none) = some r := by rw [if_neg (show ¬ (false = true) by decide)] at H; exact H
   clear H
   have H := H1
   clear H1
   exact absurd H (by simp)

/-- THE ONE PURE STATEMENT of idiomlaw08_DigitsRomanSums: yours. -/
def idiomlaw08_DigitsRomanSums.Pure : Prop := ∀ (a0 : Int) (a1 : Bool) (a2 : ByteArray), (Lit.int .i64 a0).wf = true → a2.size ≤ 140737488351232 → ∃ k, idiomlaw08_DigitsRomanSums.f k a0 a1 a2 = some true
end Go.Proofs.YtnkjeojhiligpaaDoor.H
set_option linter.unusedVariables false
set_option linter.unusedSimpArgs false
set_option maxRecDepth 100000
namespace Go.Proofs.YtnkjeojhiligpaaDoor.RomP
open Go.RowKit Go.Proofs.YtnkjeojhiligpaaDoor.Rom8
def wr (b : UInt8) : Int := Rom8.worth (b.toNat : Int)
/-- What a row of capital letters comes to. -/
def valL : List UInt8 → Int
  | [] => 0
  | [b] => wr b
  | b :: c :: l => (if wr b < wr c then -wr b else wr b) + valL (c :: l)
/-- No letter four times. -/
def four : List UInt8 → Bool
  | a :: b :: c :: d :: l => !(d == c && d == b && d == a) && four (b :: c :: d :: l)
  | _ => true
def okN (n : Nat) : Bool := decide (valL (rom n) = (n : Int)) && four (rom n)
def okAll : Nat → Bool
  | 0 => true
  | n + 1 => okN (n + 1) && okAll n
theorem all_ok : okAll 3999 = true := by kernel_rfl
theorem ok_at : ∀ (m n : Nat), okAll m = true → 1 ≤ n → n ≤ m → okN n = true
  | 0, n, _, h1, h2 => by omega
  | m + 1, n, h, h1, h2 => by
    simp only [okAll, Bool.and_eq_true] at h
    by_cases c : n = m + 1
    · rw [c]; exact h.1
    · exact ok_at m n h.2 h1 (by omega)
theorem val_rom (n : Nat) (h1 : 1 ≤ n) (h2 : n ≤ 3999) : valL (rom n) = (n : Int) := by
  have h := ok_at 3999 n all_ok h1 h2
  unfold okN at h
  rw [Bool.and_eq_true] at h
  exact of_decide_eq_true h.1
theorem four_rom (n : Nat) (h1 : 1 ≤ n) (h2 : n ≤ 3999) : four (rom n) = true := by
  have h := ok_at 3999 n all_ok h1 h2
  unfold okN at h
  rw [Bool.and_eq_true] at h
  exact h.2
theorem rom_inj (m n : Nat) (m1 : 1 ≤ m) (m2 : m ≤ 3999) (n1 : 1 ≤ n) (n2 : n ≤ 3999) (h : rom m = rom n) : m = n := by
  have a := val_rom m m1 m2
  rw [h, val_rom n n1 n2] at a
  omega
theorem rom_ne (n : Nat) (h1 : 1 ≤ n) (h2 : n ≤ 3999) : rom n ≠ [] := fun e => by
  have a := val_rom n h1 h2
  rw [e] at a
  simp only [valL] at a
  omega
theorem low_inj : ∀ a b : List UInt8, low a = low b → a = b
  | [], [], _ => rfl
  | [], _ :: _, h => by simp [low] at h
  | _ :: _, [], h => by simp [low] at h
  | x :: a, y :: b, h => by
    simp only [low, List.map_cons, List.cons.injEq] at h
    rw [(UInt8.add_left_inj 32).1 h.1, low_inj a b h.2]
theorem pc_all (P : UInt8 → Prop) (d : Nat) (a b c : List UInt8) (ha : ∀ x ∈ a, P x) (hb : ∀ x ∈ b, P x) (hc : ∀ x ∈ c, P x) : ∀ x ∈ pc d a b c, P x := by
  intro x hx
  unfold pc at hx
  repeat' split at hx
  all_goals (try simp only [List.mem_append] at hx)
  all_goals first
    | exact ha x hx
    | exact hb x hx
    | exact absurd hx (List.not_mem_nil)
    | (rcases hx with hx | hx <;> first | exact ha x hx | exact hb x hx | exact hc x hx)
    | (rcases hx with (hx | hx) | hx <;> first | exact ha x hx | exact hb x hx)
    | (rcases hx with ((hx | hx) | hx) | hx <;> first | exact ha x hx | exact hb x hx)
theorem rom_all (P : UInt8 → Prop) (h : ∀ x ∈ letters, P x) (n : Nat) : ∀ x ∈ rom n, P x := by
  have one : ∀ b, b ∈ letters → ∀ x ∈ [b], P x := fun b hb x hx => by rw [List.mem_singleton.1 hx]; exact h b hb
  have zero : ∀ x ∈ ([] : List UInt8), P x := fun x hx => absurd hx List.not_mem_nil
  intro b hb
  unfold rom at hb
  simp only [List.mem_append] at hb
  rcases hb with ((hb | hb) | hb) | hb
  · exact pc_all P _ _ _ _ (one 77 (by decide)) zero zero b hb
  · exact pc_all P _ _ _ _ (one 67 (by decide)) (one 68 (by decide)) (one 77 (by decide)) b hb
  · exact pc_all P _ _ _ _ (one 88 (by decide)) (one 76 (by decide)) (one 67 (by decide)) b hb
  · exact pc_all P _ _ _ _ (one 73 (by decide)) (one 86 (by decide)) (one 88 (by decide)) b hb
def cs : List UInt8 := [73, 86, 88, 76, 67, 68, 77, 105, 118, 120, 108, 99, 100, 109]
theorem cap_facts : ∀ b ∈ letters, Lib.upperB b = b ∧ Lib.lowerB b = b + 32 ∧ b.toNat < 97 ∧ b ∈ cs ∧ (b + 32) ∈ cs ∧ Lib.upperB (b + 32) = b ∧ Lib.lowerB (b + 32) = b + 32 ∧ 97 ≤ (b + 32).toNat ∧ (b + 32).toNat < 128 ∧ 0 < wr b := by decide
theorem cs_facts : ∀ b ∈ cs, Lib.lowerB (Lib.upperB b) = Lib.lowerB b ∧ b.toNat < 128 ∧ Lib.upperB b ∈ letters := by decide
theorem map_all {f : UInt8 → UInt8} {l : List UInt8} (h : ∀ b ∈ l, f b = b) : l.map f = l := by
  induction l with
  | nil => rfl
  | cons a l ih => rw [List.map_cons, h a (List.mem_cons_self ..), ih fun b hb => h b (List.mem_cons_of_mem _ hb)]
theorem upper_rom (n : Nat) : Lib.toUpperA (rom n) = rom n := map_all (rom_all _ (fun b hb => (cap_facts b hb).1) n)
theorem lower_rom (n : Nat) : Lib.toLowerA (rom n) = low (rom n) := by
  unfold Lib.toLowerA low
  exact List.map_congr_left (rom_all _ (fun b hb => (cap_facts b hb).2.1) n)
theorem upper_low (n : Nat) : Lib.toUpperA (low (rom n)) = rom n := by
  unfold Lib.toUpperA low
  rw [List.map_map]
  exact map_all (rom_all (fun b => (Lib.upperB ∘ fun x => x + 32) b = b) (fun b hb => (cap_facts b hb).2.2.2.2.2.1) n)
theorem lower_low (n : Nat) : Lib.toLowerA (low (rom n)) = low (rom n) := by
  unfold Lib.toLowerA low
  rw [List.map_map]
  exact List.map_congr_left (rom_all (fun b => (Lib.lowerB ∘ fun x => x + 32) b = b + 32) (fun b hb => (cap_facts b hb).2.2.2.2.2.2.1) n)
theorem low_all (P : UInt8 → Prop) (h : ∀ x ∈ letters, P (x + 32)) (n : Nat) : ∀ x ∈ low (rom n), P x := by
  intro x hx
  obtain ⟨y, hy, rfl⟩ := List.mem_map.1 hx
  exact rom_all (fun b => P (b + 32)) h n y hy
theorem rom_ne_low (m n : Nat) (h1 : 1 ≤ n) (h2 : n ≤ 3999) : rom n ≠ low (rom m) := fun e => by
  have hne := rom_ne n h1 h2
  cases hr : rom n with
  | nil => exact hne hr
  | cons b l =>
    have m1 : b ∈ rom n := by rw [hr]; exact List.mem_cons_self ..
    have m2 : b ∈ low (rom m) := by rw [← e]; exact m1
    have k1 := rom_all (fun b => b.toNat < 97) (fun b hb => (cap_facts b hb).2.2.1) n b m1
    have k2 := low_all (fun b => 97 ≤ b.toNat) (fun b hb => (cap_facts b hb).2.2.2.2.2.2.2.1) m b m2
    omega
theorem rom_len15 (n : Nat) (h : n ≤ 3999) : (rom n).length ≤ 15 := by
  have h1 : (pc (n / 1000) [77] [] []).length ≤ 3 := by
    rcases (by omega : n / 1000 = 0 ∨ n / 1000 = 1 ∨ n / 1000 = 2 ∨ n / 1000 = 3) with e | e | e | e <;> (rw [e]; decide)
  have h2 := pc_len (n / 100 % 10) [67] [68] [77] (by decide) (by decide) (by decide)
  have h3 := pc_len (n / 10 % 10) [88] [76] [67] (by decide) (by decide) (by decide)
  have h4 := pc_len (n % 10) [73] [86] [88] (by decide) (by decide) (by decide)
  unfold rom
  simp only [List.length_append]
  omega
theorem low_len (l : List UInt8) : (low l).length = l.length := List.length_map ..
def isN (s : List UInt8) (n : Nat) : Bool := decide (s = rom n) || decide (s = low (rom n))
theorem isN_iff (s : List UInt8) (n : Nat) : isN s n = true ↔ s = rom n ∨ s = low (rom n) := by
  unfold isN
  rw [Bool.or_eq_true, decide_eq_true_eq, decide_eq_true_eq]
def find (s : List UInt8) : Nat → Nat → Option Nat
  | 0, _ => none
  | k + 1, x => if isN s x = true then some x else find s k (x + 1)
theorem find_some (s : List UInt8) : ∀ (k x n : Nat), find s k x = some n → x ≤ n ∧ n < x + k ∧ isN s n = true
  | 0, x, n, h => by cases h
  | k + 1, x, n, h => by
    simp only [find] at h
    by_cases c : isN s x = true
    · rw [if_pos c] at h
      obtain rfl := Option.some.inj h
      exact ⟨Nat.le_refl _, by omega, c⟩
    · rw [if_neg c] at h
      obtain ⟨h1, h2, h3⟩ := find_some s k (x + 1) n h
      exact ⟨by omega, by omega, h3⟩
theorem find_none (s : List UInt8) : ∀ (k x n : Nat), find s k x = none → x ≤ n → n < x + k → isN s n = false
  | 0, x, n, h, h1, h2 => by omega
  | k + 1, x, n, h, h1, h2 => by
    simp only [find] at h
    by_cases c : isN s x = true
    · rw [if_pos c] at h; cases h
    · rw [if_neg c] at h
      by_cases e : x = n
      · rw [← e]; exact Bool.eq_false_iff.2 c
      · exact find_none s k (x + 1) n h (by omega) (by omega)
theorem isN_uniq (s : List UInt8) (m n : Nat) (m1 : 1 ≤ m) (m2 : m ≤ 3999) (n1 : 1 ≤ n) (n2 : n ≤ 3999) (hm : isN s m = true) (hn : isN s n = true) : m = n := by
  rw [isN_iff] at hm hn
  rcases hm with hm | hm <;> rcases hn with hn | hn
  · exact rom_inj m n m1 m2 n1 n2 (hm.symm.trans hn)
  · exact absurd (hm.symm.trans hn) (rom_ne_low n m m1 m2)
  · exact absurd (hn.symm.trans hm) (rom_ne_low m n n1 n2)
  · exact rom_inj m n m1 m2 n1 n2 (low_inj _ _ (hm.symm.trans hn))
/-- What a text is as a numeral: the number, or the error. -/
def frD (s : List UInt8) : Int × Int := match find s 3999 1 with
  | some n => ((n : Int), 0)
  | none => (0, 82)
theorem frD_hit (s : List UInt8) (n : Nat) (n1 : 1 ≤ n) (n2 : n ≤ 3999) (h : s = rom n ∨ s = low (rom n)) : frD s = ((n : Int), 0) := by
  unfold frD
  cases hf : find s 3999 1 with
  | none => exact absurd ((isN_iff s n).2 h) (by rw [find_none s 3999 1 n hf n1 (by omega)]; exact Bool.false_ne_true)
  | some m =>
    obtain ⟨h1, h2, h3⟩ := find_some s 3999 1 m hf
    rw [isN_uniq s m n h1 (by omega) n1 n2 h3 ((isN_iff s n).2 h)]
theorem frD_miss (s : List UInt8) (h : ∀ n, 1 ≤ n → n ≤ 3999 → s ≠ rom n ∧ s ≠ low (rom n)) : frD s = (0, 82) := by
  unfold frD
  cases hf : find s 3999 1 with
  | none => rfl
  | some m =>
    obtain ⟨h1, h2, h3⟩ := find_some s 3999 1 m hf
    rw [isN_iff] at h3
    obtain ⟨a, b⟩ := h m h1 (by omega)
    rcases h3 with h3 | h3
    · exact absurd h3 a
    · exact absurd h3 b
theorem frD_cases (s : List UInt8) : (∃ n, 1 ≤ n ∧ n ≤ 3999 ∧ (s = rom n ∨ s = low (rom n))) ∨ (∀ n, 1 ≤ n → n ≤ 3999 → s ≠ rom n ∧ s ≠ low (rom n)) := by
  cases hf : find s 3999 1 with
  | none =>
    refine .inr fun n h1 h2 => ?_
    have h := find_none s 3999 1 n hf h1 (by omega)
    rw [Bool.eq_false_iff, Ne, isN_iff] at h
    exact ⟨fun e => h (.inl e), fun e => h (.inr e)⟩
  | some m =>
    obtain ⟨h1, h2, h3⟩ := find_some s 3999 1 m hf
    exact .inl ⟨m, h1, by omega, (isN_iff s m).1 h3⟩
theorem dw_nil (p : UInt8 → Bool) : ∀ l : List UInt8, (∀ b ∈ l, p b = true) → l.dropWhile p = []
  | [], _ => rfl
  | a :: l, h => by
    rw [List.dropWhile_cons_of_pos (h a (List.mem_cons_self ..))]
    exact dw_nil p l fun b hb => h b (List.mem_cons_of_mem _ hb)
theorem dw_nil2 (p : UInt8 → Bool) : ∀ l : List UInt8, l.dropWhile p = [] → ∀ b ∈ l, p b = true
  | [], _, b, hb => absurd hb List.not_mem_nil
  | a :: l, h, b, hb => by
    by_cases c : p a = true
    · rw [List.dropWhile_cons_of_pos c] at h
      rcases List.mem_cons.1 hb with rfl | hb
      · exact c
      · exact dw_nil2 p l h b hb
    · rw [List.dropWhile_cons_of_neg c] at h
      cases h
theorem dw_all (p : UInt8 → Bool) : ∀ l : List UInt8, (∀ b ∈ l.dropWhile p, p b = true) → ∀ b ∈ l, p b = true
  | [], _, b, hb => absurd hb List.not_mem_nil
  | a :: l, h, b, hb => by
    by_cases c : p a = true
    · rw [List.dropWhile_cons_of_pos c] at h
      rcases List.mem_cons.1 hb with rfl | hb
      · exact c
      · exact dw_all p l h b hb
    · rw [List.dropWhile_cons_of_neg c] at h
      exact absurd (h a (List.mem_cons_self ..)) c
theorem trim_nil (l k : List UInt8) : Lib.trimS l k = [] ↔ ∀ b ∈ l, b ∈ k := by
  unfold Lib.trimS Lib.trimLeftS Lib.trimRightS
  constructor
  · intro h b hb
    have h1 := dw_nil2 _ _ h
    have h2 := dw_all (k.contains ·) l.reverse (fun x hx => h1 x (List.mem_reverse.2 hx)) b (List.mem_reverse.2 hb)
    simpa using h2
  · intro h
    have e : l.reverse.dropWhile (k.contains ·) = [] := dw_nil _ _ fun b hb => by simpa using h b (List.mem_reverse.1 hb)
    rw [e]
    rfl
theorem wr_bound (b : UInt8) : 0 ≤ wr b ∧ wr b ≤ 1000 := by
  unfold wr worth wAt
  repeat' split
  all_goals decide
end Go.Proofs.YtnkjeojhiligpaaDoor.RomP
set_option linter.unusedVariables false
set_option linter.unusedSimpArgs false
namespace Go.Proofs.YtnkjeojhiligpaaDoor.Dig08
open Go.RowKit Go.Proofs.YtnkjeojhiligpaaDoor.Ten
def dl (s : ByteArray) (i : Nat) : List UInt8 := s.data.toList.drop i
theorem dl_cons (s : ByteArray) (i : Nat) (h : i < s.size) : dl s i = s.get! i :: dl s (i + 1) := by
  have hl : i < s.data.toList.length := by rw [Array.length_toList]; exact h
  unfold dl
  rw [List.drop_eq_getElem_cons hl]
  congr 1
  show s.data[i]'h = s.data[i]!
  exact (getElem!_pos s.data i h).symm
theorem dl_nil (s : ByteArray) (i : Nat) (h : s.size ≤ i) : dl s i = [] := by
  unfold dl
  exact List.drop_eq_nil_of_le (by rw [Array.length_toList]; exact h)
end Go.Proofs.YtnkjeojhiligpaaDoor.Dig08
set_option linter.unusedVariables false
set_option linter.unusedSimpArgs false
set_option maxRecDepth 100000
namespace Go.Proofs.YtnkjeojhiligpaaDoor.RomH
open Go.RowKit Go.Proofs.YtnkjeojhiligpaaDoorW.PrintWords Go.Proofs.YtnkjeojhiligpaaDoorW.PrintLast Go.Proofs.YtnkjeojhiligpaaDoorW.PrintMore Go.Proofs.YtnkjeojhiligpaaDoor.H Go.Proofs.YtnkjeojhiligpaaDoor.Rom8 Go.Proofs.YtnkjeojhiligpaaDoor.RomP
open Go.Proofs.YtnkjeojhiligpaaDoor.Dig08 (dl dl_cons dl_nil)
theorem Ev.some {α : Type} {g : Nat → Option α} {r : α} (h : ∀ k, g (k + 1) = some r) : Ev g r := Ev.step (f := fun _ => Option.some r) h (Ev.now r)
theorem toL (l : Array UInt8) : (⟨l⟩ : ByteArray).toList = l.toList := by rw [ByteArray.toList_eq]
theorem toLd (l : ByteArray) : l.toList = l.data.toList := by rw [ByteArray.toList_eq]
theorem p1 (d : Nat) (hd : d < 10) : digits_piece.f (d : Int) (⟨#[67]⟩ : ByteArray) (⟨#[68]⟩ : ByteArray) (⟨#[77]⟩ : ByteArray) = some ⟨(pc d [67] [68] [77]).toArray⟩ := by
  rcases (by omega : d = 0 ∨ d = 1 ∨ d = 2 ∨ d = 3 ∨ d = 4 ∨ d = 5 ∨ d = 6 ∨ d = 7 ∨ d = 8 ∨ d = 9) with rfl | rfl | rfl | rfl | rfl | rfl | rfl | rfl | rfl | rfl <;> kernel_rfl
theorem p2 (d : Nat) (hd : d < 10) : digits_piece.f (d : Int) (⟨#[88]⟩ : ByteArray) (⟨#[76]⟩ : ByteArray) (⟨#[67]⟩ : ByteArray) = some ⟨(pc d [88] [76] [67]).toArray⟩ := by
  rcases (by omega : d = 0 ∨ d = 1 ∨ d = 2 ∨ d = 3 ∨ d = 4 ∨ d = 5 ∨ d = 6 ∨ d = 7 ∨ d = 8 ∨ d = 9) with rfl | rfl | rfl | rfl | rfl | rfl | rfl | rfl | rfl | rfl <;> kernel_rfl
theorem p3 (d : Nat) (hd : d < 10) : digits_piece.f (d : Int) (⟨#[73]⟩ : ByteArray) (⟨#[86]⟩ : ByteArray) (⟨#[88]⟩ : ByteArray) = some ⟨(pc d [73] [86] [88]).toArray⟩ := by
  rcases (by omega : d = 0 ∨ d = 1 ∨ d = 2 ∨ d = 3 ∨ d = 4 ∨ d = 5 ∨ d = 6 ∨ d = 7 ∨ d = 8 ∨ d = 9) with rfl | rfl | rfl | rfl | rfl | rfl | rfl | rfl | rfl | rfl <;> kernel_rfl
theorem p0 (d : Nat) (hd : d < 4) : strings_Repeat.f (⟨#[77]⟩ : ByteArray) (d : Int) = some ⟨(pc d [77] [] []).toArray⟩ := by
  rcases (by omega : d = 0 ∨ d = 1 ∨ d = 2 ∨ d = 3) with rfl | rfl | rfl | rfl <;> kernel_rfl
theorem roman_is (n : Nat) (h : n ≤ 3999) : digits_roman.f (n : Int) = some ⟨(rom n).toArray⟩ := by
  have l1 := pc_len (n / 1000) [77] [] [] (by decide) (by decide) (by decide)
  have l2 := pc_len (n / 100 % 10) [67] [68] [77] (by decide) (by decide) (by decide)
  have l3 := pc_len (n / 10 % 10) [88] [76] [67] (by decide) (by decide) (by decide)
  have l4 := pc_len (n % 10) [73] [86] [88] (by decide) (by decide) (by decide)
  unfold digits_roman.f
  rw [z1 n h, z2 n h, z3 n h, z4, z4, z4, p0 _ (by omega)]
  simp only [Option.bind_some]
  rw [p1 _ (by omega)]
  simp only [Option.bind_some]
  rw [if_pos (by rw [mks, mks]; omega), p2 _ (by omega)]
  simp only [Option.bind_some]
  rw [app, if_pos (by rw [mks, mks, List.length_append]; omega), p3 _ (by omega)]
  simp only [Option.bind_some]
  rw [app, if_pos (by rw [mks, mks, List.length_append, List.length_append]; omega), app]
  rfl
theorem lower_is (l : List UInt8) (h1 : l.length ≤ 100) (h2 : ∀ b ∈ l, b.toNat < 128) : strings_ToLower.f ⟨l.toArray⟩ = some ⟨(Lib.toLowerA l).toArray⟩ := by
  unfold strings_ToLower.f
  rw [if_pos ⟨by rw [mks]; omega, h2⟩]
theorem upper_is (l : List UInt8) (h1 : l.length ≤ 100) (h2 : ∀ b ∈ l, b.toNat < 128) : strings_ToUpper.f ⟨l.toArray⟩ = some ⟨(Lib.toUpperA l).toArray⟩ := by
  unfold strings_ToUpper.f
  rw [if_pos ⟨by rw [mks]; omega, h2⟩]
theorem rom_ascii (n : Nat) : ∀ b ∈ rom n, b.toNat < 128 := rom_all _ (fun b hb => by have := (cap_facts b hb).2.2.1; omega) n
theorem roman_ev (n : Int) (small : Bool) : Ev (fun k => digits_Roman.f k n small) (Rom8.f n small) := by
  refine Ev.some fun k => ?_
  unfold digits_Roman.f Rom8.f
  by_cases h1 : n < 1
  · rw [if_pos h1, if_pos (.inl h1)]
    simp only [digits_Roman.j0]
    rw [if_pos trivial]
  rw [if_neg h1]
  by_cases h2 : 3999 < n
  · rw [if_pos (.inr h2), show decide (n > 3999) = true from decide_eq_true h2]
    simp only [digits_Roman.j0]
    rw [if_pos trivial]
  rw [if_neg (by omega), show decide (n > 3999) = false from decide_eq_false h2]
  obtain ⟨n, rfl⟩ := Int.eq_ofNat_of_zero_le (show 0 ≤ n by omega)
  simp only [digits_Roman.j0]
  rw [if_neg Bool.false_ne_true, roman_is n (by omega), Int.toNat_natCast]
  simp only [Option.bind_some]
  cases small with
  | false => rw [if_neg Bool.false_ne_true, if_neg Bool.false_ne_true]
  | true =>
    have hl := rom_len n
    rw [if_pos rfl, if_pos rfl, lower_is (rom n) (by omega) (rom_ascii n), lower_rom]
    rfl
theorem awake_ev : Ev (fun k => idiomlaw08_awake.f k) true := by
  have h := roman_ev 1994 false
  obtain ⟨K, hK⟩ := h
  refine ⟨K, fun k hk => ?_⟩
  have r1 : digits_Render.f (⟨#[97, 114, 97, 98]⟩ : ByteArray) (⟨#[49, 48]⟩ : ByteArray) = some (⟨#[217, 161, 217, 160]⟩, 0) := by kernel_rfl
  have r2 : digits_Read.f (⟨#[108, 97, 116, 110]⟩ : ByteArray) (⟨#[49, 50, 32, 120]⟩ : ByteArray) = some (⟨#[49, 50]⟩, 2, 0) := by kernel_rfl
  have r3 : digits_Roman.f k 1994 false = some (⟨#[77, 67, 77, 88, 67, 73, 86]⟩, 0) := hK k hk
  show idiomlaw08_awake.f k = _
  unfold idiomlaw08_awake.f
  rw [r1, r2, r3]
  simp only [Option.bind_some]
  rw [if_pos (by rw [toL]), if_pos trivial, if_pos (by rw [toL]), if_pos trivial, if_pos trivial, if_pos (by rw [toL])]
  rfl
theorem bt_nat (s : ByteArray) (i : Nat) (h : i < s.size) : bt s (i : Int) = ((s.get! i).toNat : Int) := by
  have h2 : ((i : Int)).toNat < s.size := by omega
  rw [← bt_at s (i : Int) h2]
  congr 1
  have e : s.get! i = s[i]'h := by
    show s.data[i]! = s.data[i]'h
    exact getElem!_pos s.data i h
  rw [e]
  congr 1
theorem wr2 {x y : Int} (h : -1000000000000000 ≤ x ∧ x ≤ 1000000000000000) (e : x = y) : wrap64 x = y := by rw [w64 (by omega) (by omega)]; exact e
/-- The end of the layer's reading. -/
def fin (s : List UInt8) (v : Int) : Int × Int := if v < 1 then (0, 82) else if v > 3999 then (0, 82) else if rom v.toNat = s then (v, 0) else (0, 82)
theorem sum_loop (s : ByteArray) (hs : s.size ≤ 15) : ∀ (d i : Nat) (acc : Int), i + d = s.size → -1000 * (i : Int) ≤ acc ∧ acc ≤ 1000 * (i : Int) → Ev (fun k => digits_FromRoman.l0 k s acc (s.size : Int) (i : Int)) (fin s.data.toList (acc + valL (dl s i))) := by
  intro d
  induction d with
  | zero =>
    intro i acc h1 h2
    refine Ev.some fun k => ?_
    simp only [digits_FromRoman.l0]
    rw [if_neg (by omega), dl_nil s i (by omega)]
    simp only [valL, Int.add_zero]
    unfold fin
    by_cases c1 : acc < 1
    · rw [if_pos c1, if_pos c1]
    rw [if_neg c1, if_neg c1]
    by_cases c2 : acc > 3999
    · rw [if_pos c2, if_pos c2]
    rw [if_neg c2, if_neg c2]
    obtain ⟨n, rfl⟩ := Int.eq_ofNat_of_zero_le (show 0 ≤ acc by omega)
    rw [roman_is n (by omega), Int.toNat_natCast]
    simp only [Option.bind_some]
    rw [toL, toLd]
    simp only []
    by_cases c3 : rom n = s.data.toList
    · rw [if_pos c3, if_pos c3]
    · rw [if_neg c3, if_neg c3]
  | succ d ih =>
    intro i acc h1 h2
    have hi : i < s.size := by omega
    have eb := bt_nat s i hi
    have w : wrap64 ((i : Int) + 1) = ((i + 1 : Nat) : Int) := wr2 (by omega) (by omega)
    have W := Aside0.mk w
    have wb := wr_bound (s.get! i)
    have wdef : digits_worth.f (((s.get! i).toNat : Nat) : Int) = some (wr (s.get! i)) := rfl
    clear w
    rw [dl_cons s i hi]
    by_cases hj : i + 1 < s.size
    · have eb2 := bt_nat s (i + 1) hj
      have wdef2 : digits_worth.f (((s.get! (i + 1)).toNat : Nat) : Int) = some (wr (s.get! (i + 1))) := rfl
      have wneg : Aside0 (wrap64 (-wr (s.get! i)) = -wr (s.get! i)) := ⟨wr2 (by omega) rfl⟩
      have wsum : Aside0 (wrap64 (acc + -wr (s.get! i)) = acc + -wr (s.get! i)) := ⟨wr2 (by omega) rfl⟩
      have wsum2 : Aside0 (wrap64 (acc + wr (s.get! i)) = acc + wr (s.get! i)) := ⟨wr2 (by omega) rfl⟩
      rw [dl_cons s (i + 1) hj]
      simp only [valL]
      rw [← dl_cons s (i + 1) hj]
      have first : ∀ k, digits_FromRoman.l0 (k + 1) s acc (s.size : Int) (i : Int) = if wr (s.get! i) < wr (s.get! (i + 1)) then digits_FromRoman.l0 k s (acc + -wr (s.get! i)) (s.size : Int) ((i + 1 : Nat) : Int) else digits_FromRoman.l0 k s (acc + wr (s.get! i)) (s.size : Int) ((i + 1 : Nat) : Int) := by
        intro k
        simp only [digits_FromRoman.l0]
        rw [if_pos (by omega), if_pos (by omega), if_pos (by omega), eb, wdef, W.out]
        simp only [Option.bind_some]
        rw [if_pos (by omega), if_pos (by omega), eb2, wdef2]
        simp only [Option.bind_some]
        rw [wneg.out, wsum.out, wsum2.out]
      refine Ev.step first ?_
      by_cases c : wr (s.get! i) < wr (s.get! (i + 1))
      · rw [if_pos c, ← Int.add_assoc]
        exact Ev.congr (fun k => if_pos c) (ih (i + 1) _ (by omega) (by omega))
      · rw [if_neg c, ← Int.add_assoc]
        exact Ev.congr (fun k => if_neg c) (ih (i + 1) _ (by omega) (by omega))
    · have wsum2 : Aside0 (wrap64 (acc + wr (s.get! i)) = acc + wr (s.get! i)) := ⟨wr2 (by omega) rfl⟩
      have e : valL (s.get! i :: dl s (i + 1)) = wr (s.get! i) + valL (dl s (i + 1)) := by
        rw [dl_nil s (i + 1) (by omega)]
        simp only [valL, Int.add_zero]
      rw [e, ← Int.add_assoc]
      have first : ∀ k, digits_FromRoman.l0 (k + 1) s acc (s.size : Int) (i : Int) = digits_FromRoman.l0 k s (acc + wr (s.get! i)) (s.size : Int) ((i + 1 : Nat) : Int) := by
        intro k
        simp only [digits_FromRoman.l0]
        rw [if_pos (by omega), if_pos (by omega), if_pos (by omega), eb, wdef, W.out]
        simp only [Option.bind_some]
        rw [if_neg (by omega), wsum2.out]
      exact Ev.step first (ih (i + 1) _ (by omega) (by omega))
theorem fin_rom (n : Nat) (h1 : 1 ≤ n) (h2 : n ≤ 3999) : fin (rom n) (valL (rom n)) = ((n : Int), 0) := by
  unfold fin
  rw [val_rom n h1 h2, if_neg (by omega), if_neg (by omega), Int.toNat_natCast, if_pos rfl]
theorem fin_not (s : List UInt8) (v : Int) (h : ∀ n, 1 ≤ n → n ≤ 3999 → rom n ≠ s) : fin s v = (0, 82) := by
  unfold fin
  by_cases c1 : v < 1
  · rw [if_pos c1]
  rw [if_neg c1]
  by_cases c2 : v > 3999
  · rw [if_pos c2]
  rw [if_neg c2, if_neg (h v.toNat (by omega) (by omega))]
theorem mk_data (s : ByteArray) : s = ⟨s.data.toList.toArray⟩ := by simp
theorem from_ev (s : ByteArray) : Ev (fun k => digits_FromRoman.f k s) (frD s.data.toList) := by
  have hsz : s.data.toList.length = s.size := Array.length_toList
  have bad : ∀ (b : Bool), b = true → Ev (fun k => digits_FromRoman.j0 k s b) (0, 82) := fun b hb => Ev.some fun k => by
    rw [hb]
    simp only [digits_FromRoman.j0]
    rw [if_pos trivial]
  by_cases c1 : (s.size : Int) > 15
  · have hm : frD s.data.toList = (0, 82) := frD_miss _ fun n h1 h2 => by
      have hl := rom_len15 n h2
      exact ⟨fun e => by rw [e] at hsz; omega, fun e => by rw [e, low_len] at hsz; omega⟩
    rw [hm]
    exact Ev.congr (fun k => if_pos c1) (bad true rfl)
  have tr : strings_Trim.f s (⟨#[73, 86, 88, 76, 67, 68, 77, 105, 118, 120, 108, 99, 100, 109]⟩ : ByteArray) = some ⟨(Lib.trimS s.data.toList cs).toArray⟩ := by
    unfold strings_Trim.f
    rw [if_pos ⟨by omega, by decide, fun b hb => (cs_facts b hb).2.1⟩]
    rfl
  have e0 : ∀ k, digits_FromRoman.f k s = digits_FromRoman.j0 k s (Lib.trimS s.data.toList cs != ([] : List UInt8)) := by
    intro k
    unfold digits_FromRoman.f
    rw [if_neg c1, tr]
    simp only [Option.bind_some]
    rw [toL]
  refine Ev.congr e0 ?_
  by_cases c2 : ∀ b ∈ s.data.toList, b ∈ cs
  · have e1 : (Lib.trimS s.data.toList cs != ([] : List UInt8)) = false := by rw [(trim_nil _ _).2 c2]; rfl
    have asc : ∀ b ∈ s.data.toList, b.toNat < 128 := fun b hb => (cs_facts b (c2 b hb)).2.1
    have up : strings_ToUpper.f s = some ⟨(Lib.toUpperA s.data.toList).toArray⟩ := by
      have h := upper_is s.data.toList (by omega) asc
      rwa [← mk_data s] at h
    have lo : strings_ToLower.f s = some ⟨(Lib.toLowerA s.data.toList).toArray⟩ := by
      have h := lower_is s.data.toList (by omega) asc
      rwa [← mk_data s] at h
    rw [e1]
    have ul : (Lib.toUpperA s.data.toList).length = s.size := by unfold Lib.toUpperA; rw [List.length_map, hsz]
    have uz : (⟨(Lib.toUpperA s.data.toList).toArray⟩ : ByteArray).size = s.size := by rw [mks, ul]
    have good : Ev (fun k => digits_FromRoman.j1 k ⟨(Lib.toUpperA s.data.toList).toArray⟩ false) (fin (Lib.toUpperA s.data.toList) (valL (Lib.toUpperA s.data.toList))) := by
      have h := sum_loop ⟨(Lib.toUpperA s.data.toList).toArray⟩ (by omega) _ 0 0 (Nat.zero_add _) (by omega)
      have e : dl ⟨(Lib.toUpperA s.data.toList).toArray⟩ 0 = Lib.toUpperA s.data.toList := by unfold dl; simp
      rw [e, Int.zero_add] at h
      refine Ev.step (fun k => ?_) h
      simp only [digits_FromRoman.j1]
      rw [if_neg Bool.false_ne_true]
      rfl
    have first : ∀ k, digits_FromRoman.j0 (k + 1) s false = if s.data.toList = Lib.toUpperA s.data.toList then digits_FromRoman.j1 k ⟨(Lib.toUpperA s.data.toList).toArray⟩ false else digits_FromRoman.j1 k ⟨(Lib.toUpperA s.data.toList).toArray⟩ (s.data.toList != Lib.toLowerA s.data.toList) := by
      intro k
      simp only [digits_FromRoman.j0]
      rw [if_neg Bool.false_ne_true, up, lo]
      simp only [Option.bind_some]
      rw [toL, toL, toLd]
    refine Ev.step first ?_
    rcases frD_cases s.data.toList with ⟨n, h1, h2, h | h⟩ | hm
    · rw [frD_hit _ n h1 h2 (.inl h)]
      have hu : Lib.toUpperA s.data.toList = rom n := by rw [h, upper_rom]
      refine Ev.congr (fun k => if_pos (by rw [hu, h])) ?_
      rw [hu, fin_rom n h1 h2] at good
      rw [hu]
      exact good
    · rw [frD_hit _ n h1 h2 (.inr h)]
      have hu : Lib.toUpperA s.data.toList = rom n := by rw [h, upper_low]
      have hl : Lib.toLowerA s.data.toList = s.data.toList := by rw [h, lower_low]
      refine Ev.congr (fun k => by rw [if_neg (by rw [hu, h]; exact fun e => rom_ne_low n n h1 h2 e.symm), hl, bne_self_eq_false]) ?_
      rw [hu, fin_rom n h1 h2] at good
      rw [hu]
      exact good
    · rw [frD_miss _ hm]
      by_cases c3 : s.data.toList = Lib.toUpperA s.data.toList
      · refine Ev.congr (fun k => if_pos c3) ?_
        rw [fin_not _ _ (fun n h1 h2 e => (hm n h1 h2).1 (c3.trans e.symm))] at good
        exact good
      · refine Ev.congr (fun k => if_neg c3) ?_
        by_cases c4 : s.data.toList = Lib.toLowerA s.data.toList
        · have hb : (s.data.toList != Lib.toLowerA s.data.toList) = false := bne_eq_false_iff_eq.2 c4
          rw [hb]
          rw [fin_not _ _ (fun n h1 h2 e => (hm n h1 h2).2 ?_)] at good
          · exact good
          · rw [c4, ← lower_rom, e]
            unfold Lib.toLowerA Lib.toUpperA
            rw [List.map_map]
            exact List.map_congr_left fun b hb => (cs_facts b (c2 b hb)).1.symm
        · have hb : (s.data.toList != Lib.toLowerA s.data.toList) = true := bne_iff_ne.2 c4
          rw [hb]
          exact Ev.some fun k => by
            simp only [digits_FromRoman.j1]
            rw [if_pos trivial]
  · have e1 : (Lib.trimS s.data.toList cs != ([] : List UInt8)) = true := bne_iff_ne.2 fun e => c2 ((trim_nil _ _).1 e)
    have hm : frD s.data.toList = (0, 82) := frD_miss _ fun n h1 h2 => ⟨fun e => c2 (by rw [e]; exact rom_all _ (fun b hb => (cap_facts b hb).2.2.2.1) n), fun e => c2 (by rw [e]; exact low_all _ (fun b hb => (cap_facts b hb).2.2.2.2.1) n)⟩
    rw [hm, e1]
    exact bad true rfl
end Go.Proofs.YtnkjeojhiligpaaDoor.RomH
set_option linter.unusedVariables false
set_option linter.unusedSimpArgs false
namespace Go.Proofs.YtnkjeojhiligpaaDoor.DigitsRomanSums
open Go.RowKit Go.Proofs.YtnkjeojhiligpaaDoorW.PrintWords Go.Proofs.YtnkjeojhiligpaaDoorW.PrintLast Go.Proofs.YtnkjeojhiligpaaDoorW.PrintMore Go.Proofs.YtnkjeojhiligpaaDoor.H Go.Proofs.YtnkjeojhiligpaaDoor.Rom8 Go.Proofs.YtnkjeojhiligpaaDoor.RomP Go.Proofs.YtnkjeojhiligpaaDoor.RomH
open Go.Proofs.YtnkjeojhiligpaaDoor.Dig08 (dl dl_cons dl_nil)
/-- The law's own worth. -/
def lw (x : Int) : Int := if x = 73 ∨ x = 105 then 1 else if x = 86 ∨ x = 118 then 5 else if x = 88 ∨ x = 120 then 10 else if x = 76 ∨ x = 108 then 50 else if x = 67 ∨ x = 99 then 100 else if x = 68 ∨ x = 100 then 500 else if x = 77 ∨ x = 109 then 1000 else 0
theorem orb (x a b : Int) (k : Nat) (j : Nat → Int → Bool → Option Int) : (if x = a then j k x (x == a) else j k x (x == b)) = j k x (decide (x = a ∨ x = b)) := by
  by_cases h : x = a
  · rw [if_pos h, decide_eq_true (.inl h), beq_iff_eq.2 h]
  · rw [if_neg h]
    congr 1
    by_cases h2 : x = b
    · rw [decide_eq_true (.inr h2), beq_iff_eq.2 h2]
    · rw [decide_eq_false (by rintro (e | e); exact h e; exact h2 e), beq_eq_false_iff_ne.2 h2]
theorem worth_ev (x : Int) : Ev (fun k => idiomlaw08_worth.f k x) (lw x) := by
  refine ⟨10, fun k hk => ?_⟩
  obtain ⟨k, rfl⟩ : ∃ q, k = q + 10 := ⟨k - 10, by omega⟩
  show idiomlaw08_worth.f (k + 10) x = _
  unfold idiomlaw08_worth.f lw
  rw [orb x 73 105 (k + 10) idiomlaw08_worth.j0]
  by_cases c0 : x = 73 ∨ x = 105
  · rw [decide_eq_true c0, if_pos c0]; rfl
  rw [decide_eq_false c0, if_neg c0]
  simp only [idiomlaw08_worth.j0]
  rw [if_neg Bool.false_ne_true, orb x 86 118 _ idiomlaw08_worth.j1]
  by_cases c1 : x = 86 ∨ x = 118
  · rw [decide_eq_true c1, if_pos c1]; rfl
  rw [decide_eq_false c1, if_neg c1]
  simp only [idiomlaw08_worth.j1]
  rw [if_neg Bool.false_ne_true, orb x 88 120 _ idiomlaw08_worth.j2]
  by_cases c2 : x = 88 ∨ x = 120
  · rw [decide_eq_true c2, if_pos c2]; rfl
  rw [decide_eq_false c2, if_neg c2]
  simp only [idiomlaw08_worth.j2]
  rw [if_neg Bool.false_ne_true, orb x 76 108 _ idiomlaw08_worth.j3]
  by_cases c3 : x = 76 ∨ x = 108
  · rw [decide_eq_true c3, if_pos c3]; rfl
  rw [decide_eq_false c3, if_neg c3]
  simp only [idiomlaw08_worth.j3]
  rw [if_neg Bool.false_ne_true, orb x 67 99 _ idiomlaw08_worth.j4]
  by_cases c4 : x = 67 ∨ x = 99
  · rw [decide_eq_true c4, if_pos c4]; rfl
  rw [decide_eq_false c4, if_neg c4]
  simp only [idiomlaw08_worth.j4]
  rw [if_neg Bool.false_ne_true, orb x 68 100 _ idiomlaw08_worth.j5]
  by_cases c5 : x = 68 ∨ x = 100
  · rw [decide_eq_true c5, if_pos c5]; rfl
  rw [decide_eq_false c5, if_neg c5]
  simp only [idiomlaw08_worth.j5]
  rw [if_neg Bool.false_ne_true]
  by_cases c6 : x = 77
  · rw [if_pos c6, if_pos (.inl c6)]
  rw [if_neg c6]
  by_cases c7 : x = 109
  · rw [if_pos c7, if_pos (.inr c7)]
  rw [if_neg c7, if_neg (by rintro (e | e); exact c6 e; exact c7 e)]
/-- The sum as the law goes. -/
def sumL : List UInt8 → Int
  | [] => 0
  | [b] => lw b.toNat
  | b :: c :: l => (if lw c.toNat > lw b.toNat then -lw b.toNat else lw b.toNat) + sumL (c :: l)
theorem lw_facts : ∀ b ∈ letters, lw (b.toNat : Int) = wr b ∧ lw ((b + 32).toNat : Int) = wr b := by decide
theorem sum_val : ∀ l : List UInt8, (∀ b ∈ l, b ∈ letters) → sumL l = valL l
  | [], _ => rfl
  | [b], h => (lw_facts b (h b (List.mem_cons_self ..))).1
  | b :: c :: l, h => by
    have h1 := (lw_facts b (h b (List.mem_cons_self ..))).1
    have h2 := (lw_facts c (h c (List.mem_cons_of_mem _ (List.mem_cons_self ..)))).1
    simp only [sumL, valL]
    rw [h1, h2, sum_val (c :: l) fun x hx => h x (List.mem_cons_of_mem _ hx)]
theorem sum_low : ∀ l : List UInt8, (∀ b ∈ l, b ∈ letters) → sumL (low l) = valL l
  | [], _ => rfl
  | [b], h => (lw_facts b (h b (List.mem_cons_self ..))).2
  | b :: c :: l, h => by
    have h1 := (lw_facts b (h b (List.mem_cons_self ..))).2
    have h2 := (lw_facts c (h c (List.mem_cons_of_mem _ (List.mem_cons_self ..)))).2
    have h3 := sum_low (c :: l) fun x hx => h x (List.mem_cons_of_mem _ hx)
    simp only [low, List.map_cons] at h3 ⊢
    simp only [sumL, valL]
    rw [h1, h2, h3]
theorem four_low : ∀ l : List UInt8, four (low l) = four l
  | [] => rfl
  | [_] => rfl
  | [_, _] => rfl
  | [_, _, _] => rfl
  | a :: b :: c :: d :: l => by
    have h := four_low (b :: c :: d :: l)
    have e : ∀ x y : UInt8, (x + 32 == y + 32) = (x == y) := fun x y => by
      by_cases hx : x = y
      · rw [hx]; simp
      · have hy : ¬ x + 32 = y + 32 := fun k => hx ((UInt8.add_left_inj 32).1 k)
        rw [beq_eq_false_iff_ne.2 hx, beq_eq_false_iff_ne.2 hy]
    simp only [low, List.map_cons] at h ⊢
    simp only [four]
    rw [h, e, e, e]
/-- No letter four times, by places. -/
theorem four_at : ∀ (l : List UInt8) (i : Nat), four l = true → i + 3 < l.length → ¬ (l.getD (i + 3) 0 = l.getD (i + 2) 0 ∧ l.getD (i + 3) 0 = l.getD (i + 1) 0 ∧ l.getD (i + 3) 0 = l.getD i 0)
  | a :: b :: c :: d :: l, 0, h, _ => by
    simp only [four, Bool.and_eq_true, Bool.not_eq_true', Bool.and_eq_false_iff, beq_eq_false_iff_ne] at h
    rintro ⟨h1, h2, h3⟩
    simp at h1 h2 h3
    rcases h.1 with (k | k) | k
    · exact k h1
    · exact k h2
    · exact k h3
  | a :: b :: c :: d :: l, i + 1, h, hi => by
    simp only [four, Bool.and_eq_true] at h
    have := four_at (b :: c :: d :: l) i h.2 (by simp only [List.length_cons] at hi ⊢; omega)
    exact this
  | [], i, _, hi => by simp at hi
  | [_], i, _, hi => by simp only [List.length_cons, List.length_nil] at hi; omega
  | [_, _], i, _, hi => by simp only [List.length_cons, List.length_nil] at hi; omega
  | [_, _, _], i, _, hi => by simp only [List.length_cons, List.length_nil] at hi; omega
theorem tail_ev (s : ByteArray) : Ev (fun k => idiomlaw08_DigitsRomanSums.j3 k s) true := by
  refine Ev.step (f := fun k => (digits_FromRoman.f k s).bind fun bt143 => (if bt143.2 = 0 then ((digits_Roman.f k bt143.1 false).bind fun bt145 => ((digits_Roman.f k bt143.1 true).bind fun bt147 => (if bt145.2 = 0 then (if bt147.2 = 0 then (if s.toList = bt145.1.toList then (some true) else (some (s.toList == bt147.1.toList))) else (none)) else (none)))) else (some (bt143.1 == 0)))) (fun k => by simp only [idiomlaw08_DigitsRomanSums.j3]) (Ev.bind (from_ev s) ?_)
  rcases frD_cases s.data.toList with ⟨n, h1, h2, h⟩ | hm
  · rw [frD_hit _ n h1 h2 h]
    refine Ev.congr (fun k => if_pos rfl) (Ev.bind (roman_ev _ _) (Ev.bind (roman_ev _ _) ?_))
    have r1 : Rom8.f ((n : Int), (0 : Int)).1 false = (⟨(rom n).toArray⟩, 0) := by
      unfold Rom8.f
      rw [if_neg (by simp only []; omega), if_neg Bool.false_ne_true, Int.toNat_natCast]
    have r2 : Rom8.f ((n : Int), (0 : Int)).1 true = (⟨(low (rom n)).toArray⟩, 0) := by
      unfold Rom8.f
      rw [if_neg (by simp only []; omega), if_pos rfl, Int.toNat_natCast]
    rw [r1, r2]
    refine Ev.some fun k => ?_
    rw [if_pos rfl, if_pos rfl, toL, toL, toLd]
    rcases h with h | h
    · rw [if_pos h]
    · by_cases c : s.data.toList = (rom n).toArray.toList
      · rw [if_pos c]
      · rw [if_neg c, h]
        simp
  · rw [frD_miss _ hm]
    exact Ev.some fun k => rfl
theorem getD_get (t : ByteArray) (i : Nat) (h : i < t.size) : t.data.toList.getD i 0 = t.get! i := by
  have hl : i < t.data.toList.length := by rw [Array.length_toList]; exact h
  rw [List.getD_eq_getElem?_getD, List.getElem?_eq_getElem hl, Option.getD_some]
  show t.data[i]'h = t.data[i]!
  exact (getElem!_pos t.data i h).symm
theorem get_mem (t : ByteArray) (i : Nat) (h : i < t.size) : t.get! i ∈ t.data.toList := by
  have e : t.get! i = t.data[i]'h := getElem!_pos t.data i h
  rw [e]
  exact Array.mem_toList_iff.2 (Array.getElem_mem h)
theorem lw_bound (x : Int) : 0 ≤ lw x ∧ lw x ≤ 1000 := by
  unfold lw
  repeat' split
  all_goals decide
theorem four_bt (t : ByteArray) (m : Nat) (h4 : four t.data.toList = true) (hm : m + 3 < t.size) : ¬ (t.get! (m + 3) = t.get! (m + 2) ∧ t.get! (m + 3) = t.get! (m + 1) ∧ t.get! (m + 3) = t.get! m) := by
  have h := four_at t.data.toList m h4 (by rw [Array.length_toList]; exact hm)
  rw [getD_get t _ hm, getD_get t _ (by omega), getD_get t _ (by omega), getD_get t _ (by omega)] at h
  exact h
theorem loop (n : Int) (small : Bool) (s t : ByteArray) (hz : t.size ≤ 15) (hw : ∀ b ∈ t.data.toList, lw (b.toNat : Int) ≠ 0) (hc : ∀ b ∈ t.data.toList, decide (((b.toNat : Nat) : Int) ≥ 97) = small) (h4 : four t.data.toList = true) :
    ∀ (d i : Nat) (acc : Int), i + d = t.size → -1000 * (i : Int) ≤ acc ∧ acc ≤ 1000 * (i : Int) → acc + sumL (dl t i) = n → Ev (fun k => idiomlaw08_DigitsRomanSums.l0 k n small s t acc (i : Int)) true := by
  intro d
  induction d with
  | zero =>
    intro i acc h1 h2 h3
    rw [dl_nil t i (by omega)] at h3
    simp only [sumL, Int.add_zero] at h3
    refine Ev.step (f := fun k => idiomlaw08_DigitsRomanSums.j3 k s) (fun k => ?_) (tail_ev s)
    simp only [idiomlaw08_DigitsRomanSums.l0]
    rw [if_neg (by omega), if_pos h3]
  | succ d ih =>
    intro i acc h1 h2 h3
    have hi : i < t.size := by omega
    have eb := bt_nat t i hi
    have hb := get_mem t i hi
    have hbw := hw _ hb
    have hbc := hc _ hb
    have lb := lw_bound ((t.get! i).toNat : Int)
    have W : Aside0 (wrap64 ((i : Int) + 1) = ((i + 1 : Nat) : Int)) := ⟨wr2 (by omega) (by omega)⟩
    have wneg : Aside0 (wrap64 (-lw ((t.get! i).toNat : Int)) = -lw ((t.get! i).toNat : Int)) := ⟨wr2 (by omega) rfl⟩
    have wsum : Aside0 (wrap64 (acc + -lw ((t.get! i).toNat : Int)) = acc + -lw ((t.get! i).toNat : Int)) := ⟨wr2 (by omega) rfl⟩
    have wsum2 : Aside0 (wrap64 (acc + lw ((t.get! i).toNat : Int)) = acc + lw ((t.get! i).toNat : Int)) := ⟨wr2 (by omega) rfl⟩
    rw [dl_cons t i hi] at h3
    have go2 : Ev (fun k => idiomlaw08_DigitsRomanSums.j2 k n small s t acc (i : Int) (lw ((t.get! i).toNat : Int)) false) true := by
      by_cases hj : i + 1 < t.size
      · have eb2 := bt_nat t (i + 1) hj
        rw [dl_cons t (i + 1) hj] at h3
        simp only [sumL] at h3
        rw [← dl_cons t (i + 1) hj] at h3
        refine Ev.step (f := fun k => (idiomlaw08_worth.f k ((t.get! (i + 1)).toNat : Int)).bind fun t142 => (if t142 > lw ((t.get! i).toNat : Int) then (idiomlaw08_DigitsRomanSums.l0 k n small s t (acc + -lw ((t.get! i).toNat : Int)) ((i + 1 : Nat) : Int)) else (idiomlaw08_DigitsRomanSums.l0 k n small s t (acc + lw ((t.get! i).toNat : Int)) ((i + 1 : Nat) : Int)))) (fun k => ?_) (Ev.bind (worth_ev _) ?_)
        · simp only [idiomlaw08_DigitsRomanSums.j2]
          rw [if_neg Bool.false_ne_true, W.out, if_pos (by omega), if_pos (by omega), eb2, wneg.out, wsum.out, wsum2.out]
        · by_cases c : lw ((t.get! (i + 1)).toNat : Int) > lw ((t.get! i).toNat : Int)
          · rw [if_pos c, ← Int.add_assoc] at h3
            exact Ev.congr (fun k => if_pos c) (ih (i + 1) _ (by omega) (by omega) h3)
          · rw [if_neg c, ← Int.add_assoc] at h3
            exact Ev.congr (fun k => if_neg c) (ih (i + 1) _ (by omega) (by omega) h3)
      · have e : sumL (t.get! i :: dl t (i + 1)) = lw ((t.get! i).toNat : Int) + sumL (dl t (i + 1)) := by
          rw [dl_nil t (i + 1) (by omega)]
          simp only [sumL, Int.add_zero]
        rw [e, ← Int.add_assoc] at h3
        refine Ev.step (f := fun k => idiomlaw08_DigitsRomanSums.l0 k n small s t (acc + lw ((t.get! i).toNat : Int)) ((i + 1 : Nat) : Int)) (fun k => ?_) (ih (i + 1) _ (by omega) (by omega) h3)
        simp only [idiomlaw08_DigitsRomanSums.j2]
        rw [if_neg Bool.false_ne_true, W.out, if_neg (by omega), wsum2.out]
    by_cases h3i : i < 3
    · refine Ev.step (f := fun k => (idiomlaw08_worth.f k ((t.get! i).toNat : Int)).bind fun t141 => (if t141 = 0 then (idiomlaw08_DigitsRomanSums.j2 k n small s t acc (i : Int) t141 true) else (idiomlaw08_DigitsRomanSums.j2 k n small s t acc (i : Int) t141 false))) (fun k => ?_) (Ev.bind (worth_ev _) (Ev.congr (fun k => if_neg hbw) go2))
      simp only [idiomlaw08_DigitsRomanSums.l0]
      rw [if_pos (by omega), if_pos (by omega), eb, hbc, bne_self_eq_false]
      congr 1
      funext t141
      by_cases c : t141 = 0
      · rw [if_pos c, if_pos c]
      · rw [if_neg c, if_neg c, if_neg Bool.false_ne_true, if_neg (by omega)]
    · obtain ⟨m, rfl⟩ : ∃ m, i = m + 3 := ⟨i - 3, by omega⟩
      have f4 := four_bt t m h4 hi
      have e1 := bt_nat t (m + 2) (by omega)
      have e2 := bt_nat t (m + 1) (by omega)
      have e3 := bt_nat t m (by omega)
      have W1 : Aside0 (wrap64 (((m + 3 : Nat) : Int) - 1) = ((m + 2 : Nat) : Int)) := ⟨wr2 (by omega) (by omega)⟩
      have W2 : Aside0 (wrap64 (((m + 3 : Nat) : Int) - 2) = ((m + 1 : Nat) : Int)) := ⟨wr2 (by omega) (by omega)⟩
      have W3 : Aside0 (wrap64 (((m + 3 : Nat) : Int) - 3) = ((m : Nat) : Int)) := ⟨wr2 (by omega) (by omega)⟩
      refine Ev.step (f := fun k => (idiomlaw08_worth.f k ((t.get! (m + 3)).toNat : Int)).bind fun t141 => (if t141 = 0 then (idiomlaw08_DigitsRomanSums.j2 k n small s t acc ((m + 3 : Nat) : Int) t141 true) else (idiomlaw08_DigitsRomanSums.j2 k n small s t acc ((m + 3 : Nat) : Int) t141 false))) (fun k => ?_) (Ev.bind (worth_ev _) (Ev.congr (fun k => if_neg hbw) go2))
      simp only [idiomlaw08_DigitsRomanSums.l0]
      rw [if_pos (by omega), if_pos (by omega), eb, hbc, bne_self_eq_false]
      congr 1
      funext t141
      by_cases c : t141 = 0
      · rw [if_pos c, if_pos c]
      rw [if_neg c, if_neg c, if_neg Bool.false_ne_true, if_pos (by omega), W1.out, W2.out, W3.out, e1, e2, e3, if_pos (by omega), if_pos (by omega)]
      have inj : ∀ a b : UInt8, ((a.toNat : Nat) : Int) = ((b.toNat : Nat) : Int) → a = b := fun a b h => UInt8.toNat_inj.1 (Int.ofNat.inj h)
      by_cases k1 : ((t.get! (m + 3)).toNat : Int) = ((t.get! (m + 2)).toNat : Int)
      · rw [if_pos k1, if_pos (by omega), if_pos (by omega)]
        by_cases k2 : ((t.get! (m + 3)).toNat : Int) = ((t.get! (m + 1)).toNat : Int)
        · rw [if_pos k2, if_pos (by omega), if_pos (by omega)]
          have k3 : (((t.get! (m + 3)).toNat : Int) == ((t.get! m).toNat : Int)) = false := beq_eq_false_iff_ne.2 fun k3 => f4 ⟨inj _ _ k1, inj _ _ k2, inj _ _ k3⟩
          rw [k3]
        · rw [if_neg k2]
      · rw [if_neg k1]
theorem law (n : Int) (small : Bool) (s : ByteArray) : ∃ k, idiomlaw08_DigitsRomanSums.f k n small s = some true := by
  apply Ev.rounds (g := fun k => idiomlaw08_DigitsRomanSums.f k n small s)
  unfold idiomlaw08_DigitsRomanSums.f
  refine Ev.bind awake_ev (Ev.congr (fun k => if_pos rfl) (Ev.bind (roman_ev n small) ?_))
  by_cases hn : n < 1 ∨ 3999 < n
  · have r : Rom8.f n small = (⟨#[]⟩, 82) := by unfold Rom8.f; rw [if_pos hn]
    rw [r]
    refine Ev.congr (fun k => if_neg (by decide)) ?_
    by_cases h1 : n ≥ 1
    · exact Ev.congr (fun k => by rw [if_pos h1, if_neg (by omega)]) (tail_ev s)
    · exact Ev.congr (fun k => if_neg h1) (tail_ev s)
  · obtain ⟨q, rfl⟩ := Int.eq_ofNat_of_zero_le (show 0 ≤ n by omega)
    have h1 : 1 ≤ q := by omega
    have h2 : q ≤ 3999 := by omega
    have main : ∀ l : List UInt8, Rom8.f (q : Int) small = (⟨l.toArray⟩, 0) → (l = rom q ∨ l = low (rom q)) → l.length ≤ 15 → (∀ b ∈ l, lw (b.toNat : Int) ≠ 0) → (∀ b ∈ l, decide (((b.toNat : Nat) : Int) ≥ 97) = small) → four l = true → sumL l = (q : Int) → Ev (fun k => if (Rom8.f (q : Int) small).2 = 0 then ((digits_FromRoman.f k (Rom8.f (q : Int) small).1).bind fun bt139 => (if bt139.2 = 0 then (if bt139.1 = (q : Int) then (if (q : Int) < 1 then (idiomlaw08_DigitsRomanSums.j0 k (q : Int) small s (Rom8.f (q : Int) small).1 true) else (idiomlaw08_DigitsRomanSums.j0 k (q : Int) small s (Rom8.f (q : Int) small).1 (decide ((q : Int) > 3999)))) else (idiomlaw08_DigitsRomanSums.j0 k (q : Int) small s (Rom8.f (q : Int) small).1 true)) else (idiomlaw08_DigitsRomanSums.j0 k (q : Int) small s (Rom8.f (q : Int) small).1 true))) else (if (q : Int) ≥ 1 then (if (q : Int) ≤ 3999 then (none) else (idiomlaw08_DigitsRomanSums.j3 k s)) else (idiomlaw08_DigitsRomanSums.j3 k s))) true := by
      intro l r hl hz hw hc h4 hsum
      rw [r]
      have fe := from_ev ⟨l.toArray⟩
      have ff : frD (⟨l.toArray⟩ : ByteArray).data.toList = ((q : Int), 0) := frD_hit _ q h1 h2 hl
      rw [ff] at fe
      refine Ev.congr (fun k => if_pos rfl) (Ev.bind fe ?_)
      refine Ev.congr (fun k => by rw [if_pos rfl, if_pos rfl, if_neg (by omega), show decide ((q : Int) > 3999) = false from decide_eq_false (by omega)]) ?_
      have hsz := mks l
      have lp := loop (q : Int) small s ⟨l.toArray⟩ (by omega) hw hc h4 (⟨l.toArray⟩ : ByteArray).size 0 0 (Nat.zero_add _) (by omega) (by
        have e : dl ⟨l.toArray⟩ 0 = l := by unfold dl; simp
        rw [e, hsum, Int.zero_add])
      refine Ev.step (fun k => ?_) lp
      simp only [idiomlaw08_DigitsRomanSums.j0]
      rw [if_neg Bool.false_ne_true]
      rfl
    have lz := rom_len15 q h2
    cases small with
    | false =>
      refine main (rom q) ?_ (.inl rfl) lz (rom_all _ (by decide) q) (rom_all _ (by decide) q) (four_rom q h1 h2) ?_
      · unfold Rom8.f; rw [if_neg hn, if_neg Bool.false_ne_true, Int.toNat_natCast]
      · rw [sum_val _ (rom_all _ (fun b hb => hb) q), val_rom q h1 h2]
    | true =>
      refine main (low (rom q)) ?_ (.inr rfl) (by rw [low_len]; exact lz) (low_all _ (by decide) q) (low_all _ (by decide) q) (by rw [four_low]; exact four_rom q h1 h2) ?_
      · unfold Rom8.f; rw [if_neg hn, if_pos rfl, Int.toNat_natCast]
      · rw [sum_low _ (rom_all _ (fun b hb => hb) q), val_rom q h1 h2]
end Go.Proofs.YtnkjeojhiligpaaDoor.DigitsRomanSums
set_option linter.unusedVariables false
set_option linter.unusedSimpArgs false
namespace Go.Proofs.YtnkjeojhiligpaaDoor.lawDigitsRomanSums
open Go.ChangeShapes Go.WideShapes Go.ChangeAt Go.RowKit
open Go.ChangeMaps (open_string shut_string)
theorem own : ownKnob Tryd.prog.godebug = none := by kernel_rfl
theorem laidOut : laidOutB Tryd.prog = true := by kernel_rfl
set_option maxRecDepth 100000 in
theorem lifted (os : Os) (started : os.Started) (H : Type) (enc : TypeId × Value → H) :
    ReturnsInHanded {} Tryd.checked os 6 .any (fun w args => (Rows.digitsRomanSumsSpec.pre enc Tryd.prog Tryd.f6 [] false w args ∧ laidMetH Tryd.prog Rows.digitsRomanSumsRow.laid w) ∧ sizedMet enc Tryd.prog Tryd.f6 (OpenSpec.ofChange Rows.digitsRomanSumsSpec) false w args)
      (Rows.digitsRomanSumsSpec.post enc Tryd.prog Tryd.f6 false true false false) := by
  refine returnsInHanded_of_change_and (C := Tryd.checked) (X := (fun w _ => laidMetH Tryd.prog Rows.digitsRomanSumsRow.laid w)) (fun _ _ _ hh h => h.of_heap hh) own started (by kernel_rfl) Tryd.func6
    (ChangeSpec.witness_shaped (enc := enc) (C := Tryd.checked) (os := os) (X := (fun w _ => laidMetH Tryd.prog Rows.digitsRomanSumsRow.laid w)) false (World.laidAll Tryd.prog os Rows.digitsRomanSumsRow.laid) #[.int .i64 0, .bool false, .string ByteArray.empty] 12 (World.laidAll_os _ _ _)
      (World.shaped_of_ZipB (by kernel_rfl) (by kernel_rfl)) (by kernel_rfl) (by kernel_rfl) (by kernel_rfl)
      (by rw [MakeChecks.laidMetH_plain _ _ _ (by kernel_rfl)]; exact laidMet_laidAll _ (by kernel_rfl) (by kernel_rfl))) ?_
  intro W base args ds gs before hval0 hW _ hsz0 hL0 _
  have hsz : (DataW.weightsEach Tryd.prog (Tryd.f6.params.toList ++ Rows.digitsRomanSumsSpec.plain.varTypes Tryd.prog) (ds ++ gs)).all (· ≤ reachBytes) = true := hsz0
  have hval : ∀ (j : Nat) t v, Tryd.f6.params[j]? = some t → args[j]? = some v → Value.okWide Tryd.prog W .any base t v := hval0
  have hW' := hW
  obtain ⟨p, q, hA0, hV, rfl, hfz, hnd⟩ := hW
  have hA : DataW.TrodAll enc Tryd.prog W 0 (fun _ => true) true Tryd.f6.params.toList args.toList ds p := hA0
  rw [Tryd.params6] at hA hval hsz
  obtain ⟨v0, vs0, d0, ds0, p0, q0, hargs, rfl, rfl, h0, r0⟩ := trodAll_cons hA
  obtain ⟨v1, vs1, d1, ds1, p1, q1, rfl, rfl, rfl, h1, r1⟩ := trodAll_cons r0
  obtain ⟨v2, vs2, d2, ds2, p2, q2, rfl, rfl, rfl, h2, r2⟩ := trodAll_cons r1
  obtain ⟨rfl, rfl, rfl⟩ := trodAll_nil r2
  obtain rfl : args = #[v0, v1, v2] := by cases args; simp_all
  obtain ⟨rfl, rfl⟩ := trodVars_none hV
  have k0 := h0
  have lt0 : ∀ x ∈ p0, x.block < W.heap.size := by obtain ⟨m, hm⟩ := k0; exact DataW.trod_lt m _ _ _ hm
  have k1 := h1
  have lt1 : ∀ x ∈ p1, x.block < W.heap.size := by obtain ⟨m, hm⟩ := k1; exact DataW.trod_lt m _ _ _ hm
  have k2 := h2
  have lt2 : ∀ x ∈ p2, x.block < W.heap.size := by obtain ⟨m, hm⟩ := k2; exact DataW.trod_lt m _ _ _ hm
  obtain ⟨a0, rfl, rfl, rfl, w0⟩ := open_int Tryd.underlying3 (hval 0 3 v0 rfl rfl) h0
  obtain ⟨a1, rfl, rfl, rfl⟩ := open_bool Tryd.underlying4 (hval 1 4 v1 rfl rfl) h1
  obtain ⟨a2, rfl, rfl, rfl, y2⟩ := open_string Tryd.underlying9 (hval 2 9 v2 rfl rfl) h2
  have w2 : a2.size ≤ 140737488351232 := by
    have z := sized_string hsz (j := 2) (t := 9) rfl rfl
    rw [Array.length_toList] at z
    exact z
  have hL1 : laidMet Tryd.prog Rows.digitsRomanSumsRow.laid W := hL0
  have hG : Stray.Tabs W := utf8Tabs_of_reads (ρ := Tryd.lays260_ren) { Tryd.lays260 with } ⟨by kernel_rfl, by kernel_rfl, by kernel_rfl, by kernel_rfl, by kernel_rfl, by kernel_rfl, by kernel_rfl⟩ (Lib.laidMet.reads hL1 (.tail _ (.tail _ (.head _)))) (Lib.laidMet.reads hL1 (.head _))
  obtain ⟨k, hk⟩ := DigitsRomanSums.law a0 a1 a2
  refine (Go.Proofs.YtnkjeojhiligpaaDoor.H.idiomlaw08_DigitsRomanSums.calls k a0 a1 a2 true W hk hG).mono fun e W' ⟨he, bel0⟩ => ?_
  have bel : Below W.heap.size W W' := by first | exact bel0 | exact YtnkjeojhiligpaaDoorW.PrintWords.Drawn0.below bel0
  subst he
  exact ⟨_, rfl, _, _, _, [], _, [], hW', trodAll_mk1 (shut_bool Tryd.underlying4 _), (trodAll_cons_mk (Below.trod laidOut (by kernel_rfl) (of_decide_eq_true (by kernel_rfl)) k0 bel lt0) (trodAll_cons_mk (Below.trod laidOut (by kernel_rfl) (of_decide_eq_true (by kernel_rfl)) k1 bel lt1) (trodAll_cons_mk (Below.trod laidOut (by kernel_rfl) (of_decide_eq_true (by kernel_rfl)) k2 bel lt2) trodAll_mk0))), rfl, bel.frame _, fun h => by cases h⟩
theorem said : Rows.digitsRomanSumsRow.holds Tryd.pinned (OpenSpec.ofChange Rows.digitsRomanSumsSpec) :=
  OpenClaim.holds_of_wide 6 Tryd.f6 rfl rfl rfl rfl rfl rfl rfl ⟨rfl, rfl, rfl, rfl, rfl⟩ rfl rfl rfl rfl rfl (by kernel_rfl) Tryd.func6 (by kernel_rfl)
    (of_decide_eq_true (by kernel_rfl)) (by unfold Func.isWrapper; first | (rw [if_pos (by decide +kernel)]; kernel_rfl) | (rw [if_neg (by decide +kernel)]; exact ⟨rfl, rfl⟩))
    (fun os started H enc _ => lifted os started H enc)
theorem plain (f : FuncId) (fn : Func) (hf : Tryd.pinned.checked.prog.funcNamed "idiom/idiomlaw08.DigitsRomanSums" = some f) (hfn : Tryd.pinned.checked.prog.funcs[f]? = some fn) :
    false = Tryd.pinned.checked.prog.looks [] ∧ ∀ (j : Nat) t, fn.params[j]? = some t → Tryd.pinned.checked.prog.wantsStandIn t = false := by
  obtain rfl : f = 6 := Option.some.inj ((show Tryd.prog.funcNamed "idiom/idiomlaw08.DigitsRomanSums" = some 6 by kernel_rfl).symm.trans hf) |>.symm
  obtain rfl : fn = Tryd.f6 := (Option.some.inj (Tryd.func6.symm.trans hfn)).symm
  refine ⟨by kernel_rfl, fun j t ht => ?_⟩
  rw [Tryd.params6] at ht
  have hm : t ∈ [3, 4, 9] := by simpa using Array.mem_of_getElem? ht
  have hall : ([3, 4, 9].all fun u => !Tryd.prog.wantsStandIn u) = true := by kernel_rfl
  exact (show Tryd.prog.wantsStandIn t = false by simpa using List.all_eq_true.1 hall t hm)
/-- THE CARD. -/
theorem card : Rows.DigitsRomanSumsCardSaid :=
  Claim7.holds_tied_plain_at .later [] _ _ _ _ said (fun _ h => by cases h) (by kernel_rfl) (fun _ h => by cases h) digitsRomanSums_row_tie rfl ⟨rfl, rfl⟩ (by kernel_rfl) rfl plain (by kernel_rfl)
#print axioms card
end Go.Proofs.YtnkjeojhiligpaaDoor.lawDigitsRomanSums
namespace Go.Proofs.YtnkjeojhiligpaaDoor
/-- The claim, under a short name. -/
theorem digitsRomanSums_holds : Rows.DigitsRomanSumsCardSaid := lawDigitsRomanSums.card
end Go.Proofs.YtnkjeojhiligpaaDoor
