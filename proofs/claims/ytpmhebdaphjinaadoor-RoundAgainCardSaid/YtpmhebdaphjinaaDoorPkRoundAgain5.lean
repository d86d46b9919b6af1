/- Part 6 of 8 of the proof of the law RoundAgain: it is true at every input. Conditions: those of the given row, no others. -/
import Derived.Test.YtpmhebdaphjinaaDoorPkRoundAgain0
import Derived.Test.YtpmhebdaphjinaaDoorPkRoundAgain1
import Derived.Test.YtpmhebdaphjinaaDoorPkRoundAgain2
import Derived.Test.YtpmhebdaphjinaaDoorPkRoundAgain3
import Derived.Test.YtpmhebdaphjinaaDoorPkRoundAgain4
import Derived.Lib.Strings
import Derived.Lib.TrimByte
import Derived.Lib.Repeat
namespace Go.Proofs.YtpmhebdaphjinaaDoor.F
open Go.RowKit Go.Proofs.YtpmhebdaphjinaaDoorW.PrintWords Go.Proofs.YtpmhebdaphjinaaDoorW.PrintLast Go.Proofs.YtpmhebdaphjinaaDoorW.PrintMore Go.Proofs.YtpmhebdaphjinaaDoor.Q
attribute [local go_sem] max2_int min2_int max_two min_two max_three min_three max_four min_four   -- for this text's walks alone
set_option linter.unusedVariables false
set_option linter.unusedSimpArgs false

mutual
def idiomref03_Significant.j0 : Nat → Int → Int → Int → Bool → Bool → ByteArray → ByteArray → Option (Bool × ByteArray × ByteArray × Int)
 | 0, _, _, _, _, _, _, _ => none
 | k + 1, x1, x2, x3, x35, x472000, x472001, x472002 => if x35 = true then (some (false, (⟨#[]⟩ : ByteArray), (⟨#[]⟩ : ByteArray), 1)) else ((idiomref03_count.f k x472000 x472001 x472002).bind fun t474 => (if (wrap64 (t474 - x3)) > 0 then (if x472001.size + x472002.size ≤ 9223372036854775807 then ((idiomref03_Lead.f k (x472001 ++ x472002)).bind fun t475 => (idiomref03_Significant.j1 k x1 x2 (wrap64 (t474 - x3)) (t475.toList != ([48] : List UInt8)) x472000 x472001 x472002)) else (none)) else (idiomref03_Significant.j1 k x1 x2 (wrap64 (t474 - x3)) false x472000 x472001 x472002)))
def idiomref03_Significant.j1 : Nat → Int → Int → Int → Bool → Bool → ByteArray → ByteArray → Option (Bool × ByteArray × ByteArray × Int)
 | 0, _, _, _, _, _, _, _ => none
 | k + 1, x1, x2, x11, x51, x472000, x472001, x472002 => if x51 = true then (if x472001.size + x472002.size ≤ 9223372036854775807 then ((idiomref03_Noughts.f k x11).bind fun t476 => (if 1 + t476.size ≤ 9223372036854775807 then ((idiomref03_turned.f k x1 x472000 (x472001 ++ x472002) ((⟨#[49]⟩ : ByteArray) ++ t476)).bind fun bt477 => (if bt477.2 = 0 then (if x11 ≥ (x472002.size : Int) then ((idiomref03_Noughts.f k (wrap64 (x11 - (x472002.size : Int)))).bind fun t479 => (if bt477.1.size + t479.size ≤ 9223372036854775807 then ((idiomref03_Made.f k x472000 (bt477.1 ++ t479) 0).bind fun bt480 => (idiomref03_Significant.j2 k x2 bt480.1 bt480.2.1 bt480.2.2)) else (none))) else ((idiomref03_Made.f k x472000 bt477.1 (wrap64 ((x472002.size : Int) - x11))).bind fun bt483 => (idiomref03_Significant.j2 k x2 bt483.1 bt483.2.1 bt483.2.2))) else (some (false, (⟨#[]⟩ : ByteArray), (⟨#[]⟩ : ByteArray), bt477.2)))) else (none))) else (none)) else (idiomref03_Significant.j2 k x2 x472000 x472001 x472002)
def idiomref03_Significant.j2 : Nat → Int → Bool → ByteArray → ByteArray → Option (Bool × ByteArray × ByteArray × Int)
 | 0, _, _, _, _ => none
 | k + 1, x2, x472000, x472001, x472002 => idiomref03_Significant.l0 k x2 x472000 x472001 x472002
def idiomref03_Significant.j4 : Nat → Int → Bool → ByteArray → ByteArray → Option (Bool × ByteArray × ByteArray × Int)
 | 0, _, _, _, _ => none
 | k + 1, x2, x472000, x472001, x472002 => idiomref03_Significant.l1 k x2 x472000 x472001 x472002
def idiomref03_Significant.l1 : Nat → Int → Bool → ByteArray → ByteArray → Option (Bool × ByteArray × ByteArray × Int)
 | 0, _, _, _, _ => none
 | k + 1, x2, x472000, x472001, x472002 => (idiomref03_count.f k x472000 x472001 x472002).bind fun t487 => (if t487 < x2 then (if x472002.size + 1 ≤ 9223372036854775807 then (idiomref03_Significant.l1 k x2 x472000 x472001 (x472002 ++ (⟨#[48]⟩ : ByteArray))) else (none)) else ((idiomref03_bound.f x472000 x472001 x472002).bind fun bt488 => (some (bt488.1, bt488.2.1, bt488.2.2.1, bt488.2.2.2))))
def idiomref03_Significant.l0 : Nat → Int → Bool → ByteArray → ByteArray → Option (Bool × ByteArray × ByteArray × Int)
 | 0, _, _, _, _ => none
 | k + 1, x2, x472000, x472001, x472002 => (idiomref03_count.f k x472000 x472001 x472002).bind fun t486 => (if t486 > x2 then (if (x472002.size : Int) > 0 then (if 0 ≤ (wrap64 ((x472002.size : Int) - 1)) then (if (wrap64 ((x472002.size : Int) - 1)) < (x472002.size : Int) then (if (bt x472002 (wrap64 ((x472002.size : Int) - 1))) = 48 then (if (wrap64 ((x472002.size : Int) - 1)) ≤ (x472002.size : Int) then (idiomref03_Significant.l0 k x2 x472000 x472001 (x472002.extract 0 ((wrap64 ((x472002.size : Int) - 1)) : Int).toNat)) else (none)) else (idiomref03_Significant.j4 k x2 x472000 x472001 x472002)) else (none)) else (none)) else (idiomref03_Significant.j4 k x2 x472000 x472001 x472002)) else (idiomref03_Significant.j4 k x2 x472000 x472001 x472002))
end
def idiomref03_Significant.f (k : Nat) (a0_0 : Bool) (a0_1 : ByteArray) (a0_2 : ByteArray) (a1 : Int) (a2 : Int) (a3 : Int) : Option (Bool × ByteArray × ByteArray × Int) := (idiomref03_asked.f k a0_0 a0_1 a0_2 a1).bind fun t473 => (if t473 = 0 then (if a2 < 1 then (idiomref03_Significant.j0 k a1 a2 a3 true a0_0 a0_1 a0_2) else (if a2 > 40 then (idiomref03_Significant.j0 k a1 a2 a3 true a0_0 a0_1 a0_2) else (if a3 < a2 then (idiomref03_Significant.j0 k a1 a2 a3 true a0_0 a0_1 a0_2) else (idiomref03_Significant.j0 k a1 a2 a3 (decide (a3 > 40)) a0_0 a0_1 a0_2)))) else (some (false, (⟨#[]⟩ : ByteArray), (⟨#[]⟩ : ByteArray), t473)))
theorem idiomref03_Significant.mono_l : ∀ k, (∀ y0 y1 y2 y3 y4 y5 y6, LeO (idiomref03_Significant.j0 k y0 y1 y2 y3 y4 y5 y6) (idiomref03_Significant.j0 (k + 1) y0 y1 y2 y3 y4 y5 y6)) ∧ (∀ y0 y1 y2 y3 y4 y5 y6, LeO (idiomref03_Significant.j1 k y0 y1 y2 y3 y4 y5 y6) (idiomref03_Significant.j1 (k + 1) y0 y1 y2 y3 y4 y5 y6)) ∧ (∀ y0 y1 y2 y3, LeO (idiomref03_Significant.j2 k y0 y1 y2 y3) (idiomref03_Significant.j2 (k + 1) y0 y1 y2 y3)) ∧ (∀ y0 y1 y2 y3, LeO (idiomref03_Significant.j4 k y0 y1 y2 y3) (idiomref03_Significant.j4 (k + 1) y0 y1 y2 y3)) ∧ (∀ y0 y1 y2 y3, LeO (idiomref03_Significant.l1 k y0 y1 y2 y3) (idiomref03_Significant.l1 (k + 1) y0 y1 y2 y3)) ∧ (∀ y0 y1 y2 y3, LeO (idiomref03_Significant.l0 k y0 y1 y2 y3) (idiomref03_Significant.l0 (k + 1) y0 y1 y2 y3))
 | 0 => ⟨fun _ _ _ _ _ _ _ r h => by simp [idiomref03_Significant.j0] at h, fun _ _ _ _ _ _ _ r h => by simp [idiomref03_Significant.j1] at h, fun _ _ _ _ r h => by simp [idiomref03_Significant.j2] at h, fun _ _ _ _ r h => by simp [idiomref03_Significant.j4] at h, fun _ _ _ _ r h => by simp [idiomref03_Significant.l1] at h, fun _ _ _ _ r h => by simp [idiomref03_Significant.l0] at h⟩
 | k + 1 => by
  obtain ⟨ih0, ih1, ih2, ih3, ih4, ih5⟩ := idiomref03_Significant.mono_l k
  refine ⟨?_, ?_, ?_, ?_, ?_, ?_⟩
  · intro y0 y1 y2 y3 y4 y5 y6
    unfold idiomref03_Significant.j0
    repeat' first
    | (with_reducible exact ih0 _ _ _ _ _ _ _)
    | (with_reducible exact ih1 _ _ _ _ _ _ _)
    | (with_reducible exact ih2 _ _ _ _)
    | (with_reducible exact ih3 _ _ _ _)
    | (with_reducible exact ih4 _ _ _ _)
    | (with_reducible exact ih5 _ _ _ _)
    | (with_reducible exact idiomref03_Lead.mono _ _)
    | (with_reducible exact idiomref03_Made.mono _ _ _ _)
    | (with_reducible exact idiomref03_Noughts.mono _ _)
    | (with_reducible exact idiomref03_asked.mono _ _ _ _ _)
    | (with_reducible exact idiomref03_count.mono _ _ _ _)
    | (with_reducible exact idiomref03_turned.mono _ _ _ _ _)
    | (with_reducible exact LeO.refl _)
    | (with_reducible exact LeO.none _)
    | (with_reducible refine LeO.ite ?_ ?_)
    | (with_reducible refine LeO.bind ?_ (fun _ => ?_))
    | exact ih0 _ _ _ _ _ _ _
    | exact ih1 _ _ _ _ _ _ _
    | exact ih2 _ _ _ _
    | exact ih3 _ _ _ _
    | exact ih4 _ _ _ _
    | exact ih5 _ _ _ _
    | exact idiomref03_Lead.mono _ _
    | exact idiomref03_Made.mono _ _ _ _
    | exact idiomref03_Noughts.mono _ _
    | exact idiomref03_asked.mono _ _ _ _ _
    | exact idiomref03_count.mono _ _ _ _
    | exact idiomref03_turned.mono _ _ _ _ _
    | exact LeO.none _
    | refine LeO.ite ?_ ?_
    | refine LeO.bind ?_ (fun _ => ?_)
  · intro y0 y1 y2 y3 y4 y5 y6
    unfold idiomref03_Significant.j1
    repeat' first
    | (with_reducible exact ih0 _ _ _ _ _ _ _)
    | (with_reducible exact ih1 _ _ _ _ _ _ _)
    | (with_reducible exact ih2 _ _ _ _)
    | (with_reducible exact ih3 _ _ _ _)
    | (with_reducible exact ih4 _ _ _ _)
    | (with_reducible exact ih5 _ _ _ _)
    | (with_reducible exact idiomref03_Lead.mono _ _)
    | (with_reducible exact idiomref03_Made.mono _ _ _ _)
    | (with_reducible exact idiomref03_Noughts.mono _ _)
    | (with_reducible exact idiomref03_asked.mono _ _ _ _ _)
    | (with_reducible exact idiomref03_count.mono _ _ _ _)
    | (with_reducible exact idiomref03_turned.mono _ _ _ _ _)
    | (with_reducible exact LeO.refl _)
    | (with_reducible exact LeO.none _)
    | (with_reducible refine LeO.ite ?_ ?_)
    | (with_reducible refine LeO.bind ?_ (fun _ => ?_))
    | exact ih0 _ _ _ _ _ _ _
    | exact ih1 _ _ _ _ _ _ _
    | exact ih2 _ _ _ _
    | exact ih3 _ _ _ _
    | exact ih4 _ _ _ _
    | exact ih5 _ _ _ _
    | exact idiomref03_Lead.mono _ _
    | exact idiomref03_Made.mono _ _ _ _
    | exact idiomref03_Noughts.mono _ _
    | exact idiomref03_asked.mono _ _ _ _ _
    | exact idiomref03_count.mono _ _ _ _
    | exact idiomref03_turned.mono _ _ _ _ _
    | exact LeO.none _
    | refine LeO.ite ?_ ?_
    | refine LeO.bind ?_ (fun _ => ?_)
  · intro y0 y1 y2 y3
    unfold idiomref03_Significant.j2
    repeat' first
    | (with_reducible exact ih0 _ _ _ _ _ _ _)
    | (with_reducible exact ih1 _ _ _ _ _ _ _)
    | (with_reducible exact ih2 _ _ _ _)
    | (with_reducible exact ih3 _ _ _ _)
    | (with_reducible exact ih4 _ _ _ _)
    | (with_reducible exact ih5 _ _ _ _)
    | (with_reducible exact idiomref03_Lead.mono _ _)
    | (with_reducible exact idiomref03_Made.mono _ _ _ _)
    | (with_reducible exact idiomref03_Noughts.mono _ _)
    | (with_reducible exact idiomref03_asked.mono _ _ _ _ _)
    | (with_reducible exact idiomref03_count.mono _ _ _ _)
    | (with_reducible exact idiomref03_turned.mono _ _ _ _ _)
    | (with_reducible exact LeO.refl _)
    | (with_reducible exact LeO.none _)
    | (with_reducible refine LeO.ite ?_ ?_)
    | (with_reducible refine LeO.bind ?_ (fun _ => ?_))
    | exact ih0 _ _ _ _ _ _ _
    | exact ih1 _ _ _ _ _ _ _
    | exact ih2 _ _ _ _
    | exact ih3 _ _ _ _
    | exact ih4 _ _ _ _
    | exact ih5 _ _ _ _
    | exact idiomref03_Lead.mono _ _
    | exact idiomref03_Made.mono _ _ _ _
    | exact idiomref03_Noughts.mono _ _
    | exact idiomref03_asked.mono _ _ _ _ _
    | exact idiomref03_count.mono _ _ _ _
    | exact idiomref03_turned.mono _ _ _ _ _
    | exact LeO.none _
    | refine LeO.ite ?_ ?_
    | refine LeO.bind ?_ (fun _ => ?_)
  · intro y0 y1 y2 y3
    unfold idiomref03_Significant.j4
    repeat' first
    | (with_reducible exact ih0 _ _ _ _ _ _ _)
    | (with_reducible exact ih1 _ _ _ _ _ _ _)
    | (with_reducible exact ih2 _ _ _ _)
    | (with_reducible exact ih3 _ _ _ _)
    | (with_reducible exact ih4 _ _ _ _)
    | (with_reducible exact ih5 _ _ _ _)
    | (with_reducible exact idiomref03_Lead.mono _ _)
    | (with_reducible exact idiomref03_Made.mono _ _ _ _)
    | (with_reducible exact idiomref03_Noughts.mono _ _)
    | (with_reducible exact idiomref03_asked.mono _ _ _ _ _)
    | (with_reducible exact idiomref03_count.mono _ _ _ _)
    | (with_reducible exact idiomref03_turned.mono _ _ _ _ _)
    | (with_reducible exact LeO.refl _)
    | (with_reducible exact LeO.none _)
    | (with_reducible refine LeO.ite ?_ ?_)
    | (with_reducible refine LeO.bind ?_ (fun _ => ?_))
    | exact ih0 _ _ _ _ _ _ _
    | exact ih1 _ _ _ _ _ _ _
    | exact ih2 _ _ _ _
    | exact ih3 _ _ _ _
    | exact ih4 _ _ _ _
    | exact ih5 _ _ _ _
    | exact idiomref03_Lead.mono _ _
    | exact idiomref03_Made.mono _ _ _ _
    | exact idiomref03_Noughts.mono _ _
    | exact idiomref03_asked.mono _ _ _ _ _
    | exact idiomref03_count.mono _ _ _ _
    | exact idiomref03_turned.mono _ _ _ _ _
    | exact LeO.none _
    | refine LeO.ite ?_ ?_
    | refine LeO.bind ?_ (fun _ => ?_)
  · intro y0 y1 y2 y3
    unfold idiomref03_Significant.l1
    repeat' first
    | (with_reducible exact ih0 _ _ _ _ _ _ _)
    | (with_reducible exact ih1 _ _ _ _ _ _ _)
    | (with_reducible exact ih2 _ _ _ _)
    | (with_reducible exact ih3 _ _ _ _)
    | (with_reducible exact ih4 _ _ _ _)
    | (with_reducible exact ih5 _ _ _ _)
    | (with_reducible exact idiomref03_Lead.mono _ _)
    | (with_reducible exact idiomref03_Made.mono _ _ _ _)
    | (with_reducible exact idiomref03_Noughts.mono _ _)
    | (with_reducible exact idiomref03_asked.mono _ _ _ _ _)
    | (with_reducible exact idiomref03_count.mono _ _ _ _)
    | (with_reducible exact idiomref03_turned.mono _ _ _ _ _)
    | (with_reducible exact LeO.refl _)
    | (with_reducible exact LeO.none _)
    | (with_reducible refine LeO.ite ?_ ?_)
    | (with_reducible refine LeO.bind ?_ (fun _ => ?_))
    | exact ih0 _ _ _ _ _ _ _
    | exact ih1 _ _ _ _ _ _ _
    | exact ih2 _ _ _ _
    | exact ih3 _ _ _ _
    | exact ih4 _ _ _ _
    | exact ih5 _ _ _ _
    | exact idiomref03_Lead.mono _ _
    | exact idiomref03_Made.mono _ _ _ _
    | exact idiomref03_Noughts.mono _ _
    | exact idiomref03_asked.mono _ _ _ _ _
    | exact idiomref03_count.mono _ _ _ _
    | exact idiomref03_turned.mono _ _ _ _ _
    | exact LeO.none _
    | refine LeO.ite ?_ ?_
    | refine LeO.bind ?_ (fun _ => ?_)
  · intro y0 y1 y2 y3
    unfold idiomref03_Significant.l0
    repeat' first
    | (with_reducible exact ih0 _ _ _ _ _ _ _)
    | (with_reducible exact ih1 _ _ _ _ _ _ _)
    | (with_reducible exact ih2 _ _ _ _)
    | (with_reducible exact ih3 _ _ _ _)
    | (with_reducible exact ih4 _ _ _ _)
    | (with_reducible exact ih5 _ _ _ _)
    | (with_reducible exact idiomref03_Lead.mono _ _)
    | (with_reducible exact idiomref03_Made.mono _ _ _ _)
    | (with_reducible exact idiomref03_Noughts.mono _ _)
    | (with_reducible exact idiomref03_asked.mono _ _ _ _ _)
    | (with_reducible exact idiomref03_count.mono _ _ _ _)
    | (with_reducible exact idiomref03_turned.mono _ _ _ _ _)
    | (with_reducible exact LeO.refl _)
    | (with_reducible exact LeO.none _)
    | (with_reducible refine LeO.ite ?_ ?_)
    | (with_reducible refine LeO.bind ?_ (fun _ => ?_))
    | exact ih0 _ _ _ _ _ _ _
    | exact ih1 _ _ _ _ _ _ _
    | exact ih2 _ _ _ _
    | exact ih3 _ _ _ _
    | exact ih4 _ _ _ _
    | exact ih5 _ _ _ _
    | exact idiomref03_Lead.mono _ _
    | exact idiomref03_Made.mono _ _ _ _
    | exact idiomref03_Noughts.mono _ _
    | exact idiomref03_asked.mono _ _ _ _ _
    | exact idiomref03_count.mono _ _ _ _
    | exact idiomref03_turned.mono _ _ _ _ _
    | exact LeO.none _
    | refine LeO.ite ?_ ?_
    | refine LeO.bind ?_ (fun _ => ?_)
theorem idiomref03_Significant.mono : ∀ a0 a1 a2 a3 a4 a5 k, LeO (idiomref03_Significant.f k a0 a1 a2 a3 a4 a5) (idiomref03_Significant.f (k + 1) a0 a1 a2 a3 a4 a5) := by
 intro a0 a1 a2 a3 a4 a5 k
 obtain ⟨ih0, ih1, ih2, ih3, ih4, ih5⟩ := idiomref03_Significant.mono_l k
 unfold idiomref03_Significant.f
 repeat' first
  | (with_reducible exact ih0 _ _ _ _ _ _ _)
  | (with_reducible exact ih1 _ _ _ _ _ _ _)
  | (with_reducible exact ih2 _ _ _ _)
  | (with_reducible exact ih3 _ _ _ _)
  | (with_reducible exact ih4 _ _ _ _)
  | (with_reducible exact ih5 _ _ _ _)
  | (with_reducible exact idiomref03_Lead.mono _ _)
  | (with_reducible exact idiomref03_Made.mono _ _ _ _)
  | (with_reducible exact idiomref03_Noughts.mono _ _)
  | (with_reducible exact idiomref03_asked.mono _ _ _ _ _)
  | (with_reducible exact idiomref03_count.mono _ _ _ _)
  | (with_reducible exact idiomref03_turned.mono _ _ _ _ _)
  | (with_reducible exact LeO.refl _)
  | (with_reducible exact LeO.none _)
  | (with_reducible refine LeO.ite ?_ ?_)
  | (with_reducible refine LeO.bind ?_ (fun _ => ?_))
  | exact ih0 _ _ _ _ _ _ _
  | exact ih1 _ _ _ _ _ _ _
  | exact ih2 _ _ _ _
  | exact ih3 _ _ _ _
  | exact ih4 _ _ _ _
  | exact ih5 _ _ _ _
  | exact idiomref03_Lead.mono _ _
  | exact idiomref03_Made.mono _ _ _ _
  | exact idiomref03_Noughts.mono _ _
  | exact idiomref03_asked.mono _ _ _ _ _
  | exact idiomref03_count.mono _ _ _ _
  | exact idiomref03_turned.mono _ _ _ _ _
  | exact LeO.none _
  | refine LeO.ite ?_ ?_
  | refine LeO.bind ?_ (fun _ => ?_)
def idiomref03_Significant.T8 : Bool × List (List Nat × List Nat) := (true, [([], []), ([], []), ([1], [1]), ([], []), ([3], [3]), ([], []), ([5], [5]), ([4, 6], [4, 6]), ([], []), ([8], [8]), ([9], [9]), ([0, 2, 7, 10, 9], [0, 2, 7, 10]), ([11], [11]), ([12], [12]), ([12], [12]), ([13, 11, 0, 1, 2, 3, 4, 5, 6, 7, 8, 9, 10, 11, 12, 13], [13]), ([14, 15, 0, 1, 2, 3, 4, 5, 6, 7, 8, 9, 10, 11, 12, 13, 14, 15], [14])])
def idiomref03_Significant.B8 : List Nat := [0, 0, 2, 0, 8, 0, 32, 120, 0, 256, 768, 2047, 4095, 8191, 8191, 16383, 65535]
theorem idiomref03_Significant.tab8 : rtab .any (opsOf Tryd.f21 8) = idiomref03_Significant.T8 := by kernel_rfl
theorem idiomref03_Significant.bits8 : waitsOk idiomref03_Significant.T8.2 idiomref03_Significant.B8 = true := by kernel_rfl
def idiomref03_Significant.T12 : Bool × List (List Nat × List Nat) := (true, [([], []), ([0], [0]), ([], []), ([], []), ([], []), ([4], [4]), ([5], [5]), ([3, 6], [3, 6]), ([7], [7]), ([2, 8], [2, 8]), ([1, 9, 8], [1, 9]), ([10, 10, 0, 1, 2, 3, 4, 5, 6, 7, 8, 9, 10], [10])])
def idiomref03_Significant.B12 : List Nat := [0, 1, 0, 0, 0, 16, 48, 120, 248, 508, 1023, 2047]
theorem idiomref03_Significant.tab12 : rtab .any (opsOf Tryd.f21 12) = idiomref03_Significant.T12 := by kernel_rfl
theorem idiomref03_Significant.bits12 : waitsOk idiomref03_Significant.T12.2 idiomref03_Significant.B12 = true := by kernel_rfl
set_option maxHeartbeats 8000000 in
set_option maxRecDepth 100000 in
theorem idiomref03_Significant.calls (k : Nat) (a0_0 : Bool) (a0_1 : ByteArray) (a0_2 : ByteArray) (a1 : Int) (a2 : Int) (a3 : Int) (r1 : Bool) (r2 : ByteArray) (r3 : ByteArray) (r4 : Int) (w : World) (h : idiomref03_Significant.f k a0_0 a0_1 a0_2 a1 a2 a3 = some (r1, r2, r3, r4)) :
 Calls Tryd.prog 21 #[.agg #[.bool a0_0, .string a0_1, .string a0_2], .int .i64 a1, .int .i64 a2, .int .i64 a3] w fun e w' => e = .returned (.tuple #[.agg #[.bool r1, .string r2, .string r3], .int .i64 r4]) ∧ Below w.heap.size w w' := by
 have hu23 := Tryd.underlying23
 have HB := Aside0.mk (Below.refl w.heap.size w)
 have H : ((idiomref03_asked.f k a0_0 a0_1 a0_2 a1).bind fun t473 => (if t473 = 0 then (if a2 < 1 then (idiomref03_Significant.j0 k a1 a2 a3 true a0_0 a0_1 a0_2) else (if a2 > 40 then (idiomref03_Significant.j0 k a1 a2 a3 true a0_0 a0_1 a0_2) else (if a3 < a2 then (idiomref03_Significant.j0 k a1 a2 a3 true a0_0 a0_1 a0_2) else (idiomref03_Significant.j0 k a1 a2 a3 (decide (a3 > 40)) a0_0 a0_1 a0_2)))) else (some (false, (⟨#[]⟩ : ByteArray), (⟨#[]⟩ : ByteArray), t473)))) = some (r1, r2, r3, r4) := h
 clear h
 replace H := Option.bind_eq_some_iff.mp H
 obtain ⟨t473, A50, H⟩ := H
 replace H : (if t473 = 0 then (if a2 < 1 then (idiomref03_Significant.j0 k a1 a2 a3 true a0_0 a0_1 a0_2) else (if a2 > 40 then (idiomref03_Significant.j0 k a1 a2 a3 true a0_0 a0_1 a0_2) else (if a3 < a2 then (idiomref03_Significant.j0 k a1 a2 a3 true a0_0 a0_1 a0_2) else (idiomref03_Significant.j0 k a1 a2 a3 (decide (a3 > 40)) a0_0 a0_1 a0_2)))) else (some (false, (⟨#[]⟩ : ByteArray), (⟨#[]⟩ : ByteArray), t473))) = some (r1, r2, r3, r4) := H
 have A5 := Aside0.mk A50
 clear A50
 by_cases c6 : t473 = 0
 · rw [if_pos c6] at H
   have c6b0 : (t473 == 0) = true := beq_iff_eq.mpr c6
   have c6b1 : (t473 != 0) = false := bne_eq_false_iff_eq.mpr c6
   try have c6b1z := c6b1
   (try simp only [bne] at c6b1z)
   clear c6
   have HC7 := Aside0.mk H
   clear H
   go_enter Tryd.func21, Tryd.ntmps21
   go_upto_region 4 with (first | ((with_reducible refine gate_dst (N := 4) rfl ?_); (try (refine gate_guard (by rfl) ?_; dsimp only)); refine qx 4 #[.bool a0_0, .string a0_1, .string a0_2] 23 ?_; intro gb471 hg w8 hbox hb; have BK471 := Aside0.mk (hbox); have GW471 := qs hg HB; have GE471 := GW471; replace HB := qn HB hb; clear hb hbox hg) | ((with_reducible refine gate_dst (N := 8) rfl ?_); (try (refine gate_guard (by rfl) ?_; dsimp only)); refine qx 8 #[.bool false, .string (⟨#[]⟩ : ByteArray), .string (⟨#[]⟩ : ByteArray)] 23 ?_; intro gb472 hg w9 hbox hb; have BK472 := Aside0.mk (hbox); have GW472 := qs hg HB; have GE472 := GW472; have NB471_472 := ql_ hg BK471; have NB472_471 := qg_ hg BK471; replace BK471 := qb BK471 hb; replace HB := qn HB hb; clear hb hbox hg; have hnb10 := NB471_472.out; have hnc10 := NB472_471.out; obtain ⟨hcz11_0, hcz11_1, hcz11_2, hfz11_0, hfz11_1, hfz11_2⟩ := q3 BK471) | ((with_reducible refine gate_callee (f := 26) rfl ?_); refine goesL_ (some 16) rfl rfl Tryd.func26 (by kernel_rfl) rfl #[.agg #[.bool a0_0, .string a0_1, .string a0_2], .int .i64 a1] rfl ql ?_; (with_reducible refine (idiomref03_asked.calls k a0_0 a0_1 a0_2 a1 t473 _ A5.out).mono ?_); rintro e w12 ⟨rfl, hb⟩; refine ⟨_, rfl, ?_⟩; replace BK471 := qb BK471 hb; replace BK472 := qb BK472 hb; replace HB := qn HB hb; (try clear hb); (try clear hb2); (try clear hk); (try clear hi)))
   (try simp only [Act.put, List.setIfInBounds_toArray, List.set_cons_zero, List.set_cons_succ])
   go_cut [35] (fun v35 wc => ∃ (kq : Nat) (x35_6 : Bool), v35 = .bool x35_6 ∧ Aside0 (idiomref03_Significant.j0 kq a1 a2 a3 x35_6 a0_0 a0_1 a0_2 = some (r1, r2, r3, r4)) ∧ Aside0 (kq ≤ k) ∧ Aside0 (wc.heap[gb471]? = some (.cells #[.bool a0_0, .string a0_1, .string a0_2] 23 (0, 0))) ∧ Aside0 (wc.heap[gb472]? = some (.cells #[.bool false, .string (⟨#[]⟩ : ByteArray), .string (⟨#[]⟩ : ByteArray)] 23 (0, 0))) ∧ Aside0 (Below w.heap.size w wc))
   case first =>
    have H := HC7.out
    clear HC7
    by_cases c13 : a2 < 1
    · rw [if_pos c13] at H
      have c13b0 : decide (a2 < 1) = true := decide_eq_true c13
      clear c13
      (first | rw [c13b0] | (simp only [i64_w, i32_w]; rw [c13b0]) | skip)
      have H' := Aside0.mk H
      clear H
      go_wp2
      go_meet
      case rel => exact ⟨_, (true), (by first | rfl | (simp; done) | (simp [*]; done)), H', ⟨by first | omega | exact Nat.le_refl _⟩, ⟨qk BK471⟩, ⟨qk BK472⟩, ⟨qh HB⟩⟩
    · rw [if_neg c13] at H
      have c13b0 : decide (a2 < 1) = false := decide_eq_false c13
      clear c13
      (first | rw [c13b0] | (simp only [i64_w, i32_w]; rw [c13b0]) | skip)
      by_cases c14 : a2 > 40
      · rw [if_pos c14] at H
        have c14b0 : decide (40 < a2) = true := decide_eq_true c14
        clear c14
        have H' := Aside0.mk H
        clear H
        go_wp2
        go_meet
        case rel => exact ⟨_, (true), (by first | rfl | (simp; done) | (simp [*]; done)), H', ⟨by first | omega | exact Nat.le_refl _⟩, ⟨qk BK471⟩, ⟨qk BK472⟩, ⟨qh HB⟩⟩
      · rw [if_neg c14] at H
        have c14b0 : decide (40 < a2) = false := decide_eq_false c14
        clear c14
        by_cases c15 : a3 < a2
        · rw [if_pos c15] at H
          have c15b0 : decide (a3 < a2) = true := decide_eq_true c15
          clear c15
          have H' := Aside0.mk H
          clear H
          go_wp2
          go_meet
          case rel => exact ⟨_, (true), (by first | rfl | (simp; done) | (simp [*]; done)), H', ⟨by first | omega | exact Nat.le_refl _⟩, ⟨qk BK471⟩, ⟨qk BK472⟩, ⟨qh HB⟩⟩
        · rw [if_neg c15] at H
          have c15b0 : decide (a3 < a2) = false := decide_eq_false c15
          clear c15
          have H' := Aside0.mk H
          clear H
          go_wp2
          go_meet
          case rel => exact ⟨_, (decide (a3 > 40)), (by first | rfl | (simp; done) | (simp [*]; done)), H', ⟨by first | omega | exact Nat.le_refl _⟩, ⟨qk BK471⟩, ⟨qk BK472⟩, ⟨qh HB⟩⟩
   case rest =>
    clear HC7
    try clear c1
    try clear c2
    try clear p2
    try clear c6
    try clear c6b0
    try clear c6b1
    try clear c10
    try clear c13
    try clear c13b0
    try clear c14
    try clear c14b0
    try clear c15
    try clear c15b0
    try clear hcz11_0
    try clear hcz11_1
    try clear hcz11_2
    try clear hfz11_0
    try clear hfz11_1
    try clear hfz11_2
    obtain ⟨kq, x35_6, rfl, HA, HJ6, BK471, BK472, HB⟩ := hcut
    cases kq with
    | zero => exact absurd HA.out (by simp [idiomref03_Significant.j0])
    | succ kj6 =>
     have H := HA.out
     clear HA
     simp only [idiomref03_Significant.j0] at H
     by_cases c16 : x35_6 = true
     · subst c16
       have H1 : (some (false, (⟨#[]⟩ : ByteArray), (⟨#[]⟩ : ByteArray), 1)) = some (r1, r2, r3, r4) := by rw [if_pos rfl] at H; exact H
       clear H
       have H := H1
       clear H1
       simp only [Option.some.injEq, Prod.mk.injEq] at H
       obtain ⟨rfl, rfl, rfl, rfl⟩ := H
       have hnb17 := NB472_471.out
       have hnc17 := NB471_472.out
       obtain ⟨hcz18_0, hcz18_1, hcz18_2, hfz18_0, hfz18_1, hfz18_2⟩ := q3 BK472
       go_wp2
       refine bodyPost_ret (results_ct rfl _ _ gb472 23 #[.bool false, .string (⟨#[]⟩ : ByteArray), .string (⟨#[]⟩ : ByteArray)] (0, 0) _ rfl (by refine qp 2 #[.bool false, .string (⟨#[]⟩ : ByteArray), .string (⟨#[]⟩ : ByteArray)] ?_; refine qp 1 #[.bool false, .string (⟨#[]⟩ : ByteArray), .string (⟨#[]⟩ : ByteArray)] ?_; refine qp 0 #[.bool false, .string (⟨#[]⟩ : ByteArray), .string (⟨#[]⟩ : ByteArray)] ?_; exact qk BK472) Tryd.underlying23 rfl (by kernel_rfl)) rfl ?_
       exact ⟨qe, qh HB⟩
     · replace c16 := Bool.eq_false_iff.mpr c16
       subst c16
       have H1 : ((idiomref03_count.f kj6 a0_0 a0_1 a0_2).bind fun t474 => (if (wrap64 (t474 - a3)) > 0 then (if a0_1.size + a0_2.size ≤ 9223372036854775807 then ((idiomref03_Lead.f kj6 (a0_1 ++ a0_2)).bind fun t475 => (idiomref03_Significant.j1 kj6 a1 a2 (wrap64 (t474 - a3)) (t475.toList != ([48] : List UInt8)) a0_0 a0_1 a0_2)) else (none)) else (idiomref03_Significant.j1 kj6 a1 a2 (wrap64 (t474 - a3)) false a0_0 a0_1 a0_2))) = some (r1, r2, r3, r4) := by rw [if_neg (show ¬ (false = true) by decide)] at H; exact H
       clear H
       have H := H1
       clear H1
       replace H := Option.bind_eq_some_iff.mp H
       obtain ⟨t474, A190, H⟩ := H
       replace H : (if (wrap64 (t474 - a3)) > 0 then (if a0_1.size + a0_2.size ≤ 9223372036854775807 then ((idiomref03_Lead.f kj6 (a0_1 ++ a0_2)).bind fun t475 => (idiomref03_Significant.j1 kj6 a1 a2 (wrap64 (t474 - a3)) (t475.toList != ([48] : List UInt8)) a0_0 a0_1 a0_2)) else (none)) else (idiomref03_Significant.j1 kj6 a1 a2 (wrap64 (t474 - a3)) false a0_0 a0_1 a0_2)) = some (r1, r2, r3, r4) := H
       have A19 := Aside0.mk A190
       clear A190
       have HC20 := Aside0.mk H
       clear H
       have hnb21 := NB471_472.out
       have hnc21 := NB472_471.out
       obtain ⟨hcz22_0, hcz22_1, hcz22_2, hfz22_0, hfz22_1, hfz22_2⟩ := q3 BK471
       go_upto_region 7 with (first | ((with_reducible refine gate_callee (f := 40) rfl ?_); refine goesL_ (some 38) rfl rfl Tryd.func40 (by kernel_rfl) rfl #[.agg #[.bool a0_0, .string a0_1, .string a0_2]] rfl ql ?_; (with_reducible refine (idiomref03_count.calls kj6 a0_0 a0_1 a0_2 t474 _ A19.out).mono ?_); rintro e w23 ⟨rfl, hb⟩; refine ⟨_, rfl, ?_⟩; replace BK471 := qb BK471 hb; replace BK472 := qb BK472 hb; replace HB := qn HB hb; (try clear hb); (try clear hb2); (try clear hk); (try clear hi)))
       (try simp only [Act.put, List.setIfInBounds_toArray, List.set_cons_zero, List.set_cons_succ])
       go_cut [51] (fun v51 wc => ∃ (kq : Nat) (x51_19 : Bool), v51 = .bool x51_19 ∧ Aside0 (idiomref03_Significant.j1 kq a1 a2 (wrap64 (t474 - a3)) x51_19 a0_0 a0_1 a0_2 = some (r1, r2, r3, r4)) ∧ Aside0 (kq ≤ kj6) ∧ Aside0 (wc.heap[gb471]? = some (.cells #[.bool a0_0, .string a0_1, .string a0_2] 23 (0, 0))) ∧ Aside0 (wc.heap[gb472]? = some (.cells #[.bool false, .string (⟨#[]⟩ : ByteArray), .string (⟨#[]⟩ : ByteArray)] 23 (0, 0))) ∧ Aside0 (Below w.heap.size w wc))
       case first =>
        have H := HC20.out
        clear HC20
        by_cases c24 : (wrap64 (t474 - a3)) > 0
        · rw [if_pos c24] at H
          have c24b0 : decide (0 < (wrap64 (t474 - a3))) = true := decide_eq_true c24
          clear c24
          (first | rw [c24b0] | (simp only [i64_w, i32_w]; rw [c24b0]) | skip)
          by_cases c25 : a0_1.size + a0_2.size ≤ 9223372036854775807
          · rw [if_pos c25] at H
            have c25b0 := eq_true c25
            have c25b1 : decide (a0_1.size + a0_2.size ≤ 9223372036854775807) = true := decide_eq_true c25
            try have c25b2 : (9223372036854775807 < a0_1.size + a0_2.size) = False := eq_false (Nat.not_lt.2 c25)
            replace H := Option.bind_eq_some_iff.mp H
            obtain ⟨t475, A260, H⟩ := H
            replace H : (idiomref03_Significant.j1 kj6 a1 a2 (wrap64 (t474 - a3)) (t475.toList != ([48] : List UInt8)) a0_0 a0_1 a0_2) = some (r1, r2, r3, r4) := H
            have A26 := Aside0.mk A260
            clear A260
            have H' := Aside0.mk H
            clear H
            have hnb27 := NB471_472.out
            have hnc27 := NB472_471.out
            obtain ⟨hcz28_0, hcz28_1, hcz28_2, hfz28_0, hfz28_1, hfz28_2⟩ := q3 BK471
            go_wp2_with (first | (go_at_call 41; (with_reducible refine (idiomref03_Lead.calls kj6 (a0_1 ++ a0_2) t475 _ A26.out).mono ?_); rintro e w' ⟨rfl, ⟨nd, rfl⟩⟩))
            go_meet
            case rel => exact ⟨_, ((t475.toList != ([48] : List UInt8))), (by first | rfl | (simp; done) | (simp [*]; done)), H', ⟨by have := HJ6.out; first | omega | exact Nat.le_refl _⟩, ⟨qk BK471⟩, ⟨qk BK472⟩, ⟨qh HB⟩⟩
          · rw [if_neg c25] at H
            exact absurd H (by simp)
        · rw [if_neg c24] at H
          have c24b0 : decide (0 < (wrap64 (t474 - a3))) = false := decide_eq_false c24
          clear c24
          (first | rw [c24b0] | (simp only [i64_w, i32_w]; rw [c24b0]) | skip)
          have H' := Aside0.mk H
          clear H
          go_wp2
          go_meet
          case rel => exact ⟨_, (false), (by first | rfl | (simp; done) | (simp [*]; done)), H', ⟨by have := HJ6.out; first | omega | exact Nat.le_refl _⟩, ⟨qk BK471⟩, ⟨qk BK472⟩, ⟨qh HB⟩⟩
       case rest =>
        clear HC20
        try clear c1
        try clear c2
        try clear p2
        try clear c4
        try clear c6
        try clear c6b0
        try clear c6b1
        try clear p6
        try clear c10
        try clear c13
        try clear c13b0
        try clear c14
        try clear c14b0
        try clear c15
        try clear c15b0
        try clear c16
        try clear c17
        try clear c21
        try clear c24
        try clear c24b0
        try clear c25
        try clear c25b0
        try clear c25b1
        try clear c25b2
        try clear c26
        try clear c27
        try clear hcz11_0
        try clear hcz11_1
        try clear hcz11_2
        try clear hcz18_0
        try clear hcz18_1
        try clear hcz18_2
        try clear hcz22_0
        try clear hcz22_1
        try clear hcz22_2
        try clear hcz28_0
        try clear hcz28_1
        try clear hcz28_2
        try clear hfz11_0
        try clear hfz11_1
        try clear hfz11_2
        try clear hfz18_0
        try clear hfz18_1
        try clear hfz18_2
        try clear hfz22_0
        try clear hfz22_1
        try clear hfz22_2
        try clear hfz28_0
        try clear hfz28_1
        try clear hfz28_2
        try clear p2
        obtain ⟨kq, x51_19, rfl, HA, HJ19, BK471, BK472, HB⟩ := hcut
        cases kq with
        | zero => exact absurd HA.out (by simp [idiomref03_Significant.j1])
        | succ kj19 =>
         have H := HA.out
         clear HA
         simp only [idiomref03_Significant.j1] at H
         have HC29 := Aside0.mk H
         clear H
         go_upto_if 51 with (fail)
         go_cut [] (fun wc => ∃ (kq : Nat) (x472000_28 : Bool) (x472001_28 : ByteArray) (x472002_28 : ByteArray) (x473000_28 : Bool) (x473001_28 : ByteArray) (x473002_28 : ByteArray), Aside0 (idiomref03_Significant.j2 kq a2 x472000_28 x472001_28 x472002_28 = some (r1, r2, r3, r4)) ∧ Aside0 (kq ≤ kj19) ∧ Aside0 (wc.heap[gb471]? = some (.cells #[.bool x472000_28, .string x472001_28, .string x472002_28] 23 (0, 0))) ∧ Aside0 (wc.heap[gb472]? = some (.cells #[.bool x473000_28, .string x473001_28, .string x473002_28] 23 (0, 0))) ∧ Aside0 (Below w.heap.size w wc))
         case first =>
          have H := HC29.out
          clear HC29
          by_cases c30 : x51_19 = true
          · subst c30
            have H1 : (if a0_1.size + a0_2.size ≤ 9223372036854775807 then ((idiomref03_Noughts.f kj19 (wrap64 (t474 - a3))).bind fun t476 => (if 1 + t476.size ≤ 9223372036854775807 then ((idiomref03_turned.f kj19 a1 a0_0 (a0_1 ++ a0_2) ((⟨#[49]⟩ : ByteArray) ++ t476)).bind fun bt477 => (if bt477.2 = 0 then (if (wrap64 (t474 - a3)) ≥ (a0_2.size : Int) then ((idiomref03_Noughts.f kj19 (wrap64 ((wrap64 (t474 - a3)) - (a0_2.size : Int)))).bind fun t479 => (if bt477.1.size + t479.size ≤ 9223372036854775807 then ((idiomref03_Made.f kj19 a0_0 (bt477.1 ++ t479) 0).bind fun bt480 => (idiomref03_Significant.j2 kj19 a2 bt480.1 bt480.2.1 bt480.2.2)) else (none))) else ((idiomref03_Made.f kj19 a0_0 bt477.1 (wrap64 ((a0_2.size : Int) - (wrap64 (t474 - a3))))).bind fun bt483 => (idiomref03_Significant.j2 kj19 a2 bt483.1 bt483.2.1 bt483.2.2))) else (some (false, (⟨#[]⟩ : ByteArray), (⟨#[]⟩ : ByteArray), bt477.2)))) else (none))) else (none)) = some (r1, r2, r3, r4) := by rw [if_pos rfl] at H; exact H
            clear H
            have H := H1
            clear H1
            by_cases c31 : a0_1.size + a0_2.size ≤ 9223372036854775807
            · rw [if_pos c31] at H
              have c31b0 := eq_true c31
              have c31b1 : decide (a0_1.size + a0_2.size ≤ 9223372036854775807) = true := decide_eq_true c31
              try have c31b2 : (9223372036854775807 < a0_1.size + a0_2.size) = False := eq_false (Nat.not_lt.2 c31)
              replace H := Option.bind_eq_some_iff.mp H
              obtain ⟨t476, A320, H⟩ := H
              replace H : (if 1 + t476.size ≤ 9223372036854775807 then ((idiomref03_turned.f kj19 a1 a0_0 (a0_1 ++ a0_2) ((⟨#[49]⟩ : ByteArray) ++ t476)).bind fun bt477 => (if bt477.2 = 0 then (if (wrap64 (t474 - a3)) ≥ (a0_2.size : Int) then ((idiomref03_Noughts.f kj19 (wrap64 ((wrap64 (t474 - a3)) - (a0_2.size : Int)))).bind fun t479 => (if bt477.1.size + t479.size ≤ 9223372036854775807 then ((idiomref03_Made.f kj19 a0_0 (bt477.1 ++ t479) 0).bind fun bt480 => (idiomref03_Significant.j2 kj19 a2 bt480.1 bt480.2.1 bt480.2.2)) else (none))) else ((idiomref03_Made.f kj19 a0_0 bt477.1 (wrap64 ((a0_2.size : Int) - (wrap64 (t474 - a3))))).bind fun bt483 => (idiomref03_Significant.j2 kj19 a2 bt483.1 bt483.2.1 bt483.2.2))) else (some (false, (⟨#[]⟩ : ByteArray), (⟨#[]⟩ : ByteArray), bt477.2)))) else (none)) = some (r1, r2, r3, r4) := H
              have A32 := Aside0.mk A320
              clear A320
              by_cases c33 : 1 + t476.size ≤ 9223372036854775807
              · rw [if_pos c33] at H
                have c33b0 := eq_true c33
                have c33b1 : decide (1 + t476.size ≤ 9223372036854775807) = true := decide_eq_true c33
                try have c33b2 : (9223372036854775807 < 1 + t476.size) = False := eq_false (Nat.not_lt.2 c33)
                replace H := Option.bind_eq_some_iff.mp H
                obtain ⟨⟨t477, t478⟩, A340, H⟩ := H
                replace H : (if t478 = 0 then (if (wrap64 (t474 - a3)) ≥ (a0_2.size : Int) then ((idiomref03_Noughts.f kj19 (wrap64 ((wrap64 (t474 - a3)) - (a0_2.size : Int)))).bind fun t479 => (if t477.size + t479.size ≤ 9223372036854775807 then ((idiomref03_Made.f kj19 a0_0 (t477 ++ t479) 0).bind fun bt480 => (idiomref03_Significant.j2 kj19 a2 bt480.1 bt480.2.1 bt480.2.2)) else (none))) else ((idiomref03_Made.f kj19 a0_0 t477 (wrap64 ((a0_2.size : Int) - (wrap64 (t474 - a3))))).bind fun bt483 => (idiomref03_Significant.j2 kj19 a2 bt483.1 bt483.2.1 bt483.2.2))) else (some (false, (⟨#[]⟩ : ByteArray), (⟨#[]⟩ : ByteArray), t478))) = some (r1, r2, r3, r4) := H
                have A34 := Aside0.mk A340
                clear A340
                by_cases c35 : t478 = 0
                · rw [if_pos c35] at H
                  have c35b0 : (t478 == 0) = true := beq_iff_eq.mpr c35
                  have c35b1 : (t478 != 0) = false := bne_eq_false_iff_eq.mpr c35
                  try have c35b1z := c35b1
                  (try simp only [bne] at c35b1z)
                  clear c35
                  (first | rw [c35b0] | (simp only [i64_w, i32_w]; rw [c35b0]) | skip)
                  by_cases c36 : (wrap64 (t474 - a3)) ≥ (a0_2.size : Int)
                  · rw [if_pos c36] at H
                    have c36b0 : decide ((a0_2.size : Int) ≤ (wrap64 (t474 - a3))) = true := decide_eq_true c36
                    clear c36
                    replace H := Option.bind_eq_some_iff.mp H
                    obtain ⟨t479, A370, H⟩ := H
                    replace H : (if t477.size + t479.size ≤ 9223372036854775807 then ((idiomref03_Made.f kj19 a0_0 (t477 ++ t479) 0).bind fun bt480 => (idiomref03_Significant.j2 kj19 a2 bt480.1 bt480.2.1 bt480.2.2)) else (none)) = some (r1, r2, r3, r4) := H
                    have A37 := Aside0.mk A370
                    clear A370
                    by_cases c38 : t477.size + t479.size ≤ 9223372036854775807
                    · rw [if_pos c38] at H
                      have c38b0 := eq_true c38
                      have c38b1 : decide (t477.size + t479.size ≤ 9223372036854775807) = true := decide_eq_true c38
                      try have c38b2 : (9223372036854775807 < t477.size + t479.size) = False := eq_false (Nat.not_lt.2 c38)
                      replace H := Option.bind_eq_some_iff.mp H
                      obtain ⟨⟨t480, t481, t482⟩, A390, H⟩ := H
                      replace H : (idiomref03_Significant.j2 kj19 a2 t480 t481 t482) = some (r1, r2, r3, r4) := H
                      have A39 := Aside0.mk A390
                      clear A390
                      have H' := Aside0.mk H
                      clear H
                      try go_wp2
                      replace BK471 := Aside0.mk (blk_drew BK471.out)
                      replace BK472 := Aside0.mk (blk_drew BK472.out)
                      replace HB := Aside0.mk (below_drew1 HB.out)
                      refine start_ (n := 17) (S := fun w' => w'.cell? ⟨gb471, 0, none⟩ = some (.bool a0_0) ∧ w'.cell? ⟨gb471, 1, none⟩ = some (.string a0_1) ∧ w'.cell? ⟨gb471, 2, none⟩ = some (.string a0_2)) (ds := []) #[false, false, false, false, false, false, false, false, false, false, false, false, false, false, false, false, false] (by kernel_rfl) rfl rfl ⟨c_ BK471 0, c_ BK471 1, c_ BK471 2⟩ (fun hHeld => ?_); refine with_tabW idiomref03_Significant.tab8 idiomref03_Significant.bits8 (fun HT_ HW_ => ?_)
                      generalize wc.drew = w40 at BK471 BK472 HB hHeld ⊢
                      refine pz 0 (some 53) #[true, false, false, false, false, false, false, false, false, false, false, false, false, false, false, false, false] HT_ ?_
                      refine pz 1 (some 54) #[true, true, false, false, false, false, false, false, false, false, false, false, false, false, false, false, false] HT_ ?_
                      refine pz 3 (some 56) #[true, true, false, true, false, false, false, false, false, false, false, false, false, false, false, false, false] HT_ ?_
                      refine pz 5 (some 58) #[true, true, false, true, false, true, false, false, false, false, false, false, false, false, false, false, false] HT_ ?_
                      refine pz 8 (some 61) #[true, true, false, true, false, true, false, false, true, false, false, false, false, false, false, false, false] HT_ ?_
                      refine tw3 2 (some 55) #[true, true, true, true, false, true, false, false, true, false, false, false, false, false, false, false, false] HT_ HW_ hHeld ?_
                      refine tw3 4 (some 57) #[true, true, true, true, true, true, false, false, true, false, false, false, false, false, false, false, false] HT_ HW_ hHeld ?_
                      refine tw3 6 (some 59) #[true, true, true, true, true, true, true, false, true, false, false, false, false, false, false, false, false] HT_ HW_ hHeld ?_
                      refine pz 7 (some 60) #[true, true, true, true, true, true, true, true, true, false, false, false, false, false, false, false, false] HT_ ?_
                      refine one_ (i := 9) (N := some 62) #[true, true, true, true, true, true, true, true, true, true, false, false, false, false, false, false, false] rfl rfl (one_of HT_.out (by kernel_rfl)) (by decide) (fun K hK => ?_)
                      refine goes_ Tryd.func28 (by kernel_rfl) rfl #[.int .i64 (wrap64 (t474 - a3))] (by rfl) rfl rfl ql ?_
                      with_reducible refine (idiomref03_Noughts.calls kj19 (wrap64 (t474 - a3)) t476 _ A32.out).mono ?_
                      rintro e w41 ⟨rfl, hb⟩
                      refine ⟨_, rfl, ?_⟩
                      replace BK471 := qb BK471 hb
                      replace BK472 := qb BK472 hb
                      replace HB := qn HB hb
                      (try clear hb)
                      (try clear hb2)
                      (try clear hk)
                      (try clear hi)
                      refine hK.out _ _ ⟨c_ BK471 0, c_ BK471 1, c_ BK471 2⟩ (fun hHeld => ?_)
                      clear hK K
                      refine nz (some 62) ?_
                      refine pz 10 (some 63) #[true, true, true, true, true, true, true, true, true, true, true, false, false, false, false, false, false] HT_ ?_
                      refine one_ (i := 11) (N := some 64) #[true, true, true, true, true, true, true, true, true, true, true, true, false, false, false, false, false] rfl rfl (one_of HT_.out (by kernel_rfl)) (by decide) (fun K hK => ?_)
                      refine goes_ Tryd.func27 (by kernel_rfl) rfl #[.int .i64 a1, .bool a0_0, .string (a0_1 ++ a0_2), .string ((⟨#[49]⟩ : ByteArray) ++ t476)] (by rfl) rfl rfl ql ?_
                      with_reducible refine (idiomref03_turned.calls kj19 a1 a0_0 (a0_1 ++ a0_2) ((⟨#[49]⟩ : ByteArray) ++ t476) t477 t478 _ A34.out).mono ?_
                      rintro e w42 ⟨rfl, hb⟩
                      refine ⟨_, rfl, ?_⟩
                      replace BK471 := qb BK471 hb
                      replace BK472 := qb BK472 hb
                      replace HB := qn HB hb
                      (try clear hb)
                      (try clear hb2)
                      (try clear hk)
                      (try clear hi)
                      refine hK.out _ _ ⟨c_ BK471 0, c_ BK471 1, c_ BK471 2⟩ (fun hHeld => ?_)
                      clear hK K
                      refine nz (some 64) ?_
                      refine pz 12 (some 52) #[true, true, true, true, true, true, true, true, true, true, true, true, true, false, false, false, false] HT_ ?_
                      refine pz 13 (some 65) #[true, true, true, true, true, true, true, true, true, true, true, true, true, true, false, false, false] HT_ ?_
                      refine pz 14 (some 66) #[true, true, true, true, true, true, true, true, true, true, true, true, true, true, true, false, false] HT_ ?_
                      refine pz 15 (some 12) #[true, true, true, true, true, true, true, true, true, true, true, true, true, true, true, true, false] HT_ ?_
                      refine pz 16 (some 13) #[true, true, true, true, true, true, true, true, true, true, true, true, true, true, true, true, true] HT_ ?_
                      refine done_ (done_of HT_.out (by kernel_rfl)) ?_
                      have hnb43 := NB471_472.out
                      have hnc43 := NB472_471.out
                      obtain ⟨hcz44_0, hcz44_1, hcz44_2, hfz44_0, hfz44_1, hfz44_2⟩ := q3 BK471
                      try go_wp2
                      replace BK471 := Aside0.mk (blk_drew BK471.out)
                      replace BK472 := Aside0.mk (blk_drew BK472.out)
                      replace HB := Aside0.mk (below_drew1 HB.out)
                      refine start_ (n := 12) (S := fun w' => w'.cell? ⟨gb471, 0, none⟩ = some (.bool a0_0) ∧ w'.cell? ⟨gb471, 1, none⟩ = some (.string a0_1) ∧ w'.cell? ⟨gb471, 2, none⟩ = some (.string a0_2)) (ds := [11]) #[false, false, false, false, false, false, false, false, false, false, false, false] (by kernel_rfl) rfl rfl ⟨c_ BK471 0, c_ BK471 1, c_ BK471 2⟩ (fun hHeld => ?_); refine with_tabW idiomref03_Significant.tab12 idiomref03_Significant.bits12 (fun HT_ HW_ => ?_)
                      generalize w42.drew = w45 at BK471 BK472 HB hHeld ⊢
                      refine pz 0 (some 76) #[true, false, false, false, false, false, false, false, false, false, false, false] HT_ ?_
                      refine pz 2 (some 78) #[true, false, true, false, false, false, false, false, false, false, false, false] HT_ ?_
                      refine pz 3 (some 79) #[true, false, true, true, false, false, false, false, false, false, false, false] HT_ ?_
                      refine pz 4 (some 80) #[true, false, true, true, true, false, false, false, false, false, false, false] HT_ ?_
                      refine tw3 1 (some 77) #[true, true, true, true, true, false, false, false, false, false, false, false] HT_ HW_ hHeld ?_
                      refine tw3 5 (some 81) #[true, true, true, true, true, true, false, false, false, false, false, false] HT_ HW_ hHeld ?_
                      refine pz 6 (some 82) #[true, true, true, true, true, true, true, false, false, false, false, false] HT_ ?_
                      refine pz 7 (some 83) #[true, true, true, true, true, true, true, true, false, false, false, false] HT_ ?_
                      refine one_ (i := 8) (N := some 84) #[true, true, true, true, true, true, true, true, true, false, false, false] rfl rfl (one_of HT_.out (by kernel_rfl)) (by decide) (fun K hK => ?_)
                      refine goes_ Tryd.func28 (by kernel_rfl) rfl #[.int .i64 (wrap64 ((wrap64 (t474 - a3)) - (a0_2.size : Int)))] (by rfl) rfl rfl ql ?_
                      with_reducible refine (idiomref03_Noughts.calls kj19 (wrap64 ((wrap64 (t474 - a3)) - (a0_2.size : Int))) t479 _ A37.out).mono ?_
                      rintro e w46 ⟨rfl, hb⟩
                      refine ⟨_, rfl, ?_⟩
                      replace BK471 := qb BK471 hb
                      replace BK472 := qb BK472 hb
                      replace HB := qn HB hb
                      (try clear hb)
                      (try clear hb2)
                      (try clear hk)
                      (try clear hi)
                      refine hK.out _ _ ⟨c_ BK471 0, c_ BK471 1, c_ BK471 2⟩ (fun hHeld => ?_)
                      clear hK K
                      refine nz (some 84) ?_
                      refine pz 9 (some 85) #[true, true, true, true, true, true, true, true, true, true, false, false] HT_ ?_
                      refine one_ (i := 10) (N := some 86) #[true, true, true, true, true, true, true, true, true, true, true, false] rfl rfl (one_of HT_.out (by kernel_rfl)) (by decide) (fun K hK => ?_)
                      refine goes_ Tryd.func29 (by kernel_rfl) rfl #[.bool a0_0, .string (t477 ++ t479), .int .i64 0] (by rfl) rfl rfl ql ?_
                      with_reducible refine (idiomref03_Made.calls kj19 a0_0 (t477 ++ t479) 0 t480 t481 t482 _ A39.out).mono ?_
                      rintro e w47 ⟨rfl, hb⟩
                      refine ⟨_, rfl, ?_⟩
                      replace BK471 := qb BK471 hb
                      replace BK472 := qb BK472 hb
                      replace HB := qn HB hb
                      (try clear hb)
                      (try clear hb2)
                      (try clear hk)
                      (try clear hi)
                      refine hK.out _ _ ⟨c_ BK471 0, c_ BK471 1, c_ BK471 2⟩ (fun hHeld => ?_)
                      clear hK K
                      refine nz (some 86) ?_
                      refine last_ (i := 11) (N := none) #[true, true, true, true, true, true, true, true, true, true, true, true] rfl rfl (one_of HT_.out (by kernel_rfl)) (by decide) (fun K hK => ?_)
                      have hs48 : w47.cell? ⟨gb471, 0, none⟩ = some (.bool a0_0) := c_ BK471 0
                      have hfs48 := blk_frozen BK471.out 0
                      have hns48_1 := NB472_471.out
                      have hms48_1 := NB471_472.out
                      have hs49 : w47.cell? ⟨gb471, 1, none⟩ = some (.string a0_1) := c_ BK471 1
                      have hfs49 := blk_frozen BK471.out 1
                      have hns49_1 := NB472_471.out
                      have hms49_1 := NB471_472.out
                      have hs50 : w47.cell? ⟨gb471, 2, none⟩ = some (.string a0_2) := c_ BK471 2
                      have hfs50 := blk_frozen BK471.out 2
                      have hns50_1 := NB472_471.out
                      have hms50_1 := NB471_472.out
                      refine skip_ (w1 := ?_) (by rfl) rfl ?_ ?_
                      rotate_left
                      · go_simp
                        rfl
                      refine hK.out _ _ ?_
                      clear hK K
                      refine done_ (done_of HT_.out (by kernel_rfl)) ?_
                      try go_wp2
                      go_meet
                      case rel => exact ⟨_, (t480), (t481), (t482), (false), ((⟨#[]⟩ : ByteArray)), ((⟨#[]⟩ : ByteArray)), H', ⟨by have := HJ6.out; have := HJ19.out; first | omega | exact Nat.le_refl _⟩, ⟨by refine qp 2 #[.bool t480, .string t481, .string a0_2] ?_; refine qp 1 #[.bool t480, .string a0_1, .string a0_2] ?_; refine qp 0 #[.bool a0_0, .string a0_1, .string a0_2] ?_; exact qk BK471⟩, ⟨by refine qf NB472_471 ?_; refine qf NB472_471 ?_; refine qf NB472_471 ?_; exact qk BK472⟩, ⟨qh HB⟩⟩
                    · rw [if_neg c38] at H
                      exact absurd H (by simp)
                  · rw [if_neg c36] at H
                    have c36b0 : decide ((a0_2.size : Int) ≤ (wrap64 (t474 - a3))) = false := decide_eq_false c36
                    clear c36
                    replace H := Option.bind_eq_some_iff.mp H
                    obtain ⟨⟨t483, t484, t485⟩, A510, H⟩ := H
                    replace H : (idiomref03_Significant.j2 kj19 a2 t483 t484 t485) = some (r1, r2, r3, r4) := H
                    have A51 := Aside0.mk A510
                    clear A510
                    have H' := Aside0.mk H
                    clear H
                    try go_wp2
                    replace BK471 := Aside0.mk (blk_drew BK471.out)
                    replace BK472 := Aside0.mk (blk_drew BK472.out)
                    replace HB := Aside0.mk (below_drew1 HB.out)
                    refine start_ (n := 17) (S := fun w' => w'.cell? ⟨gb471, 0, none⟩ = some (.bool a0_0) ∧ w'.cell? ⟨gb471, 1, none⟩ = some (.string a0_1) ∧ w'.cell? ⟨gb471, 2, none⟩ = some (.string a0_2)) (ds := []) #[false, false, false, false, false, false, false, false, false, false, false, false, false, false, false, false, false] (by kernel_rfl) rfl rfl ⟨c_ BK471 0, c_ BK471 1, c_ BK471 2⟩ (fun hHeld => ?_); refine with_tabW idiomref03_Significant.tab8 idiomref03_Significant.bits8 (fun HT_ HW_ => ?_)
                    generalize wc.drew = w52 at BK471 BK472 HB hHeld ⊢
                    refine pz 0 (some 53) #[true, false, false, false, false, false, false, false, false, false, false, false, false, false, false, false, false] HT_ ?_
                    refine pz 1 (some 54) #[true, true, false, false, false, false, false, false, false, false, false, false, false, false, false, false, false] HT_ ?_
                    refine pz 3 (some 56) #[true, true, false, true, false, false, false, false, false, false, false, false, false, false, false, false, false] HT_ ?_
                    refine pz 5 (some 58) #[true, true, false, true, false, true, false, false, false, false, false, false, false, false, false, false, false] HT_ ?_
                    refine pz 8 (some 61) #[true, true, false, true, false, true, false, false, true, false, false, false, false, false, false, false, false] HT_ ?_
                    refine tw3 2 (some 55) #[true, true, true, true, false, true, false, false, true, false, false, false, false, false, false, false, false] HT_ HW_ hHeld ?_
                    refine tw3 4 (some 57) #[true, true, true, true, true, true, false, false, true, false, false, false, false, false, false, false, false] HT_ HW_ hHeld ?_
                    refine tw3 6 (some 59) #[true, true, true, true, true, true, true, false, true, false, false, false, false, false, false, false, false] HT_ HW_ hHeld ?_
                    refine pz 7 (some 60) #[true, true, true, true, true, true, true, true, true, false, false, false, false, false, false, false, false] HT_ ?_
                    refine one_ (i := 9) (N := some 62) #[true, true, true, true, true, true, true, true, true, true, false, false, false, false, false, false, false] rfl rfl (one_of HT_.out (by kernel_rfl)) (by decide) (fun K hK => ?_)
                    refine goes_ Tryd.func28 (by kernel_rfl) rfl #[.int .i64 (wrap64 (t474 - a3))] (by rfl) rfl rfl ql ?_
                    with_reducible refine (idiomref03_Noughts.calls kj19 (wrap64 (t474 - a3)) t476 _ A32.out).mono ?_
                    rintro e w53 ⟨rfl, hb⟩
                    refine ⟨_, rfl, ?_⟩
                    replace BK471 := qb BK471 hb
                    replace BK472 := qb BK472 hb
                    replace HB := qn HB hb
                    (try clear hb)
                    (try clear hb2)
                    (try clear hk)
                    (try clear hi)
                    refine hK.out _ _ ⟨c_ BK471 0, c_ BK471 1, c_ BK471 2⟩ (fun hHeld => ?_)
                    clear hK K
                    refine nz (some 62) ?_
                    refine pz 10 (some 63) #[true, true, true, true, true, true, true, true, true, true, true, false, false, false, false, false, false] HT_ ?_
                    refine one_ (i := 11) (N := some 64) #[true, true, true, true, true, true, true, true, true, true, true, true, false, false, false, false, false] rfl rfl (one_of HT_.out (by kernel_rfl)) (by decide) (fun K hK => ?_)
                    refine goes_ Tryd.func27 (by kernel_rfl) rfl #[.int .i64 a1, .bool a0_0, .string (a0_1 ++ a0_2), .string ((⟨#[49]⟩ : ByteArray) ++ t476)] (by rfl) rfl rfl ql ?_
                    with_reducible refine (idiomref03_turned.calls kj19 a1 a0_0 (a0_1 ++ a0_2) ((⟨#[49]⟩ : ByteArray) ++ t476) t477 t478 _ A34.out).mono ?_
                    rintro e w54 ⟨rfl, hb⟩
                    refine ⟨_, rfl, ?_⟩
                    replace BK471 := qb BK471 hb
                    replace BK472 := qb BK472 hb
                    replace HB := qn HB hb
                    (try clear hb)
                    (try clear hb2)
                    (try clear hk)
                    (try clear hi)
                    refine hK.out _ _ ⟨c_ BK471 0, c_ BK471 1, c_ BK471 2⟩ (fun hHeld => ?_)
                    clear hK K
                    refine nz (some 64) ?_
                    refine pz 12 (some 52) #[true, true, true, true, true, true, true, true, true, true, true, true, true, false, false, false, false] HT_ ?_
                    refine pz 13 (some 65) #[true, true, true, true, true, true, true, true, true, true, true, true, true, true, false, false, false] HT_ ?_
                    refine pz 14 (some 66) #[true, true, true, true, true, true, true, true, true, true, true, true, true, true, true, false, false] HT_ ?_
                    refine pz 15 (some 12) #[true, true, true, true, true, true, true, true, true, true, true, true, true, true, true, true, false] HT_ ?_
                    refine pz 16 (some 13) #[true, true, true, true, true, true, true, true, true, true, true, true, true, true, true, true, true] HT_ ?_
                    refine done_ (done_of HT_.out (by kernel_rfl)) ?_
                    have hnb55 := NB471_472.out
                    have hnc55 := NB472_471.out
                    obtain ⟨hcz56_0, hcz56_1, hcz56_2, hfz56_0, hfz56_1, hfz56_2⟩ := q3 BK471
                    try go_wp2_with (first | ((with_reducible refine gate_callee (f := 29) rfl ?_); refine goesL_ (some 95) rfl rfl Tryd.func29 (by kernel_rfl) rfl #[.bool a0_0, .string t477, .int .i64 (wrap64 ((a0_2.size : Int) - (wrap64 (t474 - a3))))] rfl ql ?_; (with_reducible refine (idiomref03_Made.calls kj19 a0_0 t477 (wrap64 ((a0_2.size : Int) - (wrap64 (t474 - a3)))) t483 t484 t485 _ A51.out).mono ?_); rintro e w57 ⟨rfl, hb⟩; refine ⟨_, rfl, ?_⟩; replace BK471 := qb BK471 hb; replace BK472 := qb BK472 hb; replace HB := qn HB hb; (try clear hb); (try clear hb2); (try clear hk); (try clear hi); obtain ⟨hcz58_0, hcz58_1, hcz58_2, hfz58_0, hfz58_1, hfz58_2⟩ := q3 BK471))
                    go_meet
                    case rel => exact ⟨_, (t483), (t484), (t485), (false), ((⟨#[]⟩ : ByteArray)), ((⟨#[]⟩ : ByteArray)), H', ⟨by have := HJ6.out; have := HJ19.out; first | omega | exact Nat.le_refl _⟩, ⟨by refine qp 2 #[.bool t483, .string t484, .string a0_2] ?_; refine qp 1 #[.bool t483, .string a0_1, .string a0_2] ?_; refine qp 0 #[.bool a0_0, .string a0_1, .string a0_2] ?_; exact qk BK471⟩, ⟨by refine qf NB472_471 ?_; refine qf NB472_471 ?_; refine qf NB472_471 ?_; exact qk BK472⟩, ⟨qh HB⟩⟩
                · rw [if_neg c35] at H
                  have c35b0 : (t478 == 0) = false := beq_eq_false_iff_ne.mpr c35
                  have c35b1 : (t478 != 0) = true := bne_iff_ne.mpr c35
                  try have c35b1z := c35b1
                  (try simp only [bne] at c35b1z)
                  (first | rw [c35b0] | (simp only [i64_w, i32_w]; rw [c35b0]) | skip)
                  simp only [Option.some.injEq, Prod.mk.injEq] at H
                  obtain ⟨rfl, rfl, rfl, rfl⟩ := H
                  try go_wp2
                  replace BK471 := Aside0.mk (blk_drew BK471.out)
                  replace BK472 := Aside0.mk (blk_drew BK472.out)
                  replace HB := Aside0.mk (below_drew1 HB.out)
                  refine start_ (n := 17) (S := fun w' => w'.cell? ⟨gb471, 0, none⟩ = some (.bool a0_0) ∧ w'.cell? ⟨gb471, 1, none⟩ = some (.string a0_1) ∧ w'.cell? ⟨gb471, 2, none⟩ = some (.string a0_2)) (ds := []) #[false, false, false, false, false, false, false, false, false, false, false, false, false, false, false, false, false] (by kernel_rfl) rfl rfl ⟨c_ BK471 0, c_ BK471 1, c_ BK471 2⟩ (fun hHeld => ?_); refine with_tabW idiomref03_Significant.tab8 idiomref03_Significant.bits8 (fun HT_ HW_ => ?_)
                  generalize wc.drew = w59 at BK471 BK472 HB hHeld ⊢
                  refine pz 0 (some 53) #[true, false, false, false, false, false, false, false, false, false, false, false, false, false, false, false, false] HT_ ?_
                  refine pz 1 (some 54) #[true, true, false, false, false, false, false, false, false, false, false, false, false, false, false, false, false] HT_ ?_
                  refine pz 3 (some 56) #[true, true, false, true, false, false, false, false, false, false, false, false, false, false, false, false, false] HT_ ?_
                  refine pz 5 (some 58) #[true, true, false, true, false, true, false, false, false, false, false, false, false, false, false, false, false] HT_ ?_
                  refine pz 8 (some 61) #[true, true, false, true, false, true, false, false, true, false, false, false, false, false, false, false, false] HT_ ?_
                  refine tw3 2 (some 55) #[true, true, true, true, false, true, false, false, true, false, false, false, false, false, false, false, false] HT_ HW_ hHeld ?_
                  refine tw3 4 (some 57) #[true, true, true, true, true, true, false, false, true, false, false, false, false, false, false, false, false] HT_ HW_ hHeld ?_
                  refine tw3 6 (some 59) #[true, true, true, true, true, true, true, false, true, false, false, false, false, false, false, false, false] HT_ HW_ hHeld ?_
                  refine pz 7 (some 60) #[true, true, true, true, true, true, true, true, true, false, false, false, false, false, false, false, false] HT_ ?_
                  refine one_ (i := 9) (N := some 62) #[true, true, true, true, true, true, true, true, true, true, false, false, false, false, false, false, false] rfl rfl (one_of HT_.out (by kernel_rfl)) (by decide) (fun K hK => ?_)
                  refine goes_ Tryd.func28 (by kernel_rfl) rfl #[.int .i64 (wrap64 (t474 - a3))] (by rfl) rfl rfl ql ?_
                  with_reducible refine (idiomref03_Noughts.calls kj19 (wrap64 (t474 - a3)) t476 _ A32.out).mono ?_
                  rintro e w60 ⟨rfl, hb⟩
                  refine ⟨_, rfl, ?_⟩
                  replace BK471 := qb BK471 hb
                  replace BK472 := qb BK472 hb
                  replace HB := qn HB hb
                  (try clear hb)
                  (try clear hb2)
                  (try clear hk)
                  (try clear hi)
                  refine hK.out _ _ ⟨c_ BK471 0, c_ BK471 1, c_ BK471 2⟩ (fun hHeld => ?_)
                  clear hK K
                  refine nz (some 62) ?_
                  refine pz 10 (some 63) #[true, true, true, true, true, true, true, true, true, true, true, false, false, false, false, false, false] HT_ ?_
                  refine one_ (i := 11) (N := some 64) #[true, true, true, true, true, true, true, true, true, true, true, true, false, false, false, false, false] rfl rfl (one_of HT_.out (by kernel_rfl)) (by decide) (fun K hK => ?_)
                  refine goes_ Tryd.func27 (by kernel_rfl) rfl #[.int .i64 a1, .bool a0_0, .string (a0_1 ++ a0_2), .string ((⟨#[49]⟩ : ByteArray) ++ t476)] (by rfl) rfl rfl ql ?_
                  with_reducible refine (idiomref03_turned.calls kj19 a1 a0_0 (a0_1 ++ a0_2) ((⟨#[49]⟩ : ByteArray) ++ t476) t477 t478 _ A34.out).mono ?_
                  rintro e w61 ⟨rfl, hb⟩
                  refine ⟨_, rfl, ?_⟩
                  replace BK471 := qb BK471 hb
                  replace BK472 := qb BK472 hb
                  replace HB := qn HB hb
                  (try clear hb)
                  (try clear hb2)
                  (try clear hk)
                  (try clear hi)
                  refine hK.out _ _ ⟨c_ BK471 0, c_ BK471 1, c_ BK471 2⟩ (fun hHeld => ?_)
                  clear hK K
                  refine nz (some 64) ?_
                  refine pz 12 (some 52) #[true, true, true, true, true, true, true, true, true, true, true, true, true, false, false, false, false] HT_ ?_
                  refine pz 13 (some 65) #[true, true, true, true, true, true, true, true, true, true, true, true, true, true, false, false, false] HT_ ?_
                  refine pz 14 (some 66) #[true, true, true, true, true, true, true, true, true, true, true, true, true, true, true, false, false] HT_ ?_
                  refine pz 15 (some 12) #[true, true, true, true, true, true, true, true, true, true, true, true, true, true, true, true, false] HT_ ?_
                  refine pz 16 (some 13) #[true, true, true, true, true, true, true, true, true, true, true, true, true, true, true, true, true] HT_ ?_
                  refine done_ (done_of HT_.out (by kernel_rfl)) ?_
                  have hnb62 := NB472_471.out
                  have hnc62 := NB471_472.out
                  obtain ⟨hcz63_0, hcz63_1, hcz63_2, hfz63_0, hfz63_1, hfz63_2⟩ := q3 BK472
                  try go_wp2
                  refine bodyPost_ret (results_ct rfl _ _ gb472 23 #[.bool false, .string (⟨#[]⟩ : ByteArray), .string (⟨#[]⟩ : ByteArray)] (0, 0) _ rfl (by refine qp 2 #[.bool false, .string (⟨#[]⟩ : ByteArray), .string (⟨#[]⟩ : ByteArray)] ?_; refine qp 1 #[.bool false, .string (⟨#[]⟩ : ByteArray), .string (⟨#[]⟩ : ByteArray)] ?_; refine qp 0 #[.bool false, .string (⟨#[]⟩ : ByteArray), .string (⟨#[]⟩ : ByteArray)] ?_; exact qk BK472) Tryd.underlying23 rfl (by kernel_rfl)) rfl ?_
                  exact ⟨qe, qh HB⟩
              · rw [if_neg c33] at H
                exact absurd H (by simp)
            · rw [if_neg c31] at H
              exact absurd H (by simp)
          · replace c30 := Bool.eq_false_iff.mpr c30
            subst c30
            have H1 : (idiomref03_Significant.j2 kj19 a2 a0_0 a0_1 a0_2) = some (r1, r2, r3, r4) := by rw [if_neg (show ¬ (false = true) by decide)] at H; exact H
            clear H
            have H := H1
            clear H1
            have H' := Aside0.mk H
            clear H
            go_wp2
            go_meet
            case rel => exact ⟨_, (a0_0), (a0_1), (a0_2), (false), ((⟨#[]⟩ : ByteArray)), ((⟨#[]⟩ : ByteArray)), H', ⟨by have := HJ6.out; have := HJ19.out; first | omega | exact Nat.le_refl _⟩, ⟨qk BK471⟩, ⟨qk BK472⟩, ⟨qh HB⟩⟩
         case rest =>
          clear HC29
          try clear c2
          try clear p2
          try clear c3
          try clear c4
          try clear c5
          try clear c6
          try clear p6
          try clear c27
          try clear c28
          try clear c29
          try clear c30
          try clear c31
          try clear c33
          try clear c35
          try clear c35b0
          try clear c35b1
          try clear c36
          try clear c36b0
          try clear c38
          try clear c43
          try clear c55
          try clear c62
          try clear hcz44_0
          try clear hcz44_1
          try clear hcz44_2
          try clear hcz56_0
          try clear hcz56_1
          try clear hcz56_2
          try clear hcz58_0
          try clear hcz58_1
          try clear hcz58_2
          try clear hcz63_0
          try clear hcz63_1
          try clear hcz63_2
          try clear hfz44_0
          try clear hfz44_1
          try clear hfz44_2
          try clear hfz56_0
          try clear hfz56_1
          try clear hfz56_2
          try clear hfz58_0
          try clear hfz58_1
          try clear hfz58_2
          try clear hfz63_0
          try clear hfz63_1
          try clear hfz63_2
          obtain ⟨kq, x472000_28, x472001_28, x472002_28, x473000_28, x473001_28, x473002_28, HA, HJ28, BK471, BK472, HB⟩ := hcut
          cases kq with
          | zero => exact absurd HA.out (by simp [idiomref03_Significant.j2])
          | succ kj28 =>
           have H := HA.out
           clear HA
           simp only [idiomref03_Significant.j2] at H
           have HC64 := Aside0.mk H
           clear H
           go_upto_block 0 with (fail)
           go_cut [] (fun wc => ∃ (kq : Nat) (x472002_63 : ByteArray), Aside0 (idiomref03_Significant.j4 kq a2 x472000_28 x472001_28 x472002_63 = some (r1, r2, r3, r4)) ∧ Aside0 (kq ≤ kj28) ∧ Aside0 (wc.heap[gb471]? = some (.cells #[.bool x472000_28, .string x472001_28, .string x472002_63] 23 (0, 0))) ∧ Aside0 (wc.heap[gb472]? = some (.cells #[.bool x473000_28, .string x473001_28, .string x473002_28] 23 (0, 0))) ∧ Aside0 (Below w.heap.size w wc))
           case first =>
            have H := HC64.out
            clear HC64
            have H' := Aside0.mk H
            clear H
            go_wp2
            (try simp only [Act.put, List.setIfInBounds_toArray, List.set_cons_zero, List.set_cons_succ])
            go_loopg [] kj28 (fun kq w' => ∃ (x472002_4 : ByteArray), Aside0 (idiomref03_Significant.l0 kq a2 x472000_28 x472001_28 x472002_4 = some (r1, r2, r3, r4)) ∧ Aside0 (kq ≤ kj28) ∧ Aside0 (w'.heap[gb471]? = some (.cells #[.bool x472000_28, .string x472001_28, .string x472002_4] 23 (0, 0))) ∧ Aside0 (w'.heap[gb472]? = some (.cells #[.bool x473000_28, .string x473001_28, .string x473002_28] 23 (0, 0))) ∧ Aside0 (Below w.heap.size w w'))
            case atStart => exact ⟨(x472002_28), H', ⟨Nat.le_refl _⟩, ⟨qk BK471⟩, ⟨qk BK472⟩, ⟨qh HB⟩⟩
            case round =>
             clear H'
             try clear c2
             try clear p2
             try clear c3
             try clear c4
             try clear c5
             try clear c6
             try clear p6
             try clear c27
             try clear c28
             try clear c29
             try clear c30
             try clear c31
             try clear c33
             try clear c35
             try clear c35b0
             try clear c35b1
             try clear c36
             try clear c36b0
             try clear c38
             try clear c43
             try clear c55
             try clear c62
             try clear p64
             try clear hcz44_0
             try clear hcz44_1
             try clear hcz44_2
             try clear hcz56_0
             try clear hcz56_1
             try clear hcz56_2
             try clear hcz58_0
             try clear hcz58_1
             try clear hcz58_2
             try clear hcz63_0
             try clear hcz63_1
             try clear hcz63_2
             try clear hfz44_0
             try clear hfz44_1
             try clear hfz44_2
             try clear hfz56_0
             try clear hfz56_1
             try clear hfz56_2
             try clear hfz58_0
             try clear hfz58_1
             try clear hfz58_2
             try clear hfz63_0
             try clear hfz63_1
             try clear hfz63_2
             try clear p2
             try clear p6
             obtain ⟨x472002_4, HA, HK4, BK471, BK472, HB⟩ := hrel
             cases gk with
             | zero => exact absurd HA.out (by simp [idiomref03_Significant.l0])
             | succ k4 =>
              have H := HA.out
              clear HA
              simp only [idiomref03_Significant.l0] at H
              replace H := Option.bind_eq_some_iff.mp H
              obtain ⟨t486, A650, H⟩ := H
              replace H : (if t486 > a2 then (if (x472002_4.size : Int) > 0 then (if 0 ≤ (wrap64 ((x472002_4.size : Int) - 1)) then (if (wrap64 ((x472002_4.size : Int) - 1)) < (x472002_4.size : Int) then (if (bt x472002_4 (wrap64 ((x472002_4.size : Int) - 1))) = 48 then (if (wrap64 ((x472002_4.size : Int) - 1)) ≤ (x472002_4.size : Int) then (idiomref03_Significant.l0 k4 a2 x472000_28 x472001_28 (x472002_4.extract 0 ((wrap64 ((x472002_4.size : Int) - 1)) : Int).toNat)) else (none)) else (idiomref03_Significant.j4 k4 a2 x472000_28 x472001_28 x472002_4)) else (none)) else (none)) else (idiomref03_Significant.j4 k4 a2 x472000_28 x472001_28 x472002_4)) else (idiomref03_Significant.j4 k4 a2 x472000_28 x472001_28 x472002_4)) = some (r1, r2, r3, r4) := H
              have A65 := Aside0.mk A650
              clear A650
              by_cases c66 : t486 > a2
              · rw [if_pos c66] at H
                have c66b0 : decide (a2 < t486) = true := decide_eq_true c66
                clear c66
                (first | rw [c66b0] | (simp only [i64_w, i32_w]; rw [c66b0]) | skip)
                by_cases c67 : (x472002_4.size : Int) > 0
                · rw [if_pos c67] at H
                  have c67b0 : decide (0 < (x472002_4.size : Int)) = true := decide_eq_true c67
                  have c67b1 : decide (0 < x472002_4.size) = true := decide_eq_true (by omega)
                  clear c67
                  obtain ⟨ji68, hji68⟩ : ∃ j_ : Int, (wrap64 ((x472002_4.size : Int) - 1)) = j_ := ⟨_, rfl⟩
                  replace H : (if 0 ≤ (ji68) then (if (ji68) < (x472002_4.size : Int) then (if (bt x472002_4 (ji68)) = 48 then (if (ji68) ≤ (x472002_4.size : Int) then (idiomref03_Significant.l0 k4 a2 x472000_28 x472001_28 (x472002_4.extract 0 ((ji68) : Int).toNat)) else (none)) else (idiomref03_Significant.j4 k4 a2 x472000_28 x472001_28 x472002_4)) else (none)) else (none)) = some (r1, r2, r3, r4) := by first | (rw [hji68] at H; exact H) | (simp only [hji68] at H ⊢; exact H)
                  (try rw [hji68] at A65)
                  have hji68w : (IntKind.i64.wrap ((x472002_4.size : Int) - 1)) = ji68 := (i64_w _).trans hji68
                  by_cases c69 : 0 ≤ (ji68)
                  · rw [if_pos c69] at H
                    have c69b0 : decide (0 ≤ (ji68)) = true := decide_eq_true c69
                    clear c69
                    by_cases c70 : (ji68) < (x472002_4.size : Int)
                    · rw [if_pos c70] at H
                      have c70b0 : decide ((ji68) < (x472002_4.size : Int)) = true := decide_eq_true c70
                      clear c70
                      by_cases c72 : (bt x472002_4 (ji68)) = 48
                      · rw [if_pos c72] at H
                        have c72b0 : ((bt x472002_4 (ji68)) == 48) = true := beq_iff_eq.mpr c72
                        have c72b1 : ((bt x472002_4 (ji68)) != 48) = false := bne_eq_false_iff_eq.mpr c72
                        clear c72
                        have c73b0 := eq_true (of_decide_eq_true qa : 0 ≤ (ji68))
                        by_cases c74 : (ji68) ≤ (x472002_4.size : Int)
                        · rw [if_pos c74] at H
                          have c74b0 := eq_true c74
                          have c74b1 : decide ((ji68) ≤ (x472002_4.size : Int)) = true := decide_eq_true c74
                          clear c74
                          have H' := Aside0.mk H
                          clear H
                          have hnb75 := NB471_472.out
                          have hnc75 := NB472_471.out
                          obtain ⟨hcz76_0, hcz76_1, hcz76_2, hfz76_0, hfz76_1, hfz76_2⟩ := q3 BK471
                          go_wp2_with (first | ((with_reducible refine gate_callee (f := 40) rfl ?_); refine goesL_ (some 97) rfl rfl Tryd.func40 (by kernel_rfl) rfl #[.agg #[.bool x472000_28, .string x472001_28, .string x472002_4]] rfl ql ?_; (with_reducible refine (idiomref03_count.calls k4 x472000_28 x472001_28 x472002_4 t486 _ A65.out).mono ?_); rintro e w77 ⟨rfl, hb⟩; refine ⟨_, rfl, ?_⟩; replace BK471 := qb BK471 hb; replace BK472 := qb BK472 hb; replace HB := qn HB hb; (try clear hb); (try clear hb2); (try clear hk); (try clear hi); obtain ⟨hcz78_0, hcz78_1, hcz78_2, hfz78_0, hfz78_1, hfz78_2⟩ := q3 BK471; have p71 : 0 ≤ ((ji68) : Int) := of_decide_eq_true qa; have q71 : (ji68) < (x472002_4.size : Int) := of_decide_eq_true qa; have hx71 := bt_at x472002_4 (ji68); replace p71 := eq_true p71; replace q71 := eq_true q71))
                          go_roundg k4
                          case measure => have := HJ6.out; have := HJ19.out; have := HJ28.out; have := HK4.out; omega
                          case rel => exact ⟨(x472002_4.extract 0 ((ji68) : Int).toNat), H', ⟨by have := HJ6.out; have := HJ19.out; have := HJ28.out; have := HK4.out; omega⟩, ⟨by refine qp 2 #[.bool x472000_28, .string x472001_28, .string x472002_4] ?_; exact qk BK471⟩, ⟨by refine qf NB472_471 ?_; exact qk BK472⟩, ⟨qh HB⟩⟩
                        · rw [if_neg c74] at H
                          exact absurd H (by simp)
                      · rw [if_neg c72] at H
                        have c72b0 : ((bt x472002_4 (ji68)) == 48) = false := beq_eq_false_iff_ne.mpr c72
                        have c72b1 : ((bt x472002_4 (ji68)) != 48) = true := bne_iff_ne.mpr c72
                        have H' := Aside0.mk H
                        clear H
                        have hnb79 := NB471_472.out
                        have hnc79 := NB472_471.out
                        obtain ⟨hcz80_0, hcz80_1, hcz80_2, hfz80_0, hfz80_1, hfz80_2⟩ := q3 BK471
                        go_wp2_with (first | ((with_reducible refine gate_callee (f := 40) rfl ?_); refine goesL_ (some 97) rfl rfl Tryd.func40 (by kernel_rfl) rfl #[.agg #[.bool x472000_28, .string x472001_28, .string x472002_4]] rfl ql ?_; (with_reducible refine (idiomref03_count.calls k4 x472000_28 x472001_28 x472002_4 t486 _ A65.out).mono ?_); rintro e w81 ⟨rfl, hb⟩; refine ⟨_, rfl, ?_⟩; replace BK471 := qb BK471 hb; replace BK472 := qb BK472 hb; replace HB := qn HB hb; (try clear hb); (try clear hb2); (try clear hk); (try clear hi); obtain ⟨hcz82_0, hcz82_1, hcz82_2, hfz82_0, hfz82_1, hfz82_2⟩ := q3 BK471; have p71 : 0 ≤ ((ji68) : Int) := of_decide_eq_true qa; have q71 : (ji68) < (x472002_4.size : Int) := of_decide_eq_true qa; have hx71 := bt_at x472002_4 (ji68); replace p71 := eq_true p71; replace q71 := eq_true q71))
                        go_meet
                        case rel => exact ⟨_, (x472002_4), H', ⟨by have := HJ6.out; have := HJ19.out; have := HJ28.out; have := HK4.out; first | omega | exact Nat.le_refl _⟩, ⟨qk BK471⟩, ⟨qk BK472⟩, ⟨qh HB⟩⟩
                    · rw [if_neg c70] at H
                      exact absurd H (by simp)
                  · rw [if_neg c69] at H
                    exact absurd H (by simp)
                · rw [if_neg c67] at H
                  have c67b0 : decide (0 < (x472002_4.size : Int)) = false := decide_eq_false c67
                  have c67b1 : decide (0 < x472002_4.size) = false := decide_eq_false (by omega)
                  clear c67
                  have H' := Aside0.mk H
                  clear H
                  have hnb83 := NB471_472.out
                  have hnc83 := NB472_471.out
                  obtain ⟨hcz84_0, hcz84_1, hcz84_2, hfz84_0, hfz84_1, hfz84_2⟩ := q3 BK471
                  go_wp2_with (first | ((with_reducible refine gate_callee (f := 40) rfl ?_); refine goesL_ (some 97) rfl rfl Tryd.func40 (by kernel_rfl) rfl #[.agg #[.bool x472000_28, .string x472001_28, .string x472002_4]] rfl ql ?_; (with_reducible refine (idiomref03_count.calls k4 x472000_28 x472001_28 x472002_4 t486 _ A65.out).mono ?_); rintro e w85 ⟨rfl, hb⟩; refine ⟨_, rfl, ?_⟩; replace BK471 := qb BK471 hb; replace BK472 := qb BK472 hb; replace HB := qn HB hb; (try clear hb); (try clear hb2); (try clear hk); (try clear hi); obtain ⟨hcz86_0, hcz86_1, hcz86_2, hfz86_0, hfz86_1, hfz86_2⟩ := q3 BK471))
                  go_meet
                  case rel => exact ⟨_, (x472002_4), H', ⟨by have := HJ6.out; have := HJ19.out; have := HJ28.out; have := HK4.out; first | omega | exact Nat.le_refl _⟩, ⟨qk BK471⟩, ⟨qk BK472⟩, ⟨qh HB⟩⟩
              · rw [if_neg c66] at H
                have c66b0 : decide (a2 < t486) = false := decide_eq_false c66
                clear c66
                (first | rw [c66b0] | (simp only [i64_w, i32_w]; rw [c66b0]) | skip)
                have H' := Aside0.mk H
                clear H
                have hnb87 := NB471_472.out
                have hnc87 := NB472_471.out
                obtain ⟨hcz88_0, hcz88_1, hcz88_2, hfz88_0, hfz88_1, hfz88_2⟩ := q3 BK471
                go_wp2_with (first | ((with_reducible refine gate_callee (f := 40) rfl ?_); refine goesL_ (some 97) rfl rfl Tryd.func40 (by kernel_rfl) rfl #[.agg #[.bool x472000_28, .string x472001_28, .string x472002_4]] rfl ql ?_; (with_reducible refine (idiomref03_count.calls k4 x472000_28 x472001_28 x472002_4 t486 _ A65.out).mono ?_); rintro e w89 ⟨rfl, hb⟩; refine ⟨_, rfl, ?_⟩; replace BK471 := qb BK471 hb; replace BK472 := qb BK472 hb; replace HB := qn HB hb; (try clear hb); (try clear hb2); (try clear hk); (try clear hi)))
                go_meet
                case rel => exact ⟨_, (x472002_4), H', ⟨by have := HJ6.out; have := HJ19.out; have := HJ28.out; have := HK4.out; first | omega | exact Nat.le_refl _⟩, ⟨qk BK471⟩, ⟨qk BK472⟩, ⟨qh HB⟩⟩
           case rest =>
            clear HC64
            try clear c2
            try clear p2
            try clear c3
            try clear c4
            try clear c5
            try clear c6
            try clear p6
            try clear c7
            try clear p7
            try clear q7
            try clear hx7
            try clear c8
            try clear c27
            try clear c28
            try clear c29
            try clear c30
            try clear c31
            try clear c33
            try clear c35
            try clear c35b0
            try clear c35b1
            try clear c36
            try clear c36b0
            try clear c38
            try clear c40
            try clear c43
            try clear c55
            try clear c62
            try clear p64
            try clear c66
            try clear c66b0
            try clear c67
            try clear c67b0
            try clear c67b1
            try clear c69
            try clear c69b0
            try clear c70
            try clear c70b0
            try clear p71
            try clear q71
            try clear hx71
            try clear c72
            try clear c72b0
            try clear c72b1
            try clear c73
            try clear c73b0
            try clear c74
            try clear c74b0
            try clear c74b1
            try clear c75
            try clear c79
            try clear c83
            try clear c87
            try clear hcz44_0
            try clear hcz44_1
            try clear hcz44_2
            try clear hcz56_0
            try clear hcz56_1
            try clear hcz56_2
            try clear hcz58_0
            try clear hcz58_1
            try clear hcz58_2
            try clear hcz63_0
            try clear hcz63_1
            try clear hcz63_2
            try clear hcz76_0
            try clear hcz76_1
            try clear hcz76_2
            try clear hcz78_0
            try clear hcz78_1
            try clear hcz78_2
            try clear hcz80_0
            try clear hcz80_1
            try clear hcz80_2
            try clear hcz82_0
            try clear hcz82_1
            try clear hcz82_2
            try clear hcz84_0
            try clear hcz84_1
            try clear hcz84_2
            try clear hcz86_0
            try clear hcz86_1
            try clear hcz86_2
            try clear hcz88_0
            try clear hcz88_1
            try clear hcz88_2
            try clear hfz44_0
            try clear hfz44_1
            try clear hfz44_2
            try clear hfz56_0
            try clear hfz56_1
            try clear hfz56_2
            try clear hfz58_0
            try clear hfz58_1
            try clear hfz58_2
            try clear hfz63_0
            try clear hfz63_1
            try clear hfz63_2
            try clear hfz76_0
            try clear hfz76_1
            try clear hfz76_2
            try clear hfz78_0
            try clear hfz78_1
            try clear hfz78_2
            try clear hfz80_0
            try clear hfz80_1
            try clear hfz80_2
            try clear hfz82_0
            try clear hfz82_1
            try clear hfz82_2
            try clear hfz84_0
            try clear hfz84_1
            try clear hfz84_2
            try clear hfz86_0
            try clear hfz86_1
            try clear hfz86_2
            try clear hfz88_0
            try clear hfz88_1
            try clear hfz88_2
            try clear p2
            try clear p6
            try clear p64
            try clear p71
            try clear q71
            obtain ⟨kq, x472002_63, HA, HJ63, BK471, BK472, HB⟩ := hcut
            cases kq with
            | zero => exact absurd HA.out (by simp [idiomref03_Significant.j4])
            | succ kj63 =>
             have H := HA.out
             clear HA
             simp only [idiomref03_Significant.j4] at H
             have H' := Aside0.mk H
             clear H
             go_wp2
             (try simp only [Act.put, List.setIfInBounds_toArray, List.set_cons_zero, List.set_cons_succ])
             go_loopg [] kj63 (fun kq w' => ∃ (x472002_5 : ByteArray), Aside0 (idiomref03_Significant.l1 kq a2 x472000_28 x472001_28 x472002_5 = some (r1, r2, r3, r4)) ∧ Aside0 (kq ≤ kj63) ∧ Aside0 (w'.heap[gb471]? = some (.cells #[.bool x472000_28, .string x472001_28, .string x472002_5] 23 (0, 0))) ∧ Aside0 (w'.heap[gb472]? = some (.cells #[.bool x473000_28, .string x473001_28, .string x473002_28] 23 (0, 0))) ∧ Aside0 (Below w.heap.size w w'))
             case atStart => exact ⟨(x472002_63), H', ⟨Nat.le_refl _⟩, ⟨qk BK471⟩, ⟨qk BK472⟩, ⟨qh HB⟩⟩
             case round =>
              clear H'
              try clear c2
              try clear p2
              try clear c3
              try clear c4
              try clear c5
              try clear c6
              try clear p6
              try clear c7
              try clear p7
              try clear q7
              try clear hx7
              try clear c8
              try clear c27
              try clear c28
              try clear c29
              try clear c30
              try clear c31
              try clear c33
              try clear c35
              try clear c35b0
              try clear c35b1
              try clear c36
              try clear c36b0
              try clear c38
              try clear c40
              try clear c43
              try clear c55
              try clear c62
              try clear p64
              try clear c66
              try clear c66b0
              try clear c67
              try clear c67b0
              try clear c67b1
              try clear c69
              try clear c69b0
              try clear c70
              try clear c70b0
              try clear p71
              try clear q71
              try clear hx71
              try clear c72
              try clear c72b0
              try clear c72b1
              try clear c73
              try clear c73b0
              try clear c74
              try clear c74b0
              try clear c74b1
              try clear c75
              try clear c79
              try clear c83
              try clear c87
              try clear hcz44_0
              try clear hcz44_1
              try clear hcz44_2
              try clear hcz56_0
              try clear hcz56_1
              try clear hcz56_2
              try clear hcz58_0
              try clear hcz58_1
              try clear hcz58_2
              try clear hcz63_0
              try clear hcz63_1
              try clear hcz63_2
              try clear hcz76_0
              try clear hcz76_1
              try clear hcz76_2
              try clear hcz78_0
              try clear hcz78_1
              try clear hcz78_2
              try clear hcz80_0
              try clear hcz80_1
              try clear hcz80_2
              try clear hcz82_0
              try clear hcz82_1
              try clear hcz82_2
              try clear hcz84_0
              try clear hcz84_1
              try clear hcz84_2
              try clear hcz86_0
              try clear hcz86_1
              try clear hcz86_2
              try clear hcz88_0
              try clear hcz88_1
              try clear hcz88_2
              try clear hfz44_0
              try clear hfz44_1
              try clear hfz44_2
              try clear hfz56_0
              try clear hfz56_1
              try clear hfz56_2
              try clear hfz58_0
              try clear hfz58_1
              try clear hfz58_2
              try clear hfz63_0
              try clear hfz63_1
              try clear hfz63_2
              try clear hfz76_0
              try clear hfz76_1
              try clear hfz76_2
              try clear hfz78_0
              try clear hfz78_1
              try clear hfz78_2
              try clear hfz80_0
              try clear hfz80_1
              try clear hfz80_2
              try clear hfz82_0
              try clear hfz82_1
              try clear hfz82_2
              try clear hfz84_0
              try clear hfz84_1
              try clear hfz84_2
              try clear hfz86_0
              try clear hfz86_1
              try clear hfz86_2
              try clear hfz88_0
              try clear hfz88_1
              try clear hfz88_2
              try clear p2
              try clear p6
              try clear p64
              try clear p7
              try clear p71
              try clear q7
              try clear q71
              obtain ⟨x472002_5, HA, HK5, BK471, BK472, HB⟩ := hrel
              cases gk with
              | zero => exact absurd HA.out (by simp [idiomref03_Significant.l1])
              | succ k5 =>
               have H := HA.out
               clear HA
               simp only [idiomref03_Significant.l1] at H
               replace H := Option.bind_eq_some_iff.mp H
               obtain ⟨t487, A900, H⟩ := H
               replace H : (if t487 < a2 then (if x472002_5.size + 1 ≤ 9223372036854775807 then (idiomref03_Significant.l1 k5 a2 x472000_28 x472001_28 (x472002_5 ++ (⟨#[48]⟩ : ByteArray))) else (none)) else ((idiomref03_bound.f x472000_28 x472001_28 x472002_5).bind fun bt488 => (some (bt488.1, bt488.2.1, bt488.2.2.1, bt488.2.2.2)))) = some (r1, r2, r3, r4) := H
               have A90 := Aside0.mk A900
               clear A900
               by_cases c91 : t487 < a2
               · rw [if_pos c91] at H
                 have c91b0 : decide (t487 < a2) = true := decide_eq_true c91
                 clear c91
                 by_cases c92 : x472002_5.size + 1 ≤ 9223372036854775807
                 · rw [if_pos c92] at H
                   have c92b0 := eq_true c92
                   have c92b1 : decide (x472002_5.size + 1 ≤ 9223372036854775807) = true := decide_eq_true c92
                   try have c92b2 : (9223372036854775807 < x472002_5.size + 1) = False := eq_false (Nat.not_lt.2 c92)
                   have H' := Aside0.mk H
                   clear H
                   have hnb93 := NB471_472.out
                   have hnc93 := NB472_471.out
                   obtain ⟨hcz94_0, hcz94_1, hcz94_2, hfz94_0, hfz94_1, hfz94_2⟩ := q3 BK471
                   go_wp2_with (first | ((with_reducible refine gate_callee (f := 40) rfl ?_); refine goesL_ (some 125) rfl rfl Tryd.func40 (by kernel_rfl) rfl #[.agg #[.bool x472000_28, .string x472001_28, .string x472002_5]] rfl ql ?_; (with_reducible refine (idiomref03_count.calls k5 x472000_28 x472001_28 x472002_5 t487 _ A90.out).mono ?_); rintro e w95 ⟨rfl, hb⟩; refine ⟨_, rfl, ?_⟩; replace BK471 := qb BK471 hb; replace BK472 := qb BK472 hb; replace HB := qn HB hb; (try clear hb); (try clear hb2); (try clear hk); (try clear hi); obtain ⟨hcz96_0, hcz96_1, hcz96_2, hfz96_0, hfz96_1, hfz96_2⟩ := q3 BK471))
                   go_roundg k5
                   case measure => have := HJ6.out; have := HJ19.out; have := HJ28.out; have := HJ63.out; have := HK5.out; omega
                   case rel => exact ⟨(x472002_5 ++ (⟨#[48]⟩ : ByteArray)), H', ⟨by have := HJ6.out; have := HJ19.out; have := HJ28.out; have := HJ63.out; have := HK5.out; omega⟩, ⟨by refine qp 2 #[.bool x472000_28, .string x472001_28, .string x472002_5] ?_; exact qk BK471⟩, ⟨by refine qf NB472_471 ?_; exact qk BK472⟩, ⟨qh HB⟩⟩
                 · rw [if_neg c92] at H
                   exact absurd H (by simp)
               · rw [if_neg c91] at H
                 have c91b0 : decide (t487 < a2) = false := decide_eq_false c91
                 clear c91
                 replace H := Option.bind_eq_some_iff.mp H
                 obtain ⟨⟨t488, t489, t490, t491⟩, A970, H⟩ := H
                 replace H : (some (t488, t489, t490, t491)) = some (r1, r2, r3, r4) := H
                 have A97 := Aside0.mk A970
                 clear A970
                 simp only [Option.some.injEq, Prod.mk.injEq] at H
                 obtain ⟨rfl, rfl, rfl, rfl⟩ := H
                 have hnb98 := NB471_472.out
                 have hnc98 := NB472_471.out
                 obtain ⟨hcz99_0, hcz99_1, hcz99_2, hfz99_0, hfz99_1, hfz99_2⟩ := q3 BK471
                 go_wp2_with (first | ((with_reducible refine gate_callee (f := 40) rfl ?_); refine goesL_ (some 125) rfl rfl Tryd.func40 (by kernel_rfl) rfl #[.agg #[.bool x472000_28, .string x472001_28, .string x472002_5]] rfl ql ?_; (with_reducible refine (idiomref03_count.calls k5 x472000_28 x472001_28 x472002_5 t487 _ A90.out).mono ?_); rintro e w100 ⟨rfl, hb⟩; refine ⟨_, rfl, ?_⟩; replace BK471 := qb BK471 hb; replace BK472 := qb BK472 hb; replace HB := qn HB hb; (try clear hb); (try clear hb2); (try clear hk); (try clear hi); obtain ⟨hcz101_0, hcz101_1, hcz101_2, hfz101_0, hfz101_1, hfz101_2⟩ := q3 BK471) | ((with_reducible refine gate_callee (f := 37) rfl ?_); refine goesL_ (some 133) rfl rfl Tryd.func37 (by kernel_rfl) rfl #[.agg #[.bool x472000_28, .string x472001_28, .string x472002_5]] rfl ql ?_; (with_reducible refine (idiomref03_bound.calls x472000_28 x472001_28 x472002_5 t488 t489 t490 t491 _ A97.out).mono ?_); rintro e w102 ⟨rfl, hb⟩; refine ⟨_, rfl, ?_⟩; replace BK471 := qb BK471 hb; replace BK472 := qb BK472 hb; replace HB := qn HB hb; (try clear hb); (try clear hb2); (try clear hk); (try clear hi); obtain ⟨hcz103_0, hcz103_1, hcz103_2, hfz103_0, hfz103_1, hfz103_2⟩ := q3 BK472))
                 refine bodyPost_ret (results_ct rfl _ _ gb472 23 #[.bool t488, .string t489, .string t490] (0, 0) _ rfl (by refine qp 2 #[.bool t488, .string t489, .string x473002_28] ?_; refine qp 1 #[.bool t488, .string x473001_28, .string x473002_28] ?_; refine qp 0 #[.bool x473000_28, .string x473001_28, .string x473002_28] ?_; exact qk BK472) Tryd.underlying23 rfl (by kernel_rfl)) rfl ?_
                 exact ⟨qe, qh HB⟩
 · rw [if_neg c6] at H
   have c6b0 : (t473 == 0) = false := beq_eq_false_iff_ne.mpr c6
   have c6b1 : (t473 != 0) = true := bne_iff_ne.mpr c6
   try have c6b1z := c6b1
   (try simp only [bne] at c6b1z)
   simp only [Option.some.injEq, Prod.mk.injEq] at H
   obtain ⟨rfl, rfl, rfl, rfl⟩ := H
   go_enter Tryd.func21, Tryd.ntmps21
   go_wp2_with (first | ((with_reducible refine gate_dst (N := 4) rfl ?_); (try (refine gate_guard (by rfl) ?_; dsimp only)); refine qx 4 #[.bool a0_0, .string a0_1, .string a0_2] 23 ?_; intro gb471 hg w104 hbox hb; have BK471 := Aside0.mk (hbox); have GW471 := qs hg HB; have GE471 := GW471; replace HB := qn HB hb; clear hb hbox hg) | ((with_reducible refine gate_dst (N := 8) rfl ?_); (try (refine gate_guard (by rfl) ?_; dsimp only)); refine qx 8 #[.bool false, .string (⟨#[]⟩ : ByteArray), .string (⟨#[]⟩ : ByteArray)] 23 ?_; intro gb472 hg w105 hbox hb; have BK472 := Aside0.mk (hbox); have GW472 := qs hg HB; have GE472 := GW472; have NB471_472 := ql_ hg BK471; have NB472_471 := qg_ hg BK471; replace BK471 := qb BK471 hb; replace HB := qn HB hb; clear hb hbox hg; have hnb106 := NB471_472.out; have hnc106 := NB472_471.out; obtain ⟨hcz107_0, hcz107_1, hcz107_2, hfz107_0, hfz107_1, hfz107_2⟩ := q3 BK471) | ((with_reducible refine gate_callee (f := 26) rfl ?_); refine goesL_ (some 16) rfl rfl Tryd.func26 (by kernel_rfl) rfl #[.agg #[.bool a0_0, .string a0_1, .string a0_2], .int .i64 a1] rfl ql ?_; (with_reducible refine (idiomref03_asked.calls k a0_0 a0_1 a0_2 a1 t473 _ A5.out).mono ?_); rintro e w108 ⟨rfl, hb⟩; refine ⟨_, rfl, ?_⟩; replace BK471 := qb BK471 hb; replace BK472 := qb BK472 hb; replace HB := qn HB hb; (try clear hb); (try clear hb2); (try clear hk); (try clear hi); obtain ⟨hcz109_0, hcz109_1, hcz109_2, hfz109_0, hfz109_1, hfz109_2⟩ := q3 BK472))
   refine bodyPost_ret (results_ct rfl _ _ gb472 23 #[.bool false, .string (⟨#[]⟩ : ByteArray), .string (⟨#[]⟩ : ByteArray)] (0, 0) _ rfl (by refine qp 2 #[.bool false, .string (⟨#[]⟩ : ByteArray), .string (⟨#[]⟩ : ByteArray)] ?_; refine qp 1 #[.bool false, .string (⟨#[]⟩ : ByteArray), .string (⟨#[]⟩ : ByteArray)] ?_; refine qp 0 #[.bool false, .string (⟨#[]⟩ : ByteArray), .string (⟨#[]⟩ : ByteArray)] ?_; exact qk BK472) Tryd.underlying23 rfl (by kernel_rfl)) rfl ?_
   exact ⟨qe, qh HB⟩

end Go.Proofs.YtpmhebdaphjinaaDoor.F
namespace Go.Proofs.YtpmhebdaphjinaaDoor.F
open Go.RowKit Go.Proofs.YtpmhebdaphjinaaDoorW.PrintWords Go.Proofs.YtpmhebdaphjinaaDoorW.PrintLast Go.Proofs.YtpmhebdaphjinaaDoorW.PrintMore Go.Proofs.YtpmhebdaphjinaaDoor.Q
attribute [local go_sem] max2_int min2_int max_two min_two max_three min_three max_four min_four   -- for this text's walks alone
set_option linter.unusedVariables false
set_option linter.unusedSimpArgs false

attribute [local go_sem high] eqA23
def idiomlaw03_RoundAgain.j0 : Nat → Int → Bool → Bool → ByteArray → ByteArray → Option (Bool)
 | 0, _, _, _, _, _ => none
 | k + 1, x1, x60, x506000, x506001, x506002 => if x60 = true then (none) else ((round_Significant.f k x506000 x506001 x506002 x1 1 40).bind fun bt523 => (if bt523.2.2.2 = 0 then ((round_Significant.f k bt523.1 bt523.2.1 bt523.2.2.1 8 1 40).bind fun bt528 => (if bt528.2.2.2 = 0 then (if (bt523.1 == bt528.1 && (bt523.2.1.toList == bt528.2.1.toList && (bt523.2.2.1.toList == bt528.2.2.1.toList))) = true then ((idiomlaw03_awake.f k).bind fun t533 => (some t533)) else (none)) else (none))) else (none)))
def idiomlaw03_RoundAgain.f (k : Nat) (a0_0 : Bool) (a0_1 : ByteArray) (a0_2 : ByteArray) (a1 : Int) (a2_0 : Int) (a2_1 : Int) : Option (Bool) := (round_Fix.f k a0_0 a0_1 a0_2 a1 a2_0 a2_1).bind fun bt507 => (if bt507.2.2.2 = 0 then ((round_Fix.f k bt507.1 bt507.2.1 bt507.2.2.1 8 a2_0 a2_1).bind fun bt518 => (if bt518.2.2.2 = 0 then (idiomlaw03_RoundAgain.j0 k a1 (!(bt507.1 == bt518.1) || (!(bt507.2.1.toList == bt518.2.1.toList) || (!(bt507.2.2.1.toList == bt518.2.2.1.toList)))) a0_0 a0_1 a0_2) else (idiomlaw03_RoundAgain.j0 k a1 true a0_0 a0_1 a0_2))) else ((idiomref03_Fix.f k a0_0 a0_1 a0_2 a1 a2_0 a2_1).bind fun bt512 => (if bt507.2.2.2 = bt512.2.2.2 then ((idiomlaw03_awake.f k).bind fun t517 => (some t517)) else (none))))
theorem idiomlaw03_RoundAgain.mono_l : ∀ k, (∀ y0 y1 y2 y3 y4, LeO (idiomlaw03_RoundAgain.j0 k y0 y1 y2 y3 y4) (idiomlaw03_RoundAgain.j0 (k + 1) y0 y1 y2 y3 y4))
 | 0 => fun _ _ _ _ _ r h => by simp [idiomlaw03_RoundAgain.j0] at h
 | k + 1 => by
  have ih0 := idiomlaw03_RoundAgain.mono_l k
  · intro y0 y1 y2 y3 y4
    unfold idiomlaw03_RoundAgain.j0
    repeat' first
    | (with_reducible exact ih0 _ _ _ _ _)
    | (with_reducible exact idiomlaw03_awake.mono _)
    | (with_reducible exact idiomref03_Fix.mono _ _ _ _ _ _ _)
    | (with_reducible exact round_Fix.mono _ _ _ _ _ _ _)
    | (with_reducible exact round_Significant.mono _ _ _ _ _ _ _)
    | (with_reducible exact LeO.refl _)
    | (with_reducible exact LeO.none _)
    | (with_reducible refine LeO.ite ?_ ?_)
    | (with_reducible refine LeO.bind ?_ (fun _ => ?_))
    | exact ih0 _ _ _ _ _
    | exact idiomlaw03_awake.mono _
    | exact idiomref03_Fix.mono _ _ _ _ _ _ _
    | exact round_Fix.mono _ _ _ _ _ _ _
    | exact round_Significant.mono _ _ _ _ _ _ _
    | exact LeO.none _
    | refine LeO.ite ?_ ?_
    | refine LeO.bind ?_ (fun _ => ?_)
theorem idiomlaw03_RoundAgain.mono : ∀ a0 a1 a2 a3 a4 a5 k, LeO (idiomlaw03_RoundAgain.f k a0 a1 a2 a3 a4 a5) (idiomlaw03_RoundAgain.f (k + 1) a0 a1 a2 a3 a4 a5) := by
 intro a0 a1 a2 a3 a4 a5 k
 have ih0 := idiomlaw03_RoundAgain.mono_l k
 unfold idiomlaw03_RoundAgain.f
 repeat' first
  | (with_reducible exact ih0 _ _ _ _ _)
  | (with_reducible exact idiomlaw03_awake.mono _)
  | (with_reducible exact idiomref03_Fix.mono _ _ _ _ _ _ _)
  | (with_reducible exact round_Fix.mono _ _ _ _ _ _ _)
  | (with_reducible exact round_Significant.mono _ _ _ _ _ _ _)
  | (with_reducible exact LeO.refl _)
  | (with_reducible exact LeO.none _)
  | (with_reducible refine LeO.ite ?_ ?_)
  | (with_reducible refine LeO.bind ?_ (fun _ => ?_))
  | exact ih0 _ _ _ _ _
  | exact idiomlaw03_awake.mono _
  | exact idiomref03_Fix.mono _ _ _ _ _ _ _
  | exact round_Fix.mono _ _ _ _ _ _ _
  | exact round_Significant.mono _ _ _ _ _ _ _
  | exact LeO.none _
  | refine LeO.ite ?_ ?_
  | refine LeO.bind ?_ (fun _ => ?_)
set_option maxHeartbeats 8000000 in
set_option maxRecDepth 100000 in
theorem idiomlaw03_RoundAgain.calls (k : Nat) (a0_0 : Bool) (a0_1 : ByteArray) (a0_2 : ByteArray) (a1 : Int) (a2_0 : Int) (a2_1 : Int) (r : Bool) (w : World) (h : idiomlaw03_RoundAgain.f k a0_0 a0_1 a0_2 a1 a2_0 a2_1 = some r) :
 Calls Tryd.prog 8 #[.agg #[.bool a0_0, .string a0_1, .string a0_2], .int .i64 a1, .agg #[.int .i64 a2_0, .int .i64 a2_1]] w fun e w' => e = .returned (.bool r) ∧ Below w.heap.size w w' := by
 have hu23 := Tryd.underlying23
 have hu36 := Tryd.underlying36
 have HB := Aside0.mk (Below.refl w.heap.size w)
 have H : ((round_Fix.f k a0_0 a0_1 a0_2 a1 a2_0 a2_1).bind fun bt507 => (if bt507.2.2.2 = 0 then ((round_Fix.f k bt507.1 bt507.2.1 bt507.2.2.1 8 a2_0 a2_1).bind fun bt518 => (if bt518.2.2.2 = 0 then (idiomlaw03_RoundAgain.j0 k a1 (!(bt507.1 == bt518.1) || (!(bt507.2.1.toList == bt518.2.1.toList) || (!(bt507.2.2.1.toList == bt518.2.2.1.toList)))) a0_0 a0_1 a0_2) else (idiomlaw03_RoundAgain.j0 k a1 true a0_0 a0_1 a0_2))) else ((idiomref03_Fix.f k a0_0 a0_1 a0_2 a1 a2_0 a2_1).bind fun bt512 => (if bt507.2.2.2 = bt512.2.2.2 then ((idiomlaw03_awake.f k).bind fun t517 => (some t517)) else (none))))) = some r := h
 clear h
 replace H := Option.bind_eq_some_iff.mp H
 obtain ⟨⟨t507, t508, t509, t510⟩, A40, H⟩ := H
 replace H : (if t510 = 0 then ((round_Fix.f k t507 t508 t509 8 a2_0 a2_1).bind fun bt518 => (if bt518.2.2.2 = 0 then (idiomlaw03_RoundAgain.j0 k a1 (!(t507 == bt518.1) || (!(t508.toList == bt518.2.1.toList) || (!(t509.toList == bt518.2.2.1.toList)))) a0_0 a0_1 a0_2) else (idiomlaw03_RoundAgain.j0 k a1 true a0_0 a0_1 a0_2))) else ((idiomref03_Fix.f k a0_0 a0_1 a0_2 a1 a2_0 a2_1).bind fun bt512 => (if t510 = bt512.2.2.2 then ((idiomlaw03_awake.f k).bind fun t517 => (some t517)) else (none)))) = some r := H
 have A4 := Aside0.mk A40
 clear A40
 by_cases c5 : t510 = 0
 · rw [if_pos c5] at H
   have c5b0 : (t510 == 0) = true := beq_iff_eq.mpr c5
   have c5b1 : (t510 != 0) = false := bne_eq_false_iff_eq.mpr c5
   try have c5b1z := c5b1
   (try simp only [bne] at c5b1z)
   clear c5
   replace H := Option.bind_eq_some_iff.mp H
   obtain ⟨⟨t518, t519, t520, t521⟩, A60, H⟩ := H
   replace H : (if t521 = 0 then (idiomlaw03_RoundAgain.j0 k a1 (!(t507 == t518) || (!(t508.toList == t519.toList) || (!(t509.toList == t520.toList)))) a0_0 a0_1 a0_2) else (idiomlaw03_RoundAgain.j0 k a1 true a0_0 a0_1 a0_2)) = some r := H
   have A6 := Aside0.mk A60
   clear A60
   have HC7 := Aside0.mk H
   clear H
   go_enter Tryd.func8, Tryd.ntmps8
   go_upto_region 6 with (first | ((with_reducible refine gate_dst (N := 3) rfl ?_); refine qx 3 #[.bool a0_0, .string a0_1, .string a0_2] 23 ?_; intro gb505 hg w8 hbox hb; have BK505 := Aside0.mk (hbox); have GW505 := qs hg HB; have GE505 := GW505; replace HB := qn HB hb; clear hb hbox hg) | ((with_reducible refine gate_dst (N := 5) rfl ?_); refine qx 5 #[.int .i64 a2_0, .int .i64 a2_1] 36 ?_; intro gb506 hg w9 hbox hb; have BK506 := Aside0.mk (hbox); have GW506 := qs hg HB; have GE506 := GW506; have NB505_506 := ql_ hg BK505; have NB506_505 := qg_ hg BK505; replace BK505 := qb BK505 hb; replace HB := qn HB hb; clear hb hbox hg; have hnb10 := NB505_506.out; have hnc10 := NB506_505.out; obtain ⟨hcz11_0, hcz11_1, hcz11_2, hfz11_0, hfz11_1, hfz11_2⟩ := q3 BK505; obtain ⟨hcz12_0, hcz12_1, hfz12_0, hfz12_1⟩ := q2 BK506) | ((with_reducible refine gate_callee (f := 18) rfl ?_); refine goesL_ (some 24) rfl rfl Tryd.func18 (by kernel_rfl) rfl #[.agg #[.bool a0_0, .string a0_1, .string a0_2], .int .i64 a1, .int .i64 a2_0, .int .i64 a2_1] rfl ql ?_; (with_reducible refine (round_Fix.calls k a0_0 a0_1 a0_2 a1 a2_0 a2_1 t507 t508 t509 t510 _ A4.out).mono ?_); rintro e w13 ⟨rfl, hb⟩; refine ⟨_, rfl, ?_⟩; replace BK505 := qb BK505 hb; replace BK506 := qb BK506 hb; replace HB := qn HB hb; (try clear hb); (try clear hb2); (try clear hk); (try clear hi)) | ((with_reducible refine gate_dst (N := 7) rfl ?_); refine qx 7 #[.bool false, .string (⟨#[]⟩ : ByteArray), .string (⟨#[]⟩ : ByteArray)] 23 ?_; intro gb511 hg w14 hbox hb; have BK511 := Aside0.mk (hbox); have GW511 := qs hg HB; have GE511 := GW511; have NB505_511 := ql_ hg BK505; have NB511_505 := qg_ hg BK505; have NB506_511 := ql_ hg BK506; have NB511_506 := qg_ hg BK506; replace BK505 := qb BK505 hb; replace BK506 := qb BK506 hb; replace HB := qn HB hb; clear hb hbox hg; have hnb15 := NB511_505.out; have hnc15 := NB505_511.out; have hnb16 := NB511_506.out; have hnc16 := NB506_511.out; obtain ⟨hcz17_0, hcz17_1, hcz17_2, hfz17_0, hfz17_1, hfz17_2⟩ := q3 BK511; obtain ⟨hcz18_0, hcz18_1, hfz18_0, hfz18_1⟩ := q2 BK506) | ((with_reducible refine gate_callee (f := 18) rfl ?_); refine goesL_ (some 51) rfl rfl Tryd.func18 (by kernel_rfl) rfl #[.agg #[.bool t507, .string t508, .string t509], .int .i64 8, .int .i64 a2_0, .int .i64 a2_1] rfl ql ?_; (with_reducible refine (round_Fix.calls k t507 t508 t509 8 a2_0 a2_1 t518 t519 t520 t521 _ A6.out).mono ?_); rintro e w19 ⟨rfl, hb⟩; refine ⟨_, rfl, ?_⟩; replace BK505 := Aside0.mk (blk_below (g := gb505) (o := .cells #[.bool a0_0, .string a0_1, .string a0_2] 23 (0, 0)) (by refine qf NB505_511 ?_; refine qf NB505_511 ?_; refine qf NB505_511 ?_; exact qk BK505) hb); replace BK506 := Aside0.mk (blk_below (g := gb506) (o := .cells #[.int .i64 a2_0, .int .i64 a2_1] 36 (0, 0)) (by refine qf NB506_511 ?_; refine qf NB506_511 ?_; refine qf NB506_511 ?_; exact qk BK506) hb); replace BK511 := Aside0.mk (blk_below (g := gb511) (o := .cells #[.bool t507, .string t508, .string t509] 23 (0, 0)) (by refine qp 2 #[.bool t507, .string t508, .string (⟨#[]⟩ : ByteArray)] ?_; refine qp 1 #[.bool t507, .string (⟨#[]⟩ : ByteArray), .string (⟨#[]⟩ : ByteArray)] ?_; refine qp 0 #[.bool false, .string (⟨#[]⟩ : ByteArray), .string (⟨#[]⟩ : ByteArray)] ?_; exact qk BK511) hb); replace HB := qn HB hb; (try clear hb); (try clear hb2); (try clear hk); (try clear hi)) | ((with_reducible refine gate_dst (N := 11) rfl ?_); refine qx 11 #[.bool false, .string (⟨#[]⟩ : ByteArray), .string (⟨#[]⟩ : ByteArray)] 23 ?_; intro gb522 hg w20 hbox hb; have BK522 := Aside0.mk (hbox); have GW522 := qs hg HB; have GE522 := GW522; have NB505_522 := ql_ hg BK505; have NB522_505 := qg_ hg BK505; have NB506_522 := ql_ hg BK506; have NB522_506 := qg_ hg BK506; have NB511_522 := ql_ hg BK511; have NB522_511 := qg_ hg BK511; replace BK505 := qb BK505 hb; replace BK506 := qb BK506 hb; replace BK511 := qb BK511 hb; replace HB := qn HB hb; clear hb hbox hg; have hnb21 := NB522_505.out; have hnc21 := NB505_522.out; have hnb22 := NB522_506.out; have hnc22 := NB506_522.out; have hnb23 := NB522_511.out; have hnc23 := NB511_522.out; obtain ⟨hcz24_0, hcz24_1, hcz24_2, hfz24_0, hfz24_1, hfz24_2⟩ := q3 BK522))
   (try simp only [Act.put, List.setIfInBounds_toArray, List.set_cons_zero, List.set_cons_succ])
   go_cut [60] (fun v60 wc => ∃ (kq : Nat) (x60_6 : Bool), v60 = .bool x60_6 ∧ Aside0 (idiomlaw03_RoundAgain.j0 kq a1 x60_6 a0_0 a0_1 a0_2 = some r) ∧ Aside0 (kq ≤ k) ∧ Aside0 (wc.heap[gb505]? = some (.cells #[.bool a0_0, .string a0_1, .string a0_2] 23 (0, 0))) ∧ Aside0 (wc.heap[gb506]? = some (.cells #[.int .i64 a2_0, .int .i64 a2_1] 36 (0, 0))) ∧ Aside0 (wc.heap[gb511]? = some (.cells #[.bool t507, .string t508, .string t509] 23 (0, 0))) ∧ Aside0 (wc.heap[gb522]? = some (.cells #[.bool t518, .string t519, .string t520] 23 (0, 0))) ∧ Aside0 (Below w.heap.size w wc))
   case first =>
    have H := HC7.out
    clear HC7
    by_cases c25 : t521 = 0
    · rw [if_pos c25] at H
      have c25b0 : (t521 == 0) = true := beq_iff_eq.mpr c25
      have c25b1 : (t521 != 0) = false := bne_eq_false_iff_eq.mpr c25
      try have c25b1z := c25b1
      (try simp only [bne] at c25b1z)
      clear c25
      (first | rw [c25b0] | (simp only [i64_w, i32_w]; rw [c25b0]) | skip)
      have H' := Aside0.mk H
      clear H
      have hnb26 := NB511_505.out
      have hnc26 := NB505_511.out
      have hnb27 := NB511_506.out
      have hnc27 := NB506_511.out
      have hnb28 := NB511_522.out
      have hnc28 := NB522_511.out
      obtain ⟨hcz29_0, hcz29_1, hcz29_2, hfz29_0, hfz29_1, hfz29_2⟩ := q3 BK511
      have hnb30 := NB522_505.out
      have hnc30 := NB505_522.out
      have hnb31 := NB522_506.out
      have hnc31 := NB506_522.out
      obtain ⟨hcz32_0, hcz32_1, hcz32_2, hfz32_0, hfz32_1, hfz32_2⟩ := q3 BK522
      go_wp2
      go_meet
      case rel => exact ⟨_, ((!(t507 == t518) || (!(t508.toList == t519.toList) || (!(t509.toList == t520.toList))))), (by first | rfl | (simp; done) | (simp [*]; done)), H', ⟨by first | omega | exact Nat.le_refl _⟩, ⟨by refine qf NB505_522 ?_; refine qf NB505_522 ?_; refine qf NB505_522 ?_; exact qk BK505⟩, ⟨by refine qf NB506_522 ?_; refine qf NB506_522 ?_; refine qf NB506_522 ?_; exact qk BK506⟩, ⟨by refine qf NB511_522 ?_; refine qf NB511_522 ?_; refine qf NB511_522 ?_; exact qk BK511⟩, ⟨by refine qp 2 #[.bool t518, .string t519, .string (⟨#[]⟩ : ByteArray)] ?_; refine qp 1 #[.bool t518, .string (⟨#[]⟩ : ByteArray), .string (⟨#[]⟩ : ByteArray)] ?_; refine qp 0 #[.bool false, .string (⟨#[]⟩ : ByteArray), .string (⟨#[]⟩ : ByteArray)] ?_; exact qk BK522⟩, ⟨qh HB⟩⟩
    · rw [if_neg c25] at H
      have c25b0 : (t521 == 0) = false := beq_eq_false_iff_ne.mpr c25
      have c25b1 : (t521 != 0) = true := bne_iff_ne.mpr c25
      try have c25b1z := c25b1
      (try simp only [bne] at c25b1z)
      (first | rw [c25b0] | (simp only [i64_w, i32_w]; rw [c25b0]) | skip)
      have H' := Aside0.mk H
      clear H
      go_wp2
      go_meet
      case rel => exact ⟨_, (true), (by first | rfl | (simp; done) | (simp [*]; done)), H', ⟨by first | omega | exact Nat.le_refl _⟩, ⟨by refine qf NB505_522 ?_; refine qf NB505_522 ?_; refine qf NB505_522 ?_; exact qk BK505⟩, ⟨by refine qf NB506_522 ?_; refine qf NB506_522 ?_; refine qf NB506_522 ?_; exact qk BK506⟩, ⟨by refine qf NB511_522 ?_; refine qf NB511_522 ?_; refine qf NB511_522 ?_; exact qk BK511⟩, ⟨by refine qp 2 #[.bool t518, .string t519, .string (⟨#[]⟩ : ByteArray)] ?_; refine qp 1 #[.bool t518, .string (⟨#[]⟩ : ByteArray), .string (⟨#[]⟩ : ByteArray)] ?_; refine qp 0 #[.bool false, .string (⟨#[]⟩ : ByteArray), .string (⟨#[]⟩ : ByteArray)] ?_; exact qk BK522⟩, ⟨qh HB⟩⟩
   case rest =>
    clear HC7
    try clear c1
    try clear c2
    try clear p2
    try clear c3
    try clear c5
    try clear c5b0
    try clear c5b1
    try clear c8
    try clear c10
    try clear c15
    try clear c16
    try clear c18
    try clear c21
    try clear c22
    try clear c23
    try clear c25
    try clear c25b0
    try clear c25b1
    try clear c26
    try clear c27
    try clear c28
    try clear c30
    try clear c31
    try clear hcz11_0
    try clear hcz11_1
    try clear hcz11_2
    try clear hcz12_0
    try clear hcz12_1
    try clear hcz17_0
    try clear hcz17_1
    try clear hcz17_2
    try clear hcz18_0
    try clear hcz18_1
    try clear hcz24_0
    try clear hcz24_1
    try clear hcz24_2
    try clear hcz29_0
    try clear hcz29_1
    try clear hcz29_2
    try clear hcz32_0
    try clear hcz32_1
    try clear hcz32_2
    try clear hfz11_0
    try clear hfz11_1
    try clear hfz11_2
    try clear hfz12_0
    try clear hfz12_1
    try clear hfz17_0
    try clear hfz17_1
    try clear hfz17_2
    try clear hfz18_0
    try clear hfz18_1
    try clear hfz24_0
    try clear hfz24_1
    try clear hfz24_2
    try clear hfz29_0
    try clear hfz29_1
    try clear hfz29_2
    try clear hfz32_0
    try clear hfz32_1
    try clear hfz32_2
    obtain ⟨kq, x60_6, rfl, HA, HJ6, BK505, BK506, BK511, BK522, HB⟩ := hcut
    cases kq with
    | zero => exact absurd HA.out (by simp [idiomlaw03_RoundAgain.j0])
    | succ kj6 =>
     have H := HA.out
     clear HA
     simp only [idiomlaw03_RoundAgain.j0] at H
     by_cases c33 : x60_6 = true
     · subst c33
       have H1 : (none) = some r := by rw [if_pos rfl] at H; exact H
       clear H
       have H := H1
       clear H1
       exact absurd H (by simp)
     · replace c33 := Bool.eq_false_iff.mpr c33
       subst c33
       have H1 : ((round_Significant.f kj6 a0_0 a0_1 a0_2 a1 1 40).bind fun bt523 => (if bt523.2.2.2 = 0 then ((round_Significant.f kj6 bt523.1 bt523.2.1 bt523.2.2.1 8 1 40).bind fun bt528 => (if bt528.2.2.2 = 0 then (if (bt523.1 == bt528.1 && (bt523.2.1.toList == bt528.2.1.toList && (bt523.2.2.1.toList == bt528.2.2.1.toList))) = true then ((idiomlaw03_awake.f kj6).bind fun t533 => (some t533)) else (none)) else (none))) else (none))) = some r := by rw [if_neg (show ¬ (false = true) by decide)] at H; exact H
       clear H
       have H := H1
       clear H1
       replace H := Option.bind_eq_some_iff.mp H
       obtain ⟨⟨t523, t524, t525, t526⟩, A340, H⟩ := H
       replace H : (if t526 = 0 then ((round_Significant.f kj6 t523 t524 t525 8 1 40).bind fun bt528 => (if bt528.2.2.2 = 0 then (if (t523 == bt528.1 && (t524.toList == bt528.2.1.toList && (t525.toList == bt528.2.2.1.toList))) = true then ((idiomlaw03_awake.f kj6).bind fun t533 => (some t533)) else (none)) else (none))) else (none)) = some r := H
       have A34 := Aside0.mk A340
       clear A340
       by_cases c35 : t526 = 0
       · rw [if_pos c35] at H
         have c35b0 : (t526 == 0) = true := beq_iff_eq.mpr c35
         have c35b1 : (t526 != 0) = false := bne_eq_false_iff_eq.mpr c35
         try have c35b1z := c35b1
         (try simp only [bne] at c35b1z)
         clear c35
         replace H := Option.bind_eq_some_iff.mp H
         obtain ⟨⟨t528, t529, t530, t531⟩, A360, H⟩ := H
         replace H : (if t531 = 0 then (if (t523 == t528 && (t524.toList == t529.toList && (t525.toList == t530.toList))) = true then ((idiomlaw03_awake.f kj6).bind fun t533 => (some t533)) else (none)) else (none)) = some r := H
         have A36 := Aside0.mk A360
         clear A360
         by_cases c37 : t531 = 0
         · rw [if_pos c37] at H
           have c37b0 : (t531 == 0) = true := beq_iff_eq.mpr c37
           have c37b1 : (t531 != 0) = false := bne_eq_false_iff_eq.mpr c37
           try have c37b1z := c37b1
           (try simp only [bne] at c37b1z)
           clear c37
           by_cases c38 : (t523 == t528 && (t524.toList == t529.toList && (t525.toList == t530.toList))) = true
           · rw [if_pos c38] at H
             have c38b0 : (t523 == t528 && (t524.toList == t529.toList && (t525.toList == t530.toList))) = true := c38
             (try (have c38b1 : decide (t523 = t528 && (t524.toList == t529.toList && (t525.toList == t530.toList))) = true := by simpa using c38))
             (try (have c38b2 : (t523 == t528 && (t524.toList == t529.toList && (t525.toList == t530.toList))) = true := by simpa using c38))
             clear c38
             replace H := Option.bind_eq_some_iff.mp H
             obtain ⟨t533, A390, H⟩ := H
             replace H : (some t533) = some r := H
             have A39 := Aside0.mk A390
             clear A390
             obtain rfl := Option.some.inj H
             have hnb40 := NB505_506.out
             have hnc40 := NB506_505.out
             have hnb41 := NB505_511.out
             have hnc41 := NB511_505.out
             have hnb42 := NB505_522.out
             have hnc42 := NB522_505.out
             obtain ⟨hcz43_0, hcz43_1, hcz43_2, hfz43_0, hfz43_1, hfz43_2⟩ := q3 BK505
             go_wp2_with (first | ((with_reducible refine gate_callee (f := 20) rfl ?_); refine goesL_ (some 64) rfl rfl Tryd.func20 (by kernel_rfl) rfl #[.agg #[.bool a0_0, .string a0_1, .string a0_2], .int .i64 a1, .int .i64 1, .int .i64 40] rfl ql ?_; (with_reducible refine (round_Significant.calls kj6 a0_0 a0_1 a0_2 a1 1 40 t523 t524 t525 t526 _ A34.out).mono ?_); rintro e w44 ⟨rfl, hb⟩; refine ⟨_, rfl, ?_⟩; replace BK505 := qb BK505 hb; replace BK506 := qb BK506 hb; replace BK511 := qb BK511 hb; replace BK522 := qb BK522 hb; replace HB := qn HB hb; (try clear hb); (try clear hb2); (try clear hk); (try clear hi)) | ((with_reducible refine gate_dst (N := 13) rfl ?_); refine qx 13 #[.bool false, .string (⟨#[]⟩ : ByteArray), .string (⟨#[]⟩ : ByteArray)] 23 ?_; intro gb527 hg w45 hbox hb; have BK527 := Aside0.mk (hbox); have GW527 := qs hg HB; have GE527 := GW527; have NB505_527 := ql_ hg BK505; have NB527_505 := qg_ hg BK505; have NB506_527 := ql_ hg BK506; have NB527_506 := qg_ hg BK506; have NB511_527 := ql_ hg BK511; have NB527_511 := qg_ hg BK511; have NB522_527 := ql_ hg BK522; have NB527_522 := qg_ hg BK522; replace BK505 := qb BK505 hb; replace BK506 := qb BK506 hb; replace BK511 := qb BK511 hb; replace BK522 := qb BK522 hb; replace HB := qn HB hb; clear hb hbox hg; have hnb46 := NB527_505.out; have hnc46 := NB505_527.out; have hnb47 := NB527_506.out; have hnc47 := NB506_527.out; have hnb48 := NB527_511.out; have hnc48 := NB511_527.out; have hnb49 := NB527_522.out; have hnc49 := NB522_527.out; obtain ⟨hcz50_0, hcz50_1, hcz50_2, hfz50_0, hfz50_1, hfz50_2⟩ := q3 BK527) | ((with_reducible refine gate_callee (f := 20) rfl ?_); refine goesL_ (some 71) rfl rfl Tryd.func20 (by kernel_rfl) rfl #[.agg #[.bool t523, .string t524, .string t525], .int .i64 8, .int .i64 1, .int .i64 40] rfl ql ?_; (with_reducible refine (round_Significant.calls kj6 t523 t524 t525 8 1 40 t528 t529 t530 t531 _ A36.out).mono ?_); rintro e w51 ⟨rfl, hb⟩; refine ⟨_, rfl, ?_⟩; replace BK505 := Aside0.mk (blk_below (g := gb505) (o := .cells #[.bool a0_0, .string a0_1, .string a0_2] 23 (0, 0)) (by refine qf NB505_527 ?_; refine qf NB505_527 ?_; refine qf NB505_527 ?_; exact qk BK505) hb); replace BK506 := Aside0.mk (blk_below (g := gb506) (o := .cells #[.int .i64 a2_0, .int .i64 a2_1] 36 (0, 0)) (by refine qf NB506_527 ?_; refine qf NB506_527 ?_; refine qf NB506_527 ?_; exact qk BK506) hb); replace BK511 := Aside0.mk (blk_below (g := gb511) (o := .cells #[.bool t507, .string t508, .string t509] 23 (0, 0)) (by refine qf NB511_527 ?_; refine qf NB511_527 ?_; refine qf NB511_527 ?_; exact qk BK511) hb); replace BK522 := Aside0.mk (blk_below (g := gb522) (o := .cells #[.bool t518, .string t519, .string t520] 23 (0, 0)) (by refine qf NB522_527 ?_; refine qf NB522_527 ?_; refine qf NB522_527 ?_; exact qk BK522) hb); replace BK527 := Aside0.mk (blk_below (g := gb527) (o := .cells #[.bool t523, .string t524, .string t525] 23 (0, 0)) (by refine qp 2 #[.bool t523, .string t524, .string (⟨#[]⟩ : ByteArray)] ?_; refine qp 1 #[.bool t523, .string (⟨#[]⟩ : ByteArray), .string (⟨#[]⟩ : ByteArray)] ?_; refine qp 0 #[.bool false, .string (⟨#[]⟩ : ByteArray), .string (⟨#[]⟩ : ByteArray)] ?_; exact qk BK527) hb); replace HB := qn HB hb; (try clear hb); (try clear hb2); (try clear hk); (try clear hi)) | ((with_reducible refine gate_dst (N := 15) rfl ?_); refine qx 15 #[.bool false, .string (⟨#[]⟩ : ByteArray), .string (⟨#[]⟩ : ByteArray)] 23 ?_; intro gb532 hg w52 hbox hb; have BK532 := Aside0.mk (hbox); have GW532 := qs hg HB; have GE532 := GW532; have NB505_532 := ql_ hg BK505; have NB532_505 := qg_ hg BK505; have NB506_532 := ql_ hg BK506; have NB532_506 := qg_ hg BK506; have NB511_532 := ql_ hg BK511; have NB532_511 := qg_ hg BK511; have NB522_532 := ql_ hg BK522; have NB532_522 := qg_ hg BK522; have NB527_532 := ql_ hg BK527; have NB532_527 := qg_ hg BK527; replace BK505 := qb BK505 hb; replace BK506 := qb BK506 hb; replace BK511 := qb BK511 hb; replace BK522 := qb BK522 hb; replace BK527 := qb BK527 hb; replace HB := qn HB hb; clear hb hbox hg; have hnb53 := NB532_505.out; have hnc53 := NB505_532.out; have hnb54 := NB532_506.out; have hnc54 := NB506_532.out; have hnb55 := NB532_511.out; have hnc55 := NB511_532.out; have hnb56 := NB532_522.out; have hnc56 := NB522_532.out; have hnb57 := NB532_527.out; have hnc57 := NB527_532.out; obtain ⟨hcz58_0, hcz58_1, hcz58_2, hfz58_0, hfz58_1, hfz58_2⟩ := q3 BK532; obtain ⟨hcz59_0, hcz59_1, hcz59_2, hfz59_0, hfz59_1, hfz59_2⟩ := q3 BK527) | (go_at_call 12; (with_reducible refine (idiomlaw03_awake.calls kj6  t533 _ A39.out).mono ?_); rintro e w60 ⟨rfl, hb⟩; replace BK505 := Aside0.mk (blk_below (g := gb505) (o := .cells #[.bool a0_0, .string a0_1, .string a0_2] 23 (0, 0)) (by refine qf NB505_532 ?_; refine qf NB505_532 ?_; refine qf NB505_532 ?_; exact qk BK505) hb); replace BK506 := Aside0.mk (blk_below (g := gb506) (o := .cells #[.int .i64 a2_0, .int .i64 a2_1] 36 (0, 0)) (by refine qf NB506_532 ?_; refine qf NB506_532 ?_; refine qf NB506_532 ?_; exact qk BK506) hb); replace BK511 := Aside0.mk (blk_below (g := gb511) (o := .cells #[.bool t507, .string t508, .string t509] 23 (0, 0)) (by refine qf NB511_532 ?_; refine qf NB511_532 ?_; refine qf NB511_532 ?_; exact qk BK511) hb); replace BK522 := Aside0.mk (blk_below (g := gb522) (o := .cells #[.bool t518, .string t519, .string t520] 23 (0, 0)) (by refine qf NB522_532 ?_; refine qf NB522_532 ?_; refine qf NB522_532 ?_; exact qk BK522) hb); replace BK527 := Aside0.mk (blk_below (g := gb527) (o := .cells #[.bool t523, .string t524, .string t525] 23 (0, 0)) (by refine qf NB527_532 ?_; refine qf NB527_532 ?_; refine qf NB527_532 ?_; exact qk BK527) hb); replace BK532 := Aside0.mk (blk_below (g := gb532) (o := .cells #[.bool t528, .string t529, .string t530] 23 (0, 0)) (by refine qp 2 #[.bool t528, .string t529, .string (⟨#[]⟩ : ByteArray)] ?_; refine qp 1 #[.bool t528, .string (⟨#[]⟩ : ByteArray), .string (⟨#[]⟩ : ByteArray)] ?_; refine qp 0 #[.bool false, .string (⟨#[]⟩ : ByteArray), .string (⟨#[]⟩ : ByteArray)] ?_; exact qk BK532) hb); replace HB := qn HB hb; (try clear hb); (try clear hb2); (try clear hk); (try clear hi)))
             go_ret
             exact ⟨qe, qh HB⟩
           · rw [if_neg c38] at H
             exact absurd H (by simp)
         · rw [if_neg c37] at H
           exact absurd H (by simp)
       · rw [if_neg c35] at H
         exact absurd H (by simp)
 · rw [if_neg c5] at H
   have c5b0 : (t510 == 0) = false := beq_eq_false_iff_ne.mpr c5
   have c5b1 : (t510 != 0) = true := bne_iff_ne.mpr c5
   try have c5b1z := c5b1
   (try simp only [bne] at c5b1z)
   replace H := Option.bind_eq_some_iff.mp H
   obtain ⟨⟨t512, t513, t514, t515⟩, A610, H⟩ := H
   replace H : (if t510 = t515 then ((idiomlaw03_awake.f k).bind fun t517 => (some t517)) else (none)) = some r := H
   have A61 := Aside0.mk A610
   clear A610
   by_cases c62 : t510 = t515
   · rw [if_pos c62] at H
     have c62b0 : (t510 == t515) = true := beq_iff_eq.mpr c62
     have c62b1 : (t510 != t515) = false := bne_eq_false_iff_eq.mpr c62
     try have c62b1z := c62b1
     (try simp only [bne] at c62b1z)
     clear c62
     replace H := Option.bind_eq_some_iff.mp H
     obtain ⟨t517, A630, H⟩ := H
     replace H : (some t517) = some r := H
     have A63 := Aside0.mk A630
     clear A630
     obtain rfl := Option.some.inj H
     go_enter Tryd.func8, Tryd.ntmps8
     go_wp2_with (first | ((with_reducible refine gate_dst (N := 3) rfl ?_); refine qx 3 #[.bool a0_0, .string a0_1, .string a0_2] 23 ?_; intro gb505 hg w64 hbox hb; have BK505 := Aside0.mk (hbox); have GW505 := qs hg HB; have GE505 := GW505; replace HB := qn HB hb; clear hb hbox hg) | ((with_reducible refine gate_dst (N := 5) rfl ?_); refine qx 5 #[.int .i64 a2_0, .int .i64 a2_1] 36 ?_; intro gb506 hg w65 hbox hb; have BK506 := Aside0.mk (hbox); have GW506 := qs hg HB; have GE506 := GW506; have NB505_506 := ql_ hg BK505; have NB506_505 := qg_ hg BK505; replace BK505 := qb BK505 hb; replace HB := qn HB hb; clear hb hbox hg; have hnb66 := NB505_506.out; have hnc66 := NB506_505.out; obtain ⟨hcz67_0, hcz67_1, hcz67_2, hfz67_0, hfz67_1, hfz67_2⟩ := q3 BK505; obtain ⟨hcz68_0, hcz68_1, hfz68_0, hfz68_1⟩ := q2 BK506) | ((with_reducible refine gate_callee (f := 18) rfl ?_); refine goesL_ (some 24) rfl rfl Tryd.func18 (by kernel_rfl) rfl #[.agg #[.bool a0_0, .string a0_1, .string a0_2], .int .i64 a1, .int .i64 a2_0, .int .i64 a2_1] rfl ql ?_; (with_reducible refine (round_Fix.calls k a0_0 a0_1 a0_2 a1 a2_0 a2_1 t507 t508 t509 t510 _ A4.out).mono ?_); rintro e w69 ⟨rfl, hb⟩; refine ⟨_, rfl, ?_⟩; replace BK505 := qb BK505 hb; replace BK506 := qb BK506 hb; replace HB := qn HB hb; (try clear hb); (try clear hb2); (try clear hk); (try clear hi)) | ((with_reducible refine gate_dst (N := 7) rfl ?_); refine qx 7 #[.bool false, .string (⟨#[]⟩ : ByteArray), .string (⟨#[]⟩ : ByteArray)] 23 ?_; intro gb511 hg w70 hbox hb; have BK511 := Aside0.mk (hbox); have GW511 := qs hg HB; have GE511 := GW511; have NB505_511 := ql_ hg BK505; have NB511_505 := qg_ hg BK505; have NB506_511 := ql_ hg BK506; have NB511_506 := qg_ hg BK506; replace BK505 := qb BK505 hb; replace BK506 := qb BK506 hb; replace HB := qn HB hb; clear hb hbox hg; have hnb71 := NB511_505.out; have hnc71 := NB505_511.out; have hnb72 := NB511_506.out; have hnc72 := NB506_511.out; obtain ⟨hcz73_0, hcz73_1, hcz73_2, hfz73_0, hfz73_1, hfz73_2⟩ := q3 BK511; obtain ⟨hcz74_0, hcz74_1, hcz74_2, hfz74_0, hfz74_1, hfz74_2⟩ := q3 BK505; obtain ⟨hcz75_0, hcz75_1, hfz75_0, hfz75_1⟩ := q2 BK506) | ((with_reducible refine gate_callee (f := 19) rfl ?_); refine goesL_ (some 36) rfl rfl Tryd.func19 (by kernel_rfl) rfl #[.agg #[.bool a0_0, .string a0_1, .string a0_2], .int .i64 a1, .int .i64 a2_0, .int .i64 a2_1] rfl ql ?_; (with_reducible refine (idiomref03_Fix.calls k a0_0 a0_1 a0_2 a1 a2_0 a2_1 t512 t513 t514 t515 _ A61.out).mono ?_); rintro e w76 ⟨rfl, hb⟩; refine ⟨_, rfl, ?_⟩; replace BK505 := Aside0.mk (blk_below (g := gb505) (o := .cells #[.bool a0_0, .string a0_1, .string a0_2] 23 (0, 0)) (by refine qf NB505_511 ?_; refine qf NB505_511 ?_; refine qf NB505_511 ?_; exact qk BK505) hb); replace BK506 := Aside0.mk (blk_below (g := gb506) (o := .cells #[.int .i64 a2_0, .int .i64 a2_1] 36 (0, 0)) (by refine qf NB506_511 ?_; refine qf NB506_511 ?_; refine qf NB506_511 ?_; exact qk BK506) hb); replace BK511 := Aside0.mk (blk_below (g := gb511) (o := .cells #[.bool t507, .string t508, .string t509] 23 (0, 0)) (by refine qp 2 #[.bool t507, .string t508, .string (⟨#[]⟩ : ByteArray)] ?_; refine qp 1 #[.bool t507, .string (⟨#[]⟩ : ByteArray), .string (⟨#[]⟩ : ByteArray)] ?_; refine qp 0 #[.bool false, .string (⟨#[]⟩ : ByteArray), .string (⟨#[]⟩ : ByteArray)] ?_; exact qk BK511) hb); replace HB := qn HB hb; (try clear hb); (try clear hb2); (try clear hk); (try clear hi)) | ((with_reducible refine gate_dst (N := 9) rfl ?_); refine qx 9 #[.bool false, .string (⟨#[]⟩ : ByteArray), .string (⟨#[]⟩ : ByteArray)] 23 ?_; intro gb516 hg w77 hbox hb; have BK516 := Aside0.mk (hbox); have GW516 := qs hg HB; have GE516 := GW516; have NB505_516 := ql_ hg BK505; have NB516_505 := qg_ hg BK505; have NB506_516 := ql_ hg BK506; have NB516_506 := qg_ hg BK506; have NB511_516 := ql_ hg BK511; have NB516_511 := qg_ hg BK511; replace BK505 := qb BK505 hb; replace BK506 := qb BK506 hb; replace BK511 := qb BK511 hb; replace HB := qn HB hb; clear hb hbox hg; have hnb78 := NB516_505.out; have hnc78 := NB505_516.out; have hnb79 := NB516_506.out; have hnc79 := NB506_516.out; have hnb80 := NB516_511.out; have hnc80 := NB511_516.out; obtain ⟨hcz81_0, hcz81_1, hcz81_2, hfz81_0, hfz81_1, hfz81_2⟩ := q3 BK516) | (go_at_call 12; (with_reducible refine (idiomlaw03_awake.calls k  t517 _ A63.out).mono ?_); rintro e w82 ⟨rfl, hb⟩; replace BK505 := Aside0.mk (blk_below (g := gb505) (o := .cells #[.bool a0_0, .string a0_1, .string a0_2] 23 (0, 0)) (by refine qf NB505_516 ?_; refine qf NB505_516 ?_; refine qf NB505_516 ?_; exact qk BK505) hb); replace BK506 := Aside0.mk (blk_below (g := gb506) (o := .cells #[.int .i64 a2_0, .int .i64 a2_1] 36 (0, 0)) (by refine qf NB506_516 ?_; refine qf NB506_516 ?_; refine qf NB506_516 ?_; exact qk BK506) hb); replace BK511 := Aside0.mk (blk_below (g := gb511) (o := .cells #[.bool t507, .string t508, .string t509] 23 (0, 0)) (by refine qf NB511_516 ?_; refine qf NB511_516 ?_; refine qf NB511_516 ?_; exact qk BK511) hb); replace BK516 := Aside0.mk (blk_below (g := gb516) (o := .cells #[.bool t512, .string t513, .string t514] 23 (0, 0)) (by refine qp 2 #[.bool t512, .string t513, .string (⟨#[]⟩ : ByteArray)] ?_; refine qp 1 #[.bool t512, .string (⟨#[]⟩ : ByteArray), .string (⟨#[]⟩ : ByteArray)] ?_; refine qp 0 #[.bool false, .string (⟨#[]⟩ : ByteArray), .string (⟨#[]⟩ : ByteArray)] ?_; exact qk BK516) hb); replace HB := qn HB hb; (try clear hb); (try clear hb2); (try clear hk); (try clear hi)))
     go_ret
     exact ⟨qe, qh HB⟩
   · rw [if_neg c62] at H
     exact absurd H (by simp)

end Go.Proofs.YtpmhebdaphjinaaDoor.F
set_option linter.unusedVariables false
set_option linter.unusedSimpArgs false
namespace Go.Proofs.YtpmhebdaphjinaaDoor.Dig
open Go.RowKit Go.Proofs.YtpmhebdaphjinaaDoorW.PrintWords

/-- A list of digits. -/
def Dg (l : List Nat) : Prop := ∀ d ∈ l, d ≤ 9
/-- The text of a list of digits. -/
def ofD (l : List Nat) : ByteArray := ⟨(l.map fun d => UInt8.ofNat (d + 48)).toArray⟩
/-- What a list of digits is worth. -/
def val : List Nat → Nat
  | [] => 0
  | d :: l => d * 10 ^ l.length + val l
/-- Without noughts ahead; '0' of none. -/
def lead : List Nat → List Nat
  | [] => [0]
  | [d] => [d]
  | d :: e :: t => if d = 0 then lead (e :: t) else d :: e :: t
def Canon (l : List Nat) : Prop := l ≠ [] ∧ (l.length = 1 ∨ l.getD 0 0 ≠ 0)

theorem Dg.nil : Dg [] := fun _ h => by cases h
theorem Dg.cons {d : Nat} {l : List Nat} (h : d ≤ 9) (hl : Dg l) : Dg (d :: l) := fun x hx => by
  rcases List.mem_cons.1 hx with rfl | hx
  · exact h
  · exact hl x hx
theorem Dg.head {d : Nat} {l : List Nat} (h : Dg (d :: l)) : d ≤ 9 := h d (by simp)
theorem Dg.tail {d : Nat} {l : List Nat} (h : Dg (d :: l)) : Dg l := fun x hx => h x (by simp [hx])
theorem Dg.append {l m : List Nat} (hl : Dg l) (hm : Dg m) : Dg (l ++ m) := fun x hx => by
  rcases List.mem_append.1 hx with hx | hx
  · exact hl x hx
  · exact hm x hx
theorem Dg.take {l : List Nat} (h : Dg l) (n : Nat) : Dg (l.take n) := fun x hx => h x (List.mem_of_mem_take hx)
theorem Dg.drop {l : List Nat} (h : Dg l) (n : Nat) : Dg (l.drop n) := fun x hx => h x (List.mem_of_mem_drop hx)
theorem Dg.zeros (n : Nat) : Dg (List.replicate n 0) := fun x hx => by rw [List.eq_of_mem_replicate hx]; omega
theorem Dg.get {l : List Nat} (h : Dg l) (i : Nat) : l.getD i 0 ≤ 9 := by
  rw [List.getD_eq_getElem?_getD]
  cases e : l[i]? with
  | none => simp
  | some d => exact h d (List.mem_of_getElem? e)
theorem Dg.set {l : List Nat} (h : Dg l) (i : Nat) {d : Nat} (hd : d ≤ 9) : Dg (l.set i d) := fun x hx => by
  rcases List.mem_or_eq_of_mem_set hx with hx | rfl
  · exact h x hx
  · exact hd

theorem val_append (l m : List Nat) : val (l ++ m) = val l * 10 ^ m.length + val m := by
  induction l with
  | nil => simp [val]
  | cons d l ih =>
    simp only [List.cons_append, val, ih, List.length_append, Nat.pow_add, Nat.add_mul, Nat.mul_assoc]
    omega
theorem val_snoc (l : List Nat) (d : Nat) : val (l ++ [d]) = val l * 10 + d := by rw [val_append]; simp [val]
theorem val_lt {l : List Nat} (h : Dg l) : val l < 10 ^ l.length := by
  induction l with
  | nil => simp [val]
  | cons d l ih =>
    have h1 := h.head
    have h2 := ih h.tail
    simp only [val, List.length_cons, Nat.pow_succ]
    have h3 : d * 10 ^ l.length ≤ 9 * 10 ^ l.length := Nat.mul_le_mul_right _ h1
    omega
theorem val_zeros (n : Nat) : val (List.replicate n 0) = 0 := by
  induction n with
  | zero => rfl
  | succ n ih => simp [List.replicate_succ, val, ih]
theorem val_zeros_append (n : Nat) (l : List Nat) : val (List.replicate n 0 ++ l) = val l := by rw [val_append, val_zeros]; simp
theorem val_append_zeros (n : Nat) (l : List Nat) : val (l ++ List.replicate n 0) = val l * 10 ^ n := by rw [val_append, val_zeros]; simp
theorem val_eq_zero {l : List Nat} : val l = 0 ↔ ∀ d ∈ l, d = 0 := by
  induction l with
  | nil => simp [val]
  | cons d l ih =>
    simp only [val, List.mem_cons, forall_eq_or_imp]
    have hp : 0 < 10 ^ l.length := Nat.pow_pos (by omega)
    constructor
    · intro h
      have h2 : val l = 0 := by omega
      have h1 : d * 10 ^ l.length = 0 := by omega
      rcases Nat.mul_eq_zero.1 h1 with h1 | h1
      · exact ⟨h1, ih.1 h2⟩
      · omega
    · rintro ⟨rfl, h⟩
      simp [ih.2 h]
theorem val_take_drop (l : List Nat) (n : Nat) : val l = val (l.take n) * 10 ^ (l.length - n) + val (l.drop n) := by
  conv => lhs; rw [← List.take_append_drop n l]
  rw [val_append, List.length_drop]
theorem val_take {l : List Nat} (h : Dg l) (n : Nat) : val (l.take n) = val l / 10 ^ (l.length - n) := by
  have h1 := val_take_drop l n
  have h2 := val_lt (h.drop n)
  rw [List.length_drop] at h2
  have hp : 0 < 10 ^ (l.length - n) := Nat.pow_pos (by omega)
  rw [h1, Nat.add_comm, Nat.add_mul_div_right _ _ hp, Nat.div_eq_of_lt h2, Nat.zero_add]
theorem val_drop {l : List Nat} (h : Dg l) (n : Nat) : val (l.drop n) = val l % 10 ^ (l.length - n) := by
  have h1 := val_take_drop l n
  have h2 := val_lt (h.drop n)
  rw [List.length_drop] at h2
  rw [h1, Nat.add_comm, Nat.add_mul_mod_self_right, Nat.mod_eq_of_lt h2]
theorem eq_of_val : ∀ {l m : List Nat}, Dg l → Dg m → l.length = m.length → val l = val m → l = m
  | [], [], _, _, _, _ => rfl
  | [], _ :: _, _, _, h, _ => by simp at h
  | _ :: _, [], _, _, h, _ => by simp at h
  | d :: l, e :: m, hl, hm, h, hv => by
    have h1 : l.length = m.length := by simpa using h
    have a := val_lt hl.tail
    have b := val_lt hm.tail
    simp only [val, h1] at hv a
    have hp : 0 < 10 ^ m.length := Nat.pow_pos (by omega)
    have hd : d = e := by
      have x : (d * 10 ^ m.length + val l) / 10 ^ m.length = d := by
        rw [Nat.add_comm, Nat.add_mul_div_right _ _ hp, Nat.div_eq_of_lt a]; omega
      have y : (e * 10 ^ m.length + val m) / 10 ^ m.length = e := by
        rw [Nat.add_comm, Nat.add_mul_div_right _ _ hp, Nat.div_eq_of_lt b]; omega
      rw [hv] at x
      omega
    subst hd
    rw [eq_of_val hl.tail hm.tail h1 (by omega)]

theorem lead_ne (l : List Nat) : lead l ≠ [] := by
  fun_induction lead l <;> simp_all
theorem Dg.lead {l : List Nat} (h : Dg l) : Dg (lead l) := by
  fun_induction Dig.lead l with
  | case1 => exact Dg.cons (by omega) Dg.nil
  | case2 => exact h
  | case3 e t ih => exact ih h.tail
  | case4 => exact h
theorem val_lead (l : List Nat) : val (lead l) = val l := by
  fun_induction lead l with
  | case1 => rfl
  | case2 => rfl
  | case3 e t ih => rw [ih]; simp [val]
  | case4 => rfl
theorem canon_lead (l : List Nat) : Canon (lead l) := by
  fun_induction lead l with
  | case1 => exact ⟨by simp, .inl rfl⟩
  | case2 => exact ⟨by simp, .inl rfl⟩
  | case3 e t ih => exact ih
  | case4 d e t h => exact ⟨by simp, .inr (by simpa using h)⟩
theorem lead_length (l : List Nat) : (lead l).length ≤ max 1 l.length := by
  fun_induction lead l with
  | case1 => simp
  | case2 => simp
  | case3 e t ih => simp at ih ⊢; omega
  | case4 => simp
theorem Canon.lead {l : List Nat} (h : Canon l) : lead l = l := by
  fun_induction Dig.lead l with
  | case1 => exact absurd rfl h.1
  | case2 => rfl
  | case3 e t ih => rcases h.2 with h2 | h2 <;> simp at h2
  | case4 => rfl
theorem Canon.le_val {l : List Nat} (h : Canon l) (h1 : l.length ≠ 1) : 10 ^ (l.length - 1) ≤ val l := by
  cases l with
  | nil => exact absurd rfl h.1
  | cons d l =>
    rcases h.2 with h2 | h2
    · exact absurd h2 h1
    · simp only [List.getD_cons_zero] at h2
      simp only [val, List.length_cons, Nat.add_sub_cancel]
      have : 1 * 10 ^ l.length ≤ d * 10 ^ l.length := Nat.mul_le_mul_right _ (by omega)
      omega
theorem canon_length_le {l m : List Nat} (hm : Dg m) (cl : Canon l) (h : val l ≤ val m) (cm : m ≠ []) : l.length ≤ m.length := by
  by_cases h1 : l.length = 1
  · have : m.length ≠ 0 := by simpa using cm
    omega
  · have a := cl.le_val h1
    have b := val_lt hm
    have c : 10 ^ (l.length - 1) < 10 ^ m.length := by omega
    have := (Nat.pow_lt_pow_iff_right (show 1 < 10 by omega)).1 c
    omega
theorem canon_unique {l m : List Nat} (hl : Dg l) (hm : Dg m) (cl : Canon l) (cm : Canon m) (h : val l = val m) : l = m := by
  have a := canon_length_le hm cl (by omega) cm.1
  have b := canon_length_le hl cm (by omega) cl.1
  exact eq_of_val hl hm (by omega) h
theorem lead_eq {l m : List Nat} (hl : Dg l) (hm : Dg m) (h : val l = val m) : lead l = lead m :=
  canon_unique hl.lead hm.lead (canon_lead _) (canon_lead _) (by rw [val_lead, val_lead, h])
theorem canon_zero {l : List Nat} (hl : Dg l) (cl : Canon l) (h : val l = 0) : l = [0] :=
  canon_unique hl (Dg.cons (by omega) Dg.nil) cl ⟨by simp, .inl rfl⟩ (by simp [h, val])

theorem ofNat48 {d : Nat} (h : d ≤ 9) : (UInt8.ofNat (d + 48)).toNat = d + 48 := by
  rw [UInt8.toNat_ofNat']; omega
theorem size_ofD (l : List Nat) : (ofD l).size = l.length := by simp [ofD, ByteArray.size]
theorem data_ofD (l : List Nat) : (ofD l).data.toList = l.map fun d => UInt8.ofNat (d + 48) := by simp [ofD]
theorem toList_ofD (l : List Nat) : (ofD l).toList = l.map fun d => UInt8.ofNat (d + 48) := by rw [ByteArray.toList_eq, data_ofD]
theorem ext_data {s t : ByteArray} (h : s.data.toList = t.data.toList) : s = t := by
  obtain ⟨⟨l⟩⟩ := s
  obtain ⟨⟨m⟩⟩ := t
  simpa using h
theorem ofD_append (l m : List Nat) : ofD l ++ ofD m = ofD (l ++ m) := by
  apply ext_data
  rw [ByteArray.data_append]
  simp [ofD]
theorem ofD_extract (l : List Nat) (a b : Nat) : (ofD l).extract a b = ofD ((l.drop a).take (b - a)) := by
  apply ext_data
  rw [Lib.extract_data, data_ofD, data_ofD]
  simp [List.map_take, List.map_drop]
theorem bt_ofD {l : List Nat} (h : Dg l) {i : Int} (h0 : 0 ≤ i) (h1 : i < l.length) : bt (ofD l) i = ((l.getD i.toNat 0 + 48 : Nat) : Int) := by
  have hs : i.toNat < (ofD l).size := by rw [size_ofD]; omega
  have hi : i.toNat < l.length := by omega
  have hd := h (l[i.toNat]) (List.getElem_mem hi)
  unfold bt
  rw [dif_pos hs]
  have e : (ofD l)[i.toNat] = UInt8.ofNat (l[i.toNat] + 48) := by
    show (ofD l).data[i.toNat] = _
    simp [ofD]
  rw [e, ofNat48 hd]
  simp [List.getD_eq_getElem?_getD, hi]
theorem ofD_inj {l m : List Nat} (hl : Dg l) (hm : Dg m) (h : ofD l = ofD m) : l = m := by
  have h1 : (ofD l).data.toList = (ofD m).data.toList := by rw [h]
  rw [data_ofD, data_ofD] at h1
  clear h
  induction l generalizing m with
  | nil => cases m with
    | nil => rfl
    | cons e m => simp at h1
  | cons d l ih => cases m with
    | nil => simp at h1
    | cons e m =>
      simp only [List.map_cons, List.cons.injEq] at h1
      have a := ofNat48 hl.head
      have b := ofNat48 hm.head
      rw [h1.1, b] at a
      rw [ih hl.tail hm.tail h1.2]
      simp; omega
theorem toList_inj {l m : List Nat} (hl : Dg l) (hm : Dg m) : (ofD l).toList = (ofD m).toList ↔ l = m := by
  constructor
  · intro h
    rw [ByteArray.toList_eq, ByteArray.toList_eq] at h
    exact ofD_inj hl hm (ext_data h)
  · rintro rfl; rfl
theorem toList_nil {l : List Nat} : (ofD l).toList = [] ↔ l = [] := by rw [toList_ofD]; simp
theorem ofD_zero : (⟨#[48]⟩ : ByteArray) = ofD [0] := rfl
theorem ofD_one : (⟨#[49]⟩ : ByteArray) = ofD [1] := rfl
theorem ofD_five : (⟨#[53]⟩ : ByteArray) = ofD [5] := rfl
theorem ofD_nil : (⟨#[]⟩ : ByteArray) = ofD [] := rfl
theorem strOfNums_ofD (l : List Nat) : strOfNums (l.map fun d => ((d + 48 : Nat) : Int)) = ofD l := by
  unfold strOfNums ofD
  rw [List.map_map]
  simp only [Function.comp_def, Int.toNat_natCast]
/-- A text all of whose bytes are digits. -/
theorem of_bytes (s : ByteArray) (h : ∀ i : Nat, i < s.size → 48 ≤ bt s i ∧ bt s i ≤ 57) : ∃ l, Dg l ∧ s = ofD l := by
  refine ⟨s.data.toList.map fun c => c.toNat - 48, ?_, ?_⟩
  · intro d hd
    obtain ⟨c, hc, rfl⟩ := List.mem_map.1 hd
    obtain ⟨i, hi, rfl⟩ := List.mem_iff_getElem.1 hc
    have hi2 : i < s.size := by simpa using hi
    have := h i hi2
    unfold bt at this
    rw [dif_pos (by simpa using hi2)] at this
    have e : s.data.toList[i].toNat = (s[((i : Nat) : Int).toNat]'(by simpa using hi2)).toNat := by simp; rfl
    omega
  · apply ext_data
    rw [data_ofD, List.map_map]
    conv => lhs; rw [← List.map_id s.data.toList]
    apply List.map_congr_left
    intro c hc
    obtain ⟨i, hi, rfl⟩ := List.mem_iff_getElem.1 hc
    have hi2 : i < s.size := by simpa using hi
    have := h i hi2
    unfold bt at this
    rw [dif_pos (by simpa using hi2)] at this
    have e : s.data.toList[i].toNat = (s[((i : Nat) : Int).toNat]'(by simpa using hi2)).toNat := by simp; rfl
    simp only [id, Function.comp]
    apply UInt8.toNat_inj.1
    rw [UInt8.toNat_ofNat']
    have := s.data.toList[i].toNat_lt
    omega
theorem bytesLess_ofD : ∀ {l m : List Nat}, Dg l → Dg m → l.length = m.length → Op.bytesLess (ofD l).toList (ofD m).toList = decide (val l < val m) := by
  intro l m hl hm h
  rw [toList_ofD, toList_ofD]
  induction l generalizing m with
  | nil => cases m with
    | nil => simp [Op.bytesLess, val]
    | cons e m => simp at h
  | cons d l ih => cases m with
    | nil => simp at h
    | cons e m =>
      have h1 : l.length = m.length := by simpa using h
      simp only [List.map_cons, Op.bytesLess, ih hl.tail hm.tail h1]
      have a := ofNat48 hl.head
      have b := ofNat48 hm.head
      have e1 : (UInt8.ofNat (d + 48) < UInt8.ofNat (e + 48)) = (d < e) := by rw [UInt8.lt_iff_toNat_lt, a, b]; simp
      have e2 : (UInt8.ofNat (d + 48) == UInt8.ofNat (e + 48)) = (d == e) := by
        rw [Bool.eq_iff_iff]; simp only [beq_iff_eq, ← UInt8.toNat_inj, a, b]; omega
      rw [e2]
      simp only [val, h1]
      have va := val_lt hl.tail
      have vb := val_lt hm.tail
      rw [h1] at va
      rw [Bool.eq_iff_iff]
      simp only [Bool.or_eq_true, decide_eq_true_eq, Bool.and_eq_true, beq_iff_eq, e1]
      constructor
      · rintro (h2 | ⟨rfl, h2⟩)
        · have : (d + 1) * 10 ^ m.length ≤ e * 10 ^ m.length := Nat.mul_le_mul_right _ h2
          rw [Nat.add_mul] at this
          omega
        · omega
      · intro h2
        rcases Nat.lt_trichotomy d e with h3 | h3 | h3
        · exact .inl h3
        · exact .inr ⟨h3, by subst h3; omega⟩
        · have : (e + 1) * 10 ^ m.length ≤ d * 10 ^ m.length := Nat.mul_le_mul_right _ h3
          rw [Nat.add_mul] at this
          omega
theorem dropWhile_ofD {l : List Nat} (h : Dg l) : (l.map fun d => UInt8.ofNat (d + 48)).dropWhile (· == 48) = (l.dropWhile (· == 0)).map fun d => UInt8.ofNat (d + 48) := by
  induction l with
  | nil => rfl
  | cons d l ih =>
    have a := ofNat48 h.head
    have e : (UInt8.ofNat (d + 48) == 48) = (d == 0) := by
      rw [Bool.eq_iff_iff]; simp only [beq_iff_eq, ← UInt8.toNat_inj, a]; simp
    simp only [List.map_cons, List.dropWhile_cons, e]
    split
    · exact ih h.tail
    · simp
def tl (l : List Nat) : List Nat := l.dropWhile (· == 0)
def tt (l : List Nat) : List Nat := tl (l.reverse.dropWhile (· == 0)).reverse
theorem Dg.dropWhile {l : List Nat} (h : Dg l) : Dg (l.dropWhile (· == 0)) := fun x hx => h x (List.dropWhile_sublist _ |>.subset hx)
theorem Dg.reverse {l : List Nat} (h : Dg l) : Dg l.reverse := fun x hx => h x (by simpa using hx)
theorem Dg.tl {l : List Nat} (h : Dg l) : Dg (tl l) := h.dropWhile
theorem Dg.tt {l : List Nat} (h : Dg l) : Dg (tt l) := (h.reverse.dropWhile).reverse.tl
theorem trimLeft_ofD {l : List Nat} (h : Dg l) : (⟨(Lib.trimLeftB (ofD l).data.toList 48).toArray⟩ : ByteArray) = ofD (tl l) := by
  apply ext_data
  rw [data_ofD, data_ofD]
  simp only [Lib.trimLeftB, tl]
  rw [dropWhile_ofD h]
theorem trim_ofD {l : List Nat} (h : Dg l) : (⟨(Lib.trimB (ofD l).data.toList 48).toArray⟩ : ByteArray) = ofD (tt l) := by
  apply ext_data
  rw [data_ofD, data_ofD]
  simp only [Lib.trimB, Lib.trimRightB, Lib.trimLeftB, tt, tl]
  rw [← List.map_reverse, dropWhile_ofD h.reverse, ← List.map_reverse, dropWhile_ofD (h.reverse.dropWhile).reverse]
theorem dropWhile_nil {l : List Nat} : l.dropWhile (· == 0) = [] ↔ ∀ d ∈ l, d = 0 := by
  induction l with
  | nil => simp
  | cons d l ih =>
    simp only [List.dropWhile_cons, List.mem_cons, forall_eq_or_imp]
    split
    · rename_i h; simp at h; simp [h, ih]
    · rename_i h; simp at h; simp [h]
theorem tl_nil {l : List Nat} : tl l = [] ↔ val l = 0 := by rw [val_eq_zero]; exact dropWhile_nil
theorem tt_nil {l : List Nat} : tt l = [] ↔ val l = 0 := by
  rw [tt, tl_nil, val_eq_zero, val_eq_zero]
  constructor
  · intro h d hd
    by_cases hz : ∀ d ∈ l.reverse, d = 0
    · exact hz d (by simpa using hd)
    · exfalso
      apply hz
      rw [← dropWhile_nil]
      cases e : l.reverse.dropWhile (· == 0) with
      | nil => rfl
      | cons x t =>
        have h1 := h x (by rw [e]; simp)
        have h2 := List.head_dropWhile_not (fun d : Nat => d == 0) (l := l.reverse) (by rw [e]; simp)
        simp only [e, List.head_cons, h1] at h2
        simp at h2
  · intro h d hd
    have hd' := (List.dropWhile_sublist _).subset (List.mem_reverse.1 hd)
    exact h d (by simpa using hd')
theorem tl_lead (l : List Nat) : lead l = if tl l = [] then (if l = [] then [0] else [0]) else tl l := by
  fun_induction lead l with
  | case1 => simp [tl]
  | case2 d => by_cases h : d = 0 <;> simp [tl, h]
  | case3 e t ih => rw [ih]; simp [tl]
  | case4 d e t h => simp [tl, h]
theorem lead_of_tl (l : List Nat) : lead l = if tl l = [] then [0] else tl l := by rw [tl_lead]; split <;> simp
theorem val_tl (l : List Nat) : val (tl l) = val l := by
  induction l with
  | nil => rfl
  | cons d l ih =>
    simp only [tl, List.dropWhile_cons] at ih ⊢
    split
    · rename_i h; simp at h; simp [val, h, ih]
    · rfl
theorem repeat_ofD (n : Nat) : (⟨(Lib.repeatL (⟨#[48]⟩ : ByteArray).data.toList n).toArray⟩ : ByteArray) = ofD (List.replicate n 0) := by
  apply ext_data
  rw [data_ofD]
  simp only [List.map_replicate]
  induction n with
  | zero => rfl
  | succ n ih =>
    simp only [Lib.repeatL, List.replicate_succ]
    show (⟨#[48]⟩ : ByteArray).data.toList ++ Lib.repeatL (⟨#[48]⟩ : ByteArray).data.toList n = _
    rw [show Lib.repeatL (⟨#[48]⟩ : ByteArray).data.toList n = List.replicate n (UInt8.ofNat (0 + 48)) from ih]
    rfl
end Go.Proofs.YtpmhebdaphjinaaDoor.Dig
