/- Part 2 of 2 of the proof of the law RunesEscapes: it is true at every input. Conditions: those of the given row, no others. -/
import Derived.Test.YtigikjihagmokaaDoorPkRunesEscapes0
import Derived.Lib.TrimUEq
import Derived.Laws.BitsLemmas
import Derived.Shelf.Strings.BuilderRune
import Derived.Lib.MapLaws
import Derived.Lib.Small
import Derived.Deep.DeepHandedRow
import Derived.WalkKit
import Derived.LaidLaws
import Derived.Test.YtigikjihagmokaaDoorRows
import Derived.Test.YtigikjihagmokaaDoorCards
import Derived.Test.YtigikjihagmokaaDoorTie
import Derived.ProofKit
import Derived.OpenShut
import Derived.ShutString
import Derived.ChangeOld
import Derived.Below
import Derived.SizedLaws
import Derived.Carry
import Derived.Lib.SmallJoins
import Derived.PinnedBridge
import Derived.Lay
import Derived.LaidOnce
import Derived.SevenTiedAt
namespace Go.Proofs.YtigikjihagmokaaDoor.F
open Go.RowKit Go.Proofs.YtigikjihagmokaaDoorW.PrintWords Go.Proofs.YtigikjihagmokaaDoorW.PrintLast Go.Proofs.YtigikjihagmokaaDoorW.PrintMore Go.Proofs.YtigikjihagmokaaDoor.Q
attribute [local go_sem] max2_int min2_int max_two min_two max_three min_three max_four min_four   -- for this text's walks alone
set_option linter.unusedVariables false
set_option linter.unusedSimpArgs false

mutual
def idiomref01_Step.j2 : Nat → ByteArray → Int → Int → Int → Int → Int → Option (Int × Int)
 | 0, _, _, _, _, _, _ => none
 | k + 1, x0, x1, x6, x8, x9, x10 => if x6 < x8 then (some ((-1), 1)) else (idiomref01_Step.l0 k x0 x1 x8 x9 x10 1)
def idiomref01_Step.l0 : Nat → ByteArray → Int → Int → Int → Int → Int → Option (Int × Int)
 | 0, _, _, _, _, _, _ => none
 | k + 1, x0, x1, x8, x9, x10, x11 => if x11 < x8 then (if 0 ≤ (wrap64 (x1 + x11)) then (if (wrap64 (x1 + x11)) < (x0.size : Int) then (if (wrap64 (bt x0 (wrap64 (x1 + x11)))) < 128 then (some ((-1), 1)) else (if (wrap64 (bt x0 (wrap64 (x1 + x11)))) ≥ 192 then (some ((-1), 1)) else (idiomref01_Step.l0 k x0 x1 x8 x9 (wrap64 ((wrap64 ((wrap64 (x10 * 64)) + (wrap64 (bt x0 (wrap64 (x1 + x11)))))) - 128)) (wrap64 (x11 + 1))))) else (none)) else (none)) else (if x10 < x9 then (some ((-1), 1)) else (if x10 > 1114111 then (some ((-1), 1)) else (if x10 ≥ 55296 then (if x10 ≤ 57343 then (some ((-1), 1)) else (some (x10, x8))) else (some (x10, x8)))))
def idiomref01_Step.j0 : Nat → ByteArray → Int → Int → Int → Bool → Option (Int × Int)
 | 0, _, _, _, _, _ => none
 | k + 1, x0, x1, x6, x7, x27 => if x27 = true then (idiomref01_Step.j2 k x0 x1 x6 2 128 (wrap64 (x7 - 192))) else (if x7 ≥ 224 then (idiomref01_Step.j1 k x0 x1 x6 x7 (decide (x7 < 240))) else (idiomref01_Step.j1 k x0 x1 x6 x7 false))
def idiomref01_Step.j1 : Nat → ByteArray → Int → Int → Int → Bool → Option (Int × Int)
 | 0, _, _, _, _, _ => none
 | k + 1, x0, x1, x6, x7, x36 => if x36 = true then (idiomref01_Step.j2 k x0 x1 x6 3 2048 (wrap64 (x7 - 224))) else (if x7 ≥ 240 then (if x7 < 248 then (idiomref01_Step.j2 k x0 x1 x6 4 65536 (wrap64 (x7 - 240))) else (some ((-1), 1))) else (some ((-1), 1)))
end
def idiomref01_Step.f (k : Nat) (a0 : ByteArray) (a1 : Int) : Option (Int × Int) := if (wrap64 ((a0.size : Int) - a1)) ≤ 0 then (some (0, 0)) else (if 0 ≤ a1 then (if a1 < (a0.size : Int) then (if (wrap64 (bt a0 a1)) < 128 then (some (wrap64 (bt a0 a1), 1)) else (if (wrap64 (bt a0 a1)) ≥ 192 then (idiomref01_Step.j0 k a0 a1 (wrap64 ((a0.size : Int) - a1)) (wrap64 (bt a0 a1)) (decide ((wrap64 (bt a0 a1)) < 224))) else (idiomref01_Step.j0 k a0 a1 (wrap64 ((a0.size : Int) - a1)) (wrap64 (bt a0 a1)) false))) else (none)) else (none))
theorem idiomref01_Step.mono_l : ∀ k, (∀ y0 y1 y2 y3 y4 y5, LeO (idiomref01_Step.j2 k y0 y1 y2 y3 y4 y5) (idiomref01_Step.j2 (k + 1) y0 y1 y2 y3 y4 y5)) ∧ (∀ y0 y1 y2 y3 y4 y5, LeO (idiomref01_Step.l0 k y0 y1 y2 y3 y4 y5) (idiomref01_Step.l0 (k + 1) y0 y1 y2 y3 y4 y5)) ∧ (∀ y0 y1 y2 y3 y4, LeO (idiomref01_Step.j0 k y0 y1 y2 y3 y4) (idiomref01_Step.j0 (k + 1) y0 y1 y2 y3 y4)) ∧ (∀ y0 y1 y2 y3 y4, LeO (idiomref01_Step.j1 k y0 y1 y2 y3 y4) (idiomref01_Step.j1 (k + 1) y0 y1 y2 y3 y4))
 | 0 => ⟨fun _ _ _ _ _ _ r h => by simp [idiomref01_Step.j2] at h, fun _ _ _ _ _ _ r h => by simp [idiomref01_Step.l0] at h, fun _ _ _ _ _ r h => by simp [idiomref01_Step.j0] at h, fun _ _ _ _ _ r h => by simp [idiomref01_Step.j1] at h⟩
 | k + 1 => by
  obtain ⟨ih0, ih1, ih2, ih3⟩ := idiomref01_Step.mono_l k
  refine ⟨?_, ?_, ?_, ?_⟩
  · intro y0 y1 y2 y3 y4 y5
    unfold idiomref01_Step.j2
    repeat' first
    | (with_reducible exact ih0 _ _ _ _ _ _)
    | (with_reducible exact ih1 _ _ _ _ _ _)
    | (with_reducible exact ih2 _ _ _ _ _)
    | (with_reducible exact ih3 _ _ _ _ _)
    | (with_reducible exact LeO.refl _)
    | (with_reducible exact LeO.none _)
    | (with_reducible refine LeO.ite ?_ ?_)
    | (with_reducible refine LeO.bind ?_ (fun _ => ?_))
    | exact ih0 _ _ _ _ _ _
    | exact ih1 _ _ _ _ _ _
    | exact ih2 _ _ _ _ _
    | exact ih3 _ _ _ _ _
    | exact LeO.none _
    | refine LeO.ite ?_ ?_
    | refine LeO.bind ?_ (fun _ => ?_)
  · intro y0 y1 y2 y3 y4 y5
    unfold idiomref01_Step.l0
    repeat' first
    | (with_reducible exact ih0 _ _ _ _ _ _)
    | (with_reducible exact ih1 _ _ _ _ _ _)
    | (with_reducible exact ih2 _ _ _ _ _)
    | (with_reducible exact ih3 _ _ _ _ _)
    | (with_reducible exact LeO.refl _)
    | (with_reducible exact LeO.none _)
    | (with_reducible refine LeO.ite ?_ ?_)
    | (with_reducible refine LeO.bind ?_ (fun _ => ?_))
    | exact ih0 _ _ _ _ _ _
    | exact ih1 _ _ _ _ _ _
    | exact ih2 _ _ _ _ _
    | exact ih3 _ _ _ _ _
    | exact LeO.none _
    | refine LeO.ite ?_ ?_
    | refine LeO.bind ?_ (fun _ => ?_)
  · intro y0 y1 y2 y3 y4
    unfold idiomref01_Step.j0
    repeat' first
    | (with_reducible exact ih0 _ _ _ _ _ _)
    | (with_reducible exact ih1 _ _ _ _ _ _)
    | (with_reducible exact ih2 _ _ _ _ _)
    | (with_reducible exact ih3 _ _ _ _ _)
    | (with_reducible exact LeO.refl _)
    | (with_reducible exact LeO.none _)
    | (with_reducible refine LeO.ite ?_ ?_)
    | (with_reducible refine LeO.bind ?_ (fun _ => ?_))
    | exact ih0 _ _ _ _ _ _
    | exact ih1 _ _ _ _ _ _
    | exact ih2 _ _ _ _ _
    | exact ih3 _ _ _ _ _
    | exact LeO.none _
    | refine LeO.ite ?_ ?_
    | refine LeO.bind ?_ (fun _ => ?_)
  · intro y0 y1 y2 y3 y4
    unfold idiomref01_Step.j1
    repeat' first
    | (with_reducible exact ih0 _ _ _ _ _ _)
    | (with_reducible exact ih1 _ _ _ _ _ _)
    | (with_reducible exact ih2 _ _ _ _ _)
    | (with_reducible exact ih3 _ _ _ _ _)
    | (with_reducible exact LeO.refl _)
    | (with_reducible exact LeO.none _)
    | (with_reducible refine LeO.ite ?_ ?_)
    | (with_reducible refine LeO.bind ?_ (fun _ => ?_))
    | exact ih0 _ _ _ _ _ _
    | exact ih1 _ _ _ _ _ _
    | exact ih2 _ _ _ _ _
    | exact ih3 _ _ _ _ _
    | exact LeO.none _
    | refine LeO.ite ?_ ?_
    | refine LeO.bind ?_ (fun _ => ?_)
theorem idiomref01_Step.mono : ∀ a0 a1 k, LeO (idiomref01_Step.f k a0 a1) (idiomref01_Step.f (k + 1) a0 a1) := by
 intro a0 a1 k
 obtain ⟨ih0, ih1, ih2, ih3⟩ := idiomref01_Step.mono_l k
 unfold idiomref01_Step.f
 repeat' first
  | (with_reducible exact ih0 _ _ _ _ _ _)
  | (with_reducible exact ih1 _ _ _ _ _ _)
  | (with_reducible exact ih2 _ _ _ _ _)
  | (with_reducible exact ih3 _ _ _ _ _)
  | (with_reducible exact LeO.refl _)
  | (with_reducible exact LeO.none _)
  | (with_reducible refine LeO.ite ?_ ?_)
  | (with_reducible refine LeO.bind ?_ (fun _ => ?_))
  | exact ih0 _ _ _ _ _ _
  | exact ih1 _ _ _ _ _ _
  | exact ih2 _ _ _ _ _
  | exact ih3 _ _ _ _ _
  | exact LeO.none _
  | refine LeO.ite ?_ ?_
  | refine LeO.bind ?_ (fun _ => ?_)
set_option maxHeartbeats 8000000 in
set_option maxRecDepth 100000 in
theorem idiomref01_Step.calls (k : Nat) (a0 : ByteArray) (a1 : Int) (r1 : Int) (r2 : Int) (w : World) (h : idiomref01_Step.f k a0 a1 = some (r1, r2)) :
 Calls Tryd.prog 36 #[.string a0, .int .i64 a1] w fun e w' => e = .returned (.tuple #[.int .i64 r1, .int .i64 r2]) ∧ Drawn0 w w' := by
 have H : (if (wrap64 ((a0.size : Int) - a1)) ≤ 0 then (some (0, 0)) else (if 0 ≤ a1 then (if a1 < (a0.size : Int) then (if (wrap64 (bt a0 a1)) < 128 then (some (wrap64 (bt a0 a1), 1)) else (if (wrap64 (bt a0 a1)) ≥ 192 then (idiomref01_Step.j0 k a0 a1 (wrap64 ((a0.size : Int) - a1)) (wrap64 (bt a0 a1)) (decide ((wrap64 (bt a0 a1)) < 224))) else (idiomref01_Step.j0 k a0 a1 (wrap64 ((a0.size : Int) - a1)) (wrap64 (bt a0 a1)) false))) else (none)) else (none))) = some (r1, r2) := h
 clear h
 by_cases c3 : (wrap64 ((a0.size : Int) - a1)) ≤ 0
 · rw [if_pos c3] at H
   have c3b0 : decide ((wrap64 ((a0.size : Int) - a1)) ≤ 0) = true := decide_eq_true c3
   clear c3
   simp only [Option.some.injEq, Prod.mk.injEq] at H
   obtain ⟨rfl, rfl⟩ := H
   go_enter Tryd.func36, Tryd.ntmps36
   go_wp2
   go_ret2
   exact ⟨by first | rfl | (simp; done) | (simp [*]; done), by repeat (first | exact Drawn0.refl _ | apply Drawn0.step)⟩
 · rw [if_neg c3] at H
   have c3b0 : decide ((wrap64 ((a0.size : Int) - a1)) ≤ 0) = false := decide_eq_false c3
   clear c3
   by_cases c4 : 0 ≤ a1
   · rw [if_pos c4] at H
     have c4b0 : decide (0 ≤ a1) = true := decide_eq_true c4
     clear c4
     by_cases c5 : a1 < (a0.size : Int)
     · rw [if_pos c5] at H
       have c5b0 : decide (a1 < (a0.size : Int)) = true := decide_eq_true c5
       clear c5
       have HC7 := Aside0.mk H
       clear H
       have p6 : 0 ≤ (a1 : Int) := of_decide_eq_true qa
       have q6 : a1 < (a0.size : Int) := of_decide_eq_true qa
       have hx6 := bt_at a0 a1
       replace p6 := eq_true p6
       replace q6 := eq_true q6
       go_enter Tryd.func36, Tryd.ntmps36
       go_upto_block 0 with (fail)
       go_cut [8, 9, 10] (fun v8 v9 v10 wc => ∃ (kq : Nat) (x8_6 : Int) (x9_6 : Int) (x10_6 : Int), v8 = .int .i64 x8_6 ∧ v9 = .int .i64 x9_6 ∧ v10 = .int .i64 x10_6 ∧ Aside0 (idiomref01_Step.j2 kq a0 a1 (wrap64 ((a0.size : Int) - a1)) x8_6 x9_6 x10_6 = some (r1, r2)) ∧ Aside0 (kq ≤ k) ∧ Drawn0 w wc)
       case first =>
        have H := HC7.out
        clear HC7
        by_cases c8 : (wrap64 (bt a0 a1)) < 128
        · rw [if_pos c8] at H
          have c8b0 : decide ((wrap64 (bt a0 a1)) < 128) = true := decide_eq_true c8
          clear c8
          (first | rw [c8b0] | (simp only [i64_w, i32_w]; rw [c8b0]) | skip)
          simp only [Option.some.injEq, Prod.mk.injEq] at H
          obtain ⟨rfl, rfl⟩ := H
          go_wp2
          go_ret2
          exact ⟨by first | rfl | (simp; done) | (simp [*]; done), by repeat (first | exact Drawn0.refl _ | apply Drawn0.step)⟩
        · rw [if_neg c8] at H
          have c8b0 : decide ((wrap64 (bt a0 a1)) < 128) = false := decide_eq_false c8
          clear c8
          (first | rw [c8b0] | (simp only [i64_w, i32_w]; rw [c8b0]) | skip)
          have HC9 := Aside0.mk H
          clear H
          go_upto_region 9 with (fail)
          go_cut [27] (fun v27 wc => ∃ (kq : Nat) (x27_8 : Bool), v27 = .bool x27_8 ∧ Aside0 (idiomref01_Step.j0 kq a0 a1 (wrap64 ((a0.size : Int) - a1)) (wrap64 (bt a0 a1)) x27_8 = some (r1, r2)) ∧ Aside0 (kq ≤ k) ∧ Drawn0 w wc)
          case first =>
           have H := HC9.out
           clear HC9
           by_cases c10 : (wrap64 (bt a0 a1)) ≥ 192
           · rw [if_pos c10] at H
             have c10b0 : decide (192 ≤ (wrap64 (bt a0 a1))) = true := decide_eq_true c10
             clear c10
             (first | rw [c10b0] | (simp only [i64_w, i32_w]; rw [c10b0]) | skip)
             have H' := Aside0.mk H
             clear H
             go_wp2
             go_meet
             case rel => exact ⟨_, (decide ((wrap64 (bt a0 a1)) < 224)), (by first | rfl | (simp; done) | (simp [*]; done)), H', ⟨by first | omega | exact Nat.le_refl _⟩, by repeat (first | exact Drawn0.refl _ | apply Drawn0.step)⟩
           · rw [if_neg c10] at H
             have c10b0 : decide (192 ≤ (wrap64 (bt a0 a1))) = false := decide_eq_false c10
             clear c10
             (first | rw [c10b0] | (simp only [i64_w, i32_w]; rw [c10b0]) | skip)
             have H' := Aside0.mk H
             clear H
             go_wp2
             go_meet
             case rel => exact ⟨_, (false), (by first | rfl | (simp; done) | (simp [*]; done)), H', ⟨by first | omega | exact Nat.le_refl _⟩, by repeat (first | exact Drawn0.refl _ | apply Drawn0.step)⟩
          case rest =>
           clear HC9
           try clear c1
           try clear p2
           try clear c3
           try clear c3b0
           try clear c4
           try clear c4b0
           try clear c5
           try clear c5b0
           try clear p6
           try clear q6
           try clear hx6
           try clear c8
           try clear c8b0
           try clear c10
           try clear c10b0
           try clear p6
           try clear q6
           obtain ⟨kq, x27_8, rfl, HA, HJ8, ⟨mc8, rfl⟩⟩ := hcut
           cases kq with
           | zero => exact absurd HA.out (by simp [idiomref01_Step.j0])
           | succ kj8 =>
            have H := HA.out
            clear HA
            simp only [idiomref01_Step.j0] at H
            by_cases c11 : x27_8 = true
            · subst c11
              have H1 : (idiomref01_Step.j2 kj8 a0 a1 (wrap64 ((a0.size : Int) - a1)) 2 128 (wrap64 ((wrap64 (bt a0 a1)) - 192))) = some (r1, r2) := by rw [if_pos rfl] at H; exact H
              clear H
              have H := H1
              clear H1
              have H' := Aside0.mk H
              clear H
              go_wp2
              go_meet
              case rel => exact ⟨_, (2), (128), (wrap64 ((wrap64 (bt a0 a1)) - 192)), (by first | rfl | (simp; done) | (simp [*]; done)), (by first | rfl | (simp; done) | (simp [*]; done)), (by first | rfl | (simp; done) | (simp [*]; done)), H', ⟨by have := HJ8.out; first | omega | exact Nat.le_refl _⟩, by repeat (first | exact Drawn0.refl _ | apply Drawn0.step)⟩
            · replace c11 := Bool.eq_false_iff.mpr c11
              subst c11
              have H1 : (if (wrap64 (bt a0 a1)) ≥ 224 then (idiomref01_Step.j1 kj8 a0 a1 (wrap64 ((a0.size : Int) - a1)) (wrap64 (bt a0 a1)) (decide ((wrap64 (bt a0 a1)) < 240))) else (idiomref01_Step.j1 kj8 a0 a1 (wrap64 ((a0.size : Int) - a1)) (wrap64 (bt a0 a1)) false)) = some (r1, r2) := by rw [if_neg (show ¬ (false = true) by decide)] at H; exact H
              clear H
              have H := H1
              clear H1
              have HC12 := Aside0.mk H
              clear H
              go_upto_region 11 with (fail)
              go_cut [36] (fun v36 wc => ∃ (kq : Nat) (x36_11 : Bool), v36 = .bool x36_11 ∧ Aside0 (idiomref01_Step.j1 kq a0 a1 (wrap64 ((a0.size : Int) - a1)) (wrap64 (bt a0 a1)) x36_11 = some (r1, r2)) ∧ Aside0 (kq ≤ kj8) ∧ Drawn0 w wc)
              case first =>
               have H := HC12.out
               clear HC12
               by_cases c13 : (wrap64 (bt a0 a1)) ≥ 224
               · rw [if_pos c13] at H
                 have c13b0 : decide (224 ≤ (wrap64 (bt a0 a1))) = true := decide_eq_true c13
                 clear c13
                 (first | rw [c13b0] | (simp only [i64_w, i32_w]; rw [c13b0]) | skip)
                 have H' := Aside0.mk H
                 clear H
                 go_wp2
                 go_meet
                 case rel => exact ⟨_, (decide ((wrap64 (bt a0 a1)) < 240)), (by first | rfl | (simp; done) | (simp [*]; done)), H', ⟨by have := HJ8.out; first | omega | exact Nat.le_refl _⟩, by repeat (first | exact Drawn0.refl _ | apply Drawn0.step)⟩
               · rw [if_neg c13] at H
                 have c13b0 : decide (224 ≤ (wrap64 (bt a0 a1))) = false := decide_eq_false c13
                 clear c13
                 (first | rw [c13b0] | (simp only [i64_w, i32_w]; rw [c13b0]) | skip)
                 have H' := Aside0.mk H
                 clear H
                 go_wp2
                 go_meet
                 case rel => exact ⟨_, (false), (by first | rfl | (simp; done) | (simp [*]; done)), H', ⟨by have := HJ8.out; first | omega | exact Nat.le_refl _⟩, by repeat (first | exact Drawn0.refl _ | apply Drawn0.step)⟩
              case rest =>
               clear HC12
               try clear c1
               try clear p2
               try clear c3
               try clear c3b0
               try clear c4
               try clear c4b0
               try clear c5
               try clear c5b0
               try clear p6
               try clear q6
               try clear hx6
               try clear c8
               try clear c8b0
               try clear c10
               try clear c10b0
               try clear c11
               try clear c13
               try clear c13b0
               try clear p2
               try clear p6
               try clear q6
               obtain ⟨kq, x36_11, rfl, HA, HJ11, ⟨mc11, rfl⟩⟩ := hcut
               cases kq with
               | zero => exact absurd HA.out (by simp [idiomref01_Step.j1])
               | succ kj11 =>
                have H := HA.out
                clear HA
                simp only [idiomref01_Step.j1] at H
                by_cases c14 : x36_11 = true
                · subst c14
                  have H1 : (idiomref01_Step.j2 kj11 a0 a1 (wrap64 ((a0.size : Int) - a1)) 3 2048 (wrap64 ((wrap64 (bt a0 a1)) - 224))) = some (r1, r2) := by rw [if_pos rfl] at H; exact H
                  clear H
                  have H := H1
                  clear H1
                  have H' := Aside0.mk H
                  clear H
                  go_wp2
                  go_meet
                  case rel => exact ⟨_, (3), (2048), (wrap64 ((wrap64 (bt a0 a1)) - 224)), (by first | rfl | (simp; done) | (simp [*]; done)), (by first | rfl | (simp; done) | (simp [*]; done)), (by first | rfl | (simp; done) | (simp [*]; done)), H', ⟨by have := HJ8.out; have := HJ11.out; first | omega | exact Nat.le_refl _⟩, by repeat (first | exact Drawn0.refl _ | apply Drawn0.step)⟩
                · replace c14 := Bool.eq_false_iff.mpr c14
                  subst c14
                  have H1 : (if (wrap64 (bt a0 a1)) ≥ 240 then (if (wrap64 (bt a0 a1)) < 248 then (idiomref01_Step.j2 kj11 a0 a1 (wrap64 ((a0.size : Int) - a1)) 4 65536 (wrap64 ((wrap64 (bt a0 a1)) - 240))) else (some ((-1), 1))) else (some ((-1), 1))) = some (r1, r2) := by rw [if_neg (show ¬ (false = true) by decide)] at H; exact H
                  clear H
                  have H := H1
                  clear H1
                  by_cases c15 : (wrap64 (bt a0 a1)) ≥ 240
                  · rw [if_pos c15] at H
                    have c15b0 : decide (240 ≤ (wrap64 (bt a0 a1))) = true := decide_eq_true c15
                    clear c15
                    by_cases c16 : (wrap64 (bt a0 a1)) < 248
                    · rw [if_pos c16] at H
                      have c16b0 : decide ((wrap64 (bt a0 a1)) < 248) = true := decide_eq_true c16
                      clear c16
                      have H' := Aside0.mk H
                      clear H
                      go_wp2
                      go_meet
                      case rel => exact ⟨_, (4), (65536), (wrap64 ((wrap64 (bt a0 a1)) - 240)), (by first | rfl | (simp; done) | (simp [*]; done)), (by first | rfl | (simp; done) | (simp [*]; done)), (by first | rfl | (simp; done) | (simp [*]; done)), H', ⟨by have := HJ8.out; have := HJ11.out; first | omega | exact Nat.le_refl _⟩, by repeat (first | exact Drawn0.refl _ | apply Drawn0.step)⟩
                    · rw [if_neg c16] at H
                      have c16b0 : decide ((wrap64 (bt a0 a1)) < 248) = false := decide_eq_false c16
                      clear c16
                      simp only [Option.some.injEq, Prod.mk.injEq] at H
                      obtain ⟨rfl, rfl⟩ := H
                      go_wp2
                      go_ret2
                      exact ⟨by first | rfl | (simp; done) | (simp [*]; done), by repeat (first | exact Drawn0.refl _ | apply Drawn0.step)⟩
                  · rw [if_neg c15] at H
                    have c15b0 : decide (240 ≤ (wrap64 (bt a0 a1))) = false := decide_eq_false c15
                    clear c15
                    simp only [Option.some.injEq, Prod.mk.injEq] at H
                    obtain ⟨rfl, rfl⟩ := H
                    go_wp2
                    go_ret2
                    exact ⟨by first | rfl | (simp; done) | (simp [*]; done), by repeat (first | exact Drawn0.refl _ | apply Drawn0.step)⟩
       case rest =>
        clear HC7
        try clear c1
        try clear p2
        try clear c3
        try clear c3b0
        try clear c4
        try clear c4b0
        try clear c5
        try clear c5b0
        try clear p6
        try clear q6
        try clear hx6
        try clear c8
        try clear c8b0
        try clear c10
        try clear c10b0
        try clear c11
        try clear c13
        try clear c13b0
        try clear c14
        try clear c15
        try clear c15b0
        try clear c16
        try clear c16b0
        try clear p2
        try clear p6
        try clear q6
        obtain ⟨kq, x8_6, x9_6, x10_6, rfl, rfl, rfl, HA, HJ6, ⟨mc6, rfl⟩⟩ := hcut
        cases kq with
        | zero => exact absurd HA.out (by simp [idiomref01_Step.j2])
        | succ kj6 =>
         have H := HA.out
         clear HA
         simp only [idiomref01_Step.j2] at H
         by_cases c17 : (wrap64 ((a0.size : Int) - a1)) < x8_6
         · rw [if_pos c17] at H
           have c17b0 : decide ((wrap64 ((a0.size : Int) - a1)) < x8_6) = true := decide_eq_true c17
           clear c17
           simp only [Option.some.injEq, Prod.mk.injEq] at H
           obtain ⟨rfl, rfl⟩ := H
           go_wp2
           go_ret2
           exact ⟨by first | rfl | (simp; done) | (simp [*]; done), by repeat (first | exact Drawn0.refl _ | apply Drawn0.step)⟩
         · rw [if_neg c17] at H
           have c17b0 : decide ((wrap64 ((a0.size : Int) - a1)) < x8_6) = false := decide_eq_false c17
           clear c17
           have H' := Aside0.mk H
           clear H
           go_wp2
           (try simp only [Act.put, List.setIfInBounds_toArray, List.set_cons_zero, List.set_cons_succ])
           go_loopg [10, 11] kj6 (fun kq v10 v11 w' => ∃ (x10_2 : Int) (x11_2 : Int), v10 = .int .i64 x10_2 ∧ v11 = .int .i64 x11_2 ∧ Aside0 (idiomref01_Step.l0 kq a0 a1 x8_6 x9_6 x10_2 x11_2 = some (r1, r2)) ∧ Aside0 (kq ≤ kj6) ∧ Drawn0 w w')
           case atStart => exact ⟨(x10_6), (1), (by first | rfl | (simp; done) | (simp [*]; done)), (by first | rfl | (simp; done) | (simp [*]; done)), H', ⟨Nat.le_refl _⟩, by repeat (first | exact Drawn0.refl _ | apply Drawn0.step)⟩
           case round =>
            clear H'
            try clear c1
            try clear p2
            try clear c3
            try clear c3b0
            try clear c4
            try clear c4b0
            try clear c5
            try clear c5b0
            try clear c6
            try clear p6
            try clear q6
            try clear hx6
            try clear c8
            try clear c8b0
            try clear c10
            try clear c10b0
            try clear c11
            try clear c13
            try clear c13b0
            try clear c14
            try clear c15
            try clear c15b0
            try clear c16
            try clear c16b0
            try clear c17
            try clear c17b0
            try clear p2
            try clear p6
            try clear q6
            obtain ⟨x10_2, x11_2, rfl, rfl, HA, HK2, ⟨m2, rfl⟩⟩ := hrel
            cases gk with
            | zero => exact absurd HA.out (by simp [idiomref01_Step.l0])
            | succ k2 =>
             have H := HA.out
             clear HA
             simp only [idiomref01_Step.l0] at H
             by_cases c18 : x11_2 < x8_6
             · rw [if_pos c18] at H
               have c18b0 : decide (x11_2 < x8_6) = true := decide_eq_true c18
               clear c18
               obtain ⟨ji19, hji19⟩ : ∃ j_ : Int, (wrap64 (a1 + x11_2)) = j_ := ⟨_, rfl⟩
               replace H : (if 0 ≤ (ji19) then (if (ji19) < (a0.size : Int) then (if (wrap64 (bt a0 (ji19))) < 128 then (some ((-1), 1)) else (if (wrap64 (bt a0 (ji19))) ≥ 192 then (some ((-1), 1)) else (idiomref01_Step.l0 k2 a0 a1 x8_6 x9_6 (wrap64 ((wrap64 ((wrap64 (x10_2 * 64)) + (wrap64 (bt a0 (ji19))))) - 128)) (wrap64 (x11_2 + 1))))) else (none)) else (none)) = some (r1, r2) := by first | (rw [hji19] at H; exact H) | (simp only [hji19] at H ⊢; exact H)
               have hji19w : (IntKind.i64.wrap (a1 + x11_2)) = ji19 := (i64_w _).trans hji19
               by_cases c20 : 0 ≤ (ji19)
               · rw [if_pos c20] at H
                 have c20b0 : decide (0 ≤ (ji19)) = true := decide_eq_true c20
                 clear c20
                 by_cases c21 : (ji19) < (a0.size : Int)
                 · rw [if_pos c21] at H
                   have c21b0 : decide ((ji19) < (a0.size : Int)) = true := decide_eq_true c21
                   clear c21
                   by_cases c23 : (wrap64 (bt a0 (ji19))) < 128
                   · rw [if_pos c23] at H
                     have c23b0 : decide ((wrap64 (bt a0 (ji19))) < 128) = true := decide_eq_true c23
                     clear c23
                     simp only [Option.some.injEq, Prod.mk.injEq] at H
                     obtain ⟨rfl, rfl⟩ := H
                     have p22 : 0 ≤ ((ji19) : Int) := of_decide_eq_true qa
                     have q22 : (ji19) < (a0.size : Int) := of_decide_eq_true qa
                     have hx22 := bt_at a0 (ji19)
                     replace p22 := eq_true p22
                     replace q22 := eq_true q22
                     go_wp2
                     go_ret2
                     exact ⟨by first | rfl | (simp; done) | (simp only [← hji19] <;> (first | rfl | simp)) | (simp [*]; done), by repeat (first | exact Drawn0.refl _ | apply Drawn0.step)⟩
                   · rw [if_neg c23] at H
                     have c23b0 : decide ((wrap64 (bt a0 (ji19))) < 128) = false := decide_eq_false c23
                     clear c23
                     by_cases c24 : (wrap64 (bt a0 (ji19))) ≥ 192
                     · rw [if_pos c24] at H
                       have c24b0 : decide (192 ≤ (wrap64 (bt a0 (ji19)))) = true := decide_eq_true c24
                       clear c24
                       simp only [Option.some.injEq, Prod.mk.injEq] at H
                       obtain ⟨rfl, rfl⟩ := H
                       have p22 : 0 ≤ ((ji19) : Int) := of_decide_eq_true qa
                       have q22 : (ji19) < (a0.size : Int) := of_decide_eq_true qa
                       have hx22 := bt_at a0 (ji19)
                       replace p22 := eq_true p22
                       replace q22 := eq_true q22
                       go_wp2
                       go_ret2
                       exact ⟨by first | rfl | (simp; done) | (simp only [← hji19] <;> (first | rfl | simp)) | (simp [*]; done), by repeat (first | exact Drawn0.refl _ | apply Drawn0.step)⟩
                     · rw [if_neg c24] at H
                       have c24b0 : decide (192 ≤ (wrap64 (bt a0 (ji19)))) = false := decide_eq_false c24
                       clear c24
                       have H' := Aside0.mk H
                       clear H
                       have p22 : 0 ≤ ((ji19) : Int) := of_decide_eq_true qa
                       have q22 : (ji19) < (a0.size : Int) := of_decide_eq_true qa
                       have hx22 := bt_at a0 (ji19)
                       replace p22 := eq_true p22
                       replace q22 := eq_true q22
                       go_wp2
                       go_roundg k2
                       case measure => have := HJ6.out; have := HK2.out; omega
                       case rel => exact ⟨(wrap64 ((wrap64 ((wrap64 (x10_2 * 64)) + (wrap64 (bt a0 (ji19))))) - 128)), (wrap64 (x11_2 + 1)), (by first | rfl | (simp; done) | (simp only [← hji19] <;> (first | rfl | simp)) | (simp [*]; done)), (by first | rfl | (simp; done) | (simp [*]; done)), H', ⟨by have := HJ6.out; have := HK2.out; omega⟩, by repeat (first | exact Drawn0.refl _ | apply Drawn0.step)⟩
                 · rw [if_neg c21] at H
                   exact absurd H (by simp)
               · rw [if_neg c20] at H
                 exact absurd H (by simp)
             · rw [if_neg c18] at H
               have c18b0 : decide (x11_2 < x8_6) = false := decide_eq_false c18
               clear c18
               by_cases c25 : x10_2 < x9_6
               · rw [if_pos c25] at H
                 have c25b0 : decide (x10_2 < x9_6) = true := decide_eq_true c25
                 clear c25
                 simp only [Option.some.injEq, Prod.mk.injEq] at H
                 obtain ⟨rfl, rfl⟩ := H
                 go_wp2
                 go_ret2
                 exact ⟨by first | rfl | (simp; done) | (simp [*]; done), by repeat (first | exact Drawn0.refl _ | apply Drawn0.step)⟩
               · rw [if_neg c25] at H
                 have c25b0 : decide (x10_2 < x9_6) = false := decide_eq_false c25
                 clear c25
                 by_cases c26 : x10_2 > 1114111
                 · rw [if_pos c26] at H
                   have c26b0 : decide (1114111 < x10_2) = true := decide_eq_true c26
                   clear c26
                   simp only [Option.some.injEq, Prod.mk.injEq] at H
                   obtain ⟨rfl, rfl⟩ := H
                   go_wp2
                   go_ret2
                   exact ⟨by first | rfl | (simp; done) | (simp [*]; done), by repeat (first | exact Drawn0.refl _ | apply Drawn0.step)⟩
                 · rw [if_neg c26] at H
                   have c26b0 : decide (1114111 < x10_2) = false := decide_eq_false c26
                   clear c26
                   by_cases c27 : x10_2 ≥ 55296
                   · rw [if_pos c27] at H
                     have c27b0 : decide (55296 ≤ x10_2) = true := decide_eq_true c27
                     clear c27
                     by_cases c28 : x10_2 ≤ 57343
                     · rw [if_pos c28] at H
                       have c28b0 : decide (x10_2 ≤ 57343) = true := decide_eq_true c28
                       clear c28
                       simp only [Option.some.injEq, Prod.mk.injEq] at H
                       obtain ⟨rfl, rfl⟩ := H
                       go_wp2
                       go_ret2
                       exact ⟨by first | rfl | (simp; done) | (simp [*]; done), by repeat (first | exact Drawn0.refl _ | apply Drawn0.step)⟩
                     · rw [if_neg c28] at H
                       have c28b0 : decide (x10_2 ≤ 57343) = false := decide_eq_false c28
                       clear c28
                       simp only [Option.some.injEq, Prod.mk.injEq] at H
                       obtain ⟨rfl, rfl⟩ := H
                       go_wp2
                       go_ret2
                       exact ⟨by first | rfl | (simp; done) | (simp [*]; done), by repeat (first | exact Drawn0.refl _ | apply Drawn0.step)⟩
                   · rw [if_neg c27] at H
                     have c27b0 : decide (55296 ≤ x10_2) = false := decide_eq_false c27
                     clear c27
                     simp only [Option.some.injEq, Prod.mk.injEq] at H
                     obtain ⟨rfl, rfl⟩ := H
                     go_wp2
                     go_ret2
                     exact ⟨by first | rfl | (simp; done) | (simp [*]; done), by repeat (first | exact Drawn0.refl _ | apply Drawn0.step)⟩
     · rw [if_neg c5] at H
       exact absurd H (by simp)
   · rw [if_neg c4] at H
     exact absurd H (by simp)

end Go.Proofs.YtigikjihagmokaaDoor.F
namespace Go.Proofs.YtigikjihagmokaaDoor.F
open Go.RowKit Go.Proofs.YtigikjihagmokaaDoorW.PrintWords Go.Proofs.YtigikjihagmokaaDoorW.PrintLast Go.Proofs.YtigikjihagmokaaDoorW.PrintMore Go.Proofs.YtigikjihagmokaaDoor.Q
attribute [local go_sem] max2_int min2_int max_two min_two max_three min_three max_four min_four   -- for this text's walks alone
set_option linter.unusedVariables false
set_option linter.unusedSimpArgs false

mutual
def idiomref01_Escape.l0 : Nat → ByteArray → List Int → Int → Option (ByteArray)
 | 0, _, _, _ => none
 | k + 1, x0, x3, x4 => if x4 < (x0.size : Int) then ((idiomref01_Step.f k x0 x4).bind fun bt294 => (if bt294.1 < 0 then (if 0 ≤ x4 then ((idiomref01_hex.f k (wrap64 (bt x0 x4)) 2).bind fun t296 => (if 2 + t296.size ≤ 9223372036854775807 then (if x3.length + ((⟨#[92, 120]⟩ : ByteArray) ++ t296).size < 140737488355328 then (idiomref01_Escape.l0 k x0 (x3 ++ bytesOf ((⟨#[92, 120]⟩ : ByteArray) ++ t296)) (wrap64 (x4 + bt294.2))) else (none)) else (none))) else (none)) else (if bt294.1 = 92 then (if x3.length + 2 < 140737488355328 then (idiomref01_Escape.l0 k x0 (x3 ++ bytesOf (⟨#[92, 92]⟩ : ByteArray)) (wrap64 (x4 + bt294.2))) else (none)) else (if bt294.1 = 10 then (if x3.length + 2 < 140737488355328 then (idiomref01_Escape.l0 k x0 (x3 ++ bytesOf (⟨#[92, 110]⟩ : ByteArray)) (wrap64 (x4 + bt294.2))) else (none)) else (if bt294.1 = 13 then (if x3.length + 2 < 140737488355328 then (idiomref01_Escape.l0 k x0 (x3 ++ bytesOf (⟨#[92, 114]⟩ : ByteArray)) (wrap64 (x4 + bt294.2))) else (none)) else (if bt294.1 = 9 then (if x3.length + 2 < 140737488355328 then (idiomref01_Escape.l0 k x0 (x3 ++ bytesOf (⟨#[92, 116]⟩ : ByteArray)) (wrap64 (x4 + bt294.2))) else (none)) else (if bt294.1 ≥ 32 then (idiomref01_Escape.j1 k x0 x3 x4 bt294.1 bt294.2 (decide (bt294.1 ≤ 126))) else (idiomref01_Escape.j1 k x0 x3 x4 bt294.1 bt294.2 false)))))))) else (some (strOfNums x3))
def idiomref01_Escape.j1 : Nat → ByteArray → List Int → Int → Int → Int → Bool → Option (ByteArray)
 | 0, _, _, _, _, _, _ => none
 | k + 1, x0, x3, x4, x5, x6, x54 => if x54 = true then (if x3.length < 140737488355328 then (idiomref01_Escape.l0 k x0 (x3 ++ [(x5) % 256]) (wrap64 (x4 + x6))) else (none)) else (if x5 ≤ 65535 then ((idiomref01_hex.f k x5 4).bind fun t315 => (if 2 + t315.size ≤ 9223372036854775807 then (if x3.length + ((⟨#[92, 117]⟩ : ByteArray) ++ t315).size < 140737488355328 then (idiomref01_Escape.l0 k x0 (x3 ++ bytesOf ((⟨#[92, 117]⟩ : ByteArray) ++ t315)) (wrap64 (x4 + x6))) else (none)) else (none))) else ((idiomref01_hex.f k x5 6).bind fun t319 => (if 2 + t319.size ≤ 9223372036854775807 then (if x3.length + ((⟨#[92, 85]⟩ : ByteArray) ++ t319).size < 140737488355328 then (idiomref01_Escape.l0 k x0 (x3 ++ bytesOf ((⟨#[92, 85]⟩ : ByteArray) ++ t319)) (wrap64 (x4 + x6))) else (none)) else (none))))
end
def idiomref01_Escape.f (k : Nat) (a0 : ByteArray) : Option (ByteArray) := idiomref01_Escape.l0 k a0 (([] : List Int)) 0
theorem idiomref01_Escape.mono_l : ∀ k, (∀ y0 y1 y2, LeO (idiomref01_Escape.l0 k y0 y1 y2) (idiomref01_Escape.l0 (k + 1) y0 y1 y2)) ∧ (∀ y0 y1 y2 y3 y4 y5, LeO (idiomref01_Escape.j1 k y0 y1 y2 y3 y4 y5) (idiomref01_Escape.j1 (k + 1) y0 y1 y2 y3 y4 y5))
 | 0 => ⟨fun _ _ _ r h => by simp [idiomref01_Escape.l0] at h, fun _ _ _ _ _ _ r h => by simp [idiomref01_Escape.j1] at h⟩
 | k + 1 => by
  obtain ⟨ih0, ih1⟩ := idiomref01_Escape.mono_l k
  refine ⟨?_, ?_⟩
  · intro y0 y1 y2
    unfold idiomref01_Escape.l0
    repeat' first
    | (with_reducible exact ih0 _ _ _)
    | (with_reducible exact ih1 _ _ _ _ _ _)
    | (with_reducible exact idiomref01_Step.mono _ _ _)
    | (with_reducible exact idiomref01_hex.mono _ _ _)
    | (with_reducible exact LeO.refl _)
    | (with_reducible exact LeO.none _)
    | (with_reducible refine LeO.ite ?_ ?_)
    | (with_reducible refine LeO.bind ?_ (fun _ => ?_))
    | exact ih0 _ _ _
    | exact ih1 _ _ _ _ _ _
    | exact idiomref01_Step.mono _ _ _
    | exact idiomref01_hex.mono _ _ _
    | exact LeO.none _
    | refine LeO.ite ?_ ?_
    | refine LeO.bind ?_ (fun _ => ?_)
  · intro y0 y1 y2 y3 y4 y5
    unfold idiomref01_Escape.j1
    repeat' first
    | (with_reducible exact ih0 _ _ _)
    | (with_reducible exact ih1 _ _ _ _ _ _)
    | (with_reducible exact idiomref01_Step.mono _ _ _)
    | (with_reducible exact idiomref01_hex.mono _ _ _)
    | (with_reducible exact LeO.refl _)
    | (with_reducible exact LeO.none _)
    | (with_reducible refine LeO.ite ?_ ?_)
    | (with_reducible refine LeO.bind ?_ (fun _ => ?_))
    | exact ih0 _ _ _
    | exact ih1 _ _ _ _ _ _
    | exact idiomref01_Step.mono _ _ _
    | exact idiomref01_hex.mono _ _ _
    | exact LeO.none _
    | refine LeO.ite ?_ ?_
    | refine LeO.bind ?_ (fun _ => ?_)
theorem idiomref01_Escape.mono : ∀ a0 k, LeO (idiomref01_Escape.f k a0) (idiomref01_Escape.f (k + 1) a0) := by
 intro a0 k
 obtain ⟨ih0, ih1⟩ := idiomref01_Escape.mono_l k
 unfold idiomref01_Escape.f
 repeat' first
  | (with_reducible exact ih0 _ _ _)
  | (with_reducible exact ih1 _ _ _ _ _ _)
  | (with_reducible exact idiomref01_Step.mono _ _ _)
  | (with_reducible exact idiomref01_hex.mono _ _ _)
  | (with_reducible exact LeO.refl _)
  | (with_reducible exact LeO.none _)
  | (with_reducible refine LeO.ite ?_ ?_)
  | (with_reducible refine LeO.bind ?_ (fun _ => ?_))
  | exact ih0 _ _ _
  | exact ih1 _ _ _ _ _ _
  | exact idiomref01_Step.mono _ _ _
  | exact idiomref01_hex.mono _ _ _
  | exact LeO.none _
  | refine LeO.ite ?_ ?_
  | refine LeO.bind ?_ (fun _ => ?_)
set_option maxHeartbeats 8000000 in
set_option maxRecDepth 100000 in
theorem idiomref01_Escape.calls (k : Nat) (a0 : ByteArray) (r : ByteArray) (w : World) (h : idiomref01_Escape.f k a0 = some r) :
 Calls Tryd.prog 22 #[.string a0] w fun e w' => e = .returned (.string r) ∧ Below w.heap.size w w' := by
 have HB := Aside0.mk (Below.refl w.heap.size w)
 have H : (idiomref01_Escape.l0 k a0 (([] : List Int)) 0) = some r := h
 clear h
 obtain ⟨y291, hy291⟩ : ∃ y_ : List Int, y_ = (([] : List Int)) := ⟨_, rfl⟩
 replace H : (idiomref01_Escape.l0 k a0 y291 0) = some r := by first | (rw [hy291]; with_reducible exact H) | (have H2_ := (Option.bind_some _ _).symm.trans H; rw [hy291]; with_reducible exact H2_) | (have H2_ := (Option.bind_some _ _).symm.trans H; with_reducible exact H2_) | with_reducible exact H | (rw [hy291]; exact H) | exact H
 have Ny291 := Aside0.mk hy291
 clear hy291
 have H' := Aside0.mk H
 clear H
 go_enter Tryd.func22, Tryd.ntmps22
 go_wp2_with (first | ((with_reducible refine gate_dst (N := 7) rfl ?_); refine Kd.R_lit (Kd.int .u8) _ 5 ?hg (N := 7) ?hd (xs := ([] : List Int)) (inner := []) (ok := fun _ => True) (okp := fun _ => True) ?hr ?hp (fun _ hk => hk) trivial (Below.refl _ _) (Nat.le_refl _) (by simp) ?_; (case hd => rfl); (case hg => rfl); (case hr => first | (go_simp; done) | (go_simp; rfl)); (case hp => exact (Reps.none _ _)); intro v292 w2 ho3 hb hg_ hnew_; clear hg_ hnew_; (first | rw [← Ny291.out] at ho3 | (simp only [Int.reduceToNat] at ho3; rw [← Ny291.out] at ho3)); have HO293 := Aside0.mk (Kd.R_lower ho3 (below_size (qh HB))); replace HB := qn HB hb; clear hb ho3))
 (try simp only [Act.put, List.setIfInBounds_toArray, List.set_cons_zero, List.set_cons_succ])
 go_loopg [3, 4] k (fun kq v3 v4 w' => ∃ (x3_1 : List Int) (x4_1 : Int), v4 = .int .i64 x4_1 ∧ Aside0 (idiomref01_Escape.l0 kq a0 x3_1 x4_1 = some r) ∧ Aside0 (kq ≤ k) ∧ Aside0 (Kd.R (Kd.int .u8) 5 w' w.heap.size (fun _ => True) v3 x3_1) ∧ Aside0 (Below w.heap.size w w'))
 case atStart => exact ⟨(y291), (0), (by first | rfl | (simp; done) | (simp [*]; done)), H', ⟨Nat.le_refl _⟩, ⟨by (with_reducible repeat (first | apply Kd.R_alloc | apply Kd.R_drewN | apply Kd.R_drew)); exact HO293.out⟩, ⟨qh HB⟩⟩
 case round =>
  clear H'
  try clear c2
  try clear p2
  obtain ⟨x3_1, x4_1, rfl, HA, HK1, HO_3, HB⟩ := hrel
  cases gk with
  | zero => exact absurd HA.out (by simp [idiomref01_Escape.l0])
  | succ k1 =>
   have H := HA.out
   clear HA
   simp only [idiomref01_Escape.l0] at H
   by_cases c4 : x4_1 < (a0.size : Int)
   · rw [if_pos c4] at H
     have c4b0 : decide (x4_1 < (a0.size : Int)) = true := decide_eq_true c4
     clear c4
     replace H := Option.bind_eq_some_iff.mp H
     obtain ⟨⟨t294, t295⟩, A50, H⟩ := H
     replace H : (if t294 < 0 then (if 0 ≤ x4_1 then ((idiomref01_hex.f k1 (wrap64 (bt a0 x4_1)) 2).bind fun t296 => (if 2 + t296.size ≤ 9223372036854775807 then (if x3_1.length + ((⟨#[92, 120]⟩ : ByteArray) ++ t296).size < 140737488355328 then (idiomref01_Escape.l0 k1 a0 (x3_1 ++ bytesOf ((⟨#[92, 120]⟩ : ByteArray) ++ t296)) (wrap64 (x4_1 + t295))) else (none)) else (none))) else (none)) else (if t294 = 92 then (if x3_1.length + 2 < 140737488355328 then (idiomref01_Escape.l0 k1 a0 (x3_1 ++ bytesOf (⟨#[92, 92]⟩ : ByteArray)) (wrap64 (x4_1 + t295))) else (none)) else (if t294 = 10 then (if x3_1.length + 2 < 140737488355328 then (idiomref01_Escape.l0 k1 a0 (x3_1 ++ bytesOf (⟨#[92, 110]⟩ : ByteArray)) (wrap64 (x4_1 + t295))) else (none)) else (if t294 = 13 then (if x3_1.length + 2 < 140737488355328 then (idiomref01_Escape.l0 k1 a0 (x3_1 ++ bytesOf (⟨#[92, 114]⟩ : ByteArray)) (wrap64 (x4_1 + t295))) else (none)) else (if t294 = 9 then (if x3_1.length + 2 < 140737488355328 then (idiomref01_Escape.l0 k1 a0 (x3_1 ++ bytesOf (⟨#[92, 116]⟩ : ByteArray)) (wrap64 (x4_1 + t295))) else (none)) else (if t294 ≥ 32 then (idiomref01_Escape.j1 k1 a0 x3_1 x4_1 t294 t295 (decide (t294 ≤ 126))) else (idiomref01_Escape.j1 k1 a0 x3_1 x4_1 t294 t295 false))))))) = some r := H
     have A5 := Aside0.mk A50
     clear A50
     by_cases c6 : t294 < 0
     · rw [if_pos c6] at H
       have c6b0 : decide (t294 < 0) = true := decide_eq_true c6
       clear c6
       by_cases c7 : 0 ≤ x4_1
       · rw [if_pos c7] at H
         have c7b0 : decide (0 ≤ x4_1) = true := decide_eq_true c7
         clear c7
         replace H := Option.bind_eq_some_iff.mp H
         obtain ⟨t296, A90, H⟩ := H
         replace H : (if 2 + t296.size ≤ 9223372036854775807 then (if x3_1.length + ((⟨#[92, 120]⟩ : ByteArray) ++ t296).size < 140737488355328 then (idiomref01_Escape.l0 k1 a0 (x3_1 ++ bytesOf ((⟨#[92, 120]⟩ : ByteArray) ++ t296)) (wrap64 (x4_1 + t295))) else (none)) else (none)) = some r := H
         have A9 := Aside0.mk A90
         clear A90
         by_cases c10 : 2 + t296.size ≤ 9223372036854775807
         · rw [if_pos c10] at H
           have c10b0 := eq_true c10
           have c10b1 : decide (2 + t296.size ≤ 9223372036854775807) = true := decide_eq_true c10
           try have c10b2 : (9223372036854775807 < 2 + t296.size) = False := eq_false (Nat.not_lt.2 c10)
           by_cases c11 : x3_1.length + ((⟨#[92, 120]⟩ : ByteArray) ++ t296).size < 140737488355328
           · rw [if_pos c11] at H
             have LMc11 := Aside0.mk c11
             clear c11
             obtain ⟨y297, hy297⟩ : ∃ y_ : List Int, y_ = (x3_1 ++ bytesOf ((⟨#[92, 120]⟩ : ByteArray) ++ t296)) := ⟨_, rfl⟩
             replace H : (idiomref01_Escape.l0 k1 a0 y297 (wrap64 (x4_1 + t295))) = some r := by first | (rw [hy297]; with_reducible exact H) | (have H2_ := (Option.bind_some _ _).symm.trans H; rw [hy297]; with_reducible exact H2_) | (have H2_ := (Option.bind_some _ _).symm.trans H; with_reducible exact H2_) | with_reducible exact H | (rw [hy297]; exact H) | exact H
             have Ny297 := Aside0.mk hy297
             clear hy297
             have H' := Aside0.mk H
             clear H
             go_wp2_with (first | ((with_reducible refine gate_callee (f := 36) rfl ?_); refine goesL_ (some 15) rfl rfl Tryd.func36 (by kernel_rfl) rfl #[.string a0, .int .i64 x4_1] rfl ql ?_; (with_reducible refine (idiomref01_Step.calls k1 a0 x4_1 t294 t295 _ A5.out).mono ?_); rintro e w' ⟨rfl, ⟨nd, rfl⟩⟩; refine ⟨_, rfl, ?_⟩; have p8 : 0 ≤ (x4_1 : Int) := of_decide_eq_true qa; have q8 : x4_1 < (a0.size : Int) := of_decide_eq_true qa; have hx8 := bt_at a0 x4_1; replace p8 := eq_true p8; replace q8 := eq_true q8) | ((with_reducible refine gate_callee (f := 41) rfl ?_); refine goesL_ (some 31) rfl rfl Tryd.func41 (by kernel_rfl) rfl #[.int .i64 (wrap64 (bt a0 x4_1)), .int .i64 2] rfl ql ?_; (with_reducible refine (idiomref01_hex.calls k1 (wrap64 (bt a0 x4_1)) 2 t296 _ A9.out).mono ?_); rintro e w12 ⟨rfl, hb⟩; refine ⟨_, rfl, ?_⟩; replace HO_3 := Aside0.mk (Kd.R_below (by (with_reducible repeat (first | apply Kd.R_alloc | apply Kd.R_drewN | apply Kd.R_drew)); exact HO_3.out) hb); replace HB := qn HB hb; (try clear hb); (try clear hb2); (try clear hk); (try clear hi)) | (at_builtin; refine print_append_str (w0 := w) w.heap.size rfl (.tmp 26) _ 41 9 5 rfl Tryd.underlying41 Tryd.underlying9 info5 u3 x3_1 ((⟨#[92, 120]⟩ : ByteArray) ++ t296) rfl rfl ?aO ?aB ?aS ?aL ?_; (case aB => exact (qh HB)); (case aO => exact (Kd.own_of_R (by (with_reducible repeat (first | apply Kd.R_alloc | apply Kd.R_drewN | apply Kd.R_drew)); exact HO_3.out))); (case aS => exact (below_size (qh HB))); (case aL => have := LMc11.out; omega); intro v298 w13 ho0 hb hg; have ho := Kd.R_of_own (h1 := fun _ => rfl) (ok := fun _ => True) ho0 (fun _ _ => trivial); clear ho0; have hat := True.intro; rw [← Ny297.out] at ho; change Kd.R (Kd.int .u8) 5 w13 w.heap.size (fun _ => True) v298 y297 at ho; have n0_ := Aside0.mk (hb); have n1_ := Aside0.mk (ho); clear HB; clear HO_3; have HB := n0_; have HO299 := n1_; clear n0_ n1_; clear ho hb hg hat))
             go_roundg k1
             case measure => have := HK1.out; omega
             case rel => exact ⟨(y297), (wrap64 (x4_1 + t295)), (by first | rfl | (simp; done) | (simp [*]; done)), H', ⟨by have := HK1.out; omega⟩, ⟨by (with_reducible repeat (first | apply Kd.R_alloc | apply Kd.R_drewN | apply Kd.R_drew)); exact HO299.out⟩, ⟨qh HB⟩⟩
           · rw [if_neg c11] at H
             exact absurd H (by simp)
         · rw [if_neg c10] at H
           exact absurd H (by simp)
       · rw [if_neg c7] at H
         exact absurd H (by simp)
     · rw [if_neg c6] at H
       have c6b0 : decide (t294 < 0) = false := decide_eq_false c6
       clear c6
       by_cases c14 : t294 = 92
       · rw [if_pos c14] at H
         have c14b0 : (t294 == 92) = true := beq_iff_eq.mpr c14
         have c14b1 : (t294 != 92) = false := bne_eq_false_iff_eq.mpr c14
         try have c14b1z := c14b1
         (try simp only [bne] at c14b1z)
         clear c14
         by_cases c15 : x3_1.length + 2 < 140737488355328
         · rw [if_pos c15] at H
           have LMc15 := Aside0.mk c15
           clear c15
           obtain ⟨y300, hy300⟩ : ∃ y_ : List Int, y_ = (x3_1 ++ bytesOf (⟨#[92, 92]⟩ : ByteArray)) := ⟨_, rfl⟩
           replace H : (idiomref01_Escape.l0 k1 a0 y300 (wrap64 (x4_1 + t295))) = some r := by first | (rw [hy300]; with_reducible exact H) | (have H2_ := (Option.bind_some _ _).symm.trans H; rw [hy300]; with_reducible exact H2_) | (have H2_ := (Option.bind_some _ _).symm.trans H; with_reducible exact H2_) | with_reducible exact H | (rw [hy300]; exact H) | exact H
           have Ny300 := Aside0.mk hy300
           clear hy300
           have H' := Aside0.mk H
           clear H
           go_wp2_with (first | ((with_reducible refine gate_callee (f := 36) rfl ?_); refine goesL_ (some 15) rfl rfl Tryd.func36 (by kernel_rfl) rfl #[.string a0, .int .i64 x4_1] rfl ql ?_; (with_reducible refine (idiomref01_Step.calls k1 a0 x4_1 t294 t295 _ A5.out).mono ?_); rintro e w' ⟨rfl, ⟨nd, rfl⟩⟩; refine ⟨_, rfl, ?_⟩) | (at_builtin; refine print_append_str (w0 := w) w.heap.size rfl (.tmp 37) _ 41 9 5 rfl Tryd.underlying41 Tryd.underlying9 info5 u3 x3_1 (⟨#[92, 92]⟩ : ByteArray) rfl rfl ?aO ?aB ?aS ?aL ?_; (case aB => exact (qh HB)); (case aO => exact (Kd.own_of_R (by (with_reducible repeat (first | apply Kd.R_alloc | apply Kd.R_drewN | apply Kd.R_drew)); exact HO_3.out))); (case aS => exact (below_size (qh HB))); (case aL => have := LMc15.out; first | omega | (rw [show (⟨#[92, 92]⟩ : ByteArray).size = 2 from rfl]; omega)); intro v301 w16 ho0 hb hg; have ho := Kd.R_of_own (h1 := fun _ => rfl) (ok := fun _ => True) ho0 (fun _ _ => trivial); clear ho0; have hat := True.intro; rw [← Ny300.out] at ho; change Kd.R (Kd.int .u8) 5 w16 w.heap.size (fun _ => True) v301 y300 at ho; have n0_ := Aside0.mk (hb); have n1_ := Aside0.mk (ho); clear HB; clear HO_3; have HB := n0_; have HO302 := n1_; clear n0_ n1_; clear ho hb hg hat))
           go_roundg k1
           case measure => have := HK1.out; omega
           case rel => exact ⟨(y300), (wrap64 (x4_1 + t295)), (by first | rfl | (simp; done) | (simp [*]; done)), H', ⟨by have := HK1.out; omega⟩, ⟨by (with_reducible repeat (first | apply Kd.R_alloc | apply Kd.R_drewN | apply Kd.R_drew)); exact HO302.out⟩, ⟨qh HB⟩⟩
         · rw [if_neg c15] at H
           exact absurd H (by simp)
       · rw [if_neg c14] at H
         have c14b0 : (t294 == 92) = false := beq_eq_false_iff_ne.mpr c14
         have c14b1 : (t294 != 92) = true := bne_iff_ne.mpr c14
         try have c14b1z := c14b1
         (try simp only [bne] at c14b1z)
         by_cases c17 : t294 = 10
         · rw [if_pos c17] at H
           have c17b0 : (t294 == 10) = true := beq_iff_eq.mpr c17
           have c17b1 : (t294 != 10) = false := bne_eq_false_iff_eq.mpr c17
           try have c17b1z := c17b1
           (try simp only [bne] at c17b1z)
           clear c17
           by_cases c18 : x3_1.length + 2 < 140737488355328
           · rw [if_pos c18] at H
             have LMc18 := Aside0.mk c18
             clear c18
             obtain ⟨y303, hy303⟩ : ∃ y_ : List Int, y_ = (x3_1 ++ bytesOf (⟨#[92, 110]⟩ : ByteArray)) := ⟨_, rfl⟩
             replace H : (idiomref01_Escape.l0 k1 a0 y303 (wrap64 (x4_1 + t295))) = some r := by first | (rw [hy303]; with_reducible exact H) | (have H2_ := (Option.bind_some _ _).symm.trans H; rw [hy303]; with_reducible exact H2_) | (have H2_ := (Option.bind_some _ _).symm.trans H; with_reducible exact H2_) | with_reducible exact H | (rw [hy303]; exact H) | exact H
             have Ny303 := Aside0.mk hy303
             clear hy303
             have H' := Aside0.mk H
             clear H
             go_wp2_with (first | ((with_reducible refine gate_callee (f := 36) rfl ?_); refine goesL_ (some 15) rfl rfl Tryd.func36 (by kernel_rfl) rfl #[.string a0, .int .i64 x4_1] rfl ql ?_; (with_reducible refine (idiomref01_Step.calls k1 a0 x4_1 t294 t295 _ A5.out).mono ?_); rintro e w' ⟨rfl, ⟨nd, rfl⟩⟩; refine ⟨_, rfl, ?_⟩) | (at_builtin; refine print_append_str (w0 := w) w.heap.size rfl (.tmp 42) _ 41 9 5 rfl Tryd.underlying41 Tryd.underlying9 info5 u3 x3_1 (⟨#[92, 110]⟩ : ByteArray) rfl rfl ?aO ?aB ?aS ?aL ?_; (case aB => exact (qh HB)); (case aO => exact (Kd.own_of_R (by (with_reducible repeat (first | apply Kd.R_alloc | apply Kd.R_drewN | apply Kd.R_drew)); exact HO_3.out))); (case aS => exact (below_size (qh HB))); (case aL => have := LMc18.out; first | omega | (rw [show (⟨#[92, 110]⟩ : ByteArray).size = 2 from rfl]; omega)); intro v304 w19 ho0 hb hg; have ho := Kd.R_of_own (h1 := fun _ => rfl) (ok := fun _ => True) ho0 (fun _ _ => trivial); clear ho0; have hat := True.intro; rw [← Ny303.out] at ho; change Kd.R (Kd.int .u8) 5 w19 w.heap.size (fun _ => True) v304 y303 at ho; have n0_ := Aside0.mk (hb); have n1_ := Aside0.mk (ho); clear HB; clear HO_3; have HB := n0_; have HO305 := n1_; clear n0_ n1_; clear ho hb hg hat))
             go_roundg k1
             case measure => have := HK1.out; omega
             case rel => exact ⟨(y303), (wrap64 (x4_1 + t295)), (by first | rfl | (simp; done) | (simp [*]; done)), H', ⟨by have := HK1.out; omega⟩, ⟨by (with_reducible repeat (first | apply Kd.R_alloc | apply Kd.R_drewN | apply Kd.R_drew)); exact HO305.out⟩, ⟨qh HB⟩⟩
           · rw [if_neg c18] at H
             exact absurd H (by simp)
         · rw [if_neg c17] at H
           have c17b0 : (t294 == 10) = false := beq_eq_false_iff_ne.mpr c17
           have c17b1 : (t294 != 10) = true := bne_iff_ne.mpr c17
           try have c17b1z := c17b1
           (try simp only [bne] at c17b1z)
           by_cases c20 : t294 = 13
           · rw [if_pos c20] at H
             have c20b0 : (t294 == 13) = true := beq_iff_eq.mpr c20
             have c20b1 : (t294 != 13) = false := bne_eq_false_iff_eq.mpr c20
             try have c20b1z := c20b1
             (try simp only [bne] at c20b1z)
             clear c20
             by_cases c21 : x3_1.length + 2 < 140737488355328
             · rw [if_pos c21] at H
               have LMc21 := Aside0.mk c21
               clear c21
               obtain ⟨y306, hy306⟩ : ∃ y_ : List Int, y_ = (x3_1 ++ bytesOf (⟨#[92, 114]⟩ : ByteArray)) := ⟨_, rfl⟩
               replace H : (idiomref01_Escape.l0 k1 a0 y306 (wrap64 (x4_1 + t295))) = some r := by first | (rw [hy306]; with_reducible exact H) | (have H2_ := (Option.bind_some _ _).symm.trans H; rw [hy306]; with_reducible exact H2_) | (have H2_ := (Option.bind_some _ _).symm.trans H; with_reducible exact H2_) | with_reducible exact H | (rw [hy306]; exact H) | exact H
               have Ny306 := Aside0.mk hy306
               clear hy306
               have H' := Aside0.mk H
               clear H
               go_wp2_with (first | ((with_reducible refine gate_callee (f := 36) rfl ?_); refine goesL_ (some 15) rfl rfl Tryd.func36 (by kernel_rfl) rfl #[.string a0, .int .i64 x4_1] rfl ql ?_; (with_reducible refine (idiomref01_Step.calls k1 a0 x4_1 t294 t295 _ A5.out).mono ?_); rintro e w' ⟨rfl, ⟨nd, rfl⟩⟩; refine ⟨_, rfl, ?_⟩) | (at_builtin; refine print_append_str (w0 := w) w.heap.size rfl (.tmp 47) _ 41 9 5 rfl Tryd.underlying41 Tryd.underlying9 info5 u3 x3_1 (⟨#[92, 114]⟩ : ByteArray) rfl rfl ?aO ?aB ?aS ?aL ?_; (case aB => exact (qh HB)); (case aO => exact (Kd.own_of_R (by (with_reducible repeat (first | apply Kd.R_alloc | apply Kd.R_drewN | apply Kd.R_drew)); exact HO_3.out))); (case aS => exact (below_size (qh HB))); (case aL => have := LMc21.out; first | omega | (rw [show (⟨#[92, 114]⟩ : ByteArray).size = 2 from rfl]; omega)); intro v307 w22 ho0 hb hg; have ho := Kd.R_of_own (h1 := fun _ => rfl) (ok := fun _ => True) ho0 (fun _ _ => trivial); clear ho0; have hat := True.intro; rw [← Ny306.out] at ho; change Kd.R (Kd.int .u8) 5 w22 w.heap.size (fun _ => True) v307 y306 at ho; have n0_ := Aside0.mk (hb); have n1_ := Aside0.mk (ho); clear HB; clear HO_3; have HB := n0_; have HO308 := n1_; clear n0_ n1_; clear ho hb hg hat))
               go_roundg k1
               case measure => have := HK1.out; omega
               case rel => exact ⟨(y306), (wrap64 (x4_1 + t295)), (by first | rfl | (simp; done) | (simp [*]; done)), H', ⟨by have := HK1.out; omega⟩, ⟨by (with_reducible repeat (first | apply Kd.R_alloc | apply Kd.R_drewN | apply Kd.R_drew)); exact HO308.out⟩, ⟨qh HB⟩⟩
             · rw [if_neg c21] at H
               exact absurd H (by simp)
           · rw [if_neg c20] at H
             have c20b0 : (t294 == 13) = false := beq_eq_false_iff_ne.mpr c20
             have c20b1 : (t294 != 13) = true := bne_iff_ne.mpr c20
             try have c20b1z := c20b1
             (try simp only [bne] at c20b1z)
             by_cases c23 : t294 = 9
             · rw [if_pos c23] at H
               have c23b0 : (t294 == 9) = true := beq_iff_eq.mpr c23
               have c23b1 : (t294 != 9) = false := bne_eq_false_iff_eq.mpr c23
               try have c23b1z := c23b1
               (try simp only [bne] at c23b1z)
               clear c23
               by_cases c24 : x3_1.length + 2 < 140737488355328
               · rw [if_pos c24] at H
                 have LMc24 := Aside0.mk c24
                 clear c24
                 obtain ⟨y309, hy309⟩ : ∃ y_ : List Int, y_ = (x3_1 ++ bytesOf (⟨#[92, 116]⟩ : ByteArray)) := ⟨_, rfl⟩
                 replace H : (idiomref01_Escape.l0 k1 a0 y309 (wrap64 (x4_1 + t295))) = some r := by first | (rw [hy309]; with_reducible exact H) | (have H2_ := (Option.bind_some _ _).symm.trans H; rw [hy309]; with_reducible exact H2_) | (have H2_ := (Option.bind_some _ _).symm.trans H; with_reducible exact H2_) | with_reducible exact H | (rw [hy309]; exact H) | exact H
                 have Ny309 := Aside0.mk hy309
                 clear hy309
                 have H' := Aside0.mk H
                 clear H
                 go_wp2_with (first | ((with_reducible refine gate_callee (f := 36) rfl ?_); refine goesL_ (some 15) rfl rfl Tryd.func36 (by kernel_rfl) rfl #[.string a0, .int .i64 x4_1] rfl ql ?_; (with_reducible refine (idiomref01_Step.calls k1 a0 x4_1 t294 t295 _ A5.out).mono ?_); rintro e w' ⟨rfl, ⟨nd, rfl⟩⟩; refine ⟨_, rfl, ?_⟩) | (at_builtin; refine print_append_str (w0 := w) w.heap.size rfl (.tmp 52) _ 41 9 5 rfl Tryd.underlying41 Tryd.underlying9 info5 u3 x3_1 (⟨#[92, 116]⟩ : ByteArray) rfl rfl ?aO ?aB ?aS ?aL ?_; (case aB => exact (qh HB)); (case aO => exact (Kd.own_of_R (by (with_reducible repeat (first | apply Kd.R_alloc | apply Kd.R_drewN | apply Kd.R_drew)); exact HO_3.out))); (case aS => exact (below_size (qh HB))); (case aL => have := LMc24.out; first | omega | (rw [show (⟨#[92, 116]⟩ : ByteArray).size = 2 from rfl]; omega)); intro v310 w25 ho0 hb hg; have ho := Kd.R_of_own (h1 := fun _ => rfl) (ok := fun _ => True) ho0 (fun _ _ => trivial); clear ho0; have hat := True.intro; rw [← Ny309.out] at ho; change Kd.R (Kd.int .u8) 5 w25 w.heap.size (fun _ => True) v310 y309 at ho; have n0_ := Aside0.mk (hb); have n1_ := Aside0.mk (ho); clear HB; clear HO_3; have HB := n0_; have HO311 := n1_; clear n0_ n1_; clear ho hb hg hat))
                 go_roundg k1
                 case measure => have := HK1.out; omega
                 case rel => exact ⟨(y309), (wrap64 (x4_1 + t295)), (by first | rfl | (simp; done) | (simp [*]; done)), H', ⟨by have := HK1.out; omega⟩, ⟨by (with_reducible repeat (first | apply Kd.R_alloc | apply Kd.R_drewN | apply Kd.R_drew)); exact HO311.out⟩, ⟨qh HB⟩⟩
               · rw [if_neg c24] at H
                 exact absurd H (by simp)
             · rw [if_neg c23] at H
               have c23b0 : (t294 == 9) = false := beq_eq_false_iff_ne.mpr c23
               have c23b1 : (t294 != 9) = true := bne_iff_ne.mpr c23
               try have c23b1z := c23b1
               (try simp only [bne] at c23b1z)
               have HC26 := Aside0.mk H
               clear H
               go_upto_region 16 with (first | ((with_reducible refine gate_callee (f := 36) rfl ?_); refine goesL_ (some 15) rfl rfl Tryd.func36 (by kernel_rfl) rfl #[.string a0, .int .i64 x4_1] rfl ql ?_; (with_reducible refine (idiomref01_Step.calls k1 a0 x4_1 t294 t295 _ A5.out).mono ?_); rintro e w' ⟨rfl, ⟨nd, rfl⟩⟩; refine ⟨_, rfl, ?_⟩))
               (try simp only [Act.put, List.setIfInBounds_toArray, List.set_cons_zero, List.set_cons_succ])
               go_cut [54] (fun v54 wc => ∃ (kq : Nat) (x54_25 : Bool), v54 = .bool x54_25 ∧ Aside0 (idiomref01_Escape.j1 kq a0 x3_1 x4_1 t294 t295 x54_25 = some r) ∧ Aside0 (kq ≤ k1) ∧ Aside0 (Kd.R (Kd.int .u8) 5 wc w.heap.size (fun _ => True) u3 x3_1) ∧ Aside0 (Below w.heap.size w wc))
               case first =>
                have H := HC26.out
                clear HC26
                by_cases c27 : t294 ≥ 32
                · rw [if_pos c27] at H
                  have c27b0 : decide (32 ≤ t294) = true := decide_eq_true c27
                  clear c27
                  (first | rw [c27b0] | (simp only [i64_w, i32_w]; rw [c27b0]) | skip)
                  have H' := Aside0.mk H
                  clear H
                  go_wp2
                  go_meet
                  case rel => exact ⟨_, (decide (t294 ≤ 126)), (by first | rfl | (simp; done) | (simp [*]; done)), H', ⟨by have := HK1.out; first | omega | exact Nat.le_refl _⟩, ⟨by (with_reducible repeat (first | apply Kd.R_alloc | apply Kd.R_drewN | apply Kd.R_drew)); exact HO_3.out⟩, ⟨qh HB⟩⟩
                · rw [if_neg c27] at H
                  have c27b0 : decide (32 ≤ t294) = false := decide_eq_false c27
                  clear c27
                  (first | rw [c27b0] | (simp only [i64_w, i32_w]; rw [c27b0]) | skip)
                  have H' := Aside0.mk H
                  clear H
                  go_wp2
                  go_meet
                  case rel => exact ⟨_, (false), (by first | rfl | (simp; done) | (simp [*]; done)), H', ⟨by have := HK1.out; first | omega | exact Nat.le_refl _⟩, ⟨by (with_reducible repeat (first | apply Kd.R_alloc | apply Kd.R_drewN | apply Kd.R_drew)); exact HO_3.out⟩, ⟨qh HB⟩⟩
               case rest =>
                clear HC26
                try clear c1
                try clear c2
                try clear p2
                try clear c3
                try clear c4
                try clear c4b0
                try clear c6
                try clear c6b0
                try clear p6
                try clear c7
                try clear c7b0
                try clear p8
                try clear q8
                try clear hx8
                try clear c10
                try clear c10b0
                try clear c10b1
                try clear c10b2
                try clear c11
                try clear c14
                try clear c14b0
                try clear c14b1
                try clear c15
                try clear c17
                try clear c17b0
                try clear c17b1
                try clear c18
                try clear c20
                try clear c20b0
                try clear c20b1
                try clear c21
                try clear c22
                try clear c23
                try clear c23b0
                try clear c23b1
                try clear c24
                try clear c27
                try clear c27b0
                try clear p2
                try clear p8
                try clear q8
                obtain ⟨kq, x54_25, rfl, HA, HJ25, HO_3, HB⟩ := hcut
                cases kq with
                | zero => exact absurd HA.out (by simp [idiomref01_Escape.j1])
                | succ kj25 =>
                 have H := HA.out
                 clear HA
                 simp only [idiomref01_Escape.j1] at H
                 by_cases c28 : x54_25 = true
                 · subst c28
                   have H1 : (if x3_1.length < 140737488355328 then (idiomref01_Escape.l0 kj25 a0 (x3_1 ++ [(t294) % 256]) (wrap64 (x4_1 + t295))) else (none)) = some r := by rw [if_pos rfl] at H; exact H
                   clear H
                   have H := H1
                   clear H1
                   by_cases c29 : x3_1.length < 140737488355328
                   · rw [if_pos c29] at H
                     have LMc29 := Aside0.mk c29
                     clear c29
                     obtain ⟨y312, hy312⟩ : ∃ y_ : List Int, y_ = (x3_1 ++ [(t294) % 256]) := ⟨_, rfl⟩
                     replace H : (idiomref01_Escape.l0 kj25 a0 y312 (wrap64 (x4_1 + t295))) = some r := by first | (rw [hy312]; with_reducible exact H) | (have H2_ := (Option.bind_some _ _).symm.trans H; rw [hy312]; with_reducible exact H2_) | (have H2_ := (Option.bind_some _ _).symm.trans H; with_reducible exact H2_) | with_reducible exact H | (rw [hy312]; exact H) | exact H
                     have Ny312 := Aside0.mk hy312
                     clear hy312
                     have H' := Aside0.mk H
                     clear H
                     go_wp2_with (first | ((with_reducible refine gate_builtin (b := .append) (xs := #[.tmp 61, .tmp 64]) rfl ?_); at_builtin; refine Kd.R_append (Kd.int .u8) (w0 := w) w.heap.size rfl (.tmp 61) (.tmp 64) 41 5 (.int .u8 0) 1 rfl Tryd.underlying41 info5 rfl (by decide) (by omega) u3 x3_1 ((t294) % 256) [.int .u8 ((t294) % 256)] (fun _ => True) (fun _ => False) rfl rfl ?aP (fun _ hk => hk.elim) ?aF ?aO ?aB ?aS ?aL ?_; (case aP => exact rfl); (case aB => exact (qh HB)); (case aF => exact (fun _ _ => trivial)); (case aO => exact (by (with_reducible repeat (first | apply Kd.R_alloc | apply Kd.R_drewN | apply Kd.R_drew)); exact HO_3.out)); (case aS => exact (below_size (qh HB))); (case aL => have := LMc29.out; omega); intro v313 w30 ho hb hg hat; rw [← Ny312.out] at ho; have n0_ := Aside0.mk (hb); have n1_ := Aside0.mk (ho); clear HB; clear HO_3; have HB := n0_; have HO314 := n1_; clear n0_ n1_; clear ho hb hg hat))
                     go_roundg kj25
                     case measure => have := HK1.out; have := HJ25.out; omega
                     case rel => exact ⟨(y312), (wrap64 (x4_1 + t295)), (by first | rfl | (simp; done) | (simp [*]; done)), H', ⟨by have := HK1.out; have := HJ25.out; omega⟩, ⟨by (with_reducible repeat (first | apply Kd.R_alloc | apply Kd.R_drewN | apply Kd.R_drew)); exact HO314.out⟩, ⟨qh HB⟩⟩
                   · rw [if_neg c29] at H
                     exact absurd H (by simp)
                 · replace c28 := Bool.eq_false_iff.mpr c28
                   subst c28
                   have H1 : (if t294 ≤ 65535 then ((idiomref01_hex.f kj25 t294 4).bind fun t315 => (if 2 + t315.size ≤ 9223372036854775807 then (if x3_1.length + ((⟨#[92, 117]⟩ : ByteArray) ++ t315).size < 140737488355328 then (idiomref01_Escape.l0 kj25 a0 (x3_1 ++ bytesOf ((⟨#[92, 117]⟩ : ByteArray) ++ t315)) (wrap64 (x4_1 + t295))) else (none)) else (none))) else ((idiomref01_hex.f kj25 t294 6).bind fun t319 => (if 2 + t319.size ≤ 9223372036854775807 then (if x3_1.length + ((⟨#[92, 85]⟩ : ByteArray) ++ t319).size < 140737488355328 then (idiomref01_Escape.l0 kj25 a0 (x3_1 ++ bytesOf ((⟨#[92, 85]⟩ : ByteArray) ++ t319)) (wrap64 (x4_1 + t295))) else (none)) else (none)))) = some r := by rw [if_neg (show ¬ (false = true) by decide)] at H; exact H
                   clear H
                   have H := H1
                   clear H1
                   by_cases c31 : t294 ≤ 65535
                   · rw [if_pos c31] at H
                     have c31b0 : decide (t294 ≤ 65535) = true := decide_eq_true c31
                     clear c31
                     replace H := Option.bind_eq_some_iff.mp H
                     obtain ⟨t315, A320, H⟩ := H
                     replace H : (if 2 + t315.size ≤ 9223372036854775807 then (if x3_1.length + ((⟨#[92, 117]⟩ : ByteArray) ++ t315).size < 140737488355328 then (idiomref01_Escape.l0 kj25 a0 (x3_1 ++ bytesOf ((⟨#[92, 117]⟩ : ByteArray) ++ t315)) (wrap64 (x4_1 + t295))) else (none)) else (none)) = some r := H
                     have A32 := Aside0.mk A320
                     clear A320
                     by_cases c33 : 2 + t315.size ≤ 9223372036854775807
                     · rw [if_pos c33] at H
                       have c33b0 := eq_true c33
                       have c33b1 : decide (2 + t315.size ≤ 9223372036854775807) = true := decide_eq_true c33
                       try have c33b2 : (9223372036854775807 < 2 + t315.size) = False := eq_false (Nat.not_lt.2 c33)
                       by_cases c34 : x3_1.length + ((⟨#[92, 117]⟩ : ByteArray) ++ t315).size < 140737488355328
                       · rw [if_pos c34] at H
                         have LMc34 := Aside0.mk c34
                         clear c34
                         obtain ⟨y316, hy316⟩ : ∃ y_ : List Int, y_ = (x3_1 ++ bytesOf ((⟨#[92, 117]⟩ : ByteArray) ++ t315)) := ⟨_, rfl⟩
                         replace H : (idiomref01_Escape.l0 kj25 a0 y316 (wrap64 (x4_1 + t295))) = some r := by first | (rw [hy316]; with_reducible exact H) | (have H2_ := (Option.bind_some _ _).symm.trans H; rw [hy316]; with_reducible exact H2_) | (have H2_ := (Option.bind_some _ _).symm.trans H; with_reducible exact H2_) | with_reducible exact H | (rw [hy316]; exact H) | exact H
                         have Ny316 := Aside0.mk hy316
                         clear hy316
                         have H' := Aside0.mk H
                         clear H
                         go_wp2_with (first | ((with_reducible refine gate_callee (f := 41) rfl ?_); refine goesL_ (some 71) rfl rfl Tryd.func41 (by kernel_rfl) rfl #[.int .i64 t294, .int .i64 4] rfl ql ?_; (with_reducible refine (idiomref01_hex.calls kj25 t294 4 t315 _ A32.out).mono ?_); rintro e w35 ⟨rfl, hb⟩; refine ⟨_, rfl, ?_⟩; replace HO_3 := Aside0.mk (Kd.R_below (by (with_reducible repeat (first | apply Kd.R_alloc | apply Kd.R_drewN | apply Kd.R_drew)); exact HO_3.out) hb); replace HB := qn HB hb; (try clear hb); (try clear hb2); (try clear hk); (try clear hi)) | (at_builtin; refine print_append_str (w0 := w) w.heap.size rfl (.tmp 69) _ 41 9 5 rfl Tryd.underlying41 Tryd.underlying9 info5 u3 x3_1 ((⟨#[92, 117]⟩ : ByteArray) ++ t315) rfl rfl ?aO ?aB ?aS ?aL ?_; (case aB => exact (qh HB)); (case aO => exact (Kd.own_of_R (by (with_reducible repeat (first | apply Kd.R_alloc | apply Kd.R_drewN | apply Kd.R_drew)); exact HO_3.out))); (case aS => exact (below_size (qh HB))); (case aL => have := LMc34.out; omega); intro v317 w36 ho0 hb hg; have ho := Kd.R_of_own (h1 := fun _ => rfl) (ok := fun _ => True) ho0 (fun _ _ => trivial); clear ho0; have hat := True.intro; rw [← Ny316.out] at ho; change Kd.R (Kd.int .u8) 5 w36 w.heap.size (fun _ => True) v317 y316 at ho; have n0_ := Aside0.mk (hb); have n1_ := Aside0.mk (ho); clear HB; clear HO_3; have HB := n0_; have HO318 := n1_; clear n0_ n1_; clear ho hb hg hat))
                         go_roundg kj25
                         case measure => have := HK1.out; have := HJ25.out; omega
                         case rel => exact ⟨(y316), (wrap64 (x4_1 + t295)), (by first | rfl | (simp; done) | (simp [*]; done)), H', ⟨by have := HK1.out; have := HJ25.out; omega⟩, ⟨by (with_reducible repeat (first | apply Kd.R_alloc | apply Kd.R_drewN | apply Kd.R_drew)); exact HO318.out⟩, ⟨qh HB⟩⟩
                       · rw [if_neg c34] at H
                         exact absurd H (by simp)
                     · rw [if_neg c33] at H
                       exact absurd H (by simp)
                   · rw [if_neg c31] at H
                     have c31b0 : decide (t294 ≤ 65535) = false := decide_eq_false c31
                     clear c31
                     replace H := Option.bind_eq_some_iff.mp H
                     obtain ⟨t319, A370, H⟩ := H
                     replace H : (if 2 + t319.size ≤ 9223372036854775807 then (if x3_1.length + ((⟨#[92, 85]⟩ : ByteArray) ++ t319).size < 140737488355328 then (idiomref01_Escape.l0 kj25 a0 (x3_1 ++ bytesOf ((⟨#[92, 85]⟩ : ByteArray) ++ t319)) (wrap64 (x4_1 + t295))) else (none)) else (none)) = some r := H
                     have A37 := Aside0.mk A370
                     clear A370
                     by_cases c38 : 2 + t319.size ≤ 9223372036854775807
                     · rw [if_pos c38] at H
                       have c38b0 := eq_true c38
                       have c38b1 : decide (2 + t319.size ≤ 9223372036854775807) = true := decide_eq_true c38
                       try have c38b2 : (9223372036854775807 < 2 + t319.size) = False := eq_false (Nat.not_lt.2 c38)
                       by_cases c39 : x3_1.length + ((⟨#[92, 85]⟩ : ByteArray) ++ t319).size < 140737488355328
                       · rw [if_pos c39] at H
                         have LMc39 := Aside0.mk c39
                         clear c39
                         obtain ⟨y320, hy320⟩ : ∃ y_ : List Int, y_ = (x3_1 ++ bytesOf ((⟨#[92, 85]⟩ : ByteArray) ++ t319)) := ⟨_, rfl⟩
                         replace H : (idiomref01_Escape.l0 kj25 a0 y320 (wrap64 (x4_1 + t295))) = some r := by first | (rw [hy320]; with_reducible exact H) | (have H2_ := (Option.bind_some _ _).symm.trans H; rw [hy320]; with_reducible exact H2_) | (have H2_ := (Option.bind_some _ _).symm.trans H; with_reducible exact H2_) | with_reducible exact H | (rw [hy320]; exact H) | exact H
                         have Ny320 := Aside0.mk hy320
                         clear hy320
                         have H' := Aside0.mk H
                         clear H
                         go_wp2_with (first | ((with_reducible refine gate_callee (f := 41) rfl ?_); refine goesL_ (some 20) rfl rfl Tryd.func41 (by kernel_rfl) rfl #[.int .i64 t294, .int .i64 6] rfl ql ?_; (with_reducible refine (idiomref01_hex.calls kj25 t294 6 t319 _ A37.out).mono ?_); rintro e w40 ⟨rfl, hb⟩; refine ⟨_, rfl, ?_⟩; replace HO_3 := Aside0.mk (Kd.R_below (by (with_reducible repeat (first | apply Kd.R_alloc | apply Kd.R_drewN | apply Kd.R_drew)); exact HO_3.out) hb); replace HB := qn HB hb; (try clear hb); (try clear hb2); (try clear hk); (try clear hi)) | (at_builtin; refine print_append_str (w0 := w) w.heap.size rfl (.tmp 18) _ 41 9 5 rfl Tryd.underlying41 Tryd.underlying9 info5 u3 x3_1 ((⟨#[92, 85]⟩ : ByteArray) ++ t319) rfl rfl ?aO ?aB ?aS ?aL ?_; (case aB => exact (qh HB)); (case aO => exact (Kd.own_of_R (by (with_reducible repeat (first | apply Kd.R_alloc | apply Kd.R_drewN | apply Kd.R_drew)); exact HO_3.out))); (case aS => exact (below_size (qh HB))); (case aL => have := LMc39.out; omega); intro v321 w41 ho0 hb hg; have ho := Kd.R_of_own (h1 := fun _ => rfl) (ok := fun _ => True) ho0 (fun _ _ => trivial); clear ho0; have hat := True.intro; rw [← Ny320.out] at ho; change Kd.R (Kd.int .u8) 5 w41 w.heap.size (fun _ => True) v321 y320 at ho; have n0_ := Aside0.mk (hb); have n1_ := Aside0.mk (ho); clear HB; clear HO_3; have HB := n0_; have HO322 := n1_; clear n0_ n1_; clear ho hb hg hat))
                         go_roundg kj25
                         case measure => have := HK1.out; have := HJ25.out; omega
                         case rel => exact ⟨(y320), (wrap64 (x4_1 + t295)), (by first | rfl | (simp; done) | (simp [*]; done)), H', ⟨by have := HK1.out; have := HJ25.out; omega⟩, ⟨by (with_reducible repeat (first | apply Kd.R_alloc | apply Kd.R_drewN | apply Kd.R_drew)); exact HO322.out⟩, ⟨qh HB⟩⟩
                       · rw [if_neg c39] at H
                         exact absurd H (by simp)
                     · rw [if_neg c38] at H
                       exact absurd H (by simp)
   · rw [if_neg c4] at H
     have c4b0 : decide (x4_1 < (a0.size : Int)) = false := decide_eq_false c4
     clear c4
     obtain rfl := Option.some.inj H
     have hcv42 := own_string (P := Tryd.prog) Tryd.underlying41 Tryd.underlying5 Tryd.underlying9 (Kd.own_of_R HO_3.out)
     go_wp2
     go_ret
     exact ⟨qe, qh HB⟩

end Go.Proofs.YtigikjihagmokaaDoor.F
namespace Go.Proofs.YtigikjihagmokaaDoor.F
open Go.RowKit Go.Proofs.YtigikjihagmokaaDoorW.PrintWords Go.Proofs.YtigikjihagmokaaDoorW.PrintLast Go.Proofs.YtigikjihagmokaaDoorW.PrintMore Go.Proofs.YtigikjihagmokaaDoor.Q
attribute [local go_sem] max2_int min2_int max_two min_two max_three min_three max_four min_four   -- for this text's walks alone
set_option linter.unusedVariables false
set_option linter.unusedSimpArgs false

def idiomlaw01_RunesEscapes.f (k : Nat) (a0 : ByteArray) : Option (Bool) := (runes_Escape.f a0).bind fun t323 => ((idiomref01_Escape.f k a0).bind fun t324 => (if t323.toList = t324.toList then ((idiomlaw01_awake.f).bind fun t325 => (some t325)) else (none)))
theorem idiomlaw01_RunesEscapes.mono : ∀ a0 k, LeO (idiomlaw01_RunesEscapes.f k a0) (idiomlaw01_RunesEscapes.f (k + 1) a0) := by
 intro a0 k
 unfold idiomlaw01_RunesEscapes.f
 repeat' first
  | (with_reducible exact idiomref01_Escape.mono _ _)
  | (with_reducible exact LeO.refl _)
  | (with_reducible exact LeO.none _)
  | (with_reducible refine LeO.ite ?_ ?_)
  | (with_reducible refine LeO.bind ?_ (fun _ => ?_))
  | exact idiomref01_Escape.mono _ _
  | exact LeO.none _
  | refine LeO.ite ?_ ?_
  | refine LeO.bind ?_ (fun _ => ?_)
set_option maxHeartbeats 8000000 in
set_option maxRecDepth 100000 in
theorem idiomlaw01_RunesEscapes.calls (k : Nat) (a0 : ByteArray) (r : Bool) (w : World) (h : idiomlaw01_RunesEscapes.f k a0 = some r) (hG_ : Stray.Tabs w) :
 Calls Tryd.prog 6 #[.string a0] w fun e w' => e = .returned (.bool r) ∧ Below w.heap.size w w' := by
 have HG := Aside0.mk hG_
 clear hG_
 have HB := Aside0.mk (Below.refl w.heap.size w)
 have H : ((runes_Escape.f a0).bind fun t323 => ((idiomref01_Escape.f k a0).bind fun t324 => (if t323.toList = t324.toList then ((idiomlaw01_awake.f).bind fun t325 => (some t325)) else (none)))) = some r := h
 clear h
 replace H := Option.bind_eq_some_iff.mp H
 obtain ⟨t323, A20, H⟩ := H
 replace H : ((idiomref01_Escape.f k a0).bind fun t324 => (if t323.toList = t324.toList then ((idiomlaw01_awake.f).bind fun t325 => (some t325)) else (none))) = some r := H
 have A2 := Aside0.mk A20
 clear A20
 replace H := Option.bind_eq_some_iff.mp H
 obtain ⟨t324, A30, H⟩ := H
 replace H : (if t323.toList = t324.toList then ((idiomlaw01_awake.f).bind fun t325 => (some t325)) else (none)) = some r := H
 have A3 := Aside0.mk A30
 clear A30
 by_cases c4 : t323.toList = t324.toList
 · rw [if_pos c4] at H
   have c4b0 : (t323.toList == t324.toList) = true := beq_iff_eq.mpr c4
   have c4b1 : (t323.toList != t324.toList) = false := bne_eq_false_iff_eq.mpr c4
   clear c4
   replace H := Option.bind_eq_some_iff.mp H
   obtain ⟨t325, A50, H⟩ := H
   replace H : (some t325) = some r := H
   have A5 := Aside0.mk A50
   clear A50
   obtain rfl := Option.some.inj H
   go_enter Tryd.func6, Tryd.ntmps6
   go_wp2_with (first | ((with_reducible refine gate_callee (f := 21) rfl ?_); refine goesL_ (some 4) rfl rfl Tryd.func21 (by kernel_rfl) rfl #[.string a0] rfl ql ?_; (with_reducible refine (runes_Escape.calls a0 t323 _ A2.out (by first | exact HG.out | exact HG.out.below HB.out | exact HG.out.below (pw_below_drewN HB.out _) | exact HG.out.below (below_drew HB.out) | exact HG.out.below (by assumption))).mono ?_); rintro e w6 ⟨rfl, hb⟩; refine ⟨_, rfl, ?_⟩; replace HB := qn HB hb; (try clear hb); (try clear hb2); (try clear hk); (try clear hi)) | ((with_reducible refine gate_callee (f := 22) rfl ?_); refine goesL_ (some 6) rfl rfl Tryd.func22 (by kernel_rfl) rfl #[.string a0] rfl ql ?_; (with_reducible refine (idiomref01_Escape.calls k a0 t324 _ A3.out).mono ?_); rintro e w7 ⟨rfl, hb⟩; refine ⟨_, rfl, ?_⟩; replace HB := qn HB hb; (try clear hb); (try clear hb2); (try clear hk); (try clear hi)) | (go_at_call 16; (with_reducible refine (idiomlaw01_awake.calls  t325 _ A5.out).mono ?_); rintro e w8 ⟨rfl, hb⟩; replace HB := qn HB hb; (try clear hb); (try clear hb2); (try clear hk); (try clear hi)))
   go_ret
   exact ⟨qe, qh HB⟩
 · rw [if_neg c4] at H
   exact absurd H (by simp)

/-- THE ONE PURE STATEMENT of idiomlaw01_RunesEscapes: yours. -/
def idiomlaw01_RunesEscapes.Pure : Prop := ∀ (a0 : ByteArray), a0.size ≤ 140737488351232 → ∃ k, idiomlaw01_RunesEscapes.f k a0 = some true
end Go.Proofs.YtigikjihagmokaaDoor.F
set_option linter.unusedVariables false
set_option linter.unusedSimpArgs false
namespace Go.Proofs.YtigikjihagmokaaDoor.RunesAwake
open Go.RowKit Go.Proofs.YtigikjihagmokaaDoorW.PrintWords Go.Proofs.YtigikjihagmokaaDoorW.PrintLast Go.Proofs.YtigikjihagmokaaDoorW.PrintMore Go.Proofs.YtigikjihagmokaaDoor.F
theorem Ev.some {α : Type} {g : Nat → Option α} {r : α} (h : ∀ k, g (k + 1) = some r) : Ev g r := Ev.step (f := fun _ => Option.some r) h (Ev.now r)
theorem w64 {x : Int} (h0 : -9223372036854775808 ≤ x) (h1 : x ≤ 9223372036854775807) : wrap64 x = x := by unfold wrap64; omega
theorem toL (l : Array UInt8) : (⟨l⟩ : ByteArray).toList = l.toList := by rw [ByteArray.toList_eq]
theorem awake : idiomlaw01_awake.f = some true := by
  have p0 : Fill.piece ⟨#[123, 49, 125, 45, 123, 48, 125]⟩ [(⟨#[97]⟩ : ByteArray), ⟨#[98]⟩] 0 = some (⟨#[98]⟩, 3) := by
    unfold Fill.piece
    rw [if_pos (by rw [ByteArray.toList_eq]; rfl)]
    rfl
  have p3 : Fill.piece ⟨#[123, 49, 125, 45, 123, 48, 125]⟩ [(⟨#[97]⟩ : ByteArray), ⟨#[98]⟩] 3 = some (⟨#[45]⟩, 4) := by
    unfold Fill.piece
    rw [if_neg (by rw [ByteArray.toList_eq]; decide)]
    rfl
  have p4 : Fill.piece ⟨#[123, 49, 125, 45, 123, 48, 125]⟩ [(⟨#[97]⟩ : ByteArray), ⟨#[98]⟩] 4 = some (⟨#[97]⟩, 7) := by
    unfold Fill.piece
    rw [if_pos (by rw [ByteArray.toList_eq]; rfl)]
    rfl
  have sz : ((⟨#[123, 49, 125, 45, 123, 48, 125]⟩ : ByteArray).size : Int) = 7 := rfl
  have s1 : ((⟨#[98]⟩ : ByteArray).size : Int) = 1 := rfl
  have s2 : ((⟨#[45]⟩ : ByteArray).size : Int) = 1 := rfl
  have s3 : ((⟨#[97]⟩ : ByteArray).size : Int) = 1 := rfl
  have e : Fill.f ⟨#[123, 49, 125, 45, 123, 48, 125]⟩ [(⟨#[97]⟩ : ByteArray), ⟨#[98]⟩] = (⟨#[98, 45, 97]⟩, 0) := by
    unfold Fill.f
    rw [sz, if_neg (by decide), show (⟨#[123, 49, 125, 45, 123, 48, 125]⟩ : ByteArray).size + 1 = 8 from rfl]
    simp only [Fill.go]
    rw [sz, if_pos (by decide), p0]
    simp only []
    rw [s1, if_neg (by decide), if_pos (by decide), p3]
    simp only []
    rw [s2, if_neg (by decide), if_pos (by decide), p4]
    simp only []
    rw [s3, if_neg (by decide), if_neg (by decide)]
    rfl
  unfold idiomlaw01_awake.f runes_Fill.f
  rw [e, Option.bind_some]
  simp only []
  rw [if_pos (by rw [toL])]
  simp only [if_true]
  unfold runes_Ident.f
  rw [if_pos (by rw [toL])]
  rfl
theorem awake_ev : Ev (fun _ : Nat => idiomlaw01_awake.f.bind fun t => some t) true := by rw [awake]; exact Ev.now _
end Go.Proofs.YtigikjihagmokaaDoor.RunesAwake
set_option linter.unusedVariables false
set_option linter.unusedSimpArgs false
namespace Go.Proofs.YtigikjihagmokaaDoor.Step01
open Go.RowKit Go.Proofs.YtigikjihagmokaaDoorW.PrintWords Go.Proofs.YtigikjihagmokaaDoorW.PrintLast Go.Proofs.YtigikjihagmokaaDoorW.PrintMore Go.Proofs.YtigikjihagmokaaDoor.F Go.Proofs.YtigikjihagmokaaDoor.RunesAwake
/-- What the decoder tells of numbers, as the reference tells it. -/
def told (d : Nat × Nat) : Int × Int := if d = (65533, 1) then (-1, 1) else ((d.1 : Int), (d.2 : Int))
theorem bt_nat (s : ByteArray) (i : Nat) (h : i < s.size) : bt s (i : Int) = ((s.get! i).toNat : Int) := by
  have h2 : ((i : Int)).toNat < s.size := by omega
  rw [← bt_at s (i : Int) h2]
  congr 1
  have e : s.get! i = s[i]'h := by
    show s.data[i]! = s.data[i]'h
    exact getElem!_pos s.data i h
  rw [e]
  congr 1
theorem byte_le (s : ByteArray) (i : Nat) : (s.get! i).toNat ≤ 255 := by have := (s.get! i).toNat_lt; omega
/-- One byte more. -/
theorem l0_step (s : ByteArray) (i j n : Nat) (low r : Int) (hs : s.size ≤ 140737488355328) (hi : i + j < s.size) (hj : j < n) (hn : n ≤ 4) (hr : 0 ≤ r ∧ r ≤ 2097152) (k : Nat) :
    idiomref01_Step.l0 (k + 1) s (i : Int) (n : Int) low r (j : Int) = if (s.get! (i + j)).toNat / 64 = 2 then idiomref01_Step.l0 k s (i : Int) (n : Int) low (r * 64 + (((s.get! (i + j)).toNat : Nat) : Int) - 128) ((j + 1 : Nat) : Int) else some (-1, 1) := by
  have hb := byte_le s (i + j)
  have w1 : wrap64 ((i : Int) + (j : Int)) = ((i + j : Nat) : Int) := by rw [w64 (by omega) (by omega)]; omega
  have eb : bt s ((i + j : Nat) : Int) = ((s.get! (i + j)).toNat : Int) := bt_nat s (i + j) hi
  generalize (s.get! (i + j)).toNat = b at *
  have w2 : wrap64 (b : Int) = b := w64 (by omega) (by omega)
  have w3 : wrap64 (r * 64) = r * 64 := w64 (by omega) (by omega)
  have w4 : wrap64 (r * 64 + (b : Int)) = r * 64 + b := w64 (by omega) (by omega)
  have w5 : wrap64 (r * 64 + (b : Int) - 128) = r * 64 + b - 128 := w64 (by omega) (by omega)
  have w6 : wrap64 ((j : Int) + 1) = ((j + 1 : Nat) : Int) := by rw [w64 (by omega) (by omega)]; omega
  simp only [idiomref01_Step.l0]
  rw [w1, eb, w2, w3, w4, w5, w6]
  clear w1 eb w2 w3 w4 w5 w6
  rw [if_pos (by omega), if_pos (by omega), if_pos (by omega)]
  by_cases h1 : b / 64 = 2
  · rw [if_pos h1, if_neg (by omega), if_neg (by omega)]
  · rw [if_neg h1]
    by_cases h2 : (b : Int) < 128
    · rw [if_pos h2]
    · rw [if_neg h2, if_pos (by omega)]
theorem l0_end (s : ByteArray) (i n : Nat) (low r : Int) (k : Nat) : idiomref01_Step.l0 (k + 1) s (i : Int) (n : Int) low r (n : Int) = some (if low ≤ r ∧ r ≤ 1114111 ∧ (r < 55296 ∨ 57343 < r) then (r, (n : Int)) else (-1, 1)) := by
  simp only [idiomref01_Step.l0]
  rw [if_neg (by omega)]
  by_cases h1 : r < low
  · rw [if_pos h1, if_neg (by omega)]
  · rw [if_neg h1]
    by_cases h2 : r > 1114111
    · rw [if_pos h2, if_neg (by omega)]
    · rw [if_neg h2]
      by_cases h3 : r ≥ 55296
      · rw [if_pos h3]
        by_cases h4 : r ≤ 57343
        · rw [if_pos h4, if_neg (by omega)]
        · rw [if_neg h4, if_pos (by omega)]
      · rw [if_neg h3, if_pos (by omega)]
theorem step_ev (s : ByteArray) (hs : s.size ≤ 140737488355328) (i : Nat) (hi : i < s.size) : Ev (fun k => idiomref01_Step.f k s (i : Int)) (told (Utf8.decode s i)) := by
  rw [Lib.decode_at]
  have h0 := byte_le s i
  have h1 := byte_le s (i + 1)
  have h2 := byte_le s (i + 2)
  have h3 := byte_le s (i + 3)
  have eb : bt s (i : Int) = ((s.get! i).toNat : Int) := bt_nat s i hi
  have wl : wrap64 ((s.size : Int) - (i : Int)) = ((s.size - i : Nat) : Int) := by rw [w64 (by omega) (by omega)]; omega
  have wb : wrap64 (((s.get! i).toNat : Nat) : Int) = ((s.get! i).toNat : Int) := w64 (by omega) (by omega)
  -- the loop, three lengths
  have loop2 : ∀ low r : Int, 0 ≤ r → r ≤ 31 → i + 1 < s.size → Ev (fun k => idiomref01_Step.l0 k s (i : Int) 2 low r 1) (if (s.get! (i + 1)).toNat / 64 = 2 then (if low ≤ r * 64 + (s.get! (i + 1)).toNat - 128 ∧ r * 64 + (s.get! (i + 1)).toNat - 128 ≤ 1114111 ∧ (r * 64 + (s.get! (i + 1)).toNat - 128 < 55296 ∨ 57343 < r * 64 + (s.get! (i + 1)).toNat - 128) then (r * 64 + (s.get! (i + 1)).toNat - 128, 2) else (-1, 1)) else (-1, 1)) := by
    intro low r r0 r1 hl
    by_cases c1 : (s.get! (i + 1)).toNat / 64 = 2
    · rw [if_pos c1]
      exact Ev.step (fun k => (l0_step s i 1 2 low r hs hl (by omega) (by omega) ⟨r0, by omega⟩ k).trans (if_pos c1)) (Ev.some fun k => l0_end s i 2 low _ k)
    · rw [if_neg c1]
      exact Ev.some fun k => (l0_step s i 1 2 low r hs hl (by omega) (by omega) ⟨r0, by omega⟩ k).trans (if_neg c1)
  have loop3 : ∀ low r : Int, 0 ≤ r → r ≤ 15 → i + 2 < s.size → Ev (fun k => idiomref01_Step.l0 k s (i : Int) 3 low r 1) (if (s.get! (i + 1)).toNat / 64 = 2 ∧ (s.get! (i + 2)).toNat / 64 = 2 then (if low ≤ (r * 64 + (s.get! (i + 1)).toNat - 128) * 64 + (s.get! (i + 2)).toNat - 128 ∧ (r * 64 + (s.get! (i + 1)).toNat - 128) * 64 + (s.get! (i + 2)).toNat - 128 ≤ 1114111 ∧ ((r * 64 + (s.get! (i + 1)).toNat - 128) * 64 + (s.get! (i + 2)).toNat - 128 < 55296 ∨ 57343 < (r * 64 + (s.get! (i + 1)).toNat - 128) * 64 + (s.get! (i + 2)).toNat - 128) then ((r * 64 + (s.get! (i + 1)).toNat - 128) * 64 + (s.get! (i + 2)).toNat - 128, 3) else (-1, 1)) else (-1, 1)) := by
    intro low r r0 r1 hl
    by_cases c1 : (s.get! (i + 1)).toNat / 64 = 2
    · refine Ev.step (fun k => (l0_step s i 1 3 low r hs (by omega) (by omega) (by omega) ⟨r0, by omega⟩ k).trans (if_pos c1)) ?_
      by_cases c2 : (s.get! (i + 2)).toNat / 64 = 2
      · rw [if_pos ⟨c1, c2⟩]
        exact Ev.step (fun k => (l0_step s i 2 3 low _ hs hl (by omega) (by omega) ⟨by omega, by omega⟩ k).trans (if_pos c2)) (Ev.some fun k => l0_end s i 3 low _ k)
      · rw [if_neg (fun h => c2 h.2)]
        exact Ev.some fun k => (l0_step s i 2 3 low _ hs hl (by omega) (by omega) ⟨by omega, by omega⟩ k).trans (if_neg c2)
    · rw [if_neg (fun h => c1 h.1)]
      exact Ev.some fun k => (l0_step s i 1 3 low r hs (by omega) (by omega) (by omega) ⟨r0, by omega⟩ k).trans (if_neg c1)
  have loop4 : ∀ low r : Int, 0 ≤ r → r ≤ 7 → i + 3 < s.size → Ev (fun k => idiomref01_Step.l0 k s (i : Int) 4 low r 1) (if (s.get! (i + 1)).toNat / 64 = 2 ∧ (s.get! (i + 2)).toNat / 64 = 2 ∧ (s.get! (i + 3)).toNat / 64 = 2 then (if low ≤ ((r * 64 + (s.get! (i + 1)).toNat - 128) * 64 + (s.get! (i + 2)).toNat - 128) * 64 + (s.get! (i + 3)).toNat - 128 ∧ ((r * 64 + (s.get! (i + 1)).toNat - 128) * 64 + (s.get! (i + 2)).toNat - 128) * 64 + (s.get! (i + 3)).toNat - 128 ≤ 1114111 ∧ (((r * 64 + (s.get! (i + 1)).toNat - 128) * 64 + (s.get! (i + 2)).toNat - 128) * 64 + (s.get! (i + 3)).toNat - 128 < 55296 ∨ 57343 < ((r * 64 + (s.get! (i + 1)).toNat - 128) * 64 + (s.get! (i + 2)).toNat - 128) * 64 + (s.get! (i + 3)).toNat - 128) then (((r * 64 + (s.get! (i + 1)).toNat - 128) * 64 + (s.get! (i + 2)).toNat - 128) * 64 + (s.get! (i + 3)).toNat - 128, 4) else (-1, 1)) else (-1, 1)) := by
    intro low r r0 r1 hl
    by_cases c1 : (s.get! (i + 1)).toNat / 64 = 2
    · refine Ev.step (fun k => (l0_step s i 1 4 low r hs (by omega) (by omega) (by omega) ⟨r0, by omega⟩ k).trans (if_pos c1)) ?_
      by_cases c2 : (s.get! (i + 2)).toNat / 64 = 2
      · refine Ev.step (fun k => (l0_step s i 2 4 low _ hs (by omega) (by omega) (by omega) ⟨by omega, by omega⟩ k).trans (if_pos c2)) ?_
        by_cases c3 : (s.get! (i + 3)).toNat / 64 = 2
        · rw [if_pos ⟨c1, c2, c3⟩]
          exact Ev.step (fun k => (l0_step s i 3 4 low _ hs hl (by omega) (by omega) ⟨by omega, by omega⟩ k).trans (if_pos c3)) (Ev.some fun k => l0_end s i 4 low _ k)
        · rw [if_neg (fun h => c3 h.2.2)]
          exact Ev.some fun k => (l0_step s i 3 4 low _ hs hl (by omega) (by omega) ⟨by omega, by omega⟩ k).trans (if_neg c3)
      · rw [if_neg (fun h => c2 h.2.1)]
        exact Ev.some fun k => (l0_step s i 2 4 low _ hs (by omega) (by omega) (by omega) ⟨by omega, by omega⟩ k).trans (if_neg c2)
    · rw [if_neg (fun h => c1 h.1)]
      exact Ev.some fun k => (l0_step s i 1 4 low r hs (by omega) (by omega) (by omega) ⟨r0, by omega⟩ k).trans (if_neg c1)
  generalize (s.get! i).toNat = b0 at *
  generalize (s.get! (i + 1)).toNat = b1 at *
  generalize (s.get! (i + 2)).toNat = b2 at *
  generalize (s.get! (i + 3)).toNat = b3 at *
  obtain ⟨n, hn⟩ : ∃ n, n = s.size - i := ⟨_, rfl⟩
  rw [← hn] at wl ⊢
  have n0 : 0 < n := by omega
  -- the first byte
  by_cases c128 : b0 < 128
  · refine Ev.congr (fun k => ?_) (Ev.now _)
    simp only [idiomref01_Step.f]
    rw [wl, if_neg (by omega), if_pos (by omega), if_pos (by omega), eb, wb, if_pos (by omega)]
    have hD : Lib.decodeN n b0 b1 b2 b3 = (b0, 1) := by unfold Lib.decodeN; rw [if_pos c128]
    rw [hD]
    unfold told
    rw [if_neg (by intro h; injection h with h; omega)]
    rfl
  have head : ∀ k, idiomref01_Step.f k s (i : Int) = if (b0 : Int) ≥ 192 then idiomref01_Step.j0 k s (i : Int) (n : Int) (b0 : Int) (decide ((b0 : Int) < 224)) else idiomref01_Step.j0 k s (i : Int) (n : Int) (b0 : Int) false := by
    intro k
    simp only [idiomref01_Step.f]
    rw [wl, if_neg (by omega), if_pos (by omega), if_pos (by omega), eb, wb, if_neg (by omega)]
  refine Ev.congr head ?_
  clear head wl eb wb
  by_cases c2 : b0 / 32 = 6
  · refine Ev.congr (fun k => by rw [if_pos (by omega), decide_eq_true (by omega)]) ?_
    have w : wrap64 ((b0 : Int) - 192) = (b0 : Int) - 192 := w64 (by omega) (by omega)
    refine Ev.step (f := fun k => idiomref01_Step.j2 k s (i : Int) (n : Int) 2 128 ((b0 : Int) - 192)) (fun k => by simp only [idiomref01_Step.j0]; rw [if_pos trivial, w]) ?_
    clear w
    by_cases hl : 1 < n
    · refine Ev.step (fun k => by simp only [idiomref01_Step.j2]; rw [if_neg (by omega)]) ?_
      have e := loop2 128 ((b0 : Int) - 192) (by omega) (by omega) (by omega)
      clear loop2 loop3 loop4
      by_cases d1 : b1 / 64 = 2
      · rw [if_pos d1] at e
        by_cases d2 : b0 % 32 * 64 + b1 % 64 ≥ 128
        · have hD : Lib.decodeN n b0 b1 b2 b3 = (b0 % 32 * 64 + b1 % 64, 2) := by unfold Lib.decodeN; rw [if_neg c128, if_pos ⟨c2, hl, d1⟩, if_pos d2]
          rw [hD]
          unfold told
          rw [if_neg (by intro h; injection h with h h'; omega)]
          rw [if_pos (by omega)] at e
          have e1 : ((b0 : Int) - 192) * 64 + (b1 : Int) - 128 = ((b0 % 32 * 64 + b1 % 64 : Nat) : Int) := by omega
          rw [e1] at e
          exact e
        · have hD : Lib.decodeN n b0 b1 b2 b3 = (65533, 1) := by unfold Lib.decodeN; rw [if_neg c128, if_pos ⟨c2, hl, d1⟩, if_neg d2]
          rw [hD]
          rw [if_neg (by omega)] at e
          exact e
      · have hD : Lib.decodeN n b0 b1 b2 b3 = (65533, 1) := by unfold Lib.decodeN; rw [if_neg c128, if_neg (fun h => d1 h.2.2), if_neg (by omega), if_neg (by omega)]
        rw [hD]
        rw [if_neg d1] at e
        exact e
    · refine Ev.some fun k => ?_
      simp only [idiomref01_Step.j2]
      rw [if_pos (by omega)]
      have hD : Lib.decodeN n b0 b1 b2 b3 = (65533, 1) := by unfold Lib.decodeN; rw [if_neg c128, if_neg (by omega), if_neg (by omega), if_neg (by omega)]
      rw [hD]
      rfl
  by_cases c3 : b0 / 16 = 14
  · refine Ev.congr (fun k => by rw [if_pos (by omega), decide_eq_false (by omega)]) ?_
    have w : wrap64 ((b0 : Int) - 224) = (b0 : Int) - 224 := w64 (by omega) (by omega)
    refine Ev.step (f := fun k => idiomref01_Step.j1 k s (i : Int) (n : Int) (b0 : Int) true) (fun k => by simp only [idiomref01_Step.j0]; rw [if_neg (by decide), if_pos (by omega), decide_eq_true (by omega)]) ?_
    refine Ev.step (f := fun k => idiomref01_Step.j2 k s (i : Int) (n : Int) 3 2048 ((b0 : Int) - 224)) (fun k => by simp only [idiomref01_Step.j1]; rw [if_pos trivial, w]) ?_
    clear w
    by_cases hl : 2 < n
    · refine Ev.step (fun k => by simp only [idiomref01_Step.j2]; rw [if_neg (by omega)]) ?_
      have e := loop3 2048 ((b0 : Int) - 224) (by omega) (by omega) (by omega)
      clear loop2 loop3 loop4
      by_cases d1 : b1 / 64 = 2 ∧ b2 / 64 = 2
      · rw [if_pos d1] at e
        by_cases d2 : b0 % 16 * 4096 + b1 % 64 * 64 + b2 % 64 ≥ 2048 ∧ (b0 % 16 * 4096 + b1 % 64 * 64 + b2 % 64 < 55296 ∨ (57344 ≤ b0 % 16 * 4096 + b1 % 64 * 64 + b2 % 64 ∧ b0 % 16 * 4096 + b1 % 64 * 64 + b2 % 64 ≤ 1114111))
        · have hD : Lib.decodeN n b0 b1 b2 b3 = (b0 % 16 * 4096 + b1 % 64 * 64 + b2 % 64, 3) := by unfold Lib.decodeN; rw [if_neg c128, if_neg (by omega), if_pos ⟨c3, ⟨by omega, d1.1⟩, hl, d1.2⟩, if_pos d2]
          rw [hD]
          unfold told
          rw [if_neg (by intro h; injection h with h h'; omega)]
          rw [if_pos (by omega)] at e
          have e1 : (((b0 : Int) - 224) * 64 + (b1 : Int) - 128) * 64 + (b2 : Int) - 128 = ((b0 % 16 * 4096 + b1 % 64 * 64 + b2 % 64 : Nat) : Int) := by omega
          rw [e1] at e
          exact e
        · have hD : Lib.decodeN n b0 b1 b2 b3 = (65533, 1) := by unfold Lib.decodeN; rw [if_neg c128, if_neg (by omega), if_pos ⟨c3, ⟨by omega, d1.1⟩, hl, d1.2⟩, if_neg d2]
          rw [hD]
          rw [if_neg (by omega)] at e
          exact e
      · have hD : Lib.decodeN n b0 b1 b2 b3 = (65533, 1) := by unfold Lib.decodeN; rw [if_neg c128, if_neg (by omega), if_neg (fun h => d1 ⟨h.2.1.2, h.2.2.2⟩), if_neg (by omega)]
        rw [hD]
        rw [if_neg d1] at e
        exact e
    · refine Ev.some fun k => ?_
      simp only [idiomref01_Step.j2]
      rw [if_pos (by omega)]
      have hD : Lib.decodeN n b0 b1 b2 b3 = (65533, 1) := by unfold Lib.decodeN; rw [if_neg c128, if_neg (by omega), if_neg (by omega), if_neg (by omega)]
      rw [hD]
      rfl
  by_cases c4 : b0 / 8 = 30
  · refine Ev.congr (fun k => by rw [if_pos (by omega), decide_eq_false (by omega)]) ?_
    have w : wrap64 ((b0 : Int) - 240) = (b0 : Int) - 240 := w64 (by omega) (by omega)
    refine Ev.step (f := fun k => idiomref01_Step.j1 k s (i : Int) (n : Int) (b0 : Int) false) (fun k => by simp only [idiomref01_Step.j0]; rw [if_neg (by decide), if_pos (by omega), decide_eq_false (by omega)]) ?_
    refine Ev.step (f := fun k => idiomref01_Step.j2 k s (i : Int) (n : Int) 4 65536 ((b0 : Int) - 240)) (fun k => by simp only [idiomref01_Step.j1]; rw [if_neg (by decide), if_pos (by omega), if_pos (by omega), w]) ?_
    clear w
    by_cases hl : 3 < n
    · refine Ev.step (fun k => by simp only [idiomref01_Step.j2]; rw [if_neg (by omega)]) ?_
      have e := loop4 65536 ((b0 : Int) - 240) (by omega) (by omega) (by omega)
      clear loop2 loop3 loop4
      by_cases d1 : b1 / 64 = 2 ∧ b2 / 64 = 2 ∧ b3 / 64 = 2
      · rw [if_pos d1] at e
        by_cases d2 : b0 % 8 * 262144 + b1 % 64 * 4096 + b2 % 64 * 64 + b3 % 64 ≥ 65536 ∧ (b0 % 8 * 262144 + b1 % 64 * 4096 + b2 % 64 * 64 + b3 % 64 < 55296 ∨ (57344 ≤ b0 % 8 * 262144 + b1 % 64 * 4096 + b2 % 64 * 64 + b3 % 64 ∧ b0 % 8 * 262144 + b1 % 64 * 4096 + b2 % 64 * 64 + b3 % 64 ≤ 1114111))
        · have hD : Lib.decodeN n b0 b1 b2 b3 = (b0 % 8 * 262144 + b1 % 64 * 4096 + b2 % 64 * 64 + b3 % 64, 4) := by unfold Lib.decodeN; rw [if_neg c128, if_neg (by omega), if_neg (by omega), if_pos ⟨c4, ⟨by omega, d1.1⟩, ⟨by omega, d1.2.1⟩, hl, d1.2.2⟩, if_pos d2]
          rw [hD]
          unfold told
          rw [if_neg (by intro h; injection h with h h'; omega)]
          rw [if_pos (by omega)] at e
          have e1 : ((((b0 : Int) - 240) * 64 + (b1 : Int) - 128) * 64 + (b2 : Int) - 128) * 64 + (b3 : Int) - 128 = ((b0 % 8 * 262144 + b1 % 64 * 4096 + b2 % 64 * 64 + b3 % 64 : Nat) : Int) := by omega
          rw [e1] at e
          exact e
        · have hD : Lib.decodeN n b0 b1 b2 b3 = (65533, 1) := by unfold Lib.decodeN; rw [if_neg c128, if_neg (by omega), if_neg (by omega), if_pos ⟨c4, ⟨by omega, d1.1⟩, ⟨by omega, d1.2.1⟩, hl, d1.2.2⟩, if_neg d2]
          rw [hD]
          rw [if_neg (by omega)] at e
          exact e
      · have hD : Lib.decodeN n b0 b1 b2 b3 = (65533, 1) := by unfold Lib.decodeN; rw [if_neg c128, if_neg (by omega), if_neg (by omega), if_neg (fun h => d1 ⟨h.2.1.2, h.2.2.1.2, h.2.2.2.2⟩)]
        rw [hD]
        rw [if_neg d1] at e
        exact e
    · refine Ev.some fun k => ?_
      simp only [idiomref01_Step.j2]
      rw [if_pos (by omega)]
      have hD : Lib.decodeN n b0 b1 b2 b3 = (65533, 1) := by unfold Lib.decodeN; rw [if_neg c128, if_neg (by omega), if_neg (by omega), if_neg (by omega)]
      rw [hD]
      rfl
  clear loop2 loop3 loop4
  have bad : told (Lib.decodeN n b0 b1 b2 b3) = (-1, 1) := by
    have hD : Lib.decodeN n b0 b1 b2 b3 = (65533, 1) := by unfold Lib.decodeN; rw [if_neg c128, if_neg (fun h => c2 h.1), if_neg (fun h => c3 h.1), if_neg (fun h => c4 h.1)]
    rw [hD]
    rfl
  rw [bad]
  have z : ∀ g : Nat → Option (Int × Int), (∀ k, g k = idiomref01_Step.j0 k s (i : Int) (n : Int) (b0 : Int) false) → Ev g (-1, 1) := by
    intro g hg
    refine Ev.congr hg ?_
    have j1 : Ev (fun k => idiomref01_Step.j1 k s (i : Int) (n : Int) (b0 : Int) false) (-1, 1) := by
      refine Ev.some fun k => ?_
      simp only [idiomref01_Step.j1]
      rw [if_neg (by decide)]
      by_cases a : (b0 : Int) ≥ 240
      · rw [if_pos a, if_neg (by omega)]
      · rw [if_neg a]
    refine Ev.step (fun k => ?_) j1
    simp only [idiomref01_Step.j0]
    rw [if_neg (by decide)]
    by_cases a : (b0 : Int) ≥ 224
    · rw [if_pos a, decide_eq_false (by omega)]
    · rw [if_neg a]
  by_cases a : (b0 : Int) ≥ 192
  · exact z _ (fun k => by rw [if_pos a, decide_eq_false (by omega)])
  · exact z _ (fun k => if_neg a)
end Go.Proofs.YtigikjihagmokaaDoor.Step01
set_option linter.unusedVariables false
set_option linter.unusedSimpArgs false
namespace Go.Proofs.YtigikjihagmokaaDoor.Unesc01
open Go.RowKit Go.Proofs.YtigikjihagmokaaDoorW.PrintWords Go.Proofs.YtigikjihagmokaaDoorW.PrintLast Go.Proofs.YtigikjihagmokaaDoorW.PrintMore Go.Proofs.YtigikjihagmokaaDoor.F Go.Proofs.YtigikjihagmokaaDoor.RunesAwake Go.Proofs.YtigikjihagmokaaDoor.Step01 Go.Proofs.YtigikjihagmokaaDoor.Esc01
def ints (l : List UInt8) : List Int := l.map fun c => (c.toNat : Int)
theorem ints_length (l : List UInt8) : (ints l).length = l.length := by simp [ints]
theorem ints_app (a b : List UInt8) : ints (a ++ b) = ints a ++ ints b := by simp [ints]
theorem str_ints (l : List UInt8) : strOfNums (ints l) = ⟨l.toArray⟩ := by
  simp [strOfNums, ints, Function.comp_def]
theorem bytesOf_list (l : List UInt8) : bytesOf ⟨l.toArray⟩ = ints l := by
  simp [bytesOf, ints]
theorem size_list (l : List UInt8) : (⟨l.toArray⟩ : ByteArray).size = l.length := by
  show l.toArray.size = l.length
  simp
def dl (s : ByteArray) (i : Nat) : List UInt8 := s.data.toList.drop i
theorem dl_cons (s : ByteArray) (i : Nat) (h : i < s.size) : dl s i = s.get! i :: dl s (i + 1) := by
  have hl : i < s.data.toList.length := by rw [Array.length_toList]; exact h
  unfold dl
  rw [List.drop_eq_getElem_cons hl]
  congr 1
  show s.data[i]'h = s.data[i]!
  exact (getElem!_pos s.data i h).symm
theorem dl_nil (s : ByteArray) (i : Nat) (h : s.size ≤ i) : dl s i = [] := by
  unfold dl
  exact List.drop_eq_nil_of_le (by rw [Array.length_toList]; exact h)
theorem dl_drop (s : ByteArray) (i n : Nat) : (dl s i).drop n = dl s (i + n) := by
  unfold dl
  rw [List.drop_drop]
theorem wn {n : Nat} (h : n ≤ 1114111) : wrap64 (n : Int) = n := w64 (by omega) (by omega)
theorem td (n m : Nat) : Int.tdiv (n : Int) (m : Int) = ((n / m : Nat) : Int) := rfl
theorem tm (n m : Nat) : Int.tmod (n : Int) (m : Int) = ((n % m : Nat) : Int) := rfl
end Go.Proofs.YtigikjihagmokaaDoor.Unesc01
set_option linter.unusedVariables false
set_option linter.unusedSimpArgs false
namespace Go.Proofs.YtigikjihagmokaaDoor.Text01
open Go.RowKit Go.Proofs.YtigikjihagmokaaDoorW.PrintWords Go.Proofs.YtigikjihagmokaaDoorW.PrintLast Go.Proofs.YtigikjihagmokaaDoorW.PrintMore Go.Proofs.YtigikjihagmokaaDoor.F Go.Proofs.YtigikjihagmokaaDoor.RunesAwake Go.Proofs.YtigikjihagmokaaDoor.Step01
theorem rest_ne (s : ByteArray) (i : Nat) (h : i < s.size) : s.data.toList.drop i ≠ [] := fun e => by
  have := congrArg List.length e
  rw [List.length_drop, Array.length_toList] at this
  have h2 : s.data.size = s.size := rfl
  simp at this
  omega
theorem fits (s : ByteArray) (i : Nat) (h : i < s.size) : i + (Utf8.decode s i).2 ≤ s.size := by
  have e := Lib.decodeL_le (s.data.toList.drop i) (rest_ne s i h)
  rw [Lib.decodeL_drop, List.length_drop, Array.length_toList] at e
  have h2 : s.data.size = s.size := rfl
  omega
theorem told_bad {d : Nat × Nat} (h : d = (65533, 1)) : told d = (-1, 1) := by unfold told; rw [if_pos h]
theorem told_good {d : Nat × Nat} (h : d ≠ (65533, 1)) : told d = ((d.1 : Int), (d.2 : Int)) := by unfold told; rw [if_neg h]
end Go.Proofs.YtigikjihagmokaaDoor.Text01
set_option linter.unusedVariables false
set_option linter.unusedSimpArgs false
namespace Go.Proofs.YtigikjihagmokaaDoor.RunesEscapes
open Go.RowKit Go.Proofs.YtigikjihagmokaaDoorW.PrintWords Go.Proofs.YtigikjihagmokaaDoorW.PrintLast Go.Proofs.YtigikjihagmokaaDoorW.PrintMore Go.Proofs.YtigikjihagmokaaDoor.F Go.Proofs.YtigikjihagmokaaDoor.RunesAwake Go.Proofs.YtigikjihagmokaaDoor.Step01 Go.Proofs.YtigikjihagmokaaDoor.Esc01 Go.Proofs.YtigikjihagmokaaDoor.Unesc01
theorem cat (a b : List UInt8) : (⟨a.toArray⟩ : ByteArray) ++ ⟨b.toArray⟩ = ⟨(a ++ b).toArray⟩ := by
  apply ByteArray.ext
  rw [ByteArray.data_append]
  simp
theorem wr1 {x y : Int} (h : 0 ≤ x ∧ x ≤ 1000000000) (e : x = y) : wrap64 x = y := by rw [w64 (by omega) (by omega)]; exact e
theorem hexr_step (k n : Nat) (m j j' : Int) (l : List UInt8) (hn : n ≤ 16777215) (hl : l.length ≤ 10) (hj : j < m) (hw : wrap64 (j + 1) = j') :
    idiomref01_hex.l0 (k + 1) (n : Int) m ⟨l.toArray⟩ j = idiomref01_hex.l0 k ((n / 16 : Nat) : Int) m ⟨(dig (n % 16) :: l).toArray⟩ j' := by
  have hm : Int.tmod (n : Int) 16 = ((n % 16 : Nat) : Int) := tm n 16
  have hd : Int.tdiv (n : Int) 16 = ((n / 16 : Nat) : Int) := td n 16
  have hq : n / 16 ≤ 1114111 := by omega
  have hlt : n % 16 < 16 := Nat.mod_lt _ (by decide)
  have wq := wn hq
  have hs : ∀ c : UInt8, strOfNums [(c.toNat : Int)] = ⟨[c].toArray⟩ := fun c => str_ints [c]
  have hz : ∀ c : UInt8, (strOfNums [(c.toNat : Int)]).size + (⟨l.toArray⟩ : ByteArray).size ≤ 9223372036854775807 := by
    intro c
    rw [hs, size_list, size_list]
    simp only [List.length_cons, List.length_nil]
    clear wq hw hm hd
    omega
  have dn := dig_nat (n % 16) hlt
  simp only [idiomref01_hex.l0]
  rw [if_pos hj, hm, hd, wq, hw]
  generalize hr : n % 16 = r at *
  clear wq hw hm hd
  by_cases c : r < 10
  · rw [if_pos (by omega)]
    have e : wrap64 (48 + (r : Int)) % 256 = ((dig r).toNat : Int) := by
      rw [dn, if_pos c, w64 (by omega) (by omega)]
      omega
    simp only [Option.bind_some]
    rw [e, if_pos (hz _), hs, cat]
    rfl
  · rw [if_neg (by omega)]
    have e : wrap64 (wrap64 (97 + (r : Int)) - 10) % 256 = ((dig r).toNat : Int) := by
      rw [dn, if_neg c, w64 (x := 97 + (r : Int)) (by omega) (by omega), w64 (by omega) (by omega)]
      omega
    simp only [Option.bind_some]
    rw [e, if_pos (hz _), hs, cat]
    rfl
theorem hexr_end (k n : Nat) (m : Int) (b : ByteArray) : idiomref01_hex.l0 (k + 1) (n : Int) m b m = some b := by
  simp only [idiomref01_hex.l0]
  rw [if_neg (by omega)]
theorem hexr2 (n : Nat) (hn : n ≤ 16777215) : ∀ k, idiomref01_hex.f (k + 8) (n : Int) 2 = some ⟨(hx2 n).toArray⟩ := by
  intro k
  unfold idiomref01_hex.f
  rw [show (⟨#[]⟩ : ByteArray) = ⟨([] : List UInt8).toArray⟩ from rfl, hexr_step (k + 7) n 2 0 1 [] hn (by decide) (by decide) ((w64 (by omega) (by omega)).trans rfl),
    hexr_step (k + 6) (n / 16) 2 1 2 _ (by omega) (by simp) (by decide) ((w64 (by omega) (by omega)).trans rfl), hexr_end (k + 5)]
  rfl
theorem dd2 (n : Nat) : n / 16 / 16 = n / 256 := by rw [Nat.div_div_eq_div_mul]
theorem dd3 (n : Nat) : n / 256 / 16 = n / 4096 := by rw [Nat.div_div_eq_div_mul]
theorem dd4 (n : Nat) : n / 4096 / 16 = n / 65536 := by rw [Nat.div_div_eq_div_mul]
theorem dd5 (n : Nat) : n / 65536 / 16 = n / 1048576 := by rw [Nat.div_div_eq_div_mul]
theorem hexr4 (n : Nat) (hn : n ≤ 16777215) : ∀ k, idiomref01_hex.f (k + 8) (n : Int) 4 = some ⟨(hx4 n).toArray⟩ := by
  intro k
  unfold idiomref01_hex.f
  rw [show (⟨#[]⟩ : ByteArray) = ⟨([] : List UInt8).toArray⟩ from rfl, hexr_step (k + 7) n 4 0 1 [] hn (by decide) (by decide) ((w64 (by omega) (by omega)).trans rfl),
    hexr_step (k + 6) (n / 16) 4 1 2 _ (by omega) (by simp) (by decide) ((w64 (by omega) (by omega)).trans rfl), dd2,
    hexr_step (k + 5) (n / 256) 4 2 3 _ (by omega) (by simp) (by decide) ((w64 (by omega) (by omega)).trans rfl), dd3,
    hexr_step (k + 4) (n / 4096) 4 3 4 _ (by omega) (by simp) (by decide) ((w64 (by omega) (by omega)).trans rfl), hexr_end (k + 3)]
  rfl
theorem hexr6 (n : Nat) (hn : n ≤ 16777215) : ∀ k, idiomref01_hex.f (k + 8) (n : Int) 6 = some ⟨(hx6 n).toArray⟩ := by
  intro k
  unfold idiomref01_hex.f
  rw [show (⟨#[]⟩ : ByteArray) = ⟨([] : List UInt8).toArray⟩ from rfl, hexr_step (k + 7) n 6 0 1 [] hn (by decide) (by decide) ((w64 (by omega) (by omega)).trans rfl),
    hexr_step (k + 6) (n / 16) 6 1 2 _ (by omega) (by simp) (by decide) ((w64 (by omega) (by omega)).trans rfl), dd2,
    hexr_step (k + 5) (n / 256) 6 2 3 _ (by omega) (by simp) (by decide) ((w64 (by omega) (by omega)).trans rfl), dd3,
    hexr_step (k + 4) (n / 4096) 6 3 4 _ (by omega) (by simp) (by decide) ((w64 (by omega) (by omega)).trans rfl), dd4,
    hexr_step (k + 3) (n / 65536) 6 4 5 _ (by omega) (by simp) (by decide) ((w64 (by omega) (by omega)).trans rfl), dd5,
    hexr_step (k + 2) (n / 1048576) 6 5 6 _ (by omega) (by simp) (by decide) ((w64 (by omega) (by omega)).trans rfl), hexr_end (k + 1)]
  rfl
theorem ev8 {α : Type} {g : Nat → Option α} {r : α} (h : ∀ k, g (k + 8) = some r) : Ev g r := ⟨8, fun k hk => by
  obtain ⟨q, rfl⟩ : ∃ q, k = q + 8 := ⟨k - 8, by omega⟩
  exact h q⟩
/-- What a place of the text is written as, and the next place. -/
theorem round_ev (s : ByteArray) (hs : s.size ≤ 1048576) (i : Nat) (hi : i < s.size) (acc : List UInt8) (ha : acc.length ≤ 8388608) (R : ByteArray)
    (next : Ev (fun k => idiomref01_Escape.l0 k s (ints (acc ++ piece (decide (Utf8.decode s i = (65533, 1))) (s.get! i) (Utf8.decode s i).1)) ((i + (Utf8.decode s i).2 : Nat) : Int)) R) :
    Ev (fun k => idiomref01_Escape.l0 k s (ints acc) (i : Int)) R := by
  have hL := ints_length acc
  have st := step_ev s (by omega) i hi
  have hf := Text01.fits s i hi
  have eb := bt_nat s i hi
  have hb : (s.get! i).toNat < 256 := (s.get! i).toNat_lt
  have hmax := Rep01.dec_valid (dl s i)
  rw [show Lib.decodeL (dl s i) = Utf8.decode s i from Lib.decodeL_drop s i] at hmax
  have w : Aside0 (wrap64 ((i : Int) + ((Utf8.decode s i).2 : Int)) = ((i + (Utf8.decode s i).2 : Nat) : Int)) := ⟨wr1 (by omega) (by omega)⟩
  have wb : Aside0 (wrap64 (((s.get! i).toNat : Nat) : Int) = ((s.get! i).toNat : Int)) := ⟨wr1 (by omega) rfl⟩
  have first : ∀ k, idiomref01_Escape.l0 (k + 1) s (ints acc) (i : Int) = (idiomref01_Step.f k s (i : Int)).bind fun bt294 => (if bt294.1 < 0 then ((idiomref01_hex.f k (((s.get! i).toNat : Nat) : Int) 2).bind fun t296 => (if 2 + t296.size ≤ 9223372036854775807 then (if (ints acc).length + ((⟨#[92, 120]⟩ : ByteArray) ++ t296).size < 140737488355328 then (idiomref01_Escape.l0 k s (ints acc ++ bytesOf ((⟨#[92, 120]⟩ : ByteArray) ++ t296)) (wrap64 ((i : Int) + bt294.2))) else (none)) else (none))) else (if bt294.1 = 92 then (idiomref01_Escape.l0 k s (ints acc ++ bytesOf (⟨#[92, 92]⟩ : ByteArray)) (wrap64 ((i : Int) + bt294.2))) else (if bt294.1 = 10 then (idiomref01_Escape.l0 k s (ints acc ++ bytesOf (⟨#[92, 110]⟩ : ByteArray)) (wrap64 ((i : Int) + bt294.2))) else (if bt294.1 = 13 then (idiomref01_Escape.l0 k s (ints acc ++ bytesOf (⟨#[92, 114]⟩ : ByteArray)) (wrap64 ((i : Int) + bt294.2))) else (if bt294.1 = 9 then (idiomref01_Escape.l0 k s (ints acc ++ bytesOf (⟨#[92, 116]⟩ : ByteArray)) (wrap64 ((i : Int) + bt294.2))) else (if bt294.1 ≥ 32 then (idiomref01_Escape.j1 k s (ints acc) (i : Int) bt294.1 bt294.2 (decide (bt294.1 ≤ 126))) else (idiomref01_Escape.j1 k s (ints acc) (i : Int) bt294.1 bt294.2 false))))))) := by
    intro k
    simp only [idiomref01_Escape.l0]
    rw [if_pos (by omega), eb, wb.out]
    have h1 : (0 : Int) ≤ (i : Int) := by omega
    have h2 : (ints acc).length + 2 < 140737488355328 := by omega
    simp only [if_pos h1, if_pos h2]
  refine Ev.step first (Ev.bind st ?_)
  clear first eb
  generalize Utf8.decode s i = d at *
  by_cases hd : d = (65533, 1)
  · rw [Text01.told_bad hd]
    refine Ev.congr (fun k => if_pos (by decide)) (Ev.bind (ev8 (hexr2 (s.get! i).toNat (by omega))) ?_)
    have hc : (⟨#[92, 120]⟩ : ByteArray) ++ ⟨(hx2 (s.get! i).toNat).toArray⟩ = ⟨(92 :: 120 :: hx2 (s.get! i).toNat).toArray⟩ := cat [92, 120] _
    rw [hc, bytesOf_list, ← ints_app]
    have hp : piece (decide (d = (65533, 1))) (s.get! i) d.1 = 92 :: 120 :: hx2 (s.get! i).toNat := by unfold piece; rw [if_pos (decide_eq_true hd)]
    rw [hp] at next
    subst hd
    refine Ev.congr (fun k => (if_pos ?_).trans ((if_pos ?_).trans ?_)) next
    · rw [size_list]; simp [hx2]
    · rw [size_list, ints_length]; simp only [hx2, List.length_cons, List.length_nil]; omega
    · have := w.out
      simp only [] at this
      rw [show ((1 : Nat) : Int) = 1 from rfl] at this
      rw [this]
  · rw [Text01.told_good hd]
    have hp : piece (decide (d = (65533, 1))) (s.get! i) d.1 = piece false (s.get! i) d.1 := by rw [decide_eq_false hd]
    rw [hp] at next
    unfold piece at next
    rw [if_neg Bool.false_ne_true] at next
    refine Ev.congr (fun k => if_neg (by omega)) ?_
    by_cases h1 : d.1 = 92
    · rw [if_pos h1] at next
      refine Ev.congr (fun k => (if_pos (by omega)).trans ?_) next
      rw [show bytesOf (⟨#[92, 92]⟩ : ByteArray) = ints [92, 92] from bytesOf_list [92, 92], ← ints_app, w.out]
    rw [if_neg h1] at next
    refine Ev.congr (fun k => if_neg (by omega)) ?_
    by_cases h2 : d.1 = 10
    · rw [if_pos h2] at next
      refine Ev.congr (fun k => (if_pos (by omega)).trans ?_) next
      rw [show bytesOf (⟨#[92, 110]⟩ : ByteArray) = ints [92, 110] from bytesOf_list [92, 110], ← ints_app, w.out]
    rw [if_neg h2] at next
    refine Ev.congr (fun k => if_neg (by omega)) ?_
    by_cases h3 : d.1 = 13
    · rw [if_pos h3] at next
      refine Ev.congr (fun k => (if_pos (by omega)).trans ?_) next
      rw [show bytesOf (⟨#[92, 114]⟩ : ByteArray) = ints [92, 114] from bytesOf_list [92, 114], ← ints_app, w.out]
    rw [if_neg h3] at next
    refine Ev.congr (fun k => if_neg (by omega)) ?_
    by_cases h4 : d.1 = 9
    · rw [if_pos h4] at next
      refine Ev.congr (fun k => (if_pos (by omega)).trans ?_) next
      rw [show bytesOf (⟨#[92, 116]⟩ : ByteArray) = ints [92, 116] from bytesOf_list [92, 116], ← ints_app, w.out]
    rw [if_neg h4] at next
    refine Ev.congr (fun k => if_neg (by omega)) ?_
    have j1 : ∀ b : Bool, (b = true ↔ 32 ≤ d.1 ∧ d.1 ≤ 126) → Ev (fun k => idiomref01_Escape.j1 k s (ints acc) (i : Int) (d.1 : Int) (d.2 : Int) b) R := by
      intro b hbb
      by_cases h5 : 32 ≤ d.1 ∧ d.1 ≤ 126
      · rw [if_pos h5] at next
        rw [hbb.2 h5]
        refine Ev.step (fun k => ?_) next
        simp only [idiomref01_Escape.j1]
        rw [if_pos trivial, if_pos (by omega), w.out]
        have e : (d.1 : Int) % 256 = ((d.1.toUInt8.toNat : Nat) : Int) := by rw [Nat.toUInt8_eq, UInt8.toNat_ofNat']; omega
        rw [e, ints_app]
        rfl
      · rw [if_neg h5] at next
        have hbf : b = false := by
          cases b with
          | false => rfl
          | true => exact absurd (hbb.1 rfl) h5
        rw [hbf]
        by_cases h6 : d.1 ≤ 65535
        · rw [if_pos h6] at next
          have hc : (⟨#[92, 117]⟩ : ByteArray) ++ ⟨(hx4 d.1).toArray⟩ = ⟨(92 :: 117 :: hx4 d.1).toArray⟩ := cat [92, 117] _
          refine Ev.step (f := fun k => (idiomref01_hex.f k (d.1 : Int) 4).bind fun t315 => (if 2 + t315.size ≤ 9223372036854775807 then (if (ints acc).length + ((⟨#[92, 117]⟩ : ByteArray) ++ t315).size < 140737488355328 then (idiomref01_Escape.l0 k s (ints acc ++ bytesOf ((⟨#[92, 117]⟩ : ByteArray) ++ t315)) (wrap64 ((i : Int) + (d.2 : Int)))) else (none)) else (none))) (fun k => ?_) (Ev.bind (ev8 (hexr4 d.1 (by omega))) ?_)
          · simp only [idiomref01_Escape.j1]
            rw [if_neg Bool.false_ne_true, if_pos (by omega)]
          · rw [hc, bytesOf_list, ← ints_app, w.out]
            refine Ev.congr (fun k => (if_pos ?_).trans (if_pos ?_)) next
            · rw [size_list]; simp [hx4]
            · rw [size_list, ints_length]; simp only [hx4, List.length_cons, List.length_nil]; omega
        · rw [if_neg h6] at next
          have hc : (⟨#[92, 85]⟩ : ByteArray) ++ ⟨(hx6 d.1).toArray⟩ = ⟨(92 :: 85 :: hx6 d.1).toArray⟩ := cat [92, 85] _
          refine Ev.step (f := fun k => (idiomref01_hex.f k (d.1 : Int) 6).bind fun t319 => (if 2 + t319.size ≤ 9223372036854775807 then (if (ints acc).length + ((⟨#[92, 85]⟩ : ByteArray) ++ t319).size < 140737488355328 then (idiomref01_Escape.l0 k s (ints acc ++ bytesOf ((⟨#[92, 85]⟩ : ByteArray) ++ t319)) (wrap64 ((i : Int) + (d.2 : Int)))) else (none)) else (none))) (fun k => ?_) (Ev.bind (ev8 (hexr6 d.1 (by omega))) ?_)
          · simp only [idiomref01_Escape.j1]
            rw [if_neg Bool.false_ne_true, if_neg (by omega)]
          · rw [hc, bytesOf_list, ← ints_app, w.out]
            refine Ev.congr (fun k => (if_pos ?_).trans (if_pos ?_)) next
            · rw [size_list]; simp [hx6]
            · rw [size_list, ints_length]; simp only [hx6, List.length_cons, List.length_nil]; omega
    by_cases h7 : (d.1 : Int) ≥ 32
    · exact Ev.congr (fun k => if_pos h7) (j1 _ (by rw [decide_eq_true_eq]; omega))
    · exact Ev.congr (fun k => if_neg h7) (j1 false (by constructor; · intro h; cases h
                                                        · intro h; omega))
theorem esc_ev (s : ByteArray) (hs : s.size ≤ 1048576) : ∀ (fuel i : Nat) (acc : List UInt8), i ≤ s.size → s.size < i + fuel → acc.length ≤ 8 * i → Ev (fun k => idiomref01_Escape.l0 k s (ints acc) (i : Int)) ⟨(acc ++ escapeL fuel (dl s i)).toArray⟩ := by
  intro fuel
  induction fuel with
  | zero => intro i acc h1 h2; omega
  | succ fuel ih =>
    intro i acc h1 h2 h3
    by_cases hi : i < s.size
    · have hf := Text01.fits s i hi
      have hw := Stray.width s i hi
      have pl := piece_len (decide (Utf8.decode s i = (65533, 1))) (s.get! i) (Utf8.decode s i).1
      have next := ih (i + (Utf8.decode s i).2) (acc ++ piece (decide (Utf8.decode s i = (65533, 1))) (s.get! i) (Utf8.decode s i).1) (by omega) (by omega) (by rw [List.length_append]; omega)
      have e : acc ++ escapeL (fuel + 1) (dl s i) = acc ++ piece (decide (Utf8.decode s i = (65533, 1))) (s.get! i) (Utf8.decode s i).1 ++ escapeL fuel (dl s (i + (Utf8.decode s i).2)) := by
        rw [dl_cons s i hi]
        simp only [escapeL]
        rw [← dl_cons s i hi, show Lib.decodeL (dl s i) = Utf8.decode s i from Lib.decodeL_drop s i, dl_drop, List.append_assoc]
      rw [e]
      exact round_ev s hs i hi acc (by omega) _ next
    · rw [dl_nil s i (by omega)]
      refine Ev.some fun k => ?_
      simp only [idiomref01_Escape.l0, escapeL, List.append_nil]
      rw [if_neg (by omega), str_ints]
theorem law (s : ByteArray) (hs : s.size ≤ 1048576) : ∃ k, idiomlaw01_RunesEscapes.f k s = some true := by
  apply Ev.rounds (g := fun k => idiomlaw01_RunesEscapes.f k s)
  have pe : runes_Escape.f s = some (EscP.escape s) := by unfold runes_Escape.f; rw [if_pos hs]
  have re : Ev (fun k => idiomref01_Escape.f k s) (EscP.escape s) := esc_ev s hs (s.size + 1) 0 [] (by omega) (by omega) (by simp)
  unfold idiomlaw01_RunesEscapes.f
  rw [pe]
  refine Ev.congr (fun k => Option.bind_some _ _) (Ev.bind re ?_)
  exact Ev.congr (fun k => by rw [if_pos rfl]) awake_ev
end Go.Proofs.YtigikjihagmokaaDoor.RunesEscapes
namespace Go.Proofs.YtigikjihagmokaaDoor.Upto
open Go.RowKit Go.ChangeShapes Go.WideShapes Go.ChangeAt
set_option linter.unusedVariables false
theorem witness_row_sh {H : Type} {enc : TypeId × Value → H} {C : Checked} {os : Os} {f : FuncId} {fn : Func} {s : OpenSpec} {conds : List PathCond} {apart : Bool} {laid : List (String × DataW Unit)} (modest : Bool) (w0 : World) (args : Array Value) (hos : w0.os = os)
    (hsh : (w0.forCall (fun _ _ => 0) ⟨#[], args, []⟩).Shaped C.prog)
    (hok : Input.okWideB C.prog (w0.forCall (fun _ _ => 0) ⟨#[], args, []⟩) f ⟨#[], args, []⟩ = true)
    (hrow : s.preRow enc C.prog fn conds apart laid (w0.forCall (fun _ _ => 0) ⟨#[], args, []⟩).memory args) :
    ∃ (w : World) (tape : Tape) (i : Input), w.os = os ∧ (w.forCall tape i).Shaped C.prog ∧ i.vars = [] ∧ Input.okWide C.prog (w.forCall tape i) .any w.heap.size f i ∧
      s.preRow enc C.prog fn conds apart laid (w.forCall tape i).memory i.args ∧ ({ modest := modest } : Assume).holds C.prog (lone (Frame.enter C.prog f i.args .normal) [] (w.forCall tape i)) :=
  ⟨w0, fun _ _ => 0, ⟨#[], args, []⟩, hos, hsh, (Input.okWide_of_okWideB (base := 0) hok).1, (Input.okWide_of_okWideB hok).2, hrow, by
    simp only [Assume.holds]
    exact ⟨by simp, by simp, fun _ => Modest.zero, by simp, by simp⟩⟩
end Go.Proofs.YtigikjihagmokaaDoor.Upto
set_option linter.unusedVariables false
set_option linter.unusedSimpArgs false
namespace Go.Proofs.YtigikjihagmokaaDoor.lawRunesEscapes
open Go.ChangeShapes Go.WideShapes Go.ChangeAt Go.RowKit
open Go.ChangeMaps (open_string shut_string)
theorem own : ownKnob Tryd.prog.godebug = none := by kernel_rfl
theorem laidOut : laidOutB Tryd.prog = true := by kernel_rfl
set_option maxRecDepth 100000 in
theorem lifted (os : Os) (started : os.Started) (H : Type) (enc : TypeId × Value → H) (F_ : Stop.Interp) :
    ReturnsInHanded {} Tryd.checked os 6 .any ((Rows.OpenSpec.upto Rows.runesEscapesSpec).preRow enc Tryd.prog Tryd.f6 Rows.runesEscapesUptoRow.domain false Rows.runesEscapesUptoRow.laid) (((Rows.OpenSpec.upto Rows.runesEscapesSpec).at F_).post enc Tryd.prog Tryd.f6 false true false false) := by
  obtain ⟨places, hx⟩ : ∃ places, DataW.whole enc Tryd.prog ((World.laidAll Tryd.prog os Rows.runesEscapesUptoRow.laid).forCall (fun _ _ => 0) ⟨#[], #[.string ByteArray.empty], []⟩).memory Tryd.f6.params.toList Rows.runesEscapesSpec.vars false #[(.string ByteArray.empty : Value)].toList 12 = some ([.lit (.string [])], [], places) := ⟨[], by kernel_rfl⟩
  refine returnsInHanded_of_row (C := Tryd.checked) (s := Rows.OpenSpec.upto Rows.runesEscapesSpec) own started (by kernel_rfl) Tryd.func6
    (Upto.witness_row_sh (enc := enc) (C := Tryd.checked) false (World.laidAll Tryd.prog os Rows.runesEscapesUptoRow.laid) #[.string ByteArray.empty] (World.laidAll_os _ _ _) (World.shaped_of_ZipB (by kernel_rfl) (by kernel_rfl)) (by kernel_rfl)
      (OpenSpec.preRow_of_cond 12 hx (by kernel_rfl) (fun k hk => by cases hk; kernel_rfl) (by kernel_rfl) (by rw [MakeChecks.laidMetH_plain _ _ _ (by kernel_rfl)]; exact laidMet_laidAll _ (by kernel_rfl) (by kernel_rfl)))) ?_
  intro W base args ds gs before hval0 hW _ hk0 hsz0 hL0 _ _
  have hsz : (DataW.weightsEach Tryd.prog (Tryd.f6.params.toList ++ Rows.runesEscapesSpec.plain.varTypes Tryd.prog) (ds ++ gs)).all (· ≤ reachBytes) = true := hsz0
  have hval : ∀ (j : Nat) t v, Tryd.f6.params[j]? = some t → args[j]? = some v → Value.okWide Tryd.prog W .any base t v := hval0
  have hW' := hW
  obtain ⟨p, q, hA0, hV, rfl, hfz, hnd⟩ := hW
  have hA : DataW.TrodAll enc Tryd.prog W 0 (fun _ => true) true Tryd.f6.params.toList args.toList ds p := hA0
  rw [Tryd.params6] at hA hval hsz
  obtain ⟨v0, vs0, d0, ds0, p0, q0, hargs, rfl, rfl, h0, r0⟩ := trodAll_cons hA
  obtain ⟨rfl, rfl, rfl⟩ := trodAll_nil r0
  obtain rfl : args = #[v0] := by cases args; simp_all
  obtain ⟨rfl, rfl⟩ := trodVars_none hV
  have k0 := h0
  have lt0 : ∀ x ∈ p0, x.block < W.heap.size := by obtain ⟨m, hm⟩ := k0; exact DataW.trod_lt m _ _ _ hm
  obtain ⟨a0, rfl, rfl, rfl, y0⟩ := open_string Tryd.underlying9 (hval 0 9 v0 rfl rfl) h0
  have w0 : a0.size ≤ 140737488351232 := by
    have z := sized_string hsz (j := 0) (t := 9) rfl rfl
    rw [Array.length_toList] at z
    exact z
  have small := of_decide_eq_true (hk0 _ rfl)
  simp only [List.cons_append, List.nil_append, List.append_nil, Rows.uptoBulkAll, Rows.uptoBulk, Array.length_toList] at small
  have u0 : a0.size ≤ 1048576 := by
    have z : a0.data.size = a0.size := rfl
    omega
  have hL1 : laidMet Tryd.prog Rows.runesEscapesUptoRow.laid W := hL0
  have hG : Stray.Tabs W := utf8Tabs_of_reads (ρ := Tryd.lays260_ren) { Tryd.lays260 with } ⟨by kernel_rfl, by kernel_rfl, by kernel_rfl, by kernel_rfl, by kernel_rfl, by kernel_rfl, by kernel_rfl⟩ (Lib.laidMet.reads hL1 (.tail _ (.tail _ (.tail _ (.tail _ (.tail _ (.tail _ (.head _)))))))) (Lib.laidMet.reads hL1 (.tail _ (.tail _ (.tail _ (.head _)))))
  obtain ⟨k, hk⟩ := RunesEscapes.law a0 u0
  refine (F.idiomlaw01_RunesEscapes.calls k a0 true W hk hG).mono fun e W' ⟨he, bel0⟩ => ?_
  have bel : Below W.heap.size W W' := by first | exact bel0 | exact YtigikjihagmokaaDoorW.PrintWords.Drawn0.below bel0
  subst he
  exact ⟨_, rfl, _, _, _, [], _, [], hW', trodAll_mk1 (shut_bool Tryd.underlying4 _), (trodAll_cons_mk (Below.trod laidOut (by kernel_rfl) (of_decide_eq_true (by kernel_rfl)) k0 bel lt0) trodAll_mk0), rfl, bel.frame _, fun h => by cases h⟩
theorem said : Rows.RunesEscapesUptoSaid :=
  OpenClaim.holds_of_cond 6 Tryd.f6 rfl rfl rfl rfl rfl rfl rfl ⟨rfl, rfl, rfl, rfl, rfl⟩ rfl rfl rfl rfl rfl (by kernel_rfl) Tryd.func6 (by kernel_rfl)
    (of_decide_eq_true (by kernel_rfl)) (by unfold Func.isWrapper; first | (rw [if_pos (by decide +kernel)]; kernel_rfl) | (rw [if_neg (by decide +kernel)]; exact ⟨rfl, rfl⟩))
    (fun os started H enc _ F_ => by rw [OpenClaim.pre_eq_preRow]; exact lifted os started H enc F_)
theorem plain (f : FuncId) (fn : Func) (hf : Tryd.pinned.checked.prog.funcNamed "idiom/idiomlaw01.RunesEscapes" = some f) (hfn : Tryd.pinned.checked.prog.funcs[f]? = some fn) :
    true = Tryd.pinned.checked.prog.looks [] ∧ ∀ (j : Nat) t, fn.params[j]? = some t → Tryd.pinned.checked.prog.wantsStandIn t = false := by
  obtain rfl : f = 6 := Option.some.inj ((show Tryd.prog.funcNamed "idiom/idiomlaw01.RunesEscapes" = some 6 by kernel_rfl).symm.trans hf) |>.symm
  obtain rfl : fn = Tryd.f6 := (Option.some.inj (Tryd.func6.symm.trans hfn)).symm
  refine ⟨by kernel_rfl, fun j t ht => ?_⟩
  rw [Tryd.params6] at ht
  have hm : t ∈ [9] := by simpa using Array.mem_of_getElem? ht
  have hall : ([9].all fun u => !Tryd.prog.wantsStandIn u) = true := by kernel_rfl
  exact (show Tryd.prog.wantsStandIn t = false by simpa using List.all_eq_true.1 hall t hm)
/-- THE CARD. -/
theorem card : Rows.RunesEscapesUptoCardSaid :=
  Claim7.holds_tied_plain_at .later [] _ _ _ _ said (fun _ h => by cases h) (by kernel_rfl) (fun _ h => by cases h) runesEscapesUpto_row_tie rfl ⟨rfl, rfl⟩ (by kernel_rfl) rfl plain (by kernel_rfl)
#print axioms card
end Go.Proofs.YtigikjihagmokaaDoor.lawRunesEscapes
namespace Go.Proofs.YtigikjihagmokaaDoor
/-- The claim, under a short name. -/
theorem runesEscapes_holds : Rows.RunesEscapesUptoCardSaid := lawRunesEscapes.card
end Go.Proofs.YtigikjihagmokaaDoor
