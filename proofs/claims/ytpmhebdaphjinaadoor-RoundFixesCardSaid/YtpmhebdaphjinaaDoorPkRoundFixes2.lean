/- Part 3 of 6 of the proof of the law RoundFixes: it is true at every input. Conditions: those of the given row, no others. -/
import Derived.Test.YtpmhebdaphjinaaDoorPkRoundFixes0
import Derived.Test.YtpmhebdaphjinaaDoorPkRoundFixes1
-- Printed by this session's hookprint.py (over the kit's print.py, with hooks). Lean checks it.
namespace Go.Proofs.YtpmhebdaphjinaaDoor.F
open Go.RowKit Go.Proofs.YtpmhebdaphjinaaDoorW.PrintWords Go.Proofs.YtpmhebdaphjinaaDoorW.PrintLast Go.Proofs.YtpmhebdaphjinaaDoorW.PrintMore Go.Proofs.YtpmhebdaphjinaaDoor.Q
attribute [local go_sem] max2_int min2_int max_two min_two max_three min_three max_four min_four   -- for this text's walks alone
set_option linter.unusedVariables false
set_option linter.unusedSimpArgs false

/-! ### idiomref02_Check: function 32 -/
def idiomref02_Check.j0 : Nat → Bool → Bool → ByteArray → ByteArray → Option (Int)
 | 0, _, _, _, _ => none
 | k + 1, x28, x145000, x145001, x145002 => if x28 = true then (some 20) else ((idiomref02_Digits.f k x145001).bind fun t145 => (if t145 = true then ((idiomref02_Digits.f k x145002).bind fun t146 => (if t146 = true then (if 0 < (x145001.size : Int) then (if (bt x145001 0) = 48 then (if (x145001.size : Int) > 1 then (some 20) else (if x145000 = true then ((idiomref02_Nought.f k x145000 x145001 x145002).bind fun t147 => (if t147 = true then (some 20) else (some 0))) else (some 0))) else (if x145000 = true then ((idiomref02_Nought.f k x145000 x145001 x145002).bind fun t148 => (if t148 = true then (some 20) else (some 0))) else (some 0))) else (none)) else (some 20))) else (some 20)))
def idiomref02_Check.f (k : Nat) (a0_0 : Bool) (a0_1 : ByteArray) (a0_2 : ByteArray) : Option (Int) := if (a0_1.size : Int) < 1 then (idiomref02_Check.j0 k true a0_0 a0_1 a0_2) else (if (a0_1.size : Int) > 40 then (idiomref02_Check.j0 k true a0_0 a0_1 a0_2) else (if (a0_2.size : Int) > 40 then (idiomref02_Check.j0 k true a0_0 a0_1 a0_2) else (idiomref02_Check.j0 k (decide ((wrap64 ((a0_1.size : Int) + (a0_2.size : Int))) > 40)) a0_0 a0_1 a0_2)))
theorem idiomref02_Check.mono_l : ∀ k, (∀ y0 y1 y2 y3, LeO (idiomref02_Check.j0 k y0 y1 y2 y3) (idiomref02_Check.j0 (k + 1) y0 y1 y2 y3))
 | 0 => fun _ _ _ _ r h => by simp [idiomref02_Check.j0] at h
 | k + 1 => by
  have ih0 := idiomref02_Check.mono_l k
  · intro y0 y1 y2 y3
    unfold idiomref02_Check.j0
    repeat' first
    | (with_reducible exact ih0 _ _ _ _)
    | (with_reducible exact idiomref02_Digits.mono _ _)
    | (with_reducible exact idiomref02_Nought.mono _ _ _ _)
    | (with_reducible exact LeO.refl _)
    | (with_reducible exact LeO.none _)
    | (with_reducible refine LeO.ite ?_ ?_)
    | (with_reducible refine LeO.bind ?_ (fun _ => ?_))
    | exact ih0 _ _ _ _
    | exact idiomref02_Digits.mono _ _
    | exact idiomref02_Nought.mono _ _ _ _
    | exact LeO.none _
    | refine LeO.ite ?_ ?_
    | refine LeO.bind ?_ (fun _ => ?_)
theorem idiomref02_Check.mono : ∀ a0 a1 a2 k, LeO (idiomref02_Check.f k a0 a1 a2) (idiomref02_Check.f (k + 1) a0 a1 a2) := by
 intro a0 a1 a2 k
 have ih0 := idiomref02_Check.mono_l k
 unfold idiomref02_Check.f
 repeat' first
  | (with_reducible exact ih0 _ _ _ _)
  | (with_reducible exact idiomref02_Digits.mono _ _)
  | (with_reducible exact idiomref02_Nought.mono _ _ _ _)
  | (with_reducible exact LeO.refl _)
  | (with_reducible exact LeO.none _)
  | (with_reducible refine LeO.ite ?_ ?_)
  | (with_reducible refine LeO.bind ?_ (fun _ => ?_))
  | exact ih0 _ _ _ _
  | exact idiomref02_Digits.mono _ _
  | exact idiomref02_Nought.mono _ _ _ _
  | exact LeO.none _
  | refine LeO.ite ?_ ?_
  | refine LeO.bind ?_ (fun _ => ?_)
set_option maxHeartbeats 8000000 in
set_option maxRecDepth 100000 in
theorem idiomref02_Check.calls (k : Nat) (a0_0 : Bool) (a0_1 : ByteArray) (a0_2 : ByteArray) (r : Int) (w : World) (h : idiomref02_Check.f k a0_0 a0_1 a0_2 = some r) :
 Calls Tryd.prog 32 #[.agg #[.bool a0_0, .string a0_1, .string a0_2]] w fun e w' => e = .returned (.int .i64 r) ∧ Below w.heap.size w w' := by
 have hu23 := Tryd.underlying23
 have HB := Aside0.mk (Below.refl w.heap.size w)
 have H : (if (a0_1.size : Int) < 1 then (idiomref02_Check.j0 k true a0_0 a0_1 a0_2) else (if (a0_1.size : Int) > 40 then (idiomref02_Check.j0 k true a0_0 a0_1 a0_2) else (if (a0_2.size : Int) > 40 then (idiomref02_Check.j0 k true a0_0 a0_1 a0_2) else (idiomref02_Check.j0 k (decide ((wrap64 ((a0_1.size : Int) + (a0_2.size : Int))) > 40)) a0_0 a0_1 a0_2)))) = some r := h
 clear h
 have HC2 := Aside0.mk H
 clear H
 go_enter Tryd.func32, Tryd.ntmps32
 go_upto_region 1 with (first | ((with_reducible refine gate_dst (N := 1) rfl ?_); (try (refine gate_guard (by rfl) ?_; dsimp only)); refine qx 1 #[.bool a0_0, .string a0_1, .string a0_2] 23 ?_; intro gb144 hg w3 hbox hb; have BK144 := Aside0.mk (hbox); have GW144 := qs hg HB; have GE144 := GW144; replace HB := qn HB hb; clear hb hbox hg))
 (try simp only [Act.put, List.setIfInBounds_toArray, List.set_cons_zero, List.set_cons_succ])
 go_cut [28] (fun v28 wc => ∃ (kq : Nat) (x28_1 : Bool), v28 = .bool x28_1 ∧ Aside0 (idiomref02_Check.j0 kq x28_1 a0_0 a0_1 a0_2 = some r) ∧ Aside0 (kq ≤ k) ∧ Aside0 (wc.heap[gb144]? = some (.cells #[.bool a0_0, .string a0_1, .string a0_2] 23 (0, 0))) ∧ Aside0 (Below w.heap.size w wc))
 case first =>
  have H := HC2.out
  clear HC2
  by_cases c4 : (a0_1.size : Int) < 1
  · rw [if_pos c4] at H
    have c4b0 : decide ((a0_1.size : Int) < 1) = true := decide_eq_true c4
    have c4b1 : decide (a0_1.size < 1) = true := decide_eq_true (by omega)
    clear c4
    (first | rw [c4b0] | (simp only [i64_w, i32_w]; rw [c4b0]) | skip)
    have H' := Aside0.mk H
    clear H
    obtain ⟨hcz5_0, hcz5_1, hcz5_2, hfz5_0, hfz5_1, hfz5_2⟩ := q3 BK144
    go_wp2
    go_meet
    case rel => exact ⟨_, (true), (by first | rfl | (simp; done) | (simp [*]; done)), H', ⟨by first | omega | exact Nat.le_refl _⟩, ⟨qk BK144⟩, ⟨qh HB⟩⟩
  · rw [if_neg c4] at H
    have c4b0 : decide ((a0_1.size : Int) < 1) = false := decide_eq_false c4
    have c4b1 : decide (a0_1.size < 1) = false := decide_eq_false (by omega)
    clear c4
    (first | rw [c4b0] | (simp only [i64_w, i32_w]; rw [c4b0]) | skip)
    by_cases c6 : (a0_1.size : Int) > 40
    · rw [if_pos c6] at H
      have c6b0 : decide (40 < (a0_1.size : Int)) = true := decide_eq_true c6
      have c6b1 : decide (40 < a0_1.size) = true := decide_eq_true (by omega)
      clear c6
      have H' := Aside0.mk H
      clear H
      obtain ⟨hcz7_0, hcz7_1, hcz7_2, hfz7_0, hfz7_1, hfz7_2⟩ := q3 BK144
      go_wp2
      go_meet
      case rel => exact ⟨_, (true), (by first | rfl | (simp; done) | (simp [*]; done)), H', ⟨by first | omega | exact Nat.le_refl _⟩, ⟨qk BK144⟩, ⟨qh HB⟩⟩
    · rw [if_neg c6] at H
      have c6b0 : decide (40 < (a0_1.size : Int)) = false := decide_eq_false c6
      have c6b1 : decide (40 < a0_1.size) = false := decide_eq_false (by omega)
      clear c6
      by_cases c8 : (a0_2.size : Int) > 40
      · rw [if_pos c8] at H
        have c8b0 : decide (40 < (a0_2.size : Int)) = true := decide_eq_true c8
        have c8b1 : decide (40 < a0_2.size) = true := decide_eq_true (by omega)
        clear c8
        have H' := Aside0.mk H
        clear H
        obtain ⟨hcz9_0, hcz9_1, hcz9_2, hfz9_0, hfz9_1, hfz9_2⟩ := q3 BK144
        go_wp2
        go_meet
        case rel => exact ⟨_, (true), (by first | rfl | (simp; done) | (simp [*]; done)), H', ⟨by first | omega | exact Nat.le_refl _⟩, ⟨qk BK144⟩, ⟨qh HB⟩⟩
      · rw [if_neg c8] at H
        have c8b0 : decide (40 < (a0_2.size : Int)) = false := decide_eq_false c8
        have c8b1 : decide (40 < a0_2.size) = false := decide_eq_false (by omega)
        clear c8
        have H' := Aside0.mk H
        clear H
        obtain ⟨hcz10_0, hcz10_1, hcz10_2, hfz10_0, hfz10_1, hfz10_2⟩ := q3 BK144
        go_wp2
        go_meet
        case rel => exact ⟨_, (decide ((wrap64 ((a0_1.size : Int) + (a0_2.size : Int))) > 40)), (by first | rfl | (simp; done) | (simp [*]; done)), H', ⟨by first | omega | exact Nat.le_refl _⟩, ⟨qk BK144⟩, ⟨qh HB⟩⟩
 case rest =>
  clear HC2
  try clear p2
  try clear c3
  try clear c4
  try clear c4b0
  try clear c4b1
  try clear c6
  try clear c6b0
  try clear c6b1
  try clear p6
  try clear c8
  try clear c8b0
  try clear c8b1
  try clear hcz10_0
  try clear hcz10_1
  try clear hcz10_2
  try clear hcz5_0
  try clear hcz5_1
  try clear hcz5_2
  try clear hcz7_0
  try clear hcz7_1
  try clear hcz7_2
  try clear hcz9_0
  try clear hcz9_1
  try clear hcz9_2
  try clear hfz10_0
  try clear hfz10_1
  try clear hfz10_2
  try clear hfz5_0
  try clear hfz5_1
  try clear hfz5_2
  try clear hfz7_0
  try clear hfz7_1
  try clear hfz7_2
  try clear hfz9_0
  try clear hfz9_1
  try clear hfz9_2
  obtain ⟨kq, x28_1, rfl, HA, HJ1, BK144, HB⟩ := hcut
  cases kq with
  | zero => exact absurd HA.out (by simp [idiomref02_Check.j0])
  | succ kj1 =>
   have H := HA.out
   clear HA
   simp only [idiomref02_Check.j0] at H
   by_cases c11 : x28_1 = true
   · subst c11
     have H1 : (some 20) = some r := by rw [if_pos rfl] at H; exact H
     clear H
     have H := H1
     clear H1
     obtain rfl := Option.some.inj H
     go_wp2
     go_ret
     exact ⟨qe, qh HB⟩
   · replace c11 := Bool.eq_false_iff.mpr c11
     subst c11
     have H1 : ((idiomref02_Digits.f kj1 a0_1).bind fun t145 => (if t145 = true then ((idiomref02_Digits.f kj1 a0_2).bind fun t146 => (if t146 = true then (if 0 < (a0_1.size : Int) then (if (bt a0_1 0) = 48 then (if (a0_1.size : Int) > 1 then (some 20) else (if a0_0 = true then ((idiomref02_Nought.f kj1 a0_0 a0_1 a0_2).bind fun t147 => (if t147 = true then (some 20) else (some 0))) else (some 0))) else (if a0_0 = true then ((idiomref02_Nought.f kj1 a0_0 a0_1 a0_2).bind fun t148 => (if t148 = true then (some 20) else (some 0))) else (some 0))) else (none)) else (some 20))) else (some 20))) = some r := by rw [if_neg (show ¬ (false = true) by decide)] at H; exact H
     clear H
     have H := H1
     clear H1
     replace H := Option.bind_eq_some_iff.mp H
     obtain ⟨t145, A120, H⟩ := H
     replace H : (if t145 = true then ((idiomref02_Digits.f kj1 a0_2).bind fun t146 => (if t146 = true then (if 0 < (a0_1.size : Int) then (if (bt a0_1 0) = 48 then (if (a0_1.size : Int) > 1 then (some 20) else (if a0_0 = true then ((idiomref02_Nought.f kj1 a0_0 a0_1 a0_2).bind fun t147 => (if t147 = true then (some 20) else (some 0))) else (some 0))) else (if a0_0 = true then ((idiomref02_Nought.f kj1 a0_0 a0_1 a0_2).bind fun t148 => (if t148 = true then (some 20) else (some 0))) else (some 0))) else (none)) else (some 20))) else (some 20)) = some r := H
     have A12 := Aside0.mk A120
     clear A120
     by_cases c13 : t145 = true
     · subst c13
       have H1 : ((idiomref02_Digits.f kj1 a0_2).bind fun t146 => (if t146 = true then (if 0 < (a0_1.size : Int) then (if (bt a0_1 0) = 48 then (if (a0_1.size : Int) > 1 then (some 20) else (if a0_0 = true then ((idiomref02_Nought.f kj1 a0_0 a0_1 a0_2).bind fun t147 => (if t147 = true then (some 20) else (some 0))) else (some 0))) else (if a0_0 = true then ((idiomref02_Nought.f kj1 a0_0 a0_1 a0_2).bind fun t148 => (if t148 = true then (some 20) else (some 0))) else (some 0))) else (none)) else (some 20))) = some r := by rw [if_pos rfl] at H; exact H
       clear H
       have H := H1
       clear H1
       replace H := Option.bind_eq_some_iff.mp H
       obtain ⟨t146, A140, H⟩ := H
       replace H : (if t146 = true then (if 0 < (a0_1.size : Int) then (if (bt a0_1 0) = 48 then (if (a0_1.size : Int) > 1 then (some 20) else (if a0_0 = true then ((idiomref02_Nought.f kj1 a0_0 a0_1 a0_2).bind fun t147 => (if t147 = true then (some 20) else (some 0))) else (some 0))) else (if a0_0 = true then ((idiomref02_Nought.f kj1 a0_0 a0_1 a0_2).bind fun t148 => (if t148 = true then (some 20) else (some 0))) else (some 0))) else (none)) else (some 20)) = some r := H
       have A14 := Aside0.mk A140
       clear A140
       by_cases c15 : t146 = true
       · subst c15
         have H1 : (if 0 < (a0_1.size : Int) then (if (bt a0_1 0) = 48 then (if (a0_1.size : Int) > 1 then (some 20) else (if a0_0 = true then ((idiomref02_Nought.f kj1 a0_0 a0_1 a0_2).bind fun t147 => (if t147 = true then (some 20) else (some 0))) else (some 0))) else (if a0_0 = true then ((idiomref02_Nought.f kj1 a0_0 a0_1 a0_2).bind fun t148 => (if t148 = true then (some 20) else (some 0))) else (some 0))) else (none)) = some r := by rw [if_pos rfl] at H; exact H
         clear H
         have H := H1
         clear H1
         by_cases c16 : 0 < (a0_1.size : Int)
         · rw [if_pos c16] at H
           have c16b0 : decide (0 < (a0_1.size : Int)) = true := decide_eq_true c16
           have c16b1 : decide (0 < a0_1.size) = true := decide_eq_true (by omega)
           clear c16
           by_cases c18 : (bt a0_1 0) = 48
           · rw [if_pos c18] at H
             have c18b0 : ((bt a0_1 0) == 48) = true := beq_iff_eq.mpr c18
             have c18b1 : ((bt a0_1 0) != 48) = false := bne_eq_false_iff_eq.mpr c18
             clear c18
             by_cases c19 : (a0_1.size : Int) > 1
             · rw [if_pos c19] at H
               have c19b0 : decide (1 < (a0_1.size : Int)) = true := decide_eq_true c19
               have c19b1 : decide (1 < a0_1.size) = true := decide_eq_true (by omega)
               clear c19
               obtain rfl := Option.some.inj H
               obtain ⟨hcz20_0, hcz20_1, hcz20_2, hfz20_0, hfz20_1, hfz20_2⟩ := q3 BK144
               go_wp2_with (first | ((with_reducible refine gate_callee (f := 60) rfl ?_); refine goesL_ (some 31) rfl rfl Tryd.func60 (by kernel_rfl) rfl #[.string a0_1] rfl ql ?_; (with_reducible refine (idiomref02_Digits.calls kj1 a0_1 true _ A12.out).mono ?_); rintro e w' ⟨rfl, ⟨nd, rfl⟩⟩; refine ⟨_, rfl, ?_⟩) | (go_at_call 60; (with_reducible refine (idiomref02_Digits.calls kj1 a0_2 true _ A14.out).mono ?_); rintro e w' ⟨rfl, ⟨nd, rfl⟩⟩; have p17 : 0 ≤ (0 : Int) := (by omega); have q17 : 0 < a0_1.size := (by have : (0 : Int) < (a0_1.size : Int) := of_decide_eq_true qa; omega); have hx17 : ∀ h : 0 < a0_1.size, ((a0_1[0]'h).toNat : Int) = bt a0_1 0 := bt_at a0_1 0; clear p17; have qi17 : (0 < (a0_1.size : Int)) = True := eq_true (of_decide_eq_true qa); replace q17 := eq_true q17))
               go_ret
               exact ⟨qe, qh HB⟩
             · rw [if_neg c19] at H
               have c19b0 : decide (1 < (a0_1.size : Int)) = false := decide_eq_false c19
               have c19b1 : decide (1 < a0_1.size) = false := decide_eq_false (by omega)
               clear c19
               by_cases c21 : a0_0 = true
               · subst c21
                 have H1 : ((idiomref02_Nought.f kj1 true a0_1 a0_2).bind fun t147 => (if t147 = true then (some 20) else (some 0))) = some r := by rw [if_pos rfl] at H; exact H
                 clear H
                 have H := H1
                 clear H1
                 replace H := Option.bind_eq_some_iff.mp H
                 obtain ⟨t147, A220, H⟩ := H
                 replace H : (if t147 = true then (some 20) else (some 0)) = some r := H
                 have A22 := Aside0.mk A220
                 clear A220
                 by_cases c23 : t147 = true
                 · subst c23
                   have H1 : (some 20) = some r := by rw [if_pos rfl] at H; exact H
                   clear H
                   have H := H1
                   clear H1
                   obtain rfl := Option.some.inj H
                   obtain ⟨hcz24_0, hcz24_1, hcz24_2, hfz24_0, hfz24_1, hfz24_2⟩ := q3 BK144
                   go_wp2_with (first | ((with_reducible refine gate_callee (f := 60) rfl ?_); refine goesL_ (some 31) rfl rfl Tryd.func60 (by kernel_rfl) rfl #[.string a0_1] rfl ql ?_; (with_reducible refine (idiomref02_Digits.calls kj1 a0_1 true _ A12.out).mono ?_); rintro e w' ⟨rfl, ⟨nd, rfl⟩⟩; refine ⟨_, rfl, ?_⟩) | (go_at_call 60; (with_reducible refine (idiomref02_Digits.calls kj1 a0_2 true _ A14.out).mono ?_); rintro e w' ⟨rfl, ⟨nd, rfl⟩⟩; have p17 : 0 ≤ (0 : Int) := (by omega); have q17 : 0 < a0_1.size := (by have : (0 : Int) < (a0_1.size : Int) := of_decide_eq_true qa; omega); have hx17 : ∀ h : 0 < a0_1.size, ((a0_1[0]'h).toNat : Int) = bt a0_1 0 := bt_at a0_1 0; clear p17; have qi17 : (0 < (a0_1.size : Int)) = True := eq_true (of_decide_eq_true qa); replace q17 := eq_true q17) | (go_at_call 61; (with_reducible refine (idiomref02_Nought.calls kj1 true a0_1 a0_2 true _ A22.out).mono ?_); rintro e w25 ⟨rfl, hb⟩; replace BK144 := qb BK144 hb; replace HB := qn HB hb; (try clear hb); (try clear hb2); (try clear hk); (try clear hi)))
                   go_ret
                   exact ⟨qe, qh HB⟩
                 · replace c23 := Bool.eq_false_iff.mpr c23
                   subst c23
                   have H1 : (some 0) = some r := by rw [if_neg (show ¬ (false = true) by decide)] at H; exact H
                   clear H
                   have H := H1
                   clear H1
                   obtain rfl := Option.some.inj H
                   obtain ⟨hcz26_0, hcz26_1, hcz26_2, hfz26_0, hfz26_1, hfz26_2⟩ := q3 BK144
                   go_wp2_with (first | ((with_reducible refine gate_callee (f := 60) rfl ?_); refine goesL_ (some 31) rfl rfl Tryd.func60 (by kernel_rfl) rfl #[.string a0_1] rfl ql ?_; (with_reducible refine (idiomref02_Digits.calls kj1 a0_1 true _ A12.out).mono ?_); rintro e w' ⟨rfl, ⟨nd, rfl⟩⟩; refine ⟨_, rfl, ?_⟩) | (go_at_call 60; (with_reducible refine (idiomref02_Digits.calls kj1 a0_2 true _ A14.out).mono ?_); rintro e w' ⟨rfl, ⟨nd, rfl⟩⟩; have p17 : 0 ≤ (0 : Int) := (by omega); have q17 : 0 < a0_1.size := (by have : (0 : Int) < (a0_1.size : Int) := of_decide_eq_true qa; omega); have hx17 : ∀ h : 0 < a0_1.size, ((a0_1[0]'h).toNat : Int) = bt a0_1 0 := bt_at a0_1 0; clear p17; have qi17 : (0 < (a0_1.size : Int)) = True := eq_true (of_decide_eq_true qa); replace q17 := eq_true q17) | (go_at_call 61; (with_reducible refine (idiomref02_Nought.calls kj1 true a0_1 a0_2 false _ A22.out).mono ?_); rintro e w27 ⟨rfl, hb⟩; replace BK144 := qb BK144 hb; replace HB := qn HB hb; (try clear hb); (try clear hb2); (try clear hk); (try clear hi)))
                   go_ret
                   exact ⟨qe, qh HB⟩
               · replace c21 := Bool.eq_false_iff.mpr c21
                 subst c21
                 have H1 : (some 0) = some r := by rw [if_neg (show ¬ (false = true) by decide)] at H; exact H
                 clear H
                 have H := H1
                 clear H1
                 obtain rfl := Option.some.inj H
                 obtain ⟨hcz28_0, hcz28_1, hcz28_2, hfz28_0, hfz28_1, hfz28_2⟩ := q3 BK144
                 go_wp2_with (first | ((with_reducible refine gate_callee (f := 60) rfl ?_); refine goesL_ (some 31) rfl rfl Tryd.func60 (by kernel_rfl) rfl #[.string a0_1] rfl ql ?_; (with_reducible refine (idiomref02_Digits.calls kj1 a0_1 true _ A12.out).mono ?_); rintro e w' ⟨rfl, ⟨nd, rfl⟩⟩; refine ⟨_, rfl, ?_⟩) | (go_at_call 60; (with_reducible refine (idiomref02_Digits.calls kj1 a0_2 true _ A14.out).mono ?_); rintro e w' ⟨rfl, ⟨nd, rfl⟩⟩; have p17 : 0 ≤ (0 : Int) := (by omega); have q17 : 0 < a0_1.size := (by have : (0 : Int) < (a0_1.size : Int) := of_decide_eq_true qa; omega); have hx17 : ∀ h : 0 < a0_1.size, ((a0_1[0]'h).toNat : Int) = bt a0_1 0 := bt_at a0_1 0; clear p17; have qi17 : (0 < (a0_1.size : Int)) = True := eq_true (of_decide_eq_true qa); replace q17 := eq_true q17))
                 go_ret
                 exact ⟨qe, qh HB⟩
           · rw [if_neg c18] at H
             have c18b0 : ((bt a0_1 0) == 48) = false := beq_eq_false_iff_ne.mpr c18
             have c18b1 : ((bt a0_1 0) != 48) = true := bne_iff_ne.mpr c18
             by_cases c29 : a0_0 = true
             · subst c29
               have H1 : ((idiomref02_Nought.f kj1 true a0_1 a0_2).bind fun t148 => (if t148 = true then (some 20) else (some 0))) = some r := by rw [if_pos rfl] at H; exact H
               clear H
               have H := H1
               clear H1
               replace H := Option.bind_eq_some_iff.mp H
               obtain ⟨t148, A300, H⟩ := H
               replace H : (if t148 = true then (some 20) else (some 0)) = some r := H
               have A30 := Aside0.mk A300
               clear A300
               by_cases c31 : t148 = true
               · subst c31
                 have H1 : (some 20) = some r := by rw [if_pos rfl] at H; exact H
                 clear H
                 have H := H1
                 clear H1
                 obtain rfl := Option.some.inj H
                 obtain ⟨hcz32_0, hcz32_1, hcz32_2, hfz32_0, hfz32_1, hfz32_2⟩ := q3 BK144
                 go_wp2_with (first | ((with_reducible refine gate_callee (f := 60) rfl ?_); refine goesL_ (some 31) rfl rfl Tryd.func60 (by kernel_rfl) rfl #[.string a0_1] rfl ql ?_; (with_reducible refine (idiomref02_Digits.calls kj1 a0_1 true _ A12.out).mono ?_); rintro e w' ⟨rfl, ⟨nd, rfl⟩⟩; refine ⟨_, rfl, ?_⟩) | (go_at_call 60; (with_reducible refine (idiomref02_Digits.calls kj1 a0_2 true _ A14.out).mono ?_); rintro e w' ⟨rfl, ⟨nd, rfl⟩⟩; have p17 : 0 ≤ (0 : Int) := (by omega); have q17 : 0 < a0_1.size := (by have : (0 : Int) < (a0_1.size : Int) := of_decide_eq_true qa; omega); have hx17 : ∀ h : 0 < a0_1.size, ((a0_1[0]'h).toNat : Int) = bt a0_1 0 := bt_at a0_1 0; clear p17; have qi17 : (0 < (a0_1.size : Int)) = True := eq_true (of_decide_eq_true qa); replace q17 := eq_true q17) | (go_at_call 61; (with_reducible refine (idiomref02_Nought.calls kj1 true a0_1 a0_2 true _ A30.out).mono ?_); rintro e w33 ⟨rfl, hb⟩; replace BK144 := qb BK144 hb; replace HB := qn HB hb; (try clear hb); (try clear hb2); (try clear hk); (try clear hi)))
                 go_ret
                 exact ⟨qe, qh HB⟩
               · replace c31 := Bool.eq_false_iff.mpr c31
                 subst c31
                 have H1 : (some 0) = some r := by rw [if_neg (show ¬ (false = true) by decide)] at H; exact H
                 clear H
                 have H := H1
                 clear H1
                 obtain rfl := Option.some.inj H
                 obtain ⟨hcz34_0, hcz34_1, hcz34_2, hfz34_0, hfz34_1, hfz34_2⟩ := q3 BK144
                 go_wp2_with (first | ((with_reducible refine gate_callee (f := 60) rfl ?_); refine goesL_ (some 31) rfl rfl Tryd.func60 (by kernel_rfl) rfl #[.string a0_1] rfl ql ?_; (with_reducible refine (idiomref02_Digits.calls kj1 a0_1 true _ A12.out).mono ?_); rintro e w' ⟨rfl, ⟨nd, rfl⟩⟩; refine ⟨_, rfl, ?_⟩) | (go_at_call 60; (with_reducible refine (idiomref02_Digits.calls kj1 a0_2 true _ A14.out).mono ?_); rintro e w' ⟨rfl, ⟨nd, rfl⟩⟩; have p17 : 0 ≤ (0 : Int) := (by omega); have q17 : 0 < a0_1.size := (by have : (0 : Int) < (a0_1.size : Int) := of_decide_eq_true qa; omega); have hx17 : ∀ h : 0 < a0_1.size, ((a0_1[0]'h).toNat : Int) = bt a0_1 0 := bt_at a0_1 0; clear p17; have qi17 : (0 < (a0_1.size : Int)) = True := eq_true (of_decide_eq_true qa); replace q17 := eq_true q17) | (go_at_call 61; (with_reducible refine (idiomref02_Nought.calls kj1 true a0_1 a0_2 false _ A30.out).mono ?_); rintro e w35 ⟨rfl, hb⟩; replace BK144 := qb BK144 hb; replace HB := qn HB hb; (try clear hb); (try clear hb2); (try clear hk); (try clear hi)))
                 go_ret
                 exact ⟨qe, qh HB⟩
             · replace c29 := Bool.eq_false_iff.mpr c29
               subst c29
               have H1 : (some 0) = some r := by rw [if_neg (show ¬ (false = true) by decide)] at H; exact H
               clear H
               have H := H1
               clear H1
               obtain rfl := Option.some.inj H
               obtain ⟨hcz36_0, hcz36_1, hcz36_2, hfz36_0, hfz36_1, hfz36_2⟩ := q3 BK144
               go_wp2_with (first | ((with_reducible refine gate_callee (f := 60) rfl ?_); refine goesL_ (some 31) rfl rfl Tryd.func60 (by kernel_rfl) rfl #[.string a0_1] rfl ql ?_; (with_reducible refine (idiomref02_Digits.calls kj1 a0_1 true _ A12.out).mono ?_); rintro e w' ⟨rfl, ⟨nd, rfl⟩⟩; refine ⟨_, rfl, ?_⟩) | (go_at_call 60; (with_reducible refine (idiomref02_Digits.calls kj1 a0_2 true _ A14.out).mono ?_); rintro e w' ⟨rfl, ⟨nd, rfl⟩⟩; have p17 : 0 ≤ (0 : Int) := (by omega); have q17 : 0 < a0_1.size := (by have : (0 : Int) < (a0_1.size : Int) := of_decide_eq_true qa; omega); have hx17 : ∀ h : 0 < a0_1.size, ((a0_1[0]'h).toNat : Int) = bt a0_1 0 := bt_at a0_1 0; clear p17; have qi17 : (0 < (a0_1.size : Int)) = True := eq_true (of_decide_eq_true qa); replace q17 := eq_true q17))
               go_ret
               exact ⟨qe, qh HB⟩
         · rw [if_neg c16] at H
           exact absurd H (by simp)
       · replace c15 := Bool.eq_false_iff.mpr c15
         subst c15
         have H1 : (some 20) = some r := by rw [if_neg (show ¬ (false = true) by decide)] at H; exact H
         clear H
         have H := H1
         clear H1
         obtain rfl := Option.some.inj H
         obtain ⟨hcz37_0, hcz37_1, hcz37_2, hfz37_0, hfz37_1, hfz37_2⟩ := q3 BK144
         go_wp2_with (first | ((with_reducible refine gate_callee (f := 60) rfl ?_); refine goesL_ (some 31) rfl rfl Tryd.func60 (by kernel_rfl) rfl #[.string a0_1] rfl ql ?_; (with_reducible refine (idiomref02_Digits.calls kj1 a0_1 true _ A12.out).mono ?_); rintro e w' ⟨rfl, ⟨nd, rfl⟩⟩; refine ⟨_, rfl, ?_⟩) | (go_at_call 60; (with_reducible refine (idiomref02_Digits.calls kj1 a0_2 false _ A14.out).mono ?_); rintro e w' ⟨rfl, ⟨nd, rfl⟩⟩))
         go_ret
         exact ⟨qe, qh HB⟩
     · replace c13 := Bool.eq_false_iff.mpr c13
       subst c13
       have H1 : (some 20) = some r := by rw [if_neg (show ¬ (false = true) by decide)] at H; exact H
       clear H
       have H := H1
       clear H1
       obtain rfl := Option.some.inj H
       obtain ⟨hcz38_0, hcz38_1, hcz38_2, hfz38_0, hfz38_1, hfz38_2⟩ := q3 BK144
       go_wp2_with (first | ((with_reducible refine gate_callee (f := 60) rfl ?_); refine goesL_ (some 31) rfl rfl Tryd.func60 (by kernel_rfl) rfl #[.string a0_1] rfl ql ?_; (with_reducible refine (idiomref02_Digits.calls kj1 a0_1 false _ A12.out).mono ?_); rintro e w' ⟨rfl, ⟨nd, rfl⟩⟩; refine ⟨_, rfl, ?_⟩))
       go_ret
       exact ⟨qe, qh HB⟩

end Go.Proofs.YtpmhebdaphjinaaDoor.F
-- Printed by this session's hookprint.py (over the kit's print.py, with hooks). Lean checks it.
namespace Go.Proofs.YtpmhebdaphjinaaDoor.F
open Go.RowKit Go.Proofs.YtpmhebdaphjinaaDoorW.PrintWords Go.Proofs.YtpmhebdaphjinaaDoorW.PrintLast Go.Proofs.YtpmhebdaphjinaaDoorW.PrintMore Go.Proofs.YtpmhebdaphjinaaDoor.Q
attribute [local go_sem] max2_int min2_int max_two min_two max_three min_three max_four min_four   -- for this text's walks alone
set_option linter.unusedVariables false
set_option linter.unusedSimpArgs false

/-! ### idiomref03_asked: function 26 -/
def idiomref03_asked.f (k : Nat) (a0_0 : Bool) (a0_1 : ByteArray) (a0_2 : ByteArray) (a1 : Int) : Option (Int) := (idiomref02_Check.f k a0_0 a0_1 a0_2).bind fun t150 => (if t150 = 0 then (if a1 < 1 then (some 30) else (if a1 > 8 then (some 30) else (some 0))) else (some t150))
theorem idiomref03_asked.mono : ∀ a0 a1 a2 a3 k, LeO (idiomref03_asked.f k a0 a1 a2 a3) (idiomref03_asked.f (k + 1) a0 a1 a2 a3) := by
 intro a0 a1 a2 a3 k
 unfold idiomref03_asked.f
 repeat' first
  | (with_reducible exact idiomref02_Check.mono _ _ _ _)
  | (with_reducible exact LeO.refl _)
  | (with_reducible exact LeO.none _)
  | (with_reducible refine LeO.ite ?_ ?_)
  | (with_reducible refine LeO.bind ?_ (fun _ => ?_))
  | exact idiomref02_Check.mono _ _ _ _
  | exact LeO.none _
  | refine LeO.ite ?_ ?_
  | refine LeO.bind ?_ (fun _ => ?_)
set_option maxHeartbeats 8000000 in
set_option maxRecDepth 100000 in
theorem idiomref03_asked.calls (k : Nat) (a0_0 : Bool) (a0_1 : ByteArray) (a0_2 : ByteArray) (a1 : Int) (r : Int) (w : World) (h : idiomref03_asked.f k a0_0 a0_1 a0_2 a1 = some r) :
 Calls Tryd.prog 26 #[.agg #[.bool a0_0, .string a0_1, .string a0_2], .int .i64 a1] w fun e w' => e = .returned (.int .i64 r) ∧ Below w.heap.size w w' := by
 have hu23 := Tryd.underlying23
 have HB := Aside0.mk (Below.refl w.heap.size w)
 have H : ((idiomref02_Check.f k a0_0 a0_1 a0_2).bind fun t150 => (if t150 = 0 then (if a1 < 1 then (some 30) else (if a1 > 8 then (some 30) else (some 0))) else (some t150))) = some r := h
 clear h
 replace H := Option.bind_eq_some_iff.mp H
 obtain ⟨t150, A30, H⟩ := H
 replace H : (if t150 = 0 then (if a1 < 1 then (some 30) else (if a1 > 8 then (some 30) else (some 0))) else (some t150)) = some r := H
 have A3 := Aside0.mk A30
 clear A30
 by_cases c4 : t150 = 0
 · rw [if_pos c4] at H
   have c4b0 : (t150 == 0) = true := beq_iff_eq.mpr c4
   have c4b1 : (t150 != 0) = false := bne_eq_false_iff_eq.mpr c4
   try have c4b1z := c4b1
   (try simp only [bne] at c4b1z)
   clear c4
   by_cases c5 : a1 < 1
   · rw [if_pos c5] at H
     have c5b0 : decide (a1 < 1) = true := decide_eq_true c5
     clear c5
     obtain rfl := Option.some.inj H
     go_enter Tryd.func26, Tryd.ntmps26
     go_wp2_with (first | ((with_reducible refine gate_dst (N := 2) rfl ?_); refine qx 2 #[.bool a0_0, .string a0_1, .string a0_2] 23 ?_; intro gb149 hg w6 hbox hb; have BK149 := Aside0.mk (hbox); have GW149 := qs hg HB; have GE149 := GW149; replace HB := qn HB hb; clear hb hbox hg; obtain ⟨hcz7_0, hcz7_1, hcz7_2, hfz7_0, hfz7_1, hfz7_2⟩ := q3 BK149) | ((with_reducible refine gate_callee (f := 32) rfl ?_); refine goesL_ (some 7) rfl rfl Tryd.func32 (by kernel_rfl) rfl #[.agg #[.bool a0_0, .string a0_1, .string a0_2]] rfl ql ?_; (with_reducible refine (idiomref02_Check.calls k a0_0 a0_1 a0_2 t150 _ A3.out).mono ?_); rintro e w8 ⟨rfl, hb⟩; refine ⟨_, rfl, ?_⟩; replace BK149 := qb BK149 hb; replace HB := qn HB hb; (try clear hb); (try clear hb2); (try clear hk); (try clear hi)))
     go_ret
     exact ⟨qe, qh HB⟩
   · rw [if_neg c5] at H
     have c5b0 : decide (a1 < 1) = false := decide_eq_false c5
     clear c5
     by_cases c9 : a1 > 8
     · rw [if_pos c9] at H
       have c9b0 : decide (8 < a1) = true := decide_eq_true c9
       clear c9
       obtain rfl := Option.some.inj H
       go_enter Tryd.func26, Tryd.ntmps26
       go_wp2_with (first | ((with_reducible refine gate_dst (N := 2) rfl ?_); refine qx 2 #[.bool a0_0, .string a0_1, .string a0_2] 23 ?_; intro gb149 hg w10 hbox hb; have BK149 := Aside0.mk (hbox); have GW149 := qs hg HB; have GE149 := GW149; replace HB := qn HB hb; clear hb hbox hg; obtain ⟨hcz11_0, hcz11_1, hcz11_2, hfz11_0, hfz11_1, hfz11_2⟩ := q3 BK149) | ((with_reducible refine gate_callee (f := 32) rfl ?_); refine goesL_ (some 7) rfl rfl Tryd.func32 (by kernel_rfl) rfl #[.agg #[.bool a0_0, .string a0_1, .string a0_2]] rfl ql ?_; (with_reducible refine (idiomref02_Check.calls k a0_0 a0_1 a0_2 t150 _ A3.out).mono ?_); rintro e w12 ⟨rfl, hb⟩; refine ⟨_, rfl, ?_⟩; replace BK149 := qb BK149 hb; replace HB := qn HB hb; (try clear hb); (try clear hb2); (try clear hk); (try clear hi)))
       go_ret
       exact ⟨qe, qh HB⟩
     · rw [if_neg c9] at H
       have c9b0 : decide (8 < a1) = false := decide_eq_false c9
       clear c9
       obtain rfl := Option.some.inj H
       go_enter Tryd.func26, Tryd.ntmps26
       go_wp2_with (first | ((with_reducible refine gate_dst (N := 2) rfl ?_); refine qx 2 #[.bool a0_0, .string a0_1, .string a0_2] 23 ?_; intro gb149 hg w13 hbox hb; have BK149 := Aside0.mk (hbox); have GW149 := qs hg HB; have GE149 := GW149; replace HB := qn HB hb; clear hb hbox hg; obtain ⟨hcz14_0, hcz14_1, hcz14_2, hfz14_0, hfz14_1, hfz14_2⟩ := q3 BK149) | ((with_reducible refine gate_callee (f := 32) rfl ?_); refine goesL_ (some 7) rfl rfl Tryd.func32 (by kernel_rfl) rfl #[.agg #[.bool a0_0, .string a0_1, .string a0_2]] rfl ql ?_; (with_reducible refine (idiomref02_Check.calls k a0_0 a0_1 a0_2 t150 _ A3.out).mono ?_); rintro e w15 ⟨rfl, hb⟩; refine ⟨_, rfl, ?_⟩; replace BK149 := qb BK149 hb; replace HB := qn HB hb; (try clear hb); (try clear hb2); (try clear hk); (try clear hi)))
       go_ret
       exact ⟨qe, qh HB⟩
 · rw [if_neg c4] at H
   have c4b0 : (t150 == 0) = false := beq_eq_false_iff_ne.mpr c4
   have c4b1 : (t150 != 0) = true := bne_iff_ne.mpr c4
   try have c4b1z := c4b1
   (try simp only [bne] at c4b1z)
   obtain rfl := Option.some.inj H
   go_enter Tryd.func26, Tryd.ntmps26
   go_wp2_with (first | ((with_reducible refine gate_dst (N := 2) rfl ?_); refine qx 2 #[.bool a0_0, .string a0_1, .string a0_2] 23 ?_; intro gb149 hg w16 hbox hb; have BK149 := Aside0.mk (hbox); have GW149 := qs hg HB; have GE149 := GW149; replace HB := qn HB hb; clear hb hbox hg; obtain ⟨hcz17_0, hcz17_1, hcz17_2, hfz17_0, hfz17_1, hfz17_2⟩ := q3 BK149) | ((with_reducible refine gate_callee (f := 32) rfl ?_); refine goesL_ (some 7) rfl rfl Tryd.func32 (by kernel_rfl) rfl #[.agg #[.bool a0_0, .string a0_1, .string a0_2]] rfl ql ?_; (with_reducible refine (idiomref02_Check.calls k a0_0 a0_1 a0_2 t150 _ A3.out).mono ?_); rintro e w18 ⟨rfl, hb⟩; refine ⟨_, rfl, ?_⟩; replace BK149 := qb BK149 hb; replace HB := qn HB hb; (try clear hb); (try clear hb2); (try clear hk); (try clear hi)))
   go_ret
   exact ⟨qe, qh HB⟩

/-! ### idiomref03_Lead: function 41 -/
def idiomref03_Lead.l0 : Nat → ByteArray → Option (ByteArray)
 | 0, _ => none
 | k + 1, x0 => if (x0.size : Int) > 1 then (if 0 < (x0.size : Int) then (if (bt x0 0) = 48 then (if 1 ≤ (x0.size : Int) then (idiomref03_Lead.l0 k (x0.extract 1 x0.size)) else (none)) else (if x0.toList = ([] : List UInt8) then (some (⟨#[48]⟩ : ByteArray)) else (some x0))) else (none)) else (if x0.toList = ([] : List UInt8) then (some (⟨#[48]⟩ : ByteArray)) else (some x0))
def idiomref03_Lead.f (k : Nat) (a0 : ByteArray) : Option (ByteArray) := idiomref03_Lead.l0 k a0
theorem idiomref03_Lead.mono_l : ∀ k, (∀ y0, LeO (idiomref03_Lead.l0 k y0) (idiomref03_Lead.l0 (k + 1) y0))
 | 0 => fun _ r h => by simp [idiomref03_Lead.l0] at h
 | k + 1 => by
  have ih0 := idiomref03_Lead.mono_l k
  · intro y0
    unfold idiomref03_Lead.l0
    repeat' first
    | (with_reducible exact ih0 _)
    | (with_reducible exact LeO.refl _)
    | (with_reducible exact LeO.none _)
    | (with_reducible refine LeO.ite ?_ ?_)
    | (with_reducible refine LeO.bind ?_ (fun _ => ?_))
    | exact ih0 _
    | exact LeO.none _
    | refine LeO.ite ?_ ?_
    | refine LeO.bind ?_ (fun _ => ?_)
theorem idiomref03_Lead.mono : ∀ a0 k, LeO (idiomref03_Lead.f k a0) (idiomref03_Lead.f (k + 1) a0) := by
 intro a0 k
 have ih0 := idiomref03_Lead.mono_l k
 unfold idiomref03_Lead.f
 repeat' first
  | (with_reducible exact ih0 _)
  | (with_reducible exact LeO.refl _)
  | (with_reducible exact LeO.none _)
  | (with_reducible refine LeO.ite ?_ ?_)
  | (with_reducible refine LeO.bind ?_ (fun _ => ?_))
  | exact ih0 _
  | exact LeO.none _
  | refine LeO.ite ?_ ?_
  | refine LeO.bind ?_ (fun _ => ?_)
set_option maxHeartbeats 8000000 in
set_option maxRecDepth 100000 in
theorem idiomref03_Lead.calls (k : Nat) (a0 : ByteArray) (r : ByteArray) (w : World) (h : idiomref03_Lead.f k a0 = some r) :
 Calls Tryd.prog 41 #[.string a0] w fun e w' => e = .returned (.string r) ∧ Drawn0 w w' := by
 have H : (idiomref03_Lead.l0 k a0) = some r := h
 clear h
 have H' := Aside0.mk H
 clear H
 go_enter Tryd.func41, Tryd.ntmps41
 go_wp2
 (try simp only [Act.put, List.setIfInBounds_toArray, List.set_cons_zero, List.set_cons_succ])
 go_loopg [0] k (fun kq v0 w' => ∃ (x0_1 : ByteArray), v0 = .string x0_1 ∧ Aside0 (idiomref03_Lead.l0 kq x0_1 = some r) ∧ Aside0 (kq ≤ k) ∧ Drawn0 w w')
 case atStart => exact ⟨(a0), (by first | rfl | (simp; done) | (simp [*]; done)), H', ⟨Nat.le_refl _⟩, by repeat (first | exact Drawn0.refl _ | apply Drawn0.step)⟩
 case round =>
  clear H'
  obtain ⟨x0_1, rfl, HA, HK1, ⟨m1, rfl⟩⟩ := hrel
  cases gk with
  | zero => exact absurd HA.out (by simp [idiomref03_Lead.l0])
  | succ k1 =>
   have H := HA.out
   clear HA
   simp only [idiomref03_Lead.l0] at H
   by_cases c2 : (x0_1.size : Int) > 1
   · rw [if_pos c2] at H
     have c2b0 : decide (1 < (x0_1.size : Int)) = true := decide_eq_true c2
     have c2b1 : decide (1 < x0_1.size) = true := decide_eq_true (by omega)
     clear c2
     by_cases c3 : 0 < (x0_1.size : Int)
     · rw [if_pos c3] at H
       have c3b0 : decide (0 < (x0_1.size : Int)) = true := decide_eq_true c3
       have c3b1 : decide (0 < x0_1.size) = true := decide_eq_true (by omega)
       clear c3
       by_cases c5 : (bt x0_1 0) = 48
       · rw [if_pos c5] at H
         have c5b0 : ((bt x0_1 0) == 48) = true := beq_iff_eq.mpr c5
         have c5b1 : ((bt x0_1 0) != 48) = false := bne_eq_false_iff_eq.mpr c5
         clear c5
         by_cases c6 : 1 ≤ (x0_1.size : Int)
         · rw [if_pos c6] at H
           have c6b0 := eq_true c6
           have c6b1 : decide (1 ≤ (x0_1.size : Int)) = true := decide_eq_true c6
           clear c6
           have H' := Aside0.mk H
           clear H
           have p4 : 0 ≤ (0 : Int) := (by omega)
           have q4 : 0 < x0_1.size := (by have : (0 : Int) < (x0_1.size : Int) := of_decide_eq_true qa; omega)
           have hx4 : ∀ h : 0 < x0_1.size, ((x0_1[0]'h).toNat : Int) = bt x0_1 0 := bt_at x0_1 0
           clear p4
           have qi4 : (0 < (x0_1.size : Int)) = True := eq_true (of_decide_eq_true qa)
           replace q4 := eq_true q4
           go_wp2
           go_roundg k1
           case measure => have := HK1.out; omega
           case rel => exact ⟨(x0_1.extract 1 x0_1.size), (by first | rfl | (simp; done) | (simp [*]; done)), H', ⟨by have := HK1.out; omega⟩, by repeat (first | exact Drawn0.refl _ | apply Drawn0.step)⟩
         · rw [if_neg c6] at H
           exact absurd H (by simp)
       · rw [if_neg c5] at H
         have c5b0 : ((bt x0_1 0) == 48) = false := beq_eq_false_iff_ne.mpr c5
         have c5b1 : ((bt x0_1 0) != 48) = true := bne_iff_ne.mpr c5
         by_cases c7 : x0_1.toList = ([] : List UInt8)
         · rw [if_pos c7] at H
           have c7b0 : (x0_1.toList == ([] : List UInt8)) = true := beq_iff_eq.mpr c7
           try have c7b0z := Aid.empty_of c7b0
           have c7b1 : (x0_1.toList != ([] : List UInt8)) = false := bne_eq_false_iff_eq.mpr c7
           clear c7
           obtain rfl := Option.some.inj H
           have p4 : 0 ≤ (0 : Int) := (by omega)
           have q4 : 0 < x0_1.size := (by have : (0 : Int) < (x0_1.size : Int) := of_decide_eq_true qa; omega)
           have hx4 : ∀ h : 0 < x0_1.size, ((x0_1[0]'h).toNat : Int) = bt x0_1 0 := bt_at x0_1 0
           clear p4
           have qi4 : (0 < (x0_1.size : Int)) = True := eq_true (of_decide_eq_true qa)
           replace q4 := eq_true q4
           go_wp2
           go_ret
           exact ⟨by first | rfl | (simp; done) | (simp [*]; done), by repeat (first | exact Drawn0.refl _ | apply Drawn0.step)⟩
         · rw [if_neg c7] at H
           have c7b0 : (x0_1.toList == ([] : List UInt8)) = false := beq_eq_false_iff_ne.mpr c7
           try have c7b0z := Aid.empty_of c7b0
           have c7b1 : (x0_1.toList != ([] : List UInt8)) = true := bne_iff_ne.mpr c7
           obtain rfl := Option.some.inj H
           have p4 : 0 ≤ (0 : Int) := (by omega)
           have q4 : 0 < x0_1.size := (by have : (0 : Int) < (x0_1.size : Int) := of_decide_eq_true qa; omega)
           have hx4 : ∀ h : 0 < x0_1.size, ((x0_1[0]'h).toNat : Int) = bt x0_1 0 := bt_at x0_1 0
           clear p4
           have qi4 : (0 < (x0_1.size : Int)) = True := eq_true (of_decide_eq_true qa)
           replace q4 := eq_true q4
           go_wp2
           go_ret
           exact ⟨by first | rfl | (simp; done) | (simp [*]; done), by repeat (first | exact Drawn0.refl _ | apply Drawn0.step)⟩
     · rw [if_neg c3] at H
       exact absurd H (by simp)
   · rw [if_neg c2] at H
     have c2b0 : decide (1 < (x0_1.size : Int)) = false := decide_eq_false c2
     have c2b1 : decide (1 < x0_1.size) = false := decide_eq_false (by omega)
     clear c2
     by_cases c8 : x0_1.toList = ([] : List UInt8)
     · rw [if_pos c8] at H
       have c8b0 : (x0_1.toList == ([] : List UInt8)) = true := beq_iff_eq.mpr c8
       try have c8b0z := Aid.empty_of c8b0
       have c8b1 : (x0_1.toList != ([] : List UInt8)) = false := bne_eq_false_iff_eq.mpr c8
       clear c8
       obtain rfl := Option.some.inj H
       go_wp2
       go_ret
       exact ⟨by first | rfl | (simp; done) | (simp [*]; done), by repeat (first | exact Drawn0.refl _ | apply Drawn0.step)⟩
     · rw [if_neg c8] at H
       have c8b0 : (x0_1.toList == ([] : List UInt8)) = false := beq_eq_false_iff_ne.mpr c8
       try have c8b0z := Aid.empty_of c8b0
       have c8b1 : (x0_1.toList != ([] : List UInt8)) = true := bne_iff_ne.mpr c8
       obtain rfl := Option.some.inj H
       go_wp2
       go_ret
       exact ⟨by first | rfl | (simp; done) | (simp [*]; done), by repeat (first | exact Drawn0.refl _ | apply Drawn0.step)⟩

/-! ### idiomref03_cmp: function 87 -/
def idiomref03_cmp.j0 : Nat → ByteArray → ByteArray → Bool → Option (Int)
 | 0, _, _, _ => none
 | k + 1, x0, x1, x9 => if x9 = true then (some (-1)) else (if x0.toList = x1.toList then (some 0) else (some 1))
def idiomref03_cmp.f (k : Nat) (a0 : ByteArray) (a1 : ByteArray) : Option (Int) := (idiomref03_Lead.f k a0).bind fun t151 => ((idiomref03_Lead.f k a1).bind fun t152 => (if (t151.size : Int) = (t152.size : Int) then (idiomref03_cmp.j0 k t151 t152 (Op.bytesLess t151.toList t152.toList)) else (if (t151.size : Int) < (t152.size : Int) then (idiomref03_cmp.j0 k t151 t152 true) else (idiomref03_cmp.j0 k t151 t152 false))))
theorem idiomref03_cmp.mono_l : ∀ k, (∀ y0 y1 y2, LeO (idiomref03_cmp.j0 k y0 y1 y2) (idiomref03_cmp.j0 (k + 1) y0 y1 y2))
 | 0 => fun _ _ _ r h => by simp [idiomref03_cmp.j0] at h
 | k + 1 => by
  have ih0 := idiomref03_cmp.mono_l k
  · intro y0 y1 y2
    unfold idiomref03_cmp.j0
    repeat' first
    | (with_reducible exact ih0 _ _ _)
    | (with_reducible exact idiomref03_Lead.mono _ _)
    | (with_reducible exact LeO.refl _)
    | (with_reducible exact LeO.none _)
    | (with_reducible refine LeO.ite ?_ ?_)
    | (with_reducible refine LeO.bind ?_ (fun _ => ?_))
    | exact ih0 _ _ _
    | exact idiomref03_Lead.mono _ _
    | exact LeO.none _
    | refine LeO.ite ?_ ?_
    | refine LeO.bind ?_ (fun _ => ?_)
theorem idiomref03_cmp.mono : ∀ a0 a1 k, LeO (idiomref03_cmp.f k a0 a1) (idiomref03_cmp.f (k + 1) a0 a1) := by
 intro a0 a1 k
 have ih0 := idiomref03_cmp.mono_l k
 unfold idiomref03_cmp.f
 repeat' first
  | (with_reducible exact ih0 _ _ _)
  | (with_reducible exact idiomref03_Lead.mono _ _)
  | (with_reducible exact LeO.refl _)
  | (with_reducible exact LeO.none _)
  | (with_reducible refine LeO.ite ?_ ?_)
  | (with_reducible refine LeO.bind ?_ (fun _ => ?_))
  | exact ih0 _ _ _
  | exact idiomref03_Lead.mono _ _
  | exact LeO.none _
  | refine LeO.ite ?_ ?_
  | refine LeO.bind ?_ (fun _ => ?_)
set_option maxHeartbeats 8000000 in
set_option maxRecDepth 100000 in
theorem idiomref03_cmp.calls (k : Nat) (a0 : ByteArray) (a1 : ByteArray) (r : Int) (w : World) (h : idiomref03_cmp.f k a0 a1 = some r) :
 Calls Tryd.prog 87 #[.string a0, .string a1] w fun e w' => e = .returned (.int .i64 r) ∧ Drawn0 w w' := by
 have H : ((idiomref03_Lead.f k a0).bind fun t151 => ((idiomref03_Lead.f k a1).bind fun t152 => (if (t151.size : Int) = (t152.size : Int) then (idiomref03_cmp.j0 k t151 t152 (Op.bytesLess t151.toList t152.toList)) else (if (t151.size : Int) < (t152.size : Int) then (idiomref03_cmp.j0 k t151 t152 true) else (idiomref03_cmp.j0 k t151 t152 false))))) = some r := h
 clear h
 replace H := Option.bind_eq_some_iff.mp H
 obtain ⟨t151, A30, H⟩ := H
 replace H : ((idiomref03_Lead.f k a1).bind fun t152 => (if (t151.size : Int) = (t152.size : Int) then (idiomref03_cmp.j0 k t151 t152 (Op.bytesLess t151.toList t152.toList)) else (if (t151.size : Int) < (t152.size : Int) then (idiomref03_cmp.j0 k t151 t152 true) else (idiomref03_cmp.j0 k t151 t152 false)))) = some r := H
 have A3 := Aside0.mk A30
 clear A30
 replace H := Option.bind_eq_some_iff.mp H
 obtain ⟨t152, A40, H⟩ := H
 replace H : (if (t151.size : Int) = (t152.size : Int) then (idiomref03_cmp.j0 k t151 t152 (Op.bytesLess t151.toList t152.toList)) else (if (t151.size : Int) < (t152.size : Int) then (idiomref03_cmp.j0 k t151 t152 true) else (idiomref03_cmp.j0 k t151 t152 false))) = some r := H
 have A4 := Aside0.mk A40
 clear A40
 have HC5 := Aside0.mk H
 clear H
 go_enter Tryd.func87, Tryd.ntmps87
 go_upto_region 2 with (first | ((with_reducible refine gate_callee (f := 41) rfl ?_); refine goesL_ (some 6) rfl rfl Tryd.func41 (by kernel_rfl) rfl #[.string a0] rfl ql ?_; (with_reducible refine (idiomref03_Lead.calls k a0 t151 _ A3.out).mono ?_); rintro e w' ⟨rfl, ⟨nd, rfl⟩⟩; refine ⟨_, rfl, ?_⟩) | ((with_reducible refine gate_callee (f := 41) rfl ?_); refine goesL_ (some 8) rfl rfl Tryd.func41 (by kernel_rfl) rfl #[.string a1] rfl ql ?_; (with_reducible refine (idiomref03_Lead.calls k a1 t152 _ A4.out).mono ?_); rintro e w' ⟨rfl, ⟨nd, rfl⟩⟩; refine ⟨_, rfl, ?_⟩))
 (try simp only [Act.put, List.setIfInBounds_toArray, List.set_cons_zero, List.set_cons_succ])
 go_cut [9] (fun v9 wc => ∃ (kq : Nat) (x9_4 : Bool), v9 = .bool x9_4 ∧ Aside0 (idiomref03_cmp.j0 kq t151 t152 x9_4 = some r) ∧ Aside0 (kq ≤ k) ∧ Drawn0 w wc)
 case first =>
  have H := HC5.out
  clear HC5
  by_cases c6 : (t151.size : Int) = (t152.size : Int)
  · rw [if_pos c6] at H
    have c6b0 : ((t151.size : Int) == (t152.size : Int)) = true := beq_iff_eq.mpr c6
    have c6b1 : ((t151.size : Int) != (t152.size : Int)) = false := bne_eq_false_iff_eq.mpr c6
    try have c6b1z := c6b1
    (try simp only [bne] at c6b1z)
    have c6b2 : (t151.size == t152.size) = true := by first | simpa using c6 | (simp at c6 ⊢; omega)
    clear c6
    (first | rw [c6b0] | (simp only [i64_w, i32_w]; rw [c6b0]) | skip)
    have H' := Aside0.mk H
    clear H
    go_wp2
    go_meet
    case rel => exact ⟨_, ((Op.bytesLess t151.toList t152.toList)), (by first | rfl | (simp; done) | (simp [*]; done)), H', ⟨by first | omega | exact Nat.le_refl _⟩, by repeat (first | exact Drawn0.refl _ | apply Drawn0.step)⟩
  · rw [if_neg c6] at H
    have c6b0 : ((t151.size : Int) == (t152.size : Int)) = false := beq_eq_false_iff_ne.mpr c6
    have c6b1 : ((t151.size : Int) != (t152.size : Int)) = true := bne_iff_ne.mpr c6
    try have c6b1z := c6b1
    (try simp only [bne] at c6b1z)
    have c6b2 : (t151.size == t152.size) = false := by first | simpa using c6 | (simp at c6 ⊢; omega)
    (first | rw [c6b0] | (simp only [i64_w, i32_w]; rw [c6b0]) | skip)
    by_cases c7 : (t151.size : Int) < (t152.size : Int)
    · rw [if_pos c7] at H
      have c7b0 : decide ((t151.size : Int) < (t152.size : Int)) = true := decide_eq_true c7
      have c7b1 : decide (t151.size < t152.size) = true := decide_eq_true (Int.ofNat_lt.mp c7)
      clear c7
      have H' := Aside0.mk H
      clear H
      go_wp2
      go_meet
      case rel => exact ⟨_, (true), (by first | rfl | (simp; done) | (simp [*]; done)), H', ⟨by first | omega | exact Nat.le_refl _⟩, by repeat (first | exact Drawn0.refl _ | apply Drawn0.step)⟩
    · rw [if_neg c7] at H
      have c7b0 : decide ((t151.size : Int) < (t152.size : Int)) = false := decide_eq_false c7
      have c7b1 : decide (t151.size < t152.size) = false := decide_eq_false (fun h => c7 (Int.ofNat_lt.mpr h))
      clear c7
      have H' := Aside0.mk H
      clear H
      go_wp2
      go_meet
      case rel => exact ⟨_, (false), (by first | rfl | (simp; done) | (simp [*]; done)), H', ⟨by first | omega | exact Nat.le_refl _⟩, by repeat (first | exact Drawn0.refl _ | apply Drawn0.step)⟩
 case rest =>
  clear HC5
  try clear p2
  try clear c4
  try clear c6
  try clear c6b0
  try clear c6b1
  try clear c6b2
  try clear c7
  try clear c7b0
  try clear c7b1
  obtain ⟨kq, x9_4, rfl, HA, HJ4, ⟨mc4, rfl⟩⟩ := hcut
  cases kq with
  | zero => exact absurd HA.out (by simp [idiomref03_cmp.j0])
  | succ kj4 =>
   have H := HA.out
   clear HA
   simp only [idiomref03_cmp.j0] at H
   by_cases c8 : x9_4 = true
   · subst c8
     have H1 : (some (-1)) = some r := by rw [if_pos rfl] at H; exact H
     clear H
     have H := H1
     clear H1
     obtain rfl := Option.some.inj H
     go_wp2
     go_ret
     exact ⟨by first | rfl | (simp; done) | (simp [*]; done), by repeat (first | exact Drawn0.refl _ | apply Drawn0.step)⟩
   · replace c8 := Bool.eq_false_iff.mpr c8
     subst c8
     have H1 : (if t151.toList = t152.toList then (some 0) else (some 1)) = some r := by rw [if_neg (show ¬ (false = true) by decide)] at H; exact H
     clear H
     have H := H1
     clear H1
     by_cases c9 : t151.toList = t152.toList
     · rw [if_pos c9] at H
       have c9b0 : (t151.toList == t152.toList) = true := beq_iff_eq.mpr c9
       have c9b1 : (t151.toList != t152.toList) = false := bne_eq_false_iff_eq.mpr c9
       clear c9
       obtain rfl := Option.some.inj H
       go_wp2
       go_ret
       exact ⟨by first | rfl | (simp; done) | (simp [*]; done), by repeat (first | exact Drawn0.refl _ | apply Drawn0.step)⟩
     · rw [if_neg c9] at H
       have c9b0 : (t151.toList == t152.toList) = false := beq_eq_false_iff_ne.mpr c9
       have c9b1 : (t151.toList != t152.toList) = true := bne_iff_ne.mpr c9
       obtain rfl := Option.some.inj H
       go_wp2
       go_ret
       exact ⟨by first | rfl | (simp; done) | (simp [*]; done), by repeat (first | exact Drawn0.refl _ | apply Drawn0.step)⟩

end Go.Proofs.YtpmhebdaphjinaaDoor.F
-- Printed by this session's hookprint.py (over the kit's print.py, with hooks). Lean checks it.
namespace Go.Proofs.YtpmhebdaphjinaaDoor.F
open Go.RowKit Go.Proofs.YtpmhebdaphjinaaDoorW.PrintWords Go.Proofs.YtpmhebdaphjinaaDoorW.PrintLast Go.Proofs.YtpmhebdaphjinaaDoorW.PrintMore Go.Proofs.YtpmhebdaphjinaaDoor.Q
attribute [local go_sem] max2_int min2_int max_two min_two max_three min_three max_four min_four   -- for this text's walks alone
set_option linter.unusedVariables false
set_option linter.unusedSimpArgs false

/-! ### idiomref03_sub: function 88 -/
mutual
def idiomref03_sub.l0 : Nat → ByteArray → ByteArray → Option (ByteArray)
 | 0, _, _ => none
 | k + 1, x0, x1 => if (x1.size : Int) < (x0.size : Int) then (if 1 + x1.size ≤ 9223372036854775807 then (idiomref03_sub.l0 k x0 ((⟨#[48]⟩ : ByteArray) ++ x1)) else (none)) else (if 0 ≤ (x0.size : Int) then (if ((x0.size : Int) : Int).toNat ≤ 281474976710656 then (idiomref03_sub.l1 k x0 x1 (List.replicate ((x0.size : Int) : Int).toNat 0) 0 (wrap64 ((x0.size : Int) - 1))) else (none)) else (none))
def idiomref03_sub.l1 : Nat → ByteArray → ByteArray → List Int → Int → Int → Option (ByteArray)
 | 0, _, _, _, _, _ => none
 | k + 1, x0, x1, x5, x6, x7 => if x7 ≥ 0 then (if 0 ≤ x7 then (if x7 < (x0.size : Int) then (if x7 < (x1.size : Int) then (if (wrap64 ((wrap64 ((wrap64 (bt x0 x7)) - (wrap64 (bt x1 x7)))) - x6)) < 0 then (if x7 < (x5.length : Int) then (idiomref03_sub.l1 k x0 x1 (x5.set (x7 : Int).toNat ((wrap64 (48 + (wrap64 ((wrap64 ((wrap64 ((wrap64 (bt x0 x7)) - (wrap64 (bt x1 x7)))) - x6)) + 10)))) % 256)) 1 (wrap64 (x7 - 1))) else (none)) else (if x7 < (x5.length : Int) then (idiomref03_sub.l1 k x0 x1 (x5.set (x7 : Int).toNat ((wrap64 (48 + (wrap64 ((wrap64 ((wrap64 (bt x0 x7)) - (wrap64 (bt x1 x7)))) - x6)))) % 256)) 0 (wrap64 (x7 - 1))) else (none))) else (none)) else (none)) else (none)) else ((idiomref03_Lead.f k (strOfNums x5)).bind fun t158 => (some t158))
end
def idiomref03_sub.f (k : Nat) (a0 : ByteArray) (a1 : ByteArray) : Option (ByteArray) := idiomref03_sub.l0 k a0 a1
theorem idiomref03_sub.mono_l : ∀ k, (∀ y0 y1, LeO (idiomref03_sub.l0 k y0 y1) (idiomref03_sub.l0 (k + 1) y0 y1)) ∧ (∀ y0 y1 y2 y3 y4, LeO (idiomref03_sub.l1 k y0 y1 y2 y3 y4) (idiomref03_sub.l1 (k + 1) y0 y1 y2 y3 y4))
 | 0 => ⟨fun _ _ r h => by simp [idiomref03_sub.l0] at h, fun _ _ _ _ _ r h => by simp [idiomref03_sub.l1] at h⟩
 | k + 1 => by
  obtain ⟨ih0, ih1⟩ := idiomref03_sub.mono_l k
  refine ⟨?_, ?_⟩
  · intro y0 y1
    unfold idiomref03_sub.l0
    repeat' first
    | (with_reducible exact ih0 _ _)
    | (with_reducible exact ih1 _ _ _ _ _)
    | (with_reducible exact idiomref03_Lead.mono _ _)
    | (with_reducible exact LeO.refl _)
    | (with_reducible exact LeO.none _)
    | (with_reducible refine LeO.ite ?_ ?_)
    | (with_reducible refine LeO.bind ?_ (fun _ => ?_))
    | exact ih0 _ _
    | exact ih1 _ _ _ _ _
    | exact idiomref03_Lead.mono _ _
    | exact LeO.none _
    | refine LeO.ite ?_ ?_
    | refine LeO.bind ?_ (fun _ => ?_)
  · intro y0 y1 y2 y3 y4
    unfold idiomref03_sub.l1
    repeat' first
    | (with_reducible exact ih0 _ _)
    | (with_reducible exact ih1 _ _ _ _ _)
    | (with_reducible exact idiomref03_Lead.mono _ _)
    | (with_reducible exact LeO.refl _)
    | (with_reducible exact LeO.none _)
    | (with_reducible refine LeO.ite ?_ ?_)
    | (with_reducible refine LeO.bind ?_ (fun _ => ?_))
    | exact ih0 _ _
    | exact ih1 _ _ _ _ _
    | exact idiomref03_Lead.mono _ _
    | exact LeO.none _
    | refine LeO.ite ?_ ?_
    | refine LeO.bind ?_ (fun _ => ?_)
theorem idiomref03_sub.mono : ∀ a0 a1 k, LeO (idiomref03_sub.f k a0 a1) (idiomref03_sub.f (k + 1) a0 a1) := by
 intro a0 a1 k
 obtain ⟨ih0, ih1⟩ := idiomref03_sub.mono_l k
 unfold idiomref03_sub.f
 repeat' first
  | (with_reducible exact ih0 _ _)
  | (with_reducible exact ih1 _ _ _ _ _)
  | (with_reducible exact idiomref03_Lead.mono _ _)
  | (with_reducible exact LeO.refl _)
  | (with_reducible exact LeO.none _)
  | (with_reducible refine LeO.ite ?_ ?_)
  | (with_reducible refine LeO.bind ?_ (fun _ => ?_))
  | exact ih0 _ _
  | exact ih1 _ _ _ _ _
  | exact idiomref03_Lead.mono _ _
  | exact LeO.none _
  | refine LeO.ite ?_ ?_
  | refine LeO.bind ?_ (fun _ => ?_)
set_option maxHeartbeats 8000000 in
set_option maxRecDepth 100000 in
theorem idiomref03_sub.calls (k : Nat) (a0 : ByteArray) (a1 : ByteArray) (r : ByteArray) (w : World) (h : idiomref03_sub.f k a0 a1 = some r) :
 Calls Tryd.prog 88 #[.string a0, .string a1] w fun e w' => e = .returned (.string r) ∧ Below w.heap.size w w' := by
 have HB := Aside0.mk (Below.refl w.heap.size w)
 have H : (idiomref03_sub.l0 k a0 a1) = some r := h
 clear h
 have H' := Aside0.mk H
 clear H
 go_enter Tryd.func88, Tryd.ntmps88
 go_wp2
 repeat (go_quiet (fail); try go_wp2)
 (try simp only [Act.put, List.setIfInBounds_toArray, List.set_cons_zero, List.set_cons_succ])
 go_loopg [1] k (fun kq v1 w' => ∃ (x1_1 : ByteArray), v1 = .string x1_1 ∧ Aside0 (idiomref03_sub.l0 kq a0 x1_1 = some r) ∧ Aside0 (kq ≤ k) ∧ Aside0 (Below w.heap.size w w'))
 case atStart => exact ⟨(a1), (by first | rfl | (simp; done) | (simp [*]; done)), H', ⟨Nat.le_refl _⟩, ⟨qh HB⟩⟩
 case round =>
  clear H'
  try clear p2
  obtain ⟨x1_1, rfl, HA, HK1, HB⟩ := hrel
  cases gk with
  | zero => exact absurd HA.out (by simp [idiomref03_sub.l0])
  | succ k1 =>
   have H := HA.out
   clear HA
   simp only [idiomref03_sub.l0] at H
   by_cases c3 : (x1_1.size : Int) < (a0.size : Int)
   · rw [if_pos c3] at H
     have c3b0 : decide ((x1_1.size : Int) < (a0.size : Int)) = true := decide_eq_true c3
     have c3b1 : decide (x1_1.size < a0.size) = true := decide_eq_true (Int.ofNat_lt.mp c3)
     clear c3
     by_cases c4 : 1 + x1_1.size ≤ 9223372036854775807
     · rw [if_pos c4] at H
       have c4b0 := eq_true c4
       have c4b1 : decide (1 + x1_1.size ≤ 9223372036854775807) = true := decide_eq_true c4
       try have c4b2 : (9223372036854775807 < 1 + x1_1.size) = False := eq_false (Nat.not_lt.2 c4)
       have H' := Aside0.mk H
       clear H
       go_wp2
       repeat (go_quiet (fail); try go_wp2)
       go_roundg k1
       case measure => have := HK1.out; omega
       case rel => exact ⟨((⟨#[48]⟩ : ByteArray) ++ x1_1), (by first | rfl | (simp; done) | (simp [*]; done)), H', ⟨by have := HK1.out; omega⟩, ⟨qh HB⟩⟩
     · rw [if_neg c4] at H
       exact absurd H (by simp)
   · rw [if_neg c3] at H
     have c3b0 : decide ((x1_1.size : Int) < (a0.size : Int)) = false := decide_eq_false c3
     have c3b1 : decide (x1_1.size < a0.size) = false := decide_eq_false (fun h => c3 (Int.ofNat_lt.mpr h))
     clear c3
     by_cases c5 : 0 ≤ (a0.size : Int)
     · rw [if_pos c5] at H
       have c5b0 := eq_true c5
       have c5b1 : decide (0 ≤ (a0.size : Int)) = true := decide_eq_true c5
       clear c5
       by_cases c6 : ((a0.size : Int) : Int).toNat ≤ 281474976710656
       · rw [if_pos c6] at H
         have c6b0 := eq_true c6
         have c6b1 : decide (((a0.size : Int) : Int).toNat ≤ 281474976710656) = true := decide_eq_true c6
         clear c6
         obtain ⟨y153, hy153⟩ : ∃ y_ : List Int, y_ = (List.replicate ((a0.size : Int) : Int).toNat 0) := ⟨_, rfl⟩
         replace H : (idiomref03_sub.l1 k1 a0 x1_1 y153 0 (wrap64 ((a0.size : Int) - 1))) = some r := by first | (rw [hy153]; with_reducible exact H) | (have H2_ := (Option.bind_some _ _).symm.trans H; rw [hy153]; with_reducible exact H2_) | (have H2_ := (Option.bind_some _ _).symm.trans H; with_reducible exact H2_) | with_reducible exact H | (rw [hy153]; exact H) | exact H
         have Ny153 := Aside0.mk hy153
         clear hy153
         have H' := Aside0.mk H
         clear H
         go_wp2_with (first | ((with_reducible refine gate_dst (N := 18) rfl ?_); refine Kd.R_make (Kd.int .u8) _ 5 rfl (N := 18) rfl 69 _ _ rfl (a0.size : Int) rfl rfl Tryd.underlying69 (.int .u8 0) 1 info5 rfl (by decide) (by omega) 0 (ok := fun _ => True) (okp := fun _ => True) rfl (fun _ hk => hk) trivial (of_decide_eq_true qa) (Nat.le_trans (Nat.mul_le_mul_right _ (of_decide_eq_true qa : (a0.size : Int).toNat ≤ 281474976710656)) (by omega)) (Below.refl _ _) (Nat.le_refl _) ?_; intro v154 w7 ho8 hb hg_ hnew_; clear hg_ hnew_; (first | rw [← Ny153.out] at ho8 | (simp only [Int.reduceToNat] at ho8; rw [← Ny153.out] at ho8)); have HO155 := Aside0.mk (Kd.R_lower ho8 (below_size (qh HB))); replace HB := qn HB hb; clear hb ho8))
         repeat (go_quiet (first | ((with_reducible refine gate_dst (N := 18) rfl ?_); refine Kd.R_make (Kd.int .u8) _ 5 rfl (N := 18) rfl 69 _ _ rfl (a0.size : Int) rfl rfl Tryd.underlying69 (.int .u8 0) 1 info5 rfl (by decide) (by omega) 0 (ok := fun _ => True) (okp := fun _ => True) rfl (fun _ hk => hk) trivial (of_decide_eq_true qa) (Nat.le_trans (Nat.mul_le_mul_right _ (of_decide_eq_true qa : (a0.size : Int).toNat ≤ 281474976710656)) (by omega)) (Below.refl _ _) (Nat.le_refl _) ?_; intro v154 w7 ho8 hb hg_ hnew_; clear hg_ hnew_; (first | rw [← Ny153.out] at ho8 | (simp only [Int.reduceToNat] at ho8; rw [← Ny153.out] at ho8)); have HO155 := Aside0.mk (Kd.R_lower ho8 (below_size (qh HB))); replace HB := qn HB hb; clear hb ho8)); try go_wp2_with (first | ((with_reducible refine gate_dst (N := 18) rfl ?_); refine Kd.R_make (Kd.int .u8) _ 5 rfl (N := 18) rfl 69 _ _ rfl (a0.size : Int) rfl rfl Tryd.underlying69 (.int .u8 0) 1 info5 rfl (by decide) (by omega) 0 (ok := fun _ => True) (okp := fun _ => True) rfl (fun _ hk => hk) trivial (of_decide_eq_true qa) (Nat.le_trans (Nat.mul_le_mul_right _ (of_decide_eq_true qa : (a0.size : Int).toNat ≤ 281474976710656)) (by omega)) (Below.refl _ _) (Nat.le_refl _) ?_; intro v154 w7 ho8 hb hg_ hnew_; clear hg_ hnew_; (first | rw [← Ny153.out] at ho8 | (simp only [Int.reduceToNat] at ho8; rw [← Ny153.out] at ho8)); have HO155 := Aside0.mk (Kd.R_lower ho8 (below_size (qh HB))); replace HB := qn HB hb; clear hb ho8)))
         (try simp only [Act.put, List.setIfInBounds_toArray, List.set_cons_zero, List.set_cons_succ])
         go_loopg [6, 7] k1 (fun kq v6 v7 w' => ∃ (x5_2 : List Int) (x6_2 : Int) (x7_2 : Int), v6 = .int .i64 x6_2 ∧ v7 = .int .i64 x7_2 ∧ Aside0 (idiomref03_sub.l1 kq a0 x1_1 x5_2 x6_2 x7_2 = some r) ∧ Aside0 (kq ≤ k1) ∧ Aside0 (Kd.R (Kd.int .u8) 5 w' w.heap.size (fun _ => True) v154 x5_2) ∧ Aside0 (Below w.heap.size w w'))
         case atStart => exact ⟨(y153), (0), (wrap64 ((a0.size : Int) - 1)), (by first | rfl | (simp; done) | (simp [*]; done)), (by first | rfl | (simp; done) | (simp [*]; done)), H', ⟨Nat.le_refl _⟩, ⟨by (with_reducible repeat (first | apply Kd.R_alloc | apply Kd.R_drewN | apply Kd.R_drew)); exact HO155.out⟩, ⟨qh HB⟩⟩
         case round =>
          clear H'
          try clear p2
          try clear c3
          try clear c3b0
          try clear c3b1
          try clear c4
          try clear c4b0
          try clear c4b1
          try clear c4b2
          try clear c5
          try clear c5b0
          try clear c5b1
          try clear c6
          try clear c6b0
          try clear c6b1
          try clear p6
          try clear c8
          try clear p2
          obtain ⟨x5_2, x6_2, x7_2, rfl, rfl, HA, HK2, HO_5, HB⟩ := hrel
          cases gk with
          | zero => exact absurd HA.out (by simp [idiomref03_sub.l1])
          | succ k2 =>
           have H := HA.out
           clear HA
           simp only [idiomref03_sub.l1] at H
           by_cases c9 : x7_2 ≥ 0
           · rw [if_pos c9] at H
             have c9b0 : decide (0 ≤ x7_2) = true := decide_eq_true c9
             clear c9
             by_cases c10 : 0 ≤ x7_2
             · rw [if_pos c10] at H
               have c10b0 : decide (0 ≤ x7_2) = true := decide_eq_true c10
               clear c10
               by_cases c11 : x7_2 < (a0.size : Int)
               · rw [if_pos c11] at H
                 have c11b0 : decide (x7_2 < (a0.size : Int)) = true := decide_eq_true c11
                 clear c11
                 by_cases c13 : x7_2 < (x1_1.size : Int)
                 · rw [if_pos c13] at H
                   have c13b0 : decide (x7_2 < (x1_1.size : Int)) = true := decide_eq_true c13
                   clear c13
                   by_cases c15 : (wrap64 ((wrap64 ((wrap64 (bt a0 x7_2)) - (wrap64 (bt x1_1 x7_2)))) - x6_2)) < 0
                   · rw [if_pos c15] at H
                     have c15b0 : decide ((wrap64 ((wrap64 ((wrap64 (bt a0 x7_2)) - (wrap64 (bt x1_1 x7_2)))) - x6_2)) < 0) = true := decide_eq_true c15
                     clear c15
                     by_cases c16 : x7_2 < (x5_2.length : Int)
                     · rw [if_pos c16] at H
                       have c16b0 : decide (x7_2 < (x5_2.length : Int)) = true := decide_eq_true c16
                       clear c16
                       obtain ⟨y156, hy156⟩ : ∃ y_ : List Int, y_ = (x5_2.set (x7_2 : Int).toNat ((wrap64 (48 + (wrap64 ((wrap64 ((wrap64 ((wrap64 (bt a0 x7_2)) - (wrap64 (bt x1_1 x7_2)))) - x6_2)) + 10)))) % 256)) := ⟨_, rfl⟩
                       replace H : (idiomref03_sub.l1 k2 a0 x1_1 y156 1 (wrap64 (x7_2 - 1))) = some r := by first | (rw [hy156]; with_reducible exact H) | (have H2_ := (Option.bind_some _ _).symm.trans H; rw [hy156]; with_reducible exact H2_) | (have H2_ := (Option.bind_some _ _).symm.trans H; with_reducible exact H2_) | with_reducible exact H | (rw [hy156]; exact H) | exact H
                       have Ny156 := Aside0.mk hy156
                       clear hy156
                       have H' := Aside0.mk H
                       clear H
                       have p12 : 0 ≤ (x7_2 : Int) := of_decide_eq_true qa
                       have q12 : x7_2 < (a0.size : Int) := of_decide_eq_true qa
                       have hx12 := bt_at a0 x7_2
                       replace p12 := eq_true p12
                       replace q12 := eq_true q12
                       have p14 : 0 ≤ (x7_2 : Int) := of_decide_eq_true qa
                       have q14 : x7_2 < (x1_1.size : Int) := of_decide_eq_true qa
                       have hx14 := bt_at x1_1 x7_2
                       replace p14 := eq_true p14
                       replace q14 := eq_true q14
                       have p17 : 0 ≤ (x7_2 : Int) := of_decide_eq_true qa
                       have q17 : (x7_2 : Int) < ((x5_2.length : Int) : Int) := of_decide_eq_true qa
                       obtain ⟨go17, co17, eo17, gb17, gl17, cl17, HG17⟩ := Kd.R_form HO_5.out (by omega)
                       (first | cases eo17 | (injection eo17 with ea_ en_ ec_; (first | subst ea_ | (injection ea_ with ea_; subst ea_)); subst ec_; clear en_))
                       have GB17 := Aside0.mk gb17
                       have GG17 := Aside0.mk HG17
                       clear gb17 gl17 HG17
                       obtain ⟨hx17_0, hf17_0⟩ := Kd.R_celln 0 HO_5.out (x7_2 : Int) p17 q17
                       replace p17 := eq_true p17
                       replace q17 := eq_true q17
                       have HP18 := Kd.R_putg HO_5.out (x7_2 : Int) ((wrap64 (48 + (wrap64 ((wrap64 ((wrap64 ((wrap64 (bt a0 x7_2)) - (wrap64 (bt x1_1 x7_2)))) - x6_2)) + 10)))) % 256)
                       go_wp2_with (first | ((with_reducible refine gate_store (t := 5) (p := 46) rfl ?_); (try (rw [drewN_self wr]; generalize hq_ : World.drewN wr _ = wr; have n0_ := Aside0.mk (Kd.R_at hq_ HO_5.out); have n1_ := Aside0.mk (below_at hq_ HB.out); clear hq_ HO_5 HB; have HO_5 := n0_; have HB := n1_; clear n0_ n1_; (try (have HP18 := Kd.R_putg HO_5.out (x7_2 : Int) ((wrap64 (48 + (wrap64 ((wrap64 ((wrap64 ((wrap64 (bt a0 x7_2)) - (wrap64 (bt x1_1 x7_2)))) - x6_2)) + 10)))) % 256))))); refine store_event (t := 5) (p := 46) (v := ?vo_w19) (w1 := (wr.setCell ⟨go17, (x7_2 : Int).toNat, none⟩ (.int .u8 ((wrap64 (48 + (wrap64 ((wrap64 ((wrap64 ((wrap64 (bt a0 x7_2)) - (wrap64 (bt x1_1 x7_2)))) - x6_2)) + 10)))) % 256)))) ?hg ?ho ?hn ?hr ?_; (case ho => rfl); (case hg => rfl); (case hn => rfl); (case hr => first | (go_simp; done) | (go_simp; rfl)); intro w19 hw; have hg : wr.grownBy w19 (some go17) := (by rw [hw]; exact HP18.2); have hp_ : Kd.R (Kd.int .u8) 5 w19 w.heap.size (fun _ => True) (.slice (some ⟨go17, 0, none⟩) x5_2.length co17) y156 := (by rw [hw, Ny156.out]; exact HP18.1); clear HP18; replace HO_5 := Aside0.mk (hp_); replace HB := Aside0.mk ((by rw [hw]; exact below_set (HB.out) GB17.out : Below w.heap.size w w19)); clear hg hw hp_))
                       repeat (go_quiet (first | ((with_reducible refine gate_store (t := 5) (p := 46) rfl ?_); (try (rw [drewN_self wr]; generalize hq_ : World.drewN wr _ = wr; have n0_ := Aside0.mk (Kd.R_at hq_ HO_5.out); have n1_ := Aside0.mk (below_at hq_ HB.out); clear hq_ HO_5 HB; have HO_5 := n0_; have HB := n1_; clear n0_ n1_; (try (have HP18 := Kd.R_putg HO_5.out (x7_2 : Int) ((wrap64 (48 + (wrap64 ((wrap64 ((wrap64 ((wrap64 (bt a0 x7_2)) - (wrap64 (bt x1_1 x7_2)))) - x6_2)) + 10)))) % 256))))); refine store_event (t := 5) (p := 46) (v := ?vo_w19) (w1 := (wr.setCell ⟨go17, (x7_2 : Int).toNat, none⟩ (.int .u8 ((wrap64 (48 + (wrap64 ((wrap64 ((wrap64 ((wrap64 (bt a0 x7_2)) - (wrap64 (bt x1_1 x7_2)))) - x6_2)) + 10)))) % 256)))) ?hg ?ho ?hn ?hr ?_; (case ho => rfl); (case hg => rfl); (case hn => rfl); (case hr => first | (go_simp; done) | (go_simp; rfl)); intro w19 hw; have hg : wr.grownBy w19 (some go17) := (by rw [hw]; exact HP18.2); have hp_ : Kd.R (Kd.int .u8) 5 w19 w.heap.size (fun _ => True) (.slice (some ⟨go17, 0, none⟩) x5_2.length co17) y156 := (by rw [hw, Ny156.out]; exact HP18.1); clear HP18; replace HO_5 := Aside0.mk (hp_); replace HB := Aside0.mk ((by rw [hw]; exact below_set (HB.out) GB17.out : Below w.heap.size w w19)); clear hg hw hp_)); try go_wp2_with (first | ((with_reducible refine gate_store (t := 5) (p := 46) rfl ?_); (try (rw [drewN_self wr]; generalize hq_ : World.drewN wr _ = wr; have n0_ := Aside0.mk (Kd.R_at hq_ HO_5.out); have n1_ := Aside0.mk (below_at hq_ HB.out); clear hq_ HO_5 HB; have HO_5 := n0_; have HB := n1_; clear n0_ n1_; (try (have HP18 := Kd.R_putg HO_5.out (x7_2 : Int) ((wrap64 (48 + (wrap64 ((wrap64 ((wrap64 ((wrap64 (bt a0 x7_2)) - (wrap64 (bt x1_1 x7_2)))) - x6_2)) + 10)))) % 256))))); refine store_event (t := 5) (p := 46) (v := ?vo_w19) (w1 := (wr.setCell ⟨go17, (x7_2 : Int).toNat, none⟩ (.int .u8 ((wrap64 (48 + (wrap64 ((wrap64 ((wrap64 ((wrap64 (bt a0 x7_2)) - (wrap64 (bt x1_1 x7_2)))) - x6_2)) + 10)))) % 256)))) ?hg ?ho ?hn ?hr ?_; (case ho => rfl); (case hg => rfl); (case hn => rfl); (case hr => first | (go_simp; done) | (go_simp; rfl)); intro w19 hw; have hg : wr.grownBy w19 (some go17) := (by rw [hw]; exact HP18.2); have hp_ : Kd.R (Kd.int .u8) 5 w19 w.heap.size (fun _ => True) (.slice (some ⟨go17, 0, none⟩) x5_2.length co17) y156 := (by rw [hw, Ny156.out]; exact HP18.1); clear HP18; replace HO_5 := Aside0.mk (hp_); replace HB := Aside0.mk ((by rw [hw]; exact below_set (HB.out) GB17.out : Below w.heap.size w w19)); clear hg hw hp_)))
                       go_roundg k2
                       case measure => have := HK1.out; have := HK2.out; omega
                       case rel => exact ⟨(y156), (1), (wrap64 (x7_2 - 1)), (by first | rfl | (simp; done) | (simp [*]; done)), (by first | rfl | (simp; done) | (simp [*]; done)), H', ⟨by have := HK1.out; have := HK2.out; omega⟩, ⟨by (with_reducible repeat (first | apply Kd.R_alloc | apply Kd.R_drewN | apply Kd.R_drew)); first | exact HO_5.out | (rw [Ny156.out]; exact Aid.R_set_drew HP18.1)⟩, ⟨by repeat (first | (with_reducible first | exact HB.out | apply below_alloc | apply pw_below_drewN | apply below_drew1) | refine below_set ?_ GB17.out | exact HB.out)⟩⟩
                     · rw [if_neg c16] at H
                       exact absurd H (by simp)
                   · rw [if_neg c15] at H
                     have c15b0 : decide ((wrap64 ((wrap64 ((wrap64 (bt a0 x7_2)) - (wrap64 (bt x1_1 x7_2)))) - x6_2)) < 0) = false := decide_eq_false c15
                     clear c15
                     by_cases c20 : x7_2 < (x5_2.length : Int)
                     · rw [if_pos c20] at H
                       have c20b0 : decide (x7_2 < (x5_2.length : Int)) = true := decide_eq_true c20
                       clear c20
                       obtain ⟨y157, hy157⟩ : ∃ y_ : List Int, y_ = (x5_2.set (x7_2 : Int).toNat ((wrap64 (48 + (wrap64 ((wrap64 ((wrap64 (bt a0 x7_2)) - (wrap64 (bt x1_1 x7_2)))) - x6_2)))) % 256)) := ⟨_, rfl⟩
                       replace H : (idiomref03_sub.l1 k2 a0 x1_1 y157 0 (wrap64 (x7_2 - 1))) = some r := by first | (rw [hy157]; with_reducible exact H) | (have H2_ := (Option.bind_some _ _).symm.trans H; rw [hy157]; with_reducible exact H2_) | (have H2_ := (Option.bind_some _ _).symm.trans H; with_reducible exact H2_) | with_reducible exact H | (rw [hy157]; exact H) | exact H
                       have Ny157 := Aside0.mk hy157
                       clear hy157
                       have H' := Aside0.mk H
                       clear H
                       have p12 : 0 ≤ (x7_2 : Int) := of_decide_eq_true qa
                       have q12 : x7_2 < (a0.size : Int) := of_decide_eq_true qa
                       have hx12 := bt_at a0 x7_2
                       replace p12 := eq_true p12
                       replace q12 := eq_true q12
                       have p14 : 0 ≤ (x7_2 : Int) := of_decide_eq_true qa
                       have q14 : x7_2 < (x1_1.size : Int) := of_decide_eq_true qa
                       have hx14 := bt_at x1_1 x7_2
                       replace p14 := eq_true p14
                       replace q14 := eq_true q14
                       have p21 : 0 ≤ (x7_2 : Int) := of_decide_eq_true qa
                       have q21 : (x7_2 : Int) < ((x5_2.length : Int) : Int) := of_decide_eq_true qa
                       obtain ⟨go21, co21, eo21, gb21, gl21, cl21, HG21⟩ := Kd.R_form HO_5.out (by omega)
                       (first | cases eo21 | (injection eo21 with ea_ en_ ec_; (first | subst ea_ | (injection ea_ with ea_; subst ea_)); subst ec_; clear en_))
                       have GB21 := Aside0.mk gb21
                       have GG21 := Aside0.mk HG21
                       clear gb21 gl21 HG21
                       obtain ⟨hx21_0, hf21_0⟩ := Kd.R_celln 0 HO_5.out (x7_2 : Int) p21 q21
                       replace p21 := eq_true p21
                       replace q21 := eq_true q21
                       have HP22 := Kd.R_putg HO_5.out (x7_2 : Int) ((wrap64 (48 + (wrap64 ((wrap64 ((wrap64 (bt a0 x7_2)) - (wrap64 (bt x1_1 x7_2)))) - x6_2)))) % 256)
                       go_wp2_with (first | ((with_reducible refine gate_store (t := 5) (p := 46) rfl ?_); (try (rw [drewN_self wr]; generalize hq_ : World.drewN wr _ = wr; have n0_ := Aside0.mk (Kd.R_at hq_ HO_5.out); have n1_ := Aside0.mk (below_at hq_ HB.out); clear hq_ HO_5 HB; have HO_5 := n0_; have HB := n1_; clear n0_ n1_; (try (have HP22 := Kd.R_putg HO_5.out (x7_2 : Int) ((wrap64 (48 + (wrap64 ((wrap64 ((wrap64 (bt a0 x7_2)) - (wrap64 (bt x1_1 x7_2)))) - x6_2)))) % 256))))); refine store_event (t := 5) (p := 46) (v := ?vo_w23) (w1 := (wr.setCell ⟨go21, (x7_2 : Int).toNat, none⟩ (.int .u8 ((wrap64 (48 + (wrap64 ((wrap64 ((wrap64 (bt a0 x7_2)) - (wrap64 (bt x1_1 x7_2)))) - x6_2)))) % 256)))) ?hg ?ho ?hn ?hr ?_; (case ho => rfl); (case hg => rfl); (case hn => rfl); (case hr => first | (go_simp; done) | (go_simp; rfl)); intro w23 hw; have hg : wr.grownBy w23 (some go21) := (by rw [hw]; exact HP22.2); have hp_ : Kd.R (Kd.int .u8) 5 w23 w.heap.size (fun _ => True) (.slice (some ⟨go21, 0, none⟩) x5_2.length co21) y157 := (by rw [hw, Ny157.out]; exact HP22.1); clear HP22; replace HO_5 := Aside0.mk (hp_); replace HB := Aside0.mk ((by rw [hw]; exact below_set (HB.out) GB21.out : Below w.heap.size w w23)); clear hg hw hp_))
                       repeat (go_quiet (first | ((with_reducible refine gate_store (t := 5) (p := 46) rfl ?_); (try (rw [drewN_self wr]; generalize hq_ : World.drewN wr _ = wr; have n0_ := Aside0.mk (Kd.R_at hq_ HO_5.out); have n1_ := Aside0.mk (below_at hq_ HB.out); clear hq_ HO_5 HB; have HO_5 := n0_; have HB := n1_; clear n0_ n1_; (try (have HP22 := Kd.R_putg HO_5.out (x7_2 : Int) ((wrap64 (48 + (wrap64 ((wrap64 ((wrap64 (bt a0 x7_2)) - (wrap64 (bt x1_1 x7_2)))) - x6_2)))) % 256))))); refine store_event (t := 5) (p := 46) (v := ?vo_w23) (w1 := (wr.setCell ⟨go21, (x7_2 : Int).toNat, none⟩ (.int .u8 ((wrap64 (48 + (wrap64 ((wrap64 ((wrap64 (bt a0 x7_2)) - (wrap64 (bt x1_1 x7_2)))) - x6_2)))) % 256)))) ?hg ?ho ?hn ?hr ?_; (case ho => rfl); (case hg => rfl); (case hn => rfl); (case hr => first | (go_simp; done) | (go_simp; rfl)); intro w23 hw; have hg : wr.grownBy w23 (some go21) := (by rw [hw]; exact HP22.2); have hp_ : Kd.R (Kd.int .u8) 5 w23 w.heap.size (fun _ => True) (.slice (some ⟨go21, 0, none⟩) x5_2.length co21) y157 := (by rw [hw, Ny157.out]; exact HP22.1); clear HP22; replace HO_5 := Aside0.mk (hp_); replace HB := Aside0.mk ((by rw [hw]; exact below_set (HB.out) GB21.out : Below w.heap.size w w23)); clear hg hw hp_)); try go_wp2_with (first | ((with_reducible refine gate_store (t := 5) (p := 46) rfl ?_); (try (rw [drewN_self wr]; generalize hq_ : World.drewN wr _ = wr; have n0_ := Aside0.mk (Kd.R_at hq_ HO_5.out); have n1_ := Aside0.mk (below_at hq_ HB.out); clear hq_ HO_5 HB; have HO_5 := n0_; have HB := n1_; clear n0_ n1_; (try (have HP22 := Kd.R_putg HO_5.out (x7_2 : Int) ((wrap64 (48 + (wrap64 ((wrap64 ((wrap64 (bt a0 x7_2)) - (wrap64 (bt x1_1 x7_2)))) - x6_2)))) % 256))))); refine store_event (t := 5) (p := 46) (v := ?vo_w23) (w1 := (wr.setCell ⟨go21, (x7_2 : Int).toNat, none⟩ (.int .u8 ((wrap64 (48 + (wrap64 ((wrap64 ((wrap64 (bt a0 x7_2)) - (wrap64 (bt x1_1 x7_2)))) - x6_2)))) % 256)))) ?hg ?ho ?hn ?hr ?_; (case ho => rfl); (case hg => rfl); (case hn => rfl); (case hr => first | (go_simp; done) | (go_simp; rfl)); intro w23 hw; have hg : wr.grownBy w23 (some go21) := (by rw [hw]; exact HP22.2); have hp_ : Kd.R (Kd.int .u8) 5 w23 w.heap.size (fun _ => True) (.slice (some ⟨go21, 0, none⟩) x5_2.length co21) y157 := (by rw [hw, Ny157.out]; exact HP22.1); clear HP22; replace HO_5 := Aside0.mk (hp_); replace HB := Aside0.mk ((by rw [hw]; exact below_set (HB.out) GB21.out : Below w.heap.size w w23)); clear hg hw hp_)))
                       go_roundg k2
                       case measure => have := HK1.out; have := HK2.out; omega
                       case rel => exact ⟨(y157), (0), (wrap64 (x7_2 - 1)), (by first | rfl | (simp; done) | (simp [*]; done)), (by first | rfl | (simp; done) | (simp [*]; done)), H', ⟨by have := HK1.out; have := HK2.out; omega⟩, ⟨by (with_reducible repeat (first | apply Kd.R_alloc | apply Kd.R_drewN | apply Kd.R_drew)); first | exact HO_5.out | (rw [Ny157.out]; exact Aid.R_set_drew HP22.1)⟩, ⟨by repeat (first | (with_reducible first | exact HB.out | apply below_alloc | apply pw_below_drewN | apply below_drew1) | refine below_set ?_ GB21.out | exact HB.out)⟩⟩
                     · rw [if_neg c20] at H
                       exact absurd H (by simp)
                 · rw [if_neg c13] at H
                   exact absurd H (by simp)
               · rw [if_neg c11] at H
                 exact absurd H (by simp)
             · rw [if_neg c10] at H
               exact absurd H (by simp)
           · rw [if_neg c9] at H
             have c9b0 : decide (0 ≤ x7_2) = false := decide_eq_false c9
             clear c9
             replace H := Option.bind_eq_some_iff.mp H
             obtain ⟨t158, A240, H⟩ := H
             replace H : (some t158) = some r := H
             have A24 := Aside0.mk A240
             clear A240
             obtain rfl := Option.some.inj H
             have hcv25 := own_string (P := Tryd.prog) Tryd.underlying69 Tryd.underlying5 Tryd.underlying9 (Kd.own_of_R HO_5.out)
             go_wp2_with (first | (go_at_call 41; (with_reducible refine (idiomref03_Lead.calls k2 (strOfNums x5_2) t158 _ A24.out).mono ?_); rintro e w' ⟨rfl, ⟨nd, rfl⟩⟩; (try first | exact ⟨rfl, _, World.drewN_drewN _ _ _⟩ | exact ⟨rfl, _, Eq.trans (World.drewN_drewN _ _ _) (congrArg (World.drewN _) (Nat.add_assoc _ _ _))⟩)))
             repeat (go_quiet (first | (go_at_call 41; (with_reducible refine (idiomref03_Lead.calls k2 (strOfNums x5_2) t158 _ A24.out).mono ?_); rintro e w' ⟨rfl, ⟨nd, rfl⟩⟩; (try first | exact ⟨rfl, _, World.drewN_drewN _ _ _⟩ | exact ⟨rfl, _, Eq.trans (World.drewN_drewN _ _ _) (congrArg (World.drewN _) (Nat.add_assoc _ _ _))⟩))); try go_wp2_with (first | (go_at_call 41; (with_reducible refine (idiomref03_Lead.calls k2 (strOfNums x5_2) t158 _ A24.out).mono ?_); rintro e w' ⟨rfl, ⟨nd, rfl⟩⟩; (try first | exact ⟨rfl, _, World.drewN_drewN _ _ _⟩ | exact ⟨rfl, _, Eq.trans (World.drewN_drewN _ _ _) (congrArg (World.drewN _) (Nat.add_assoc _ _ _))⟩))))
             go_ret
             exact ⟨qe, qh HB⟩
       · rw [if_neg c6] at H
         exact absurd H (by simp)
     · rw [if_neg c5] at H
       exact absurd H (by simp)

end Go.Proofs.YtpmhebdaphjinaaDoor.F
-- Printed by this session's hookprint.py (over the kit's print.py, with hooks). Lean checks it.
namespace Go.Proofs.YtpmhebdaphjinaaDoor.F
open Go.RowKit Go.Proofs.YtpmhebdaphjinaaDoorW.PrintWords Go.Proofs.YtpmhebdaphjinaaDoorW.PrintLast Go.Proofs.YtpmhebdaphjinaaDoorW.PrintMore Go.Proofs.YtpmhebdaphjinaaDoor.Q
attribute [local go_sem] max2_int min2_int max_two min_two max_three min_three max_four min_four   -- for this text's walks alone
set_option linter.unusedVariables false
set_option linter.unusedSimpArgs false

/-! ### idiomref03_quo: function 54 -/
mutual
def idiomref03_quo.l0 : Nat → ByteArray → ByteArray → List Int → ByteArray → Int → Option (ByteArray × ByteArray)
 | 0, _, _, _, _, _ => none
 | k + 1, x0, x1, x6, x7, x8 => if x8 < (x0.size : Int) then (if 0 ≤ x8 then (if x8 ≤ (wrap64 (x8 + 1)) then (if (wrap64 (x8 + 1)) ≤ (x0.size : Int) then (if x7.size + (x0.extract (x8 : Int).toNat ((wrap64 (x8 + 1)) : Int).toNat).size ≤ 9223372036854775807 then ((idiomref03_Lead.f k (x7 ++ (x0.extract (x8 : Int).toNat ((wrap64 (x8 + 1)) : Int).toNat))).bind fun t163 => (idiomref03_quo.l1 k x0 x1 x6 t163 x8 48)) else (none)) else (none)) else (none)) else (none)) else ((idiomref03_Lead.f k (strOfNums x6)).bind fun t162 => (some (t162, x7)))
def idiomref03_quo.l1 : Nat → ByteArray → ByteArray → List Int → ByteArray → Int → Int → Option (ByteArray × ByteArray)
 | 0, _, _, _, _, _, _ => none
 | k + 1, x0, x1, x6, x7, x8, x9 => (idiomref03_cmp.f k x7 x1).bind fun t164 => (if t164 ≥ 0 then ((idiomref03_sub.f k x7 x1).bind fun t165 => (idiomref03_quo.l1 k x0 x1 x6 t165 x8 ((x9 + 1) % 256))) else (if x6.length < 140737488355328 then (idiomref03_quo.l0 k x0 x1 (x6 ++ [x9]) x7 (wrap64 (x8 + 1))) else (none)))
end
def idiomref03_quo.f (k : Nat) (a0 : ByteArray) (a1 : ByteArray) : Option (ByteArray × ByteArray) := idiomref03_quo.l0 k a0 a1 (([] : List Int)) (⟨#[48]⟩ : ByteArray) 0
theorem idiomref03_quo.mono_l : ∀ k, (∀ y0 y1 y2 y3 y4, LeO (idiomref03_quo.l0 k y0 y1 y2 y3 y4) (idiomref03_quo.l0 (k + 1) y0 y1 y2 y3 y4)) ∧ (∀ y0 y1 y2 y3 y4 y5, LeO (idiomref03_quo.l1 k y0 y1 y2 y3 y4 y5) (idiomref03_quo.l1 (k + 1) y0 y1 y2 y3 y4 y5))
 | 0 => ⟨fun _ _ _ _ _ r h => by simp [idiomref03_quo.l0] at h, fun _ _ _ _ _ _ r h => by simp [idiomref03_quo.l1] at h⟩
 | k + 1 => by
  obtain ⟨ih0, ih1⟩ := idiomref03_quo.mono_l k
  refine ⟨?_, ?_⟩
  · intro y0 y1 y2 y3 y4
    unfold idiomref03_quo.l0
    repeat' first
    | (with_reducible exact ih0 _ _ _ _ _)
    | (with_reducible exact ih1 _ _ _ _ _ _)
    | (with_reducible exact idiomref03_Lead.mono _ _)
    | (with_reducible exact idiomref03_cmp.mono _ _ _)
    | (with_reducible exact idiomref03_sub.mono _ _ _)
    | (with_reducible exact LeO.refl _)
    | (with_reducible exact LeO.none _)
    | (with_reducible refine LeO.ite ?_ ?_)
    | (with_reducible refine LeO.bind ?_ (fun _ => ?_))
    | exact ih0 _ _ _ _ _
    | exact ih1 _ _ _ _ _ _
    | exact idiomref03_Lead.mono _ _
    | exact idiomref03_cmp.mono _ _ _
    | exact idiomref03_sub.mono _ _ _
    | exact LeO.none _
    | refine LeO.ite ?_ ?_
    | refine LeO.bind ?_ (fun _ => ?_)
  · intro y0 y1 y2 y3 y4 y5
    unfold idiomref03_quo.l1
    repeat' first
    | (with_reducible exact ih0 _ _ _ _ _)
    | (with_reducible exact ih1 _ _ _ _ _ _)
    | (with_reducible exact idiomref03_Lead.mono _ _)
    | (with_reducible exact idiomref03_cmp.mono _ _ _)
    | (with_reducible exact idiomref03_sub.mono _ _ _)
    | (with_reducible exact LeO.refl _)
    | (with_reducible exact LeO.none _)
    | (with_reducible refine LeO.ite ?_ ?_)
    | (with_reducible refine LeO.bind ?_ (fun _ => ?_))
    | exact ih0 _ _ _ _ _
    | exact ih1 _ _ _ _ _ _
    | exact idiomref03_Lead.mono _ _
    | exact idiomref03_cmp.mono _ _ _
    | exact idiomref03_sub.mono _ _ _
    | exact LeO.none _
    | refine LeO.ite ?_ ?_
    | refine LeO.bind ?_ (fun _ => ?_)
theorem idiomref03_quo.mono : ∀ a0 a1 k, LeO (idiomref03_quo.f k a0 a1) (idiomref03_quo.f (k + 1) a0 a1) := by
 intro a0 a1 k
 obtain ⟨ih0, ih1⟩ := idiomref03_quo.mono_l k
 unfold idiomref03_quo.f
 repeat' first
  | (with_reducible exact ih0 _ _ _ _ _)
  | (with_reducible exact ih1 _ _ _ _ _ _)
  | (with_reducible exact idiomref03_Lead.mono _ _)
  | (with_reducible exact idiomref03_cmp.mono _ _ _)
  | (with_reducible exact idiomref03_sub.mono _ _ _)
  | (with_reducible exact LeO.refl _)
  | (with_reducible exact LeO.none _)
  | (with_reducible refine LeO.ite ?_ ?_)
  | (with_reducible refine LeO.bind ?_ (fun _ => ?_))
  | exact ih0 _ _ _ _ _
  | exact ih1 _ _ _ _ _ _
  | exact idiomref03_Lead.mono _ _
  | exact idiomref03_cmp.mono _ _ _
  | exact idiomref03_sub.mono _ _ _
  | exact LeO.none _
  | refine LeO.ite ?_ ?_
  | refine LeO.bind ?_ (fun _ => ?_)
set_option maxHeartbeats 8000000 in
set_option maxRecDepth 100000 in
theorem idiomref03_quo.calls (k : Nat) (a0 : ByteArray) (a1 : ByteArray) (r1 : ByteArray) (r2 : ByteArray) (w : World) (h : idiomref03_quo.f k a0 a1 = some (r1, r2)) :
 Calls Tryd.prog 54 #[.string a0, .string a1] w fun e w' => e = .returned (.tuple #[.string r1, .string r2]) ∧ Below w.heap.size w w' := by
 have HB := Aside0.mk (Below.refl w.heap.size w)
 have H : (idiomref03_quo.l0 k a0 a1 (([] : List Int)) (⟨#[48]⟩ : ByteArray) 0) = some (r1, r2) := h
 clear h
 obtain ⟨y159, hy159⟩ : ∃ y_ : List Int, y_ = (([] : List Int)) := ⟨_, rfl⟩
 replace H : (idiomref03_quo.l0 k a0 a1 y159 (⟨#[48]⟩ : ByteArray) 0) = some (r1, r2) := by first | (rw [hy159]; with_reducible exact H) | (have H2_ := (Option.bind_some _ _).symm.trans H; rw [hy159]; with_reducible exact H2_) | (have H2_ := (Option.bind_some _ _).symm.trans H; with_reducible exact H2_) | with_reducible exact H | (rw [hy159]; exact H) | exact H
 have Ny159 := Aside0.mk hy159
 clear hy159
 have H' := Aside0.mk H
 clear H
 go_enter Tryd.func54, Tryd.ntmps54
 go_wp2_with (first | ((with_reducible refine gate_dst (N := 10) rfl ?_); refine Kd.R_lit (Kd.int .u8) _ 5 ?hg (N := 10) ?hd (xs := ([] : List Int)) (inner := []) (ok := fun _ => True) (okp := fun _ => True) ?hr ?hp (fun _ hk => hk) trivial (Below.refl _ _) (Nat.le_refl _) (by simp) ?_; (case hd => rfl); (case hg => rfl); (case hr => first | (go_simp; done) | (go_simp; rfl)); (case hp => exact (Reps.none _ _)); intro v160 w3 ho4 hb hg_ hnew_; clear hg_ hnew_; (first | rw [← Ny159.out] at ho4 | (simp only [Int.reduceToNat] at ho4; rw [← Ny159.out] at ho4)); have HO161 := Aside0.mk (Kd.R_lower ho4 (below_size (qh HB))); replace HB := qn HB hb; clear hb ho4))
 (try simp only [Act.put, List.setIfInBounds_toArray, List.set_cons_zero, List.set_cons_succ])
 go_loopg [6, 7, 8] k (fun kq v6 v7 v8 w' => ∃ (x6_1 : List Int) (x7_1 : ByteArray) (x8_1 : Int), v7 = .string x7_1 ∧ v8 = .int .i64 x8_1 ∧ Aside0 (idiomref03_quo.l0 kq a0 a1 x6_1 x7_1 x8_1 = some (r1, r2)) ∧ Aside0 (kq ≤ k) ∧ Aside0 (Kd.R (Kd.int .u8) 5 w' w.heap.size (fun _ => True) v6 x6_1) ∧ Aside0 (Below w.heap.size w w'))
 case atStart => exact ⟨(y159), ((⟨#[48]⟩ : ByteArray)), (0), (by first | rfl | (simp; done) | (simp [*]; done)), (by first | rfl | (simp; done) | (simp [*]; done)), H', ⟨Nat.le_refl _⟩, ⟨by (with_reducible repeat (first | apply Kd.R_alloc | apply Kd.R_drewN | apply Kd.R_drew)); exact HO161.out⟩, ⟨qh HB⟩⟩
 case round =>
  clear H'
  try clear p2
  obtain ⟨x6_1, x7_1, x8_1, rfl, rfl, HA, HK1, HO_6, HB⟩ := hrel
  cases gk with
  | zero => exact absurd HA.out (by simp [idiomref03_quo.l0])
  | succ k1 =>
   have H := HA.out
   clear HA
   simp only [idiomref03_quo.l0] at H
   by_cases c5 : x8_1 < (a0.size : Int)
   · rw [if_pos c5] at H
     have c5b0 : decide (x8_1 < (a0.size : Int)) = true := decide_eq_true c5
     clear c5
     by_cases c6 : 0 ≤ x8_1
     · rw [if_pos c6] at H
       have c6b0 := eq_true c6
       have c6b1 : decide (0 ≤ x8_1) = true := decide_eq_true c6
       clear c6
       by_cases c7 : x8_1 ≤ (wrap64 (x8_1 + 1))
       · rw [if_pos c7] at H
         have c7b0 := eq_true c7
         have c7b1 : decide (x8_1 ≤ (wrap64 (x8_1 + 1))) = true := decide_eq_true c7
         by_cases c8 : (wrap64 (x8_1 + 1)) ≤ (a0.size : Int)
         · rw [if_pos c8] at H
           have c8b0 := eq_true c8
           have c8b1 : decide ((wrap64 (x8_1 + 1)) ≤ (a0.size : Int)) = true := decide_eq_true c8
           by_cases c9 : x7_1.size + (a0.extract (x8_1 : Int).toNat ((wrap64 (x8_1 + 1)) : Int).toNat).size ≤ 9223372036854775807
           · rw [if_pos c9] at H
             have c9b0 := eq_true c9
             try have c9b0z := c9b0
             (try simp only [go_sem, ByteArray.size_extract, ByteArray.size_append, Nat.min_self, Int.natCast_add] at c9b0z)
             have c9b1 : decide (x7_1.size + (a0.extract (x8_1 : Int).toNat ((wrap64 (x8_1 + 1)) : Int).toNat).size ≤ 9223372036854775807) = true := decide_eq_true c9
             try have c9b1z := c9b1
             (try simp only [go_sem, ByteArray.size_extract, ByteArray.size_append, Nat.min_self, Int.natCast_add] at c9b1z)
             try have c9b2 : (9223372036854775807 < x7_1.size + (a0.extract (x8_1 : Int).toNat ((wrap64 (x8_1 + 1)) : Int).toNat).size) = False := eq_false (Nat.not_lt.2 c9)
             try have c9b2z := c9b2
             (try simp only [go_sem, ByteArray.size_extract, ByteArray.size_append, Nat.min_self, Int.natCast_add] at c9b2z)
             replace H := Option.bind_eq_some_iff.mp H
             obtain ⟨t163, A100, H⟩ := H
             replace H : (idiomref03_quo.l1 k1 a0 a1 x6_1 t163 x8_1 48) = some (r1, r2) := H
             have A10 := Aside0.mk A100
             clear A100
             have H' := Aside0.mk H
             clear H
             go_wp2_with (first | ((with_reducible refine gate_callee (f := 41) rfl ?_); refine goesL_ (some 24) rfl rfl Tryd.func41 (by kernel_rfl) rfl #[.string (x7_1 ++ (a0.extract (x8_1 : Int).toNat ((wrap64 (x8_1 + 1)) : Int).toNat))] rfl ql ?_; (with_reducible refine (idiomref03_Lead.calls k1 (x7_1 ++ (a0.extract (x8_1 : Int).toNat ((wrap64 (x8_1 + 1)) : Int).toNat)) t163 _ A10.out).mono ?_); rintro e w' ⟨rfl, ⟨nd, rfl⟩⟩; refine ⟨_, rfl, ?_⟩))
             (try simp only [Act.put, List.setIfInBounds_toArray, List.set_cons_zero, List.set_cons_succ])
             go_loopg [7, 9] k1 (fun kq v7 v9 w' => ∃ (x7_2 : ByteArray) (x9_2 : Int), v7 = .string x7_2 ∧ v9 = .int .u8 x9_2 ∧ Aside0 (idiomref03_quo.l1 kq a0 a1 x6_1 x7_2 x8_1 x9_2 = some (r1, r2)) ∧ Aside0 (kq ≤ k1) ∧ Aside0 (Kd.R (Kd.int .u8) 5 w' w.heap.size (fun _ => True) u6 x6_1) ∧ Aside0 (Below w.heap.size w w'))
             case atStart => exact ⟨(t163), (48), (by first | rfl | (simp; done) | (simp [*]; done)), (by first | rfl | (simp; done) | (simp [*]; done)), H', ⟨Nat.le_refl _⟩, ⟨by (with_reducible repeat (first | apply Kd.R_alloc | apply Kd.R_drewN | apply Kd.R_drew)); exact HO_6.out⟩, ⟨qh HB⟩⟩
             case round =>
              clear H'
              try clear p2
              try clear c4
              try clear c5
              try clear c5b0
              try clear c6
              try clear c6b0
              try clear c6b1
              try clear p6
              try clear c7
              try clear c7b0
              try clear c7b1
              try clear c8
              try clear c8b0
              try clear c8b1
              try clear c9
              try clear c9b0
              try clear c9b1
              try clear c9b2
              try clear p2
              obtain ⟨x7_2, x9_2, rfl, rfl, HA, HK2, HO_6, HB⟩ := hrel
              cases gk with
              | zero => exact absurd HA.out (by simp [idiomref03_quo.l1])
              | succ k2 =>
               have H := HA.out
               clear HA
               simp only [idiomref03_quo.l1] at H
               replace H := Option.bind_eq_some_iff.mp H
               obtain ⟨t164, A110, H⟩ := H
               replace H : (if t164 ≥ 0 then ((idiomref03_sub.f k2 x7_2 a1).bind fun t165 => (idiomref03_quo.l1 k2 a0 a1 x6_1 t165 x8_1 ((x9_2 + 1) % 256))) else (if x6_1.length < 140737488355328 then (idiomref03_quo.l0 k2 a0 a1 (x6_1 ++ [x9_2]) x7_2 (wrap64 (x8_1 + 1))) else (none))) = some (r1, r2) := H
               have A11 := Aside0.mk A110
               clear A110
               by_cases c12 : t164 ≥ 0
               · rw [if_pos c12] at H
                 have c12b0 : decide (0 ≤ t164) = true := decide_eq_true c12
                 clear c12
                 replace H := Option.bind_eq_some_iff.mp H
                 obtain ⟨t165, A130, H⟩ := H
                 replace H : (idiomref03_quo.l1 k2 a0 a1 x6_1 t165 x8_1 ((x9_2 + 1) % 256)) = some (r1, r2) := H
                 have A13 := Aside0.mk A130
                 clear A130
                 have H' := Aside0.mk H
                 clear H
                 go_wp2_with (first | ((with_reducible refine gate_callee (f := 87) rfl ?_); refine goesL_ (some 27) rfl rfl Tryd.func87 (by kernel_rfl) rfl #[.string x7_2, .string a1] rfl ql ?_; (with_reducible refine (idiomref03_cmp.calls k2 x7_2 a1 t164 _ A11.out).mono ?_); rintro e w' ⟨rfl, ⟨nd, rfl⟩⟩; refine ⟨_, rfl, ?_⟩) | ((with_reducible refine gate_callee (f := 88) rfl ?_); refine goesL_ (some 31) rfl rfl Tryd.func88 (by kernel_rfl) rfl #[.string x7_2, .string a1] rfl ql ?_; (with_reducible refine (idiomref03_sub.calls k2 x7_2 a1 t165 _ A13.out).mono ?_); rintro e w14 ⟨rfl, hb⟩; refine ⟨_, rfl, ?_⟩; replace HO_6 := Aside0.mk (Kd.R_below (by (with_reducible repeat (first | apply Kd.R_alloc | apply Kd.R_drewN | apply Kd.R_drew)); exact HO_6.out) hb); replace HB := qn HB hb; (try clear hb); (try clear hb2); (try clear hk); (try clear hi)))
                 go_roundg k2
                 case measure => have := HK1.out; have := HK2.out; omega
                 case rel => exact ⟨(t165), ((x9_2 + 1) % 256), (by first | rfl | (simp; done) | (simp [*]; done)), (by first | rfl | (simp; done) | (simp [*]; done)), H', ⟨by have := HK1.out; have := HK2.out; omega⟩, ⟨by (with_reducible repeat (first | apply Kd.R_alloc | apply Kd.R_drewN | apply Kd.R_drew)); exact HO_6.out⟩, ⟨qh HB⟩⟩
               · rw [if_neg c12] at H
                 have c12b0 : decide (0 ≤ t164) = false := decide_eq_false c12
                 clear c12
                 by_cases c15 : x6_1.length < 140737488355328
                 · rw [if_pos c15] at H
                   have LMc15 := Aside0.mk c15
                   clear c15
                   obtain ⟨y166, hy166⟩ : ∃ y_ : List Int, y_ = (x6_1 ++ [x9_2]) := ⟨_, rfl⟩
                   replace H : (idiomref03_quo.l0 k2 a0 a1 y166 x7_2 (wrap64 (x8_1 + 1))) = some (r1, r2) := by first | (rw [hy166]; with_reducible exact H) | (have H2_ := (Option.bind_some _ _).symm.trans H; rw [hy166]; with_reducible exact H2_) | (have H2_ := (Option.bind_some _ _).symm.trans H; with_reducible exact H2_) | with_reducible exact H | (rw [hy166]; exact H) | exact H
                   have Ny166 := Aside0.mk hy166
                   clear hy166
                   have H' := Aside0.mk H
                   clear H
                   go_wp2_with (first | ((with_reducible refine gate_callee (f := 87) rfl ?_); refine goesL_ (some 27) rfl rfl Tryd.func87 (by kernel_rfl) rfl #[.string x7_2, .string a1] rfl ql ?_; (with_reducible refine (idiomref03_cmp.calls k2 x7_2 a1 t164 _ A11.out).mono ?_); rintro e w' ⟨rfl, ⟨nd, rfl⟩⟩; refine ⟨_, rfl, ?_⟩) | ((with_reducible refine gate_builtin (b := .append) (xs := #[.tmp 34, .tmp 36]) rfl ?_); at_builtin; refine Kd.R_append (Kd.int .u8) (w0 := w) w.heap.size rfl (.tmp 34) (.tmp 36) 69 5 (.int .u8 0) 1 rfl Tryd.underlying69 info5 rfl (by decide) (by omega) u6 x6_1 x9_2 [.int .u8 x9_2] (fun _ => True) (fun _ => False) rfl rfl ?aP (fun _ hk => hk.elim) ?aF ?aO ?aB ?aS ?aL ?_; (case aP => exact rfl); (case aB => exact (qh HB)); (case aF => exact (fun _ _ => trivial)); (case aO => exact (by (with_reducible repeat (first | apply Kd.R_alloc | apply Kd.R_drewN | apply Kd.R_drew)); exact HO_6.out)); (case aS => exact (below_size (qh HB))); (case aL => have := LMc15.out; omega); intro v167 w16 ho hb hg hat; rw [← Ny166.out] at ho; have n0_ := Aside0.mk (hb); have n1_ := Aside0.mk (ho); clear HB; clear HO_6; have HB := n0_; have HO168 := n1_; clear n0_ n1_; clear ho hb hg hat))
                   go_roundg k2
                   case measure => have := HK1.out; have := HK2.out; omega
                   case rel => exact ⟨(y166), (x7_2), (wrap64 (x8_1 + 1)), (by first | rfl | (simp; done) | (simp [*]; done)), (by first | rfl | (simp; done) | (simp [*]; done)), H', ⟨by have := HK1.out; have := HK2.out; omega⟩, ⟨by (with_reducible repeat (first | apply Kd.R_alloc | apply Kd.R_drewN | apply Kd.R_drew)); exact HO168.out⟩, ⟨qh HB⟩⟩
                 · rw [if_neg c15] at H
                   exact absurd H (by simp)
           · rw [if_neg c9] at H
             exact absurd H (by simp)
         · rw [if_neg c8] at H
           exact absurd H (by simp)
       · rw [if_neg c7] at H
         exact absurd H (by simp)
     · rw [if_neg c6] at H
       exact absurd H (by simp)
   · rw [if_neg c5] at H
     have c5b0 : decide (x8_1 < (a0.size : Int)) = false := decide_eq_false c5
     clear c5
     replace H := Option.bind_eq_some_iff.mp H
     obtain ⟨t162, A170, H⟩ := H
     replace H : (some (t162, x7_1)) = some (r1, r2) := H
     have A17 := Aside0.mk A170
     clear A170
     simp only [Option.some.injEq, Prod.mk.injEq] at H
     obtain ⟨rfl, rfl⟩ := H
     have hcv18 := own_string (P := Tryd.prog) Tryd.underlying69 Tryd.underlying5 Tryd.underlying9 (Kd.own_of_R HO_6.out)
     go_wp2_with (first | ((with_reducible refine gate_callee (f := 41) rfl ?_); refine goesL_ (some 40) rfl rfl Tryd.func41 (by kernel_rfl) rfl #[.string (strOfNums x6_1)] rfl ql ?_; (with_reducible refine (idiomref03_Lead.calls k1 (strOfNums x6_1) t162 _ A17.out).mono ?_); rintro e w' ⟨rfl, ⟨nd, rfl⟩⟩; refine ⟨_, rfl, ?_⟩))
     go_ret2
     exact ⟨qe, qh HB⟩

end Go.Proofs.YtpmhebdaphjinaaDoor.F
-- Printed by this session's hookprint.py (over the kit's print.py, with hooks). Lean checks it.
namespace Go.Proofs.YtpmhebdaphjinaaDoor.F
open Go.RowKit Go.Proofs.YtpmhebdaphjinaaDoorW.PrintWords Go.Proofs.YtpmhebdaphjinaaDoorW.PrintLast Go.Proofs.YtpmhebdaphjinaaDoorW.PrintMore Go.Proofs.YtpmhebdaphjinaaDoor.Q
attribute [local go_sem] max2_int min2_int max_two min_two max_three min_three max_four min_four   -- for this text's walks alone
set_option linter.unusedVariables false
set_option linter.unusedSimpArgs false

/-! ### idiomref03_add: function 56 -/
mutual
def idiomref03_add.l0 : Nat → ByteArray → ByteArray → Option (ByteArray)
 | 0, _, _ => none
 | k + 1, x0, x1 => if (x0.size : Int) < (x1.size : Int) then (if 1 + x0.size ≤ 9223372036854775807 then (idiomref03_add.l0 k ((⟨#[48]⟩ : ByteArray) ++ x0) x1) else (none)) else (idiomref03_add.l1 k x0 x1)
def idiomref03_add.l1 : Nat → ByteArray → ByteArray → Option (ByteArray)
 | 0, _, _ => none
 | k + 1, x0, x1 => if (x1.size : Int) < (x0.size : Int) then (if 1 + x1.size ≤ 9223372036854775807 then (idiomref03_add.l1 k x0 ((⟨#[48]⟩ : ByteArray) ++ x1)) else (none)) else (if 0 ≤ (x0.size : Int) then (if ((x0.size : Int) : Int).toNat ≤ 281474976710656 then (idiomref03_add.l2 k x0 x1 (List.replicate ((x0.size : Int) : Int).toNat 0) 0 (wrap64 ((x0.size : Int) - 1))) else (none)) else (none))
def idiomref03_add.l2 : Nat → ByteArray → ByteArray → List Int → Int → Int → Option (ByteArray)
 | 0, _, _, _, _, _ => none
 | k + 1, x0, x1, x5, x6, x7 => if x7 ≥ 0 then (if 0 ≤ x7 then (if x7 < (x0.size : Int) then (if x7 < (x1.size : Int) then (if x7 < (x5.length : Int) then (idiomref03_add.l2 k x0 x1 (x5.set (x7 : Int).toNat ((wrap64 (48 + (Int.tmod (wrap64 (((((bt x0 x7) - 48) % 256) + (((bt x1 x7) - 48) % 256)) + x6)) 10))) % 256)) (wrap64 (Int.tdiv (wrap64 (((((bt x0 x7) - 48) % 256) + (((bt x1 x7) - 48) % 256)) + x6)) 10)) (wrap64 (x7 - 1))) else (none)) else (none)) else (none)) else (none)) else (if x6 > 0 then (if 1 + (strOfNums x5).size ≤ 9223372036854775807 then (some ((⟨#[49]⟩ : ByteArray) ++ (strOfNums x5))) else (none)) else ((idiomref03_Lead.f k (strOfNums x5)).bind fun t173 => (some t173)))
end
def idiomref03_add.f (k : Nat) (a0 : ByteArray) (a1 : ByteArray) : Option (ByteArray) := idiomref03_add.l0 k a0 a1
theorem idiomref03_add.mono_l : ∀ k, (∀ y0 y1, LeO (idiomref03_add.l0 k y0 y1) (idiomref03_add.l0 (k + 1) y0 y1)) ∧ (∀ y0 y1, LeO (idiomref03_add.l1 k y0 y1) (idiomref03_add.l1 (k + 1) y0 y1)) ∧ (∀ y0 y1 y2 y3 y4, LeO (idiomref03_add.l2 k y0 y1 y2 y3 y4) (idiomref03_add.l2 (k + 1) y0 y1 y2 y3 y4))
 | 0 => ⟨fun _ _ r h => by simp [idiomref03_add.l0] at h, fun _ _ r h => by simp [idiomref03_add.l1] at h, fun _ _ _ _ _ r h => by simp [idiomref03_add.l2] at h⟩
 | k + 1 => by
  obtain ⟨ih0, ih1, ih2⟩ := idiomref03_add.mono_l k
  refine ⟨?_, ?_, ?_⟩
  · intro y0 y1
    unfold idiomref03_add.l0
    repeat' first
    | (with_reducible exact ih0 _ _)
    | (with_reducible exact ih1 _ _)
    | (with_reducible exact ih2 _ _ _ _ _)
    | (with_reducible exact idiomref03_Lead.mono _ _)
    | (with_reducible exact LeO.refl _)
    | (with_reducible exact LeO.none _)
    | (with_reducible refine LeO.ite ?_ ?_)
    | (with_reducible refine LeO.bind ?_ (fun _ => ?_))
    | exact ih0 _ _
    | exact ih1 _ _
    | exact ih2 _ _ _ _ _
    | exact idiomref03_Lead.mono _ _
    | exact LeO.none _
    | refine LeO.ite ?_ ?_
    | refine LeO.bind ?_ (fun _ => ?_)
  · intro y0 y1
    unfold idiomref03_add.l1
    repeat' first
    | (with_reducible exact ih0 _ _)
    | (with_reducible exact ih1 _ _)
    | (with_reducible exact ih2 _ _ _ _ _)
    | (with_reducible exact idiomref03_Lead.mono _ _)
    | (with_reducible exact LeO.refl _)
    | (with_reducible exact LeO.none _)
    | (with_reducible refine LeO.ite ?_ ?_)
    | (with_reducible refine LeO.bind ?_ (fun _ => ?_))
    | exact ih0 _ _
    | exact ih1 _ _
    | exact ih2 _ _ _ _ _
    | exact idiomref03_Lead.mono _ _
    | exact LeO.none _
    | refine LeO.ite ?_ ?_
    | refine LeO.bind ?_ (fun _ => ?_)
  · intro y0 y1 y2 y3 y4
    unfold idiomref03_add.l2
    repeat' first
    | (with_reducible exact ih0 _ _)
    | (with_reducible exact ih1 _ _)
    | (with_reducible exact ih2 _ _ _ _ _)
    | (with_reducible exact idiomref03_Lead.mono _ _)
    | (with_reducible exact LeO.refl _)
    | (with_reducible exact LeO.none _)
    | (with_reducible refine LeO.ite ?_ ?_)
    | (with_reducible refine LeO.bind ?_ (fun _ => ?_))
    | exact ih0 _ _
    | exact ih1 _ _
    | exact ih2 _ _ _ _ _
    | exact idiomref03_Lead.mono _ _
    | exact LeO.none _
    | refine LeO.ite ?_ ?_
    | refine LeO.bind ?_ (fun _ => ?_)
theorem idiomref03_add.mono : ∀ a0 a1 k, LeO (idiomref03_add.f k a0 a1) (idiomref03_add.f (k + 1) a0 a1) := by
 intro a0 a1 k
 obtain ⟨ih0, ih1, ih2⟩ := idiomref03_add.mono_l k
 unfold idiomref03_add.f
 repeat' first
  | (with_reducible exact ih0 _ _)
  | (with_reducible exact ih1 _ _)
  | (with_reducible exact ih2 _ _ _ _ _)
  | (with_reducible exact idiomref03_Lead.mono _ _)
  | (with_reducible exact LeO.refl _)
  | (with_reducible exact LeO.none _)
  | (with_reducible refine LeO.ite ?_ ?_)
  | (with_reducible refine LeO.bind ?_ (fun _ => ?_))
  | exact ih0 _ _
  | exact ih1 _ _
  | exact ih2 _ _ _ _ _
  | exact idiomref03_Lead.mono _ _
  | exact LeO.none _
  | refine LeO.ite ?_ ?_
  | refine LeO.bind ?_ (fun _ => ?_)
set_option maxHeartbeats 8000000 in
set_option maxRecDepth 100000 in
theorem idiomref03_add.calls (k : Nat) (a0 : ByteArray) (a1 : ByteArray) (r : ByteArray) (w : World) (h : idiomref03_add.f k a0 a1 = some r) :
 Calls Tryd.prog 56 #[.string a0, .string a1] w fun e w' => e = .returned (.string r) ∧ Below w.heap.size w w' := by
 have HB := Aside0.mk (Below.refl w.heap.size w)
 have H : (idiomref03_add.l0 k a0 a1) = some r := h
 clear h
 have H' := Aside0.mk H
 clear H
 go_enter Tryd.func56, Tryd.ntmps56
 go_wp2
 repeat (go_quiet (fail); try go_wp2)
 (try simp only [Act.put, List.setIfInBounds_toArray, List.set_cons_zero, List.set_cons_succ])
 go_loopg [0] k (fun kq v0 w' => ∃ (x0_1 : ByteArray), v0 = .string x0_1 ∧ Aside0 (idiomref03_add.l0 kq x0_1 a1 = some r) ∧ Aside0 (kq ≤ k) ∧ Aside0 (Below w.heap.size w w'))
 case atStart => exact ⟨(a0), (by first | rfl | (simp; done) | (simp [*]; done)), H', ⟨Nat.le_refl _⟩, ⟨qh HB⟩⟩
 case round =>
  clear H'
  try clear p2
  obtain ⟨x0_1, rfl, HA, HK1, HB⟩ := hrel
  cases gk with
  | zero => exact absurd HA.out (by simp [idiomref03_add.l0])
  | succ k1 =>
   have H := HA.out
   clear HA
   simp only [idiomref03_add.l0] at H
   by_cases c3 : (x0_1.size : Int) < (a1.size : Int)
   · rw [if_pos c3] at H
     have c3b0 : decide ((x0_1.size : Int) < (a1.size : Int)) = true := decide_eq_true c3
     have c3b1 : decide (x0_1.size < a1.size) = true := decide_eq_true (Int.ofNat_lt.mp c3)
     clear c3
     by_cases c4 : 1 + x0_1.size ≤ 9223372036854775807
     · rw [if_pos c4] at H
       have c4b0 := eq_true c4
       have c4b1 : decide (1 + x0_1.size ≤ 9223372036854775807) = true := decide_eq_true c4
       try have c4b2 : (9223372036854775807 < 1 + x0_1.size) = False := eq_false (Nat.not_lt.2 c4)
       have H' := Aside0.mk H
       clear H
       go_wp2
       repeat (go_quiet (fail); try go_wp2)
       go_roundg k1
       case measure => have := HK1.out; omega
       case rel => exact ⟨((⟨#[48]⟩ : ByteArray) ++ x0_1), (by first | rfl | (simp; done) | (simp [*]; done)), H', ⟨by have := HK1.out; omega⟩, ⟨qh HB⟩⟩
     · rw [if_neg c4] at H
       exact absurd H (by simp)
   · rw [if_neg c3] at H
     have c3b0 : decide ((x0_1.size : Int) < (a1.size : Int)) = false := decide_eq_false c3
     have c3b1 : decide (x0_1.size < a1.size) = false := decide_eq_false (fun h => c3 (Int.ofNat_lt.mpr h))
     clear c3
     have H' := Aside0.mk H
     clear H
     go_wp2
     repeat (go_quiet (fail); try go_wp2)
     (try simp only [Act.put, List.setIfInBounds_toArray, List.set_cons_zero, List.set_cons_succ])
     go_loopg [1] k1 (fun kq v1 w' => ∃ (x1_2 : ByteArray), v1 = .string x1_2 ∧ Aside0 (idiomref03_add.l1 kq x0_1 x1_2 = some r) ∧ Aside0 (kq ≤ k1) ∧ Aside0 (Below w.heap.size w w'))
     case atStart => exact ⟨(a1), (by first | rfl | (simp; done) | (simp [*]; done)), H', ⟨Nat.le_refl _⟩, ⟨qh HB⟩⟩
     case round =>
      clear H'
      try clear p2
      try clear c3
      try clear c3b0
      try clear c3b1
      try clear c4
      try clear c4b0
      try clear c4b1
      try clear c4b2
      try clear p2
      obtain ⟨x1_2, rfl, HA, HK2, HB⟩ := hrel
      cases gk with
      | zero => exact absurd HA.out (by simp [idiomref03_add.l1])
      | succ k2 =>
       have H := HA.out
       clear HA
       simp only [idiomref03_add.l1] at H
       by_cases c5 : (x1_2.size : Int) < (x0_1.size : Int)
       · rw [if_pos c5] at H
         have c5b0 : decide ((x1_2.size : Int) < (x0_1.size : Int)) = true := decide_eq_true c5
         have c5b1 : decide (x1_2.size < x0_1.size) = true := decide_eq_true (Int.ofNat_lt.mp c5)
         clear c5
         by_cases c6 : 1 + x1_2.size ≤ 9223372036854775807
         · rw [if_pos c6] at H
           have c6b0 := eq_true c6
           have c6b1 : decide (1 + x1_2.size ≤ 9223372036854775807) = true := decide_eq_true c6
           try have c6b2 : (9223372036854775807 < 1 + x1_2.size) = False := eq_false (Nat.not_lt.2 c6)
           have H' := Aside0.mk H
           clear H
           go_wp2
           repeat (go_quiet (fail); try go_wp2)
           go_roundg k2
           case measure => have := HK1.out; have := HK2.out; omega
           case rel => exact ⟨((⟨#[48]⟩ : ByteArray) ++ x1_2), (by first | rfl | (simp; done) | (simp [*]; done)), H', ⟨by have := HK1.out; have := HK2.out; omega⟩, ⟨qh HB⟩⟩
         · rw [if_neg c6] at H
           exact absurd H (by simp)
       · rw [if_neg c5] at H
         have c5b0 : decide ((x1_2.size : Int) < (x0_1.size : Int)) = false := decide_eq_false c5
         have c5b1 : decide (x1_2.size < x0_1.size) = false := decide_eq_false (fun h => c5 (Int.ofNat_lt.mpr h))
         clear c5
         by_cases c7 : 0 ≤ (x0_1.size : Int)
         · rw [if_pos c7] at H
           have c7b0 := eq_true c7
           have c7b1 : decide (0 ≤ (x0_1.size : Int)) = true := decide_eq_true c7
           clear c7
           by_cases c8 : ((x0_1.size : Int) : Int).toNat ≤ 281474976710656
           · rw [if_pos c8] at H
             have c8b0 := eq_true c8
             have c8b1 : decide (((x0_1.size : Int) : Int).toNat ≤ 281474976710656) = true := decide_eq_true c8
             clear c8
             obtain ⟨y169, hy169⟩ : ∃ y_ : List Int, y_ = (List.replicate ((x0_1.size : Int) : Int).toNat 0) := ⟨_, rfl⟩
             replace H : (idiomref03_add.l2 k2 x0_1 x1_2 y169 0 (wrap64 ((x0_1.size : Int) - 1))) = some r := by first | (rw [hy169]; with_reducible exact H) | (have H2_ := (Option.bind_some _ _).symm.trans H; rw [hy169]; with_reducible exact H2_) | (have H2_ := (Option.bind_some _ _).symm.trans H; with_reducible exact H2_) | with_reducible exact H | (rw [hy169]; exact H) | exact H
             have Ny169 := Aside0.mk hy169
             clear hy169
             have H' := Aside0.mk H
             clear H
             go_wp2_with (first | ((with_reducible refine gate_dst (N := 25) rfl ?_); refine Kd.R_make (Kd.int .u8) _ 5 rfl (N := 25) rfl 69 _ _ rfl (x0_1.size : Int) rfl rfl Tryd.underlying69 (.int .u8 0) 1 info5 rfl (by decide) (by omega) 0 (ok := fun _ => True) (okp := fun _ => True) rfl (fun _ hk => hk) trivial (of_decide_eq_true qa) (Nat.le_trans (Nat.mul_le_mul_right _ (of_decide_eq_true qa : (x0_1.size : Int).toNat ≤ 281474976710656)) (by omega)) (Below.refl _ _) (Nat.le_refl _) ?_; intro v170 w9 ho10 hb hg_ hnew_; clear hg_ hnew_; (first | rw [← Ny169.out] at ho10 | (simp only [Int.reduceToNat] at ho10; rw [← Ny169.out] at ho10)); have HO171 := Aside0.mk (Kd.R_lower ho10 (below_size (qh HB))); replace HB := qn HB hb; clear hb ho10))
             repeat (go_quiet (first | ((with_reducible refine gate_dst (N := 25) rfl ?_); refine Kd.R_make (Kd.int .u8) _ 5 rfl (N := 25) rfl 69 _ _ rfl (x0_1.size : Int) rfl rfl Tryd.underlying69 (.int .u8 0) 1 info5 rfl (by decide) (by omega) 0 (ok := fun _ => True) (okp := fun _ => True) rfl (fun _ hk => hk) trivial (of_decide_eq_true qa) (Nat.le_trans (Nat.mul_le_mul_right _ (of_decide_eq_true qa : (x0_1.size : Int).toNat ≤ 281474976710656)) (by omega)) (Below.refl _ _) (Nat.le_refl _) ?_; intro v170 w9 ho10 hb hg_ hnew_; clear hg_ hnew_; (first | rw [← Ny169.out] at ho10 | (simp only [Int.reduceToNat] at ho10; rw [← Ny169.out] at ho10)); have HO171 := Aside0.mk (Kd.R_lower ho10 (below_size (qh HB))); replace HB := qn HB hb; clear hb ho10)); try go_wp2_with (first | ((with_reducible refine gate_dst (N := 25) rfl ?_); refine Kd.R_make (Kd.int .u8) _ 5 rfl (N := 25) rfl 69 _ _ rfl (x0_1.size : Int) rfl rfl Tryd.underlying69 (.int .u8 0) 1 info5 rfl (by decide) (by omega) 0 (ok := fun _ => True) (okp := fun _ => True) rfl (fun _ hk => hk) trivial (of_decide_eq_true qa) (Nat.le_trans (Nat.mul_le_mul_right _ (of_decide_eq_true qa : (x0_1.size : Int).toNat ≤ 281474976710656)) (by omega)) (Below.refl _ _) (Nat.le_refl _) ?_; intro v170 w9 ho10 hb hg_ hnew_; clear hg_ hnew_; (first | rw [← Ny169.out] at ho10 | (simp only [Int.reduceToNat] at ho10; rw [← Ny169.out] at ho10)); have HO171 := Aside0.mk (Kd.R_lower ho10 (below_size (qh HB))); replace HB := qn HB hb; clear hb ho10)))
             (try simp only [Act.put, List.setIfInBounds_toArray, List.set_cons_zero, List.set_cons_succ])
             go_loopg [6, 7] k2 (fun kq v6 v7 w' => ∃ (x5_3 : List Int) (x6_3 : Int) (x7_3 : Int), v6 = .int .i64 x6_3 ∧ v7 = .int .i64 x7_3 ∧ Aside0 (idiomref03_add.l2 kq x0_1 x1_2 x5_3 x6_3 x7_3 = some r) ∧ Aside0 (kq ≤ k2) ∧ Aside0 (Kd.R (Kd.int .u8) 5 w' w.heap.size (fun _ => True) v170 x5_3) ∧ Aside0 (Below w.heap.size w w'))
             case atStart => exact ⟨(y169), (0), (wrap64 ((x0_1.size : Int) - 1)), (by first | rfl | (simp; done) | (simp [*]; done)), (by first | rfl | (simp; done) | (simp [*]; done)), H', ⟨Nat.le_refl _⟩, ⟨by (with_reducible repeat (first | apply Kd.R_alloc | apply Kd.R_drewN | apply Kd.R_drew)); exact HO171.out⟩, ⟨qh HB⟩⟩
             case round =>
              clear H'
              try clear p2
              try clear c3
              try clear c3b0
              try clear c3b1
              try clear c4
              try clear c4b0
              try clear c4b1
              try clear c4b2
              try clear c5
              try clear c5b0
              try clear c5b1
              try clear c6
              try clear c6b0
              try clear c6b1
              try clear c6b2
              try clear p6
              try clear c7
              try clear c7b0
              try clear c7b1
              try clear c8
              try clear c8b0
              try clear c8b1
              try clear p2
              obtain ⟨x5_3, x6_3, x7_3, rfl, rfl, HA, HK3, HO_5, HB⟩ := hrel
              cases gk with
              | zero => exact absurd HA.out (by simp [idiomref03_add.l2])
              | succ k3 =>
               have H := HA.out
               clear HA
               simp only [idiomref03_add.l2] at H
               by_cases c11 : x7_3 ≥ 0
               · rw [if_pos c11] at H
                 have c11b0 : decide (0 ≤ x7_3) = true := decide_eq_true c11
                 clear c11
                 by_cases c12 : 0 ≤ x7_3
                 · rw [if_pos c12] at H
                   have c12b0 : decide (0 ≤ x7_3) = true := decide_eq_true c12
                   clear c12
                   by_cases c13 : x7_3 < (x0_1.size : Int)
                   · rw [if_pos c13] at H
                     have c13b0 : decide (x7_3 < (x0_1.size : Int)) = true := decide_eq_true c13
                     clear c13
                     by_cases c15 : x7_3 < (x1_2.size : Int)
                     · rw [if_pos c15] at H
                       have c15b0 : decide (x7_3 < (x1_2.size : Int)) = true := decide_eq_true c15
                       clear c15
                       by_cases c17 : x7_3 < (x5_3.length : Int)
                       · rw [if_pos c17] at H
                         have c17b0 : decide (x7_3 < (x5_3.length : Int)) = true := decide_eq_true c17
                         clear c17
                         obtain ⟨y172, hy172⟩ : ∃ y_ : List Int, y_ = (x5_3.set (x7_3 : Int).toNat ((wrap64 (48 + (Int.tmod (wrap64 (((((bt x0_1 x7_3) - 48) % 256) + (((bt x1_2 x7_3) - 48) % 256)) + x6_3)) 10))) % 256)) := ⟨_, rfl⟩
                         replace H : (idiomref03_add.l2 k3 x0_1 x1_2 y172 (wrap64 (Int.tdiv (wrap64 (((((bt x0_1 x7_3) - 48) % 256) + (((bt x1_2 x7_3) - 48) % 256)) + x6_3)) 10)) (wrap64 (x7_3 - 1))) = some r := by first | (rw [hy172]; with_reducible exact H) | (have H2_ := (Option.bind_some _ _).symm.trans H; rw [hy172]; with_reducible exact H2_) | (have H2_ := (Option.bind_some _ _).symm.trans H; with_reducible exact H2_) | with_reducible exact H | (rw [hy172]; exact H) | exact H
                         have Ny172 := Aside0.mk hy172
                         clear hy172
                         have H' := Aside0.mk H
                         clear H
                         have p14 : 0 ≤ (x7_3 : Int) := of_decide_eq_true qa
                         have q14 : x7_3 < (x0_1.size : Int) := of_decide_eq_true qa
                         have hx14 := bt_at x0_1 x7_3
                         replace p14 := eq_true p14
                         replace q14 := eq_true q14
                         have p16 : 0 ≤ (x7_3 : Int) := of_decide_eq_true qa
                         have q16 : x7_3 < (x1_2.size : Int) := of_decide_eq_true qa
                         have hx16 := bt_at x1_2 x7_3
                         replace p16 := eq_true p16
                         replace q16 := eq_true q16
                         have p18 : 0 ≤ (x7_3 : Int) := of_decide_eq_true qa
                         have q18 : (x7_3 : Int) < ((x5_3.length : Int) : Int) := of_decide_eq_true qa
                         obtain ⟨go18, co18, eo18, gb18, gl18, cl18, HG18⟩ := Kd.R_form HO_5.out (by omega)
                         (first | cases eo18 | (injection eo18 with ea_ en_ ec_; (first | subst ea_ | (injection ea_ with ea_; subst ea_)); subst ec_; clear en_))
                         have GB18 := Aside0.mk gb18
                         have GG18 := Aside0.mk HG18
                         clear gb18 gl18 HG18
                         obtain ⟨hx18_0, hf18_0⟩ := Kd.R_celln 0 HO_5.out (x7_3 : Int) p18 q18
                         replace p18 := eq_true p18
                         replace q18 := eq_true q18
                         have HP19 := Kd.R_putg HO_5.out (x7_3 : Int) ((wrap64 (48 + (Int.tmod (wrap64 (((((bt x0_1 x7_3) - 48) % 256) + (((bt x1_2 x7_3) - 48) % 256)) + x6_3)) 10))) % 256)
                         go_wp2_with (first | ((with_reducible refine gate_store (t := 5) (p := 52) rfl ?_); (try (rw [drewN_self wr]; generalize hq_ : World.drewN wr _ = wr; have n0_ := Aside0.mk (Kd.R_at hq_ HO_5.out); have n1_ := Aside0.mk (below_at hq_ HB.out); clear hq_ HO_5 HB; have HO_5 := n0_; have HB := n1_; clear n0_ n1_; (try (have HP19 := Kd.R_putg HO_5.out (x7_3 : Int) ((wrap64 (48 + (Int.tmod (wrap64 (((((bt x0_1 x7_3) - 48) % 256) + (((bt x1_2 x7_3) - 48) % 256)) + x6_3)) 10))) % 256))))); refine store_event (t := 5) (p := 52) (v := ?vo_w20) (w1 := (wr.setCell ⟨go18, (x7_3 : Int).toNat, none⟩ (.int .u8 ((wrap64 (48 + (Int.tmod (wrap64 (((((bt x0_1 x7_3) - 48) % 256) + (((bt x1_2 x7_3) - 48) % 256)) + x6_3)) 10))) % 256)))) ?hg ?ho ?hn ?hr ?_; (case ho => rfl); (case hg => rfl); (case hn => rfl); (case hr => first | (go_simp; done) | (go_simp; rfl)); intro w20 hw; have hg : wr.grownBy w20 (some go18) := (by rw [hw]; exact HP19.2); have hp_ : Kd.R (Kd.int .u8) 5 w20 w.heap.size (fun _ => True) (.slice (some ⟨go18, 0, none⟩) x5_3.length co18) y172 := (by rw [hw, Ny172.out]; exact HP19.1); clear HP19; replace HO_5 := Aside0.mk (hp_); replace HB := Aside0.mk ((by rw [hw]; exact below_set (HB.out) GB18.out : Below w.heap.size w w20)); clear hg hw hp_))
                         repeat (go_quiet (first | ((with_reducible refine gate_store (t := 5) (p := 52) rfl ?_); (try (rw [drewN_self wr]; generalize hq_ : World.drewN wr _ = wr; have n0_ := Aside0.mk (Kd.R_at hq_ HO_5.out); have n1_ := Aside0.mk (below_at hq_ HB.out); clear hq_ HO_5 HB; have HO_5 := n0_; have HB := n1_; clear n0_ n1_; (try (have HP19 := Kd.R_putg HO_5.out (x7_3 : Int) ((wrap64 (48 + (Int.tmod (wrap64 (((((bt x0_1 x7_3) - 48) % 256) + (((bt x1_2 x7_3) - 48) % 256)) + x6_3)) 10))) % 256))))); refine store_event (t := 5) (p := 52) (v := ?vo_w20) (w1 := (wr.setCell ⟨go18, (x7_3 : Int).toNat, none⟩ (.int .u8 ((wrap64 (48 + (Int.tmod (wrap64 (((((bt x0_1 x7_3) - 48) % 256) + (((bt x1_2 x7_3) - 48) % 256)) + x6_3)) 10))) % 256)))) ?hg ?ho ?hn ?hr ?_; (case ho => rfl); (case hg => rfl); (case hn => rfl); (case hr => first | (go_simp; done) | (go_simp; rfl)); intro w20 hw; have hg : wr.grownBy w20 (some go18) := (by rw [hw]; exact HP19.2); have hp_ : Kd.R (Kd.int .u8) 5 w20 w.heap.size (fun _ => True) (.slice (some ⟨go18, 0, none⟩) x5_3.length co18) y172 := (by rw [hw, Ny172.out]; exact HP19.1); clear HP19; replace HO_5 := Aside0.mk (hp_); replace HB := Aside0.mk ((by rw [hw]; exact below_set (HB.out) GB18.out : Below w.heap.size w w20)); clear hg hw hp_)); try go_wp2_with (first | ((with_reducible refine gate_store (t := 5) (p := 52) rfl ?_); (try (rw [drewN_self wr]; generalize hq_ : World.drewN wr _ = wr; have n0_ := Aside0.mk (Kd.R_at hq_ HO_5.out); have n1_ := Aside0.mk (below_at hq_ HB.out); clear hq_ HO_5 HB; have HO_5 := n0_; have HB := n1_; clear n0_ n1_; (try (have HP19 := Kd.R_putg HO_5.out (x7_3 : Int) ((wrap64 (48 + (Int.tmod (wrap64 (((((bt x0_1 x7_3) - 48) % 256) + (((bt x1_2 x7_3) - 48) % 256)) + x6_3)) 10))) % 256))))); refine store_event (t := 5) (p := 52) (v := ?vo_w20) (w1 := (wr.setCell ⟨go18, (x7_3 : Int).toNat, none⟩ (.int .u8 ((wrap64 (48 + (Int.tmod (wrap64 (((((bt x0_1 x7_3) - 48) % 256) + (((bt x1_2 x7_3) - 48) % 256)) + x6_3)) 10))) % 256)))) ?hg ?ho ?hn ?hr ?_; (case ho => rfl); (case hg => rfl); (case hn => rfl); (case hr => first | (go_simp; done) | (go_simp; rfl)); intro w20 hw; have hg : wr.grownBy w20 (some go18) := (by rw [hw]; exact HP19.2); have hp_ : Kd.R (Kd.int .u8) 5 w20 w.heap.size (fun _ => True) (.slice (some ⟨go18, 0, none⟩) x5_3.length co18) y172 := (by rw [hw, Ny172.out]; exact HP19.1); clear HP19; replace HO_5 := Aside0.mk (hp_); replace HB := Aside0.mk ((by rw [hw]; exact below_set (HB.out) GB18.out : Below w.heap.size w w20)); clear hg hw hp_)))
                         go_roundg k3
                         case measure => have := HK1.out; have := HK2.out; have := HK3.out; omega
                         case rel => exact ⟨(y172), (wrap64 (Int.tdiv (wrap64 (((((bt x0_1 x7_3) - 48) % 256) + (((bt x1_2 x7_3) - 48) % 256)) + x6_3)) 10)), (wrap64 (x7_3 - 1)), (by first | rfl | (simp; done) | (simp [*]; done)), (by first | rfl | (simp; done) | (simp [*]; done)), H', ⟨by have := HK1.out; have := HK2.out; have := HK3.out; omega⟩, ⟨by (with_reducible repeat (first | apply Kd.R_alloc | apply Kd.R_drewN | apply Kd.R_drew)); first | exact HO_5.out | (rw [Ny172.out]; exact Aid.R_set_drew HP19.1)⟩, ⟨by repeat (first | (with_reducible first | exact HB.out | apply below_alloc | apply pw_below_drewN | apply below_drew1) | refine below_set ?_ GB18.out | exact HB.out)⟩⟩
                       · rw [if_neg c17] at H
                         exact absurd H (by simp)
                     · rw [if_neg c15] at H
                       exact absurd H (by simp)
                   · rw [if_neg c13] at H
                     exact absurd H (by simp)
                 · rw [if_neg c12] at H
                   exact absurd H (by simp)
               · rw [if_neg c11] at H
                 have c11b0 : decide (0 ≤ x7_3) = false := decide_eq_false c11
                 clear c11
                 by_cases c21 : x6_3 > 0
                 · rw [if_pos c21] at H
                   have c21b0 : decide (0 < x6_3) = true := decide_eq_true c21
                   clear c21
                   by_cases c22 : 1 + (strOfNums x5_3).size ≤ 9223372036854775807
                   · rw [if_pos c22] at H
                     have c22b0 := eq_true c22
                     have c22b1 : decide (1 + (strOfNums x5_3).size ≤ 9223372036854775807) = true := decide_eq_true c22
                     try have c22b2 : (9223372036854775807 < 1 + (strOfNums x5_3).size) = False := eq_false (Nat.not_lt.2 c22)
                     obtain rfl := Option.some.inj H
                     have hcv23 := own_string (P := Tryd.prog) Tryd.underlying69 Tryd.underlying5 Tryd.underlying9 (Kd.own_of_R HO_5.out)
                     go_wp2
                     repeat (go_quiet (fail); try go_wp2)
                     go_ret
                     exact ⟨qe, qh HB⟩
                   · rw [if_neg c22] at H
                     exact absurd H (by simp)
                 · rw [if_neg c21] at H
                   have c21b0 : decide (0 < x6_3) = false := decide_eq_false c21
                   clear c21
                   replace H := Option.bind_eq_some_iff.mp H
                   obtain ⟨t173, A240, H⟩ := H
                   replace H : (some t173) = some r := H
                   have A24 := Aside0.mk A240
                   clear A240
                   obtain rfl := Option.some.inj H
                   have hcv25 := own_string (P := Tryd.prog) Tryd.underlying69 Tryd.underlying5 Tryd.underlying9 (Kd.own_of_R HO_5.out)
                   go_wp2_with (first | (go_at_call 41; (with_reducible refine (idiomref03_Lead.calls k3 (strOfNums x5_3) t173 _ A24.out).mono ?_); rintro e w' ⟨rfl, ⟨nd, rfl⟩⟩; (try first | exact ⟨rfl, _, World.drewN_drewN _ _ _⟩ | exact ⟨rfl, _, Eq.trans (World.drewN_drewN _ _ _) (congrArg (World.drewN _) (Nat.add_assoc _ _ _))⟩)))
                   repeat (go_quiet (first | (go_at_call 41; (with_reducible refine (idiomref03_Lead.calls k3 (strOfNums x5_3) t173 _ A24.out).mono ?_); rintro e w' ⟨rfl, ⟨nd, rfl⟩⟩; (try first | exact ⟨rfl, _, World.drewN_drewN _ _ _⟩ | exact ⟨rfl, _, Eq.trans (World.drewN_drewN _ _ _) (congrArg (World.drewN _) (Nat.add_assoc _ _ _))⟩))); try go_wp2_with (first | (go_at_call 41; (with_reducible refine (idiomref03_Lead.calls k3 (strOfNums x5_3) t173 _ A24.out).mono ?_); rintro e w' ⟨rfl, ⟨nd, rfl⟩⟩; (try first | exact ⟨rfl, _, World.drewN_drewN _ _ _⟩ | exact ⟨rfl, _, Eq.trans (World.drewN_drewN _ _ _) (congrArg (World.drewN _) (Nat.add_assoc _ _ _))⟩))))
                   go_ret
                   exact ⟨qe, qh HB⟩
           · rw [if_neg c8] at H
             exact absurd H (by simp)
         · rw [if_neg c7] at H
           exact absurd H (by simp)

end Go.Proofs.YtpmhebdaphjinaaDoor.F
