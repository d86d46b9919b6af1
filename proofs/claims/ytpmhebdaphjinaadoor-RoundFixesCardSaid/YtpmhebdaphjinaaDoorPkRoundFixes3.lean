/- Part 4 of 6 of the proof of the law RoundFixes: it is true at every input. Conditions: those of the given row, no others. -/
import Derived.Test.YtpmhebdaphjinaaDoorPkRoundFixes0
import Derived.Test.YtpmhebdaphjinaaDoorPkRoundFixes2
import Derived.Test.YtpmhebdaphjinaaDoorPkRoundFixes1
-- Printed by this session's hookprint.py (over the kit's print.py, with hooks). Lean checks it.
namespace Go.Proofs.YtpmhebdaphjinaaDoor.F
open Go.RowKit Go.Proofs.YtpmhebdaphjinaaDoorW.PrintWords Go.Proofs.YtpmhebdaphjinaaDoorW.PrintLast Go.Proofs.YtpmhebdaphjinaaDoorW.PrintMore Go.Proofs.YtpmhebdaphjinaaDoor.Q
attribute [local go_sem] max2_int min2_int max_two min_two max_three min_three max_four min_four   -- for this text's walks alone
set_option linter.unusedVariables false
set_option linter.unusedSimpArgs false

/-! ### idiomref03_away: function 55 -/
def idiomref03_away.f (k : Nat) (a0 : Int) (a1 : Bool) (a2 : ByteArray) (a3 : ByteArray) (a4 : ByteArray) : Option (Bool × Int) := if a3.toList = ([48] : List UInt8) then (some (false, 0)) else ((idiomref03_add.f k a3 a3).bind fun t174 => ((idiomref03_cmp.f k t174 a4).bind fun t175 => (if 0 ≤ (wrap64 ((a2.size : Int) - 1)) then (if (wrap64 ((a2.size : Int) - 1)) < (a2.size : Int) then (if a0 = 1 then (some (true, 0)) else (if a0 = 2 then (some (false, 0)) else (if a0 = 3 then (some (!a1, 0)) else (if a0 = 4 then (some (a1, 0)) else (if a0 = 5 then (some (decide (t175 ≥ 0), 0)) else (if a0 = 6 then (some (decide (t175 > 0), 0)) else (if a0 = 7 then (if t175 > 0 then (some (true, 0)) else (if t175 = 0 then (some ((((((bt a2 (wrap64 ((a2.size : Int) - 1))) - 48) % 256) % 2) == 1), 0)) else (some (false, 0)))) else (some (false, 31))))))))) else (none)) else (none))))
theorem idiomref03_away.mono : ∀ a0 a1 a2 a3 a4 k, LeO (idiomref03_away.f k a0 a1 a2 a3 a4) (idiomref03_away.f (k + 1) a0 a1 a2 a3 a4) := by
 intro a0 a1 a2 a3 a4 k
 unfold idiomref03_away.f
 repeat' first
  | (with_reducible exact idiomref03_add.mono _ _ _)
  | (with_reducible exact idiomref03_cmp.mono _ _ _)
  | (with_reducible exact LeO.refl _)
  | (with_reducible exact LeO.none _)
  | (with_reducible refine LeO.ite ?_ ?_)
  | (with_reducible refine LeO.bind ?_ (fun _ => ?_))
  | exact idiomref03_add.mono _ _ _
  | exact idiomref03_cmp.mono _ _ _
  | exact LeO.none _
  | refine LeO.ite ?_ ?_
  | refine LeO.bind ?_ (fun _ => ?_)
set_option maxHeartbeats 8000000 in
set_option maxRecDepth 100000 in
theorem idiomref03_away.calls (k : Nat) (a0 : Int) (a1 : Bool) (a2 : ByteArray) (a3 : ByteArray) (a4 : ByteArray) (r1 : Bool) (r2 : Int) (w : World) (h : idiomref03_away.f k a0 a1 a2 a3 a4 = some (r1, r2)) :
 Calls Tryd.prog 55 #[.int .i64 a0, .bool a1, .string a2, .string a3, .string a4] w fun e w' => e = .returned (.tuple #[.bool r1, .int .i64 r2]) ∧ Below w.heap.size w w' := by
 have HB := Aside0.mk (Below.refl w.heap.size w)
 have H : (if a3.toList = ([48] : List UInt8) then (some (false, 0)) else ((idiomref03_add.f k a3 a3).bind fun t174 => ((idiomref03_cmp.f k t174 a4).bind fun t175 => (if 0 ≤ (wrap64 ((a2.size : Int) - 1)) then (if (wrap64 ((a2.size : Int) - 1)) < (a2.size : Int) then (if a0 = 1 then (some (true, 0)) else (if a0 = 2 then (some (false, 0)) else (if a0 = 3 then (some (!a1, 0)) else (if a0 = 4 then (some (a1, 0)) else (if a0 = 5 then (some (decide (t175 ≥ 0), 0)) else (if a0 = 6 then (some (decide (t175 > 0), 0)) else (if a0 = 7 then (if t175 > 0 then (some (true, 0)) else (if t175 = 0 then (some ((((((bt a2 (wrap64 ((a2.size : Int) - 1))) - 48) % 256) % 2) == 1), 0)) else (some (false, 0)))) else (some (false, 31))))))))) else (none)) else (none))))) = some (r1, r2) := h
 clear h
 by_cases c6 : a3.toList = ([48] : List UInt8)
 · rw [if_pos c6] at H
   have c6b0 : (a3.toList == ([48] : List UInt8)) = true := beq_iff_eq.mpr c6
   have c6b1 : (a3.toList != ([48] : List UInt8)) = false := bne_eq_false_iff_eq.mpr c6
   clear c6
   simp only [Option.some.injEq, Prod.mk.injEq] at H
   obtain ⟨rfl, rfl⟩ := H
   go_enter Tryd.func55, Tryd.ntmps55
   go_wp2
   go_ret2
   exact ⟨qe, qh HB⟩
 · rw [if_neg c6] at H
   have c6b0 : (a3.toList == ([48] : List UInt8)) = false := beq_eq_false_iff_ne.mpr c6
   have c6b1 : (a3.toList != ([48] : List UInt8)) = true := bne_iff_ne.mpr c6
   replace H := Option.bind_eq_some_iff.mp H
   obtain ⟨t174, A70, H⟩ := H
   replace H : ((idiomref03_cmp.f k t174 a4).bind fun t175 => (if 0 ≤ (wrap64 ((a2.size : Int) - 1)) then (if (wrap64 ((a2.size : Int) - 1)) < (a2.size : Int) then (if a0 = 1 then (some (true, 0)) else (if a0 = 2 then (some (false, 0)) else (if a0 = 3 then (some (!a1, 0)) else (if a0 = 4 then (some (a1, 0)) else (if a0 = 5 then (some (decide (t175 ≥ 0), 0)) else (if a0 = 6 then (some (decide (t175 > 0), 0)) else (if a0 = 7 then (if t175 > 0 then (some (true, 0)) else (if t175 = 0 then (some ((((((bt a2 (wrap64 ((a2.size : Int) - 1))) - 48) % 256) % 2) == 1), 0)) else (some (false, 0)))) else (some (false, 31))))))))) else (none)) else (none))) = some (r1, r2) := H
   have A7 := Aside0.mk A70
   clear A70
   replace H := Option.bind_eq_some_iff.mp H
   obtain ⟨t175, A80, H⟩ := H
   replace H : (if 0 ≤ (wrap64 ((a2.size : Int) - 1)) then (if (wrap64 ((a2.size : Int) - 1)) < (a2.size : Int) then (if a0 = 1 then (some (true, 0)) else (if a0 = 2 then (some (false, 0)) else (if a0 = 3 then (some (!a1, 0)) else (if a0 = 4 then (some (a1, 0)) else (if a0 = 5 then (some (decide (t175 ≥ 0), 0)) else (if a0 = 6 then (some (decide (t175 > 0), 0)) else (if a0 = 7 then (if t175 > 0 then (some (true, 0)) else (if t175 = 0 then (some ((((((bt a2 (wrap64 ((a2.size : Int) - 1))) - 48) % 256) % 2) == 1), 0)) else (some (false, 0)))) else (some (false, 31))))))))) else (none)) else (none)) = some (r1, r2) := H
   have A8 := Aside0.mk A80
   clear A80
   obtain ⟨ji9, hji9⟩ : ∃ j_ : Int, (wrap64 ((a2.size : Int) - 1)) = j_ := ⟨_, rfl⟩
   replace H : (if 0 ≤ (ji9) then (if (ji9) < (a2.size : Int) then (if a0 = 1 then (some (true, 0)) else (if a0 = 2 then (some (false, 0)) else (if a0 = 3 then (some (!a1, 0)) else (if a0 = 4 then (some (a1, 0)) else (if a0 = 5 then (some (decide (t175 ≥ 0), 0)) else (if a0 = 6 then (some (decide (t175 > 0), 0)) else (if a0 = 7 then (if t175 > 0 then (some (true, 0)) else (if t175 = 0 then (some ((((((bt a2 (ji9)) - 48) % 256) % 2) == 1), 0)) else (some (false, 0)))) else (some (false, 31))))))))) else (none)) else (none)) = some (r1, r2) := by first | (rw [hji9] at H; exact H) | (simp only [hji9] at H ⊢; exact H)
   (try rw [hji9] at A7)
   (try rw [hji9] at A8)
   have hji9w : (IntKind.i64.wrap ((a2.size : Int) - 1)) = ji9 := (i64_w _).trans hji9
   by_cases c10 : 0 ≤ (ji9)
   · rw [if_pos c10] at H
     have c10b0 : decide (0 ≤ (ji9)) = true := decide_eq_true c10
     clear c10
     by_cases c11 : (ji9) < (a2.size : Int)
     · rw [if_pos c11] at H
       have c11b0 : decide ((ji9) < (a2.size : Int)) = true := decide_eq_true c11
       clear c11
       by_cases c13 : a0 = 1
       · rw [if_pos c13] at H
         have c13b0 : (a0 == 1) = true := beq_iff_eq.mpr c13
         have c13b1 : (a0 != 1) = false := bne_eq_false_iff_eq.mpr c13
         try have c13b1z := c13b1
         (try simp only [bne] at c13b1z)
         clear c13
         simp only [Option.some.injEq, Prod.mk.injEq] at H
         obtain ⟨rfl, rfl⟩ := H
         go_enter Tryd.func55, Tryd.ntmps55
         go_wp2_with (first | ((with_reducible refine gate_callee (f := 56) rfl ?_); refine goesL_ (some 18) rfl rfl Tryd.func56 (by kernel_rfl) rfl #[.string a3, .string a3] rfl ql ?_; (with_reducible refine (idiomref03_add.calls k a3 a3 t174 _ A7.out).mono ?_); rintro e w14 ⟨rfl, hb⟩; refine ⟨_, rfl, ?_⟩; replace HB := qn HB hb; (try clear hb); (try clear hb2); (try clear hk); (try clear hi)) | ((with_reducible refine gate_callee (f := 87) rfl ?_); refine goesL_ (some 20) rfl rfl Tryd.func87 (by kernel_rfl) rfl #[.string t174, .string a4] rfl ql ?_; (with_reducible refine (idiomref03_cmp.calls k t174 a4 t175 _ A8.out).mono ?_); rintro e w' ⟨rfl, ⟨nd, rfl⟩⟩; refine ⟨_, rfl, ?_⟩; have p12 : 0 ≤ ((ji9) : Int) := of_decide_eq_true qa; have q12 : (ji9) < (a2.size : Int) := of_decide_eq_true qa; have hx12 := bt_at a2 (ji9); replace p12 := eq_true p12; replace q12 := eq_true q12))
         go_ret2
         exact ⟨by first | rfl | (exact congrArg (fun b => Ending.returned (.bool b)) (Aid.bne_nil _)) | (exact congrArg (fun b => Ending.returned (.bool b)) (Aid.eq_nil _)) | (simp [errW_none, errW_some] <;> rfl) | (simp only [← hji9]; first | rfl | (simp [errW_none, errW_some] <;> rfl)) | (simp [*, errW_none, errW_some] <;> rfl), qh HB⟩
       · rw [if_neg c13] at H
         have c13b0 : (a0 == 1) = false := beq_eq_false_iff_ne.mpr c13
         have c13b1 : (a0 != 1) = true := bne_iff_ne.mpr c13
         try have c13b1z := c13b1
         (try simp only [bne] at c13b1z)
         by_cases c15 : a0 = 2
         · rw [if_pos c15] at H
           have c15b0 : (a0 == 2) = true := beq_iff_eq.mpr c15
           have c15b1 : (a0 != 2) = false := bne_eq_false_iff_eq.mpr c15
           try have c15b1z := c15b1
           (try simp only [bne] at c15b1z)
           clear c15
           simp only [Option.some.injEq, Prod.mk.injEq] at H
           obtain ⟨rfl, rfl⟩ := H
           go_enter Tryd.func55, Tryd.ntmps55
           go_wp2_with (first | ((with_reducible refine gate_callee (f := 56) rfl ?_); refine goesL_ (some 18) rfl rfl Tryd.func56 (by kernel_rfl) rfl #[.string a3, .string a3] rfl ql ?_; (with_reducible refine (idiomref03_add.calls k a3 a3 t174 _ A7.out).mono ?_); rintro e w16 ⟨rfl, hb⟩; refine ⟨_, rfl, ?_⟩; replace HB := qn HB hb; (try clear hb); (try clear hb2); (try clear hk); (try clear hi)) | ((with_reducible refine gate_callee (f := 87) rfl ?_); refine goesL_ (some 20) rfl rfl Tryd.func87 (by kernel_rfl) rfl #[.string t174, .string a4] rfl ql ?_; (with_reducible refine (idiomref03_cmp.calls k t174 a4 t175 _ A8.out).mono ?_); rintro e w' ⟨rfl, ⟨nd, rfl⟩⟩; refine ⟨_, rfl, ?_⟩; have p12 : 0 ≤ ((ji9) : Int) := of_decide_eq_true qa; have q12 : (ji9) < (a2.size : Int) := of_decide_eq_true qa; have hx12 := bt_at a2 (ji9); replace p12 := eq_true p12; replace q12 := eq_true q12))
           go_ret2
           exact ⟨by first | rfl | (exact congrArg (fun b => Ending.returned (.bool b)) (Aid.bne_nil _)) | (exact congrArg (fun b => Ending.returned (.bool b)) (Aid.eq_nil _)) | (simp [errW_none, errW_some] <;> rfl) | (simp only [← hji9]; first | rfl | (simp [errW_none, errW_some] <;> rfl)) | (simp [*, errW_none, errW_some] <;> rfl), qh HB⟩
         · rw [if_neg c15] at H
           have c15b0 : (a0 == 2) = false := beq_eq_false_iff_ne.mpr c15
           have c15b1 : (a0 != 2) = true := bne_iff_ne.mpr c15
           try have c15b1z := c15b1
           (try simp only [bne] at c15b1z)
           by_cases c17 : a0 = 3
           · rw [if_pos c17] at H
             have c17b0 : (a0 == 3) = true := beq_iff_eq.mpr c17
             have c17b1 : (a0 != 3) = false := bne_eq_false_iff_eq.mpr c17
             try have c17b1z := c17b1
             (try simp only [bne] at c17b1z)
             clear c17
             simp only [Option.some.injEq, Prod.mk.injEq] at H
             obtain ⟨rfl, rfl⟩ := H
             go_enter Tryd.func55, Tryd.ntmps55
             go_wp2_with (first | ((with_reducible refine gate_callee (f := 56) rfl ?_); refine goesL_ (some 18) rfl rfl Tryd.func56 (by kernel_rfl) rfl #[.string a3, .string a3] rfl ql ?_; (with_reducible refine (idiomref03_add.calls k a3 a3 t174 _ A7.out).mono ?_); rintro e w18 ⟨rfl, hb⟩; refine ⟨_, rfl, ?_⟩; replace HB := qn HB hb; (try clear hb); (try clear hb2); (try clear hk); (try clear hi)) | ((with_reducible refine gate_callee (f := 87) rfl ?_); refine goesL_ (some 20) rfl rfl Tryd.func87 (by kernel_rfl) rfl #[.string t174, .string a4] rfl ql ?_; (with_reducible refine (idiomref03_cmp.calls k t174 a4 t175 _ A8.out).mono ?_); rintro e w' ⟨rfl, ⟨nd, rfl⟩⟩; refine ⟨_, rfl, ?_⟩; have p12 : 0 ≤ ((ji9) : Int) := of_decide_eq_true qa; have q12 : (ji9) < (a2.size : Int) := of_decide_eq_true qa; have hx12 := bt_at a2 (ji9); replace p12 := eq_true p12; replace q12 := eq_true q12))
             go_ret2
             exact ⟨by first | rfl | (exact congrArg (fun b => Ending.returned (.bool b)) (Aid.bne_nil _)) | (exact congrArg (fun b => Ending.returned (.bool b)) (Aid.eq_nil _)) | (simp [errW_none, errW_some] <;> rfl) | (simp only [← hji9]; first | rfl | (simp [errW_none, errW_some] <;> rfl)) | (simp [*, errW_none, errW_some] <;> rfl), qh HB⟩
           · rw [if_neg c17] at H
             have c17b0 : (a0 == 3) = false := beq_eq_false_iff_ne.mpr c17
             have c17b1 : (a0 != 3) = true := bne_iff_ne.mpr c17
             try have c17b1z := c17b1
             (try simp only [bne] at c17b1z)
             by_cases c19 : a0 = 4
             · rw [if_pos c19] at H
               have c19b0 : (a0 == 4) = true := beq_iff_eq.mpr c19
               have c19b1 : (a0 != 4) = false := bne_eq_false_iff_eq.mpr c19
               try have c19b1z := c19b1
               (try simp only [bne] at c19b1z)
               clear c19
               simp only [Option.some.injEq, Prod.mk.injEq] at H
               obtain ⟨rfl, rfl⟩ := H
               go_enter Tryd.func55, Tryd.ntmps55
               go_wp2_with (first | ((with_reducible refine gate_callee (f := 56) rfl ?_); refine goesL_ (some 18) rfl rfl Tryd.func56 (by kernel_rfl) rfl #[.string a3, .string a3] rfl ql ?_; (with_reducible refine (idiomref03_add.calls k a3 a3 t174 _ A7.out).mono ?_); rintro e w20 ⟨rfl, hb⟩; refine ⟨_, rfl, ?_⟩; replace HB := qn HB hb; (try clear hb); (try clear hb2); (try clear hk); (try clear hi)) | ((with_reducible refine gate_callee (f := 87) rfl ?_); refine goesL_ (some 20) rfl rfl Tryd.func87 (by kernel_rfl) rfl #[.string t174, .string a4] rfl ql ?_; (with_reducible refine (idiomref03_cmp.calls k t174 a4 t175 _ A8.out).mono ?_); rintro e w' ⟨rfl, ⟨nd, rfl⟩⟩; refine ⟨_, rfl, ?_⟩; have p12 : 0 ≤ ((ji9) : Int) := of_decide_eq_true qa; have q12 : (ji9) < (a2.size : Int) := of_decide_eq_true qa; have hx12 := bt_at a2 (ji9); replace p12 := eq_true p12; replace q12 := eq_true q12))
               go_ret2
               exact ⟨by first | rfl | (exact congrArg (fun b => Ending.returned (.bool b)) (Aid.bne_nil _)) | (exact congrArg (fun b => Ending.returned (.bool b)) (Aid.eq_nil _)) | (simp [errW_none, errW_some] <;> rfl) | (simp only [← hji9]; first | rfl | (simp [errW_none, errW_some] <;> rfl)) | (simp [*, errW_none, errW_some] <;> rfl), qh HB⟩
             · rw [if_neg c19] at H
               have c19b0 : (a0 == 4) = false := beq_eq_false_iff_ne.mpr c19
               have c19b1 : (a0 != 4) = true := bne_iff_ne.mpr c19
               try have c19b1z := c19b1
               (try simp only [bne] at c19b1z)
               by_cases c21 : a0 = 5
               · rw [if_pos c21] at H
                 have c21b0 : (a0 == 5) = true := beq_iff_eq.mpr c21
                 have c21b1 : (a0 != 5) = false := bne_eq_false_iff_eq.mpr c21
                 try have c21b1z := c21b1
                 (try simp only [bne] at c21b1z)
                 clear c21
                 simp only [Option.some.injEq, Prod.mk.injEq] at H
                 obtain ⟨rfl, rfl⟩ := H
                 go_enter Tryd.func55, Tryd.ntmps55
                 go_wp2_with (first | ((with_reducible refine gate_callee (f := 56) rfl ?_); refine goesL_ (some 18) rfl rfl Tryd.func56 (by kernel_rfl) rfl #[.string a3, .string a3] rfl ql ?_; (with_reducible refine (idiomref03_add.calls k a3 a3 t174 _ A7.out).mono ?_); rintro e w22 ⟨rfl, hb⟩; refine ⟨_, rfl, ?_⟩; replace HB := qn HB hb; (try clear hb); (try clear hb2); (try clear hk); (try clear hi)) | ((with_reducible refine gate_callee (f := 87) rfl ?_); refine goesL_ (some 20) rfl rfl Tryd.func87 (by kernel_rfl) rfl #[.string t174, .string a4] rfl ql ?_; (with_reducible refine (idiomref03_cmp.calls k t174 a4 t175 _ A8.out).mono ?_); rintro e w' ⟨rfl, ⟨nd, rfl⟩⟩; refine ⟨_, rfl, ?_⟩; have p12 : 0 ≤ ((ji9) : Int) := of_decide_eq_true qa; have q12 : (ji9) < (a2.size : Int) := of_decide_eq_true qa; have hx12 := bt_at a2 (ji9); replace p12 := eq_true p12; replace q12 := eq_true q12))
                 go_ret2
                 exact ⟨by first | rfl | (exact congrArg (fun b => Ending.returned (.bool b)) (Aid.bne_nil _)) | (exact congrArg (fun b => Ending.returned (.bool b)) (Aid.eq_nil _)) | (simp [errW_none, errW_some] <;> rfl) | (simp only [← hji9]; first | rfl | (simp [errW_none, errW_some] <;> rfl)) | (simp [*, errW_none, errW_some] <;> rfl), qh HB⟩
               · rw [if_neg c21] at H
                 have c21b0 : (a0 == 5) = false := beq_eq_false_iff_ne.mpr c21
                 have c21b1 : (a0 != 5) = true := bne_iff_ne.mpr c21
                 try have c21b1z := c21b1
                 (try simp only [bne] at c21b1z)
                 by_cases c23 : a0 = 6
                 · rw [if_pos c23] at H
                   have c23b0 : (a0 == 6) = true := beq_iff_eq.mpr c23
                   have c23b1 : (a0 != 6) = false := bne_eq_false_iff_eq.mpr c23
                   try have c23b1z := c23b1
                   (try simp only [bne] at c23b1z)
                   clear c23
                   simp only [Option.some.injEq, Prod.mk.injEq] at H
                   obtain ⟨rfl, rfl⟩ := H
                   go_enter Tryd.func55, Tryd.ntmps55
                   go_wp2_with (first | ((with_reducible refine gate_callee (f := 56) rfl ?_); refine goesL_ (some 18) rfl rfl Tryd.func56 (by kernel_rfl) rfl #[.string a3, .string a3] rfl ql ?_; (with_reducible refine (idiomref03_add.calls k a3 a3 t174 _ A7.out).mono ?_); rintro e w24 ⟨rfl, hb⟩; refine ⟨_, rfl, ?_⟩; replace HB := qn HB hb; (try clear hb); (try clear hb2); (try clear hk); (try clear hi)) | ((with_reducible refine gate_callee (f := 87) rfl ?_); refine goesL_ (some 20) rfl rfl Tryd.func87 (by kernel_rfl) rfl #[.string t174, .string a4] rfl ql ?_; (with_reducible refine (idiomref03_cmp.calls k t174 a4 t175 _ A8.out).mono ?_); rintro e w' ⟨rfl, ⟨nd, rfl⟩⟩; refine ⟨_, rfl, ?_⟩; have p12 : 0 ≤ ((ji9) : Int) := of_decide_eq_true qa; have q12 : (ji9) < (a2.size : Int) := of_decide_eq_true qa; have hx12 := bt_at a2 (ji9); replace p12 := eq_true p12; replace q12 := eq_true q12))
                   go_ret2
                   exact ⟨by first | rfl | (exact congrArg (fun b => Ending.returned (.bool b)) (Aid.bne_nil _)) | (exact congrArg (fun b => Ending.returned (.bool b)) (Aid.eq_nil _)) | (simp [errW_none, errW_some] <;> rfl) | (simp only [← hji9]; first | rfl | (simp [errW_none, errW_some] <;> rfl)) | (simp [*, errW_none, errW_some] <;> rfl), qh HB⟩
                 · rw [if_neg c23] at H
                   have c23b0 : (a0 == 6) = false := beq_eq_false_iff_ne.mpr c23
                   have c23b1 : (a0 != 6) = true := bne_iff_ne.mpr c23
                   try have c23b1z := c23b1
                   (try simp only [bne] at c23b1z)
                   by_cases c25 : a0 = 7
                   · rw [if_pos c25] at H
                     have c25b0 : (a0 == 7) = true := beq_iff_eq.mpr c25
                     have c25b1 : (a0 != 7) = false := bne_eq_false_iff_eq.mpr c25
                     try have c25b1z := c25b1
                     (try simp only [bne] at c25b1z)
                     clear c25
                     by_cases c26 : t175 > 0
                     · rw [if_pos c26] at H
                       have c26b0 : decide (0 < t175) = true := decide_eq_true c26
                       clear c26
                       simp only [Option.some.injEq, Prod.mk.injEq] at H
                       obtain ⟨rfl, rfl⟩ := H
                       go_enter Tryd.func55, Tryd.ntmps55
                       go_wp2_with (first | ((with_reducible refine gate_callee (f := 56) rfl ?_); refine goesL_ (some 18) rfl rfl Tryd.func56 (by kernel_rfl) rfl #[.string a3, .string a3] rfl ql ?_; (with_reducible refine (idiomref03_add.calls k a3 a3 t174 _ A7.out).mono ?_); rintro e w27 ⟨rfl, hb⟩; refine ⟨_, rfl, ?_⟩; replace HB := qn HB hb; (try clear hb); (try clear hb2); (try clear hk); (try clear hi)) | ((with_reducible refine gate_callee (f := 87) rfl ?_); refine goesL_ (some 20) rfl rfl Tryd.func87 (by kernel_rfl) rfl #[.string t174, .string a4] rfl ql ?_; (with_reducible refine (idiomref03_cmp.calls k t174 a4 t175 _ A8.out).mono ?_); rintro e w' ⟨rfl, ⟨nd, rfl⟩⟩; refine ⟨_, rfl, ?_⟩; have p12 : 0 ≤ ((ji9) : Int) := of_decide_eq_true qa; have q12 : (ji9) < (a2.size : Int) := of_decide_eq_true qa; have hx12 := bt_at a2 (ji9); replace p12 := eq_true p12; replace q12 := eq_true q12))
                       go_ret2
                       exact ⟨by first | rfl | (exact congrArg (fun b => Ending.returned (.bool b)) (Aid.bne_nil _)) | (exact congrArg (fun b => Ending.returned (.bool b)) (Aid.eq_nil _)) | (simp [errW_none, errW_some] <;> rfl) | (simp only [← hji9]; first | rfl | (simp [errW_none, errW_some] <;> rfl)) | (simp [*, errW_none, errW_some] <;> rfl), qh HB⟩
                     · rw [if_neg c26] at H
                       have c26b0 : decide (0 < t175) = false := decide_eq_false c26
                       clear c26
                       by_cases c28 : t175 = 0
                       · rw [if_pos c28] at H
                         have c28b0 : (t175 == 0) = true := beq_iff_eq.mpr c28
                         have c28b1 : (t175 != 0) = false := bne_eq_false_iff_eq.mpr c28
                         try have c28b1z := c28b1
                         (try simp only [bne] at c28b1z)
                         clear c28
                         simp only [Option.some.injEq, Prod.mk.injEq] at H
                         obtain ⟨rfl, rfl⟩ := H
                         go_enter Tryd.func55, Tryd.ntmps55
                         go_wp2_with (first | ((with_reducible refine gate_callee (f := 56) rfl ?_); refine goesL_ (some 18) rfl rfl Tryd.func56 (by kernel_rfl) rfl #[.string a3, .string a3] rfl ql ?_; (with_reducible refine (idiomref03_add.calls k a3 a3 t174 _ A7.out).mono ?_); rintro e w29 ⟨rfl, hb⟩; refine ⟨_, rfl, ?_⟩; replace HB := qn HB hb; (try clear hb); (try clear hb2); (try clear hk); (try clear hi)) | ((with_reducible refine gate_callee (f := 87) rfl ?_); refine goesL_ (some 20) rfl rfl Tryd.func87 (by kernel_rfl) rfl #[.string t174, .string a4] rfl ql ?_; (with_reducible refine (idiomref03_cmp.calls k t174 a4 t175 _ A8.out).mono ?_); rintro e w' ⟨rfl, ⟨nd, rfl⟩⟩; refine ⟨_, rfl, ?_⟩; have p12 : 0 ≤ ((ji9) : Int) := of_decide_eq_true qa; have q12 : (ji9) < (a2.size : Int) := of_decide_eq_true qa; have hx12 := bt_at a2 (ji9); replace p12 := eq_true p12; replace q12 := eq_true q12))
                         go_ret2
                         exact ⟨by first | rfl | (exact congrArg (fun b => Ending.returned (.bool b)) (Aid.bne_nil _)) | (exact congrArg (fun b => Ending.returned (.bool b)) (Aid.eq_nil _)) | (simp [errW_none, errW_some] <;> rfl) | (simp only [← hji9]; first | rfl | (simp [errW_none, errW_some] <;> rfl)) | (simp [*, errW_none, errW_some] <;> rfl), qh HB⟩
                       · rw [if_neg c28] at H
                         have c28b0 : (t175 == 0) = false := beq_eq_false_iff_ne.mpr c28
                         have c28b1 : (t175 != 0) = true := bne_iff_ne.mpr c28
                         try have c28b1z := c28b1
                         (try simp only [bne] at c28b1z)
                         simp only [Option.some.injEq, Prod.mk.injEq] at H
                         obtain ⟨rfl, rfl⟩ := H
                         go_enter Tryd.func55, Tryd.ntmps55
                         go_wp2_with (first | ((with_reducible refine gate_callee (f := 56) rfl ?_); refine goesL_ (some 18) rfl rfl Tryd.func56 (by kernel_rfl) rfl #[.string a3, .string a3] rfl ql ?_; (with_reducible refine (idiomref03_add.calls k a3 a3 t174 _ A7.out).mono ?_); rintro e w30 ⟨rfl, hb⟩; refine ⟨_, rfl, ?_⟩; replace HB := qn HB hb; (try clear hb); (try clear hb2); (try clear hk); (try clear hi)) | ((with_reducible refine gate_callee (f := 87) rfl ?_); refine goesL_ (some 20) rfl rfl Tryd.func87 (by kernel_rfl) rfl #[.string t174, .string a4] rfl ql ?_; (with_reducible refine (idiomref03_cmp.calls k t174 a4 t175 _ A8.out).mono ?_); rintro e w' ⟨rfl, ⟨nd, rfl⟩⟩; refine ⟨_, rfl, ?_⟩; have p12 : 0 ≤ ((ji9) : Int) := of_decide_eq_true qa; have q12 : (ji9) < (a2.size : Int) := of_decide_eq_true qa; have hx12 := bt_at a2 (ji9); replace p12 := eq_true p12; replace q12 := eq_true q12))
                         go_ret2
                         exact ⟨by first | rfl | (exact congrArg (fun b => Ending.returned (.bool b)) (Aid.bne_nil _)) | (exact congrArg (fun b => Ending.returned (.bool b)) (Aid.eq_nil _)) | (simp [errW_none, errW_some] <;> rfl) | (simp only [← hji9]; first | rfl | (simp [errW_none, errW_some] <;> rfl)) | (simp [*, errW_none, errW_some] <;> rfl), qh HB⟩
                   · rw [if_neg c25] at H
                     have c25b0 : (a0 == 7) = false := beq_eq_false_iff_ne.mpr c25
                     have c25b1 : (a0 != 7) = true := bne_iff_ne.mpr c25
                     try have c25b1z := c25b1
                     (try simp only [bne] at c25b1z)
                     simp only [Option.some.injEq, Prod.mk.injEq] at H
                     obtain ⟨rfl, rfl⟩ := H
                     go_enter Tryd.func55, Tryd.ntmps55
                     go_wp2_with (first | ((with_reducible refine gate_callee (f := 56) rfl ?_); refine goesL_ (some 18) rfl rfl Tryd.func56 (by kernel_rfl) rfl #[.string a3, .string a3] rfl ql ?_; (with_reducible refine (idiomref03_add.calls k a3 a3 t174 _ A7.out).mono ?_); rintro e w31 ⟨rfl, hb⟩; refine ⟨_, rfl, ?_⟩; replace HB := qn HB hb; (try clear hb); (try clear hb2); (try clear hk); (try clear hi)) | ((with_reducible refine gate_callee (f := 87) rfl ?_); refine goesL_ (some 20) rfl rfl Tryd.func87 (by kernel_rfl) rfl #[.string t174, .string a4] rfl ql ?_; (with_reducible refine (idiomref03_cmp.calls k t174 a4 t175 _ A8.out).mono ?_); rintro e w' ⟨rfl, ⟨nd, rfl⟩⟩; refine ⟨_, rfl, ?_⟩; have p12 : 0 ≤ ((ji9) : Int) := of_decide_eq_true qa; have q12 : (ji9) < (a2.size : Int) := of_decide_eq_true qa; have hx12 := bt_at a2 (ji9); replace p12 := eq_true p12; replace q12 := eq_true q12))
                     go_ret2
                     exact ⟨by first | rfl | (exact congrArg (fun b => Ending.returned (.bool b)) (Aid.bne_nil _)) | (exact congrArg (fun b => Ending.returned (.bool b)) (Aid.eq_nil _)) | (simp [errW_none, errW_some] <;> rfl) | (simp only [← hji9]; first | rfl | (simp [errW_none, errW_some] <;> rfl)) | (simp [*, errW_none, errW_some] <;> rfl), qh HB⟩
     · rw [if_neg c11] at H
       exact absurd H (by simp)
   · rw [if_neg c10] at H
     exact absurd H (by simp)

/-! ### idiomref03_turned: function 27 -/
def idiomref03_turned.f (k : Nat) (a0 : Int) (a1 : Bool) (a2 : ByteArray) (a3 : ByteArray) : Option (ByteArray × Int) := (idiomref03_quo.f k a2 a3).bind fun bt176 => ((idiomref03_away.f k a0 a1 bt176.1 bt176.2 a3).bind fun bt178 => (if bt178.1 = true then ((idiomref03_add.f k bt176.1 (⟨#[49]⟩ : ByteArray)).bind fun t180 => (some (t180, bt178.2))) else (some (bt176.1, bt178.2))))
theorem idiomref03_turned.mono : ∀ a0 a1 a2 a3 k, LeO (idiomref03_turned.f k a0 a1 a2 a3) (idiomref03_turned.f (k + 1) a0 a1 a2 a3) := by
 intro a0 a1 a2 a3 k
 unfold idiomref03_turned.f
 repeat' first
  | (with_reducible exact idiomref03_add.mono _ _ _)
  | (with_reducible exact idiomref03_away.mono _ _ _ _ _ _)
  | (with_reducible exact idiomref03_quo.mono _ _ _)
  | (with_reducible exact LeO.refl _)
  | (with_reducible exact LeO.none _)
  | (with_reducible refine LeO.ite ?_ ?_)
  | (with_reducible refine LeO.bind ?_ (fun _ => ?_))
  | exact idiomref03_add.mono _ _ _
  | exact idiomref03_away.mono _ _ _ _ _ _
  | exact idiomref03_quo.mono _ _ _
  | exact LeO.none _
  | refine LeO.ite ?_ ?_
  | refine LeO.bind ?_ (fun _ => ?_)
set_option maxHeartbeats 8000000 in
set_option maxRecDepth 100000 in
theorem idiomref03_turned.calls (k : Nat) (a0 : Int) (a1 : Bool) (a2 : ByteArray) (a3 : ByteArray) (r1 : ByteArray) (r2 : Int) (w : World) (h : idiomref03_turned.f k a0 a1 a2 a3 = some (r1, r2)) :
 Calls Tryd.prog 27 #[.int .i64 a0, .bool a1, .string a2, .string a3] w fun e w' => e = .returned (.tuple #[.string r1, .int .i64 r2]) ∧ Below w.heap.size w w' := by
 have HB := Aside0.mk (Below.refl w.heap.size w)
 have H : ((idiomref03_quo.f k a2 a3).bind fun bt176 => ((idiomref03_away.f k a0 a1 bt176.1 bt176.2 a3).bind fun bt178 => (if bt178.1 = true then ((idiomref03_add.f k bt176.1 (⟨#[49]⟩ : ByteArray)).bind fun t180 => (some (t180, bt178.2))) else (some (bt176.1, bt178.2))))) = some (r1, r2) := h
 clear h
 replace H := Option.bind_eq_some_iff.mp H
 obtain ⟨⟨t176, t177⟩, A50, H⟩ := H
 replace H : ((idiomref03_away.f k a0 a1 t176 t177 a3).bind fun bt178 => (if bt178.1 = true then ((idiomref03_add.f k t176 (⟨#[49]⟩ : ByteArray)).bind fun t180 => (some (t180, bt178.2))) else (some (t176, bt178.2)))) = some (r1, r2) := H
 have A5 := Aside0.mk A50
 clear A50
 replace H := Option.bind_eq_some_iff.mp H
 obtain ⟨⟨t178, t179⟩, A60, H⟩ := H
 replace H : (if t178 = true then ((idiomref03_add.f k t176 (⟨#[49]⟩ : ByteArray)).bind fun t180 => (some (t180, t179))) else (some (t176, t179))) = some (r1, r2) := H
 have A6 := Aside0.mk A60
 clear A60
 by_cases c7 : t178 = true
 · subst c7
   have H1 : ((idiomref03_add.f k t176 (⟨#[49]⟩ : ByteArray)).bind fun t180 => (some (t180, t179))) = some (r1, r2) := by rw [if_pos rfl] at H; exact H
   clear H
   have H := H1
   clear H1
   replace H := Option.bind_eq_some_iff.mp H
   obtain ⟨t180, A80, H⟩ := H
   replace H : (some (t180, t179)) = some (r1, r2) := H
   have A8 := Aside0.mk A80
   clear A80
   simp only [Option.some.injEq, Prod.mk.injEq] at H
   obtain ⟨rfl, rfl⟩ := H
   go_enter Tryd.func27, Tryd.ntmps27
   go_wp2_with (first | ((with_reducible refine gate_callee (f := 54) rfl ?_); refine goesL_ (some 17) rfl rfl Tryd.func54 (by kernel_rfl) rfl #[.string a2, .string a3] rfl ql ?_; (with_reducible refine (idiomref03_quo.calls k a2 a3 t176 t177 _ A5.out).mono ?_); rintro e w9 ⟨rfl, hb⟩; refine ⟨_, rfl, ?_⟩; replace HB := qn HB hb; (try clear hb); (try clear hb2); (try clear hk); (try clear hi)) | ((with_reducible refine gate_callee (f := 55) rfl ?_); refine goesL_ (some 26) rfl rfl Tryd.func55 (by kernel_rfl) rfl #[.int .i64 a0, .bool a1, .string t176, .string t177, .string a3] rfl ql ?_; (with_reducible refine (idiomref03_away.calls k a0 a1 t176 t177 a3 true t179 _ A6.out).mono ?_); rintro e w10 ⟨rfl, hb⟩; refine ⟨_, rfl, ?_⟩; replace HB := qn HB hb; (try clear hb); (try clear hb2); (try clear hk); (try clear hi)) | ((with_reducible refine gate_callee (f := 56) rfl ?_); refine goesL_ (some 31) rfl rfl Tryd.func56 (by kernel_rfl) rfl #[.string t176, .string (⟨#[49]⟩ : ByteArray)] rfl ql ?_; (with_reducible refine (idiomref03_add.calls k t176 (⟨#[49]⟩ : ByteArray) t180 _ A8.out).mono ?_); rintro e w11 ⟨rfl, hb⟩; refine ⟨_, rfl, ?_⟩; replace HB := qn HB hb; (try clear hb); (try clear hb2); (try clear hk); (try clear hi)))
   go_ret2
   exact ⟨qe, qh HB⟩
 · replace c7 := Bool.eq_false_iff.mpr c7
   subst c7
   have H1 : (some (t176, t179)) = some (r1, r2) := by rw [if_neg (show ¬ (false = true) by decide)] at H; exact H
   clear H
   have H := H1
   clear H1
   simp only [Option.some.injEq, Prod.mk.injEq] at H
   obtain ⟨rfl, rfl⟩ := H
   go_enter Tryd.func27, Tryd.ntmps27
   go_wp2_with (first | ((with_reducible refine gate_callee (f := 54) rfl ?_); refine goesL_ (some 17) rfl rfl Tryd.func54 (by kernel_rfl) rfl #[.string a2, .string a3] rfl ql ?_; (with_reducible refine (idiomref03_quo.calls k a2 a3 t176 t177 _ A5.out).mono ?_); rintro e w12 ⟨rfl, hb⟩; refine ⟨_, rfl, ?_⟩; replace HB := qn HB hb; (try clear hb); (try clear hb2); (try clear hk); (try clear hi)) | ((with_reducible refine gate_callee (f := 55) rfl ?_); refine goesL_ (some 26) rfl rfl Tryd.func55 (by kernel_rfl) rfl #[.int .i64 a0, .bool a1, .string t176, .string t177, .string a3] rfl ql ?_; (with_reducible refine (idiomref03_away.calls k a0 a1 t176 t177 a3 false t179 _ A6.out).mono ?_); rintro e w13 ⟨rfl, hb⟩; refine ⟨_, rfl, ?_⟩; replace HB := qn HB hb; (try clear hb); (try clear hb2); (try clear hk); (try clear hi)))
   go_ret2
   exact ⟨qe, qh HB⟩

/-! ### idiomref03_Noughts: function 28 -/
def idiomref03_Noughts.l0 : Nat → Int → List Int → Int → Option (ByteArray)
 | 0, _, _, _ => none
 | k + 1, x0, x3, x4 => if x4 < x0 then (if x3.length < 140737488355328 then (idiomref03_Noughts.l0 k x0 (x3 ++ [48]) (wrap64 (x4 + 1))) else (none)) else (some (strOfNums x3))
def idiomref03_Noughts.f (k : Nat) (a0 : Int) : Option (ByteArray) := idiomref03_Noughts.l0 k a0 (([] : List Int)) 0
theorem idiomref03_Noughts.mono_l : ∀ k, (∀ y0 y1 y2, LeO (idiomref03_Noughts.l0 k y0 y1 y2) (idiomref03_Noughts.l0 (k + 1) y0 y1 y2))
 | 0 => fun _ _ _ r h => by simp [idiomref03_Noughts.l0] at h
 | k + 1 => by
  have ih0 := idiomref03_Noughts.mono_l k
  · intro y0 y1 y2
    unfold idiomref03_Noughts.l0
    repeat' first
    | (with_reducible exact ih0 _ _ _)
    | (with_reducible exact LeO.refl _)
    | (with_reducible exact LeO.none _)
    | (with_reducible refine LeO.ite ?_ ?_)
    | (with_reducible refine LeO.bind ?_ (fun _ => ?_))
    | exact ih0 _ _ _
    | exact LeO.none _
    | refine LeO.ite ?_ ?_
    | refine LeO.bind ?_ (fun _ => ?_)
theorem idiomref03_Noughts.mono : ∀ a0 k, LeO (idiomref03_Noughts.f k a0) (idiomref03_Noughts.f (k + 1) a0) := by
 intro a0 k
 have ih0 := idiomref03_Noughts.mono_l k
 unfold idiomref03_Noughts.f
 repeat' first
  | (with_reducible exact ih0 _ _ _)
  | (with_reducible exact LeO.refl _)
  | (with_reducible exact LeO.none _)
  | (with_reducible refine LeO.ite ?_ ?_)
  | (with_reducible refine LeO.bind ?_ (fun _ => ?_))
  | exact ih0 _ _ _
  | exact LeO.none _
  | refine LeO.ite ?_ ?_
  | refine LeO.bind ?_ (fun _ => ?_)
set_option maxHeartbeats 8000000 in
set_option maxRecDepth 100000 in
theorem idiomref03_Noughts.calls (k : Nat) (a0 : Int) (r : ByteArray) (w : World) (h : idiomref03_Noughts.f k a0 = some r) :
 Calls Tryd.prog 28 #[.int .i64 a0] w fun e w' => e = .returned (.string r) ∧ Below w.heap.size w w' := by
 have HB := Aside0.mk (Below.refl w.heap.size w)
 have H : (idiomref03_Noughts.l0 k a0 (([] : List Int)) 0) = some r := h
 clear h
 obtain ⟨y181, hy181⟩ : ∃ y_ : List Int, y_ = (([] : List Int)) := ⟨_, rfl⟩
 replace H : (idiomref03_Noughts.l0 k a0 y181 0) = some r := by first | (rw [hy181]; with_reducible exact H) | (have H2_ := (Option.bind_some _ _).symm.trans H; rw [hy181]; with_reducible exact H2_) | (have H2_ := (Option.bind_some _ _).symm.trans H; with_reducible exact H2_) | with_reducible exact H | (rw [hy181]; exact H) | exact H
 have Ny181 := Aside0.mk hy181
 clear hy181
 have H' := Aside0.mk H
 clear H
 go_enter Tryd.func28, Tryd.ntmps28
 go_wp2_with (first | ((with_reducible refine gate_dst (N := 5) rfl ?_); refine Kd.R_lit (Kd.int .u8) _ 5 ?hg (N := 5) ?hd (xs := ([] : List Int)) (inner := []) (ok := fun _ => True) (okp := fun _ => True) ?hr ?hp (fun _ hk => hk) trivial (Below.refl _ _) (Nat.le_refl _) (by simp) ?_; (case hd => rfl); (case hg => rfl); (case hr => first | (go_simp; done) | (go_simp; rfl)); (case hp => exact (Reps.none _ _)); intro v182 w2 ho3 hb hg_ hnew_; clear hg_ hnew_; (first | rw [← Ny181.out] at ho3 | (simp only [Int.reduceToNat] at ho3; rw [← Ny181.out] at ho3)); have HO183 := Aside0.mk (Kd.R_lower ho3 (below_size (qh HB))); replace HB := qn HB hb; clear hb ho3))
 (try simp only [Act.put, List.setIfInBounds_toArray, List.set_cons_zero, List.set_cons_succ])
 go_loopg [3, 4] k (fun kq v3 v4 w' => ∃ (x3_1 : List Int) (x4_1 : Int), v4 = .int .i64 x4_1 ∧ Aside0 (idiomref03_Noughts.l0 kq a0 x3_1 x4_1 = some r) ∧ Aside0 (kq ≤ k) ∧ Aside0 (Kd.R (Kd.int .u8) 5 w' w.heap.size (fun _ => True) v3 x3_1) ∧ Aside0 (Below w.heap.size w w'))
 case atStart => exact ⟨(y181), (0), (by first | rfl | (simp; done) | (simp [*]; done)), H', ⟨Nat.le_refl _⟩, ⟨by (with_reducible repeat (first | apply Kd.R_alloc | apply Kd.R_drewN | apply Kd.R_drew)); exact HO183.out⟩, ⟨qh HB⟩⟩
 case round =>
  clear H'
  try clear c2
  try clear p2
  obtain ⟨x3_1, x4_1, rfl, HA, HK1, HO_3, HB⟩ := hrel
  cases gk with
  | zero => exact absurd HA.out (by simp [idiomref03_Noughts.l0])
  | succ k1 =>
   have H := HA.out
   clear HA
   simp only [idiomref03_Noughts.l0] at H
   by_cases c4 : x4_1 < a0
   · rw [if_pos c4] at H
     have c4b0 : decide (x4_1 < a0) = true := decide_eq_true c4
     clear c4
     by_cases c5 : x3_1.length < 140737488355328
     · rw [if_pos c5] at H
       have LMc5 := Aside0.mk c5
       clear c5
       obtain ⟨y184, hy184⟩ : ∃ y_ : List Int, y_ = (x3_1 ++ [48]) := ⟨_, rfl⟩
       replace H : (idiomref03_Noughts.l0 k1 a0 y184 (wrap64 (x4_1 + 1))) = some r := by first | (rw [hy184]; with_reducible exact H) | (have H2_ := (Option.bind_some _ _).symm.trans H; rw [hy184]; with_reducible exact H2_) | (have H2_ := (Option.bind_some _ _).symm.trans H; with_reducible exact H2_) | with_reducible exact H | (rw [hy184]; exact H) | exact H
       have Ny184 := Aside0.mk hy184
       clear hy184
       have H' := Aside0.mk H
       clear H
       go_wp2_with (first | ((with_reducible refine gate_builtin (b := .append) (xs := #[.tmp 11, .tmp 12]) rfl ?_); at_builtin; refine Kd.R_append (Kd.int .u8) (w0 := w) w.heap.size rfl (.tmp 11) (.tmp 12) 69 5 (.int .u8 0) 1 rfl Tryd.underlying69 info5 rfl (by decide) (by omega) u3 x3_1 48 [.int .u8 48] (fun _ => True) (fun _ => False) rfl rfl ?aP (fun _ hk => hk.elim) ?aF ?aO ?aB ?aS ?aL ?_; (case aP => exact rfl); (case aB => exact (qh HB)); (case aF => exact (fun _ _ => trivial)); (case aO => exact (by (with_reducible repeat (first | apply Kd.R_alloc | apply Kd.R_drewN | apply Kd.R_drew)); exact HO_3.out)); (case aS => exact (below_size (qh HB))); (case aL => have := LMc5.out; omega); intro v185 w6 ho hb hg hat; rw [← Ny184.out] at ho; have n0_ := Aside0.mk (hb); have n1_ := Aside0.mk (ho); clear HB; clear HO_3; have HB := n0_; have HO186 := n1_; clear n0_ n1_; clear ho hb hg hat))
       go_roundg k1
       case measure => have := HK1.out; omega
       case rel => exact ⟨(y184), (wrap64 (x4_1 + 1)), (by first | rfl | (simp; done) | (simp [*]; done)), H', ⟨by have := HK1.out; omega⟩, ⟨by (with_reducible repeat (first | apply Kd.R_alloc | apply Kd.R_drewN | apply Kd.R_drew)); exact HO186.out⟩, ⟨qh HB⟩⟩
     · rw [if_neg c5] at H
       exact absurd H (by simp)
   · rw [if_neg c4] at H
     have c4b0 : decide (x4_1 < a0) = false := decide_eq_false c4
     clear c4
     obtain rfl := Option.some.inj H
     have hcv7 := own_string (P := Tryd.prog) Tryd.underlying69 Tryd.underlying5 Tryd.underlying9 (Kd.own_of_R HO_3.out)
     go_wp2
     go_ret
     exact ⟨qe, qh HB⟩

end Go.Proofs.YtpmhebdaphjinaaDoor.F
-- Printed by this session's hookprint.py (over the kit's print.py, with hooks). Lean checks it.
namespace Go.Proofs.YtpmhebdaphjinaaDoor.F
open Go.RowKit Go.Proofs.YtpmhebdaphjinaaDoorW.PrintWords Go.Proofs.YtpmhebdaphjinaaDoorW.PrintLast Go.Proofs.YtpmhebdaphjinaaDoorW.PrintMore Go.Proofs.YtpmhebdaphjinaaDoor.Q
attribute [local go_sem] max2_int min2_int max_two min_two max_three min_three max_four min_four   -- for this text's walks alone
set_option linter.unusedVariables false
set_option linter.unusedSimpArgs false

/-! ### idiomref03_Made: function 29 -/
def idiomref03_Made.l0 : Nat → Bool → ByteArray → Int → Option (Bool × ByteArray × ByteArray)
 | 0, _, _, _ => none
 | k + 1, x0, x1, x2 => if (x1.size : Int) ≤ x2 then (if 1 + x1.size ≤ 9223372036854775807 then (idiomref03_Made.l0 k x0 ((⟨#[48]⟩ : ByteArray) ++ x1) x2) else (none)) else (if 0 ≤ (wrap64 ((x1.size : Int) - x2)) then (if (wrap64 ((x1.size : Int) - x2)) ≤ (x1.size : Int) then ((idiomref03_Lead.f k (x1.extract 0 ((wrap64 ((x1.size : Int) - x2)) : Int).toNat)).bind fun t188 => (if x0 = true then (if t188.size + (x1.extract ((wrap64 ((x1.size : Int) - x2)) : Int).toNat x1.size).size ≤ 9223372036854775807 then ((idiomref03_Lead.f k (t188 ++ (x1.extract ((wrap64 ((x1.size : Int) - x2)) : Int).toNat x1.size))).bind fun t190 => (some ((t190.toList != ([48] : List UInt8)), t188, x1.extract ((wrap64 ((x1.size : Int) - x2)) : Int).toNat x1.size))) else (none)) else (some (false, t188, x1.extract ((wrap64 ((x1.size : Int) - x2)) : Int).toNat x1.size)))) else (none)) else (none))
def idiomref03_Made.f (k : Nat) (a0 : Bool) (a1 : ByteArray) (a2 : Int) : Option (Bool × ByteArray × ByteArray) := idiomref03_Made.l0 k a0 a1 a2
theorem idiomref03_Made.mono_l : ∀ k, (∀ y0 y1 y2, LeO (idiomref03_Made.l0 k y0 y1 y2) (idiomref03_Made.l0 (k + 1) y0 y1 y2))
 | 0 => fun _ _ _ r h => by simp [idiomref03_Made.l0] at h
 | k + 1 => by
  have ih0 := idiomref03_Made.mono_l k
  · intro y0 y1 y2
    unfold idiomref03_Made.l0
    repeat' first
    | (with_reducible exact ih0 _ _ _)
    | (with_reducible exact idiomref03_Lead.mono _ _)
    | (with_reducible exact LeO.refl _)
    | (with_reducible exact LeO.none _)
    | (with_reducible refine LeO.ite ?_ ?_)
    | (with_reducible refine LeO.bind ?_ (fun _ => ?_))
    | exact ih0 _ _ _
    | exact idiomref03_Lead.mono _ _
    | exact LeO.none _
    | refine LeO.ite ?_ ?_
    | refine LeO.bind ?_ (fun _ => ?_)
theorem idiomref03_Made.mono : ∀ a0 a1 a2 k, LeO (idiomref03_Made.f k a0 a1 a2) (idiomref03_Made.f (k + 1) a0 a1 a2) := by
 intro a0 a1 a2 k
 have ih0 := idiomref03_Made.mono_l k
 unfold idiomref03_Made.f
 repeat' first
  | (with_reducible exact ih0 _ _ _)
  | (with_reducible exact idiomref03_Lead.mono _ _)
  | (with_reducible exact LeO.refl _)
  | (with_reducible exact LeO.none _)
  | (with_reducible refine LeO.ite ?_ ?_)
  | (with_reducible refine LeO.bind ?_ (fun _ => ?_))
  | exact ih0 _ _ _
  | exact idiomref03_Lead.mono _ _
  | exact LeO.none _
  | refine LeO.ite ?_ ?_
  | refine LeO.bind ?_ (fun _ => ?_)
def idiomref03_Made.T3 : Bool × List (List Nat × List Nat) := (true, [([], []), ([], []), ([1], [1]), ([], []), ([2, 3], [2, 3]), ([0, 4], [0, 4]), ([5], [5]), ([], []), ([], []), ([8], [8]), ([], []), ([9, 10], [9, 10]), ([7, 11], [7, 11]), ([6, 12], [6, 12]), ([], []), ([14, 13, 6, 0, 1, 2, 3, 4, 5, 6, 7, 8, 9, 10, 11, 12, 13, 14], [13, 14])])
def idiomref03_Made.B3 : List Nat := [0, 0, 2, 0, 14, 31, 63, 0, 0, 256, 0, 1792, 3968, 8191, 0, 32767]
theorem idiomref03_Made.tab3 : rtab .any (opsOf Tryd.f29 3) = idiomref03_Made.T3 := by kernel_rfl
theorem idiomref03_Made.bits3 : waitsOk idiomref03_Made.T3.2 idiomref03_Made.B3 = true := by kernel_rfl
set_option maxHeartbeats 8000000 in
set_option maxRecDepth 100000 in
theorem idiomref03_Made.calls (k : Nat) (a0 : Bool) (a1 : ByteArray) (a2 : Int) (r1 : Bool) (r2 : ByteArray) (r3 : ByteArray) (w : World) (h : idiomref03_Made.f k a0 a1 a2 = some (r1, r2, r3)) :
 Calls Tryd.prog 29 #[.bool a0, .string a1, .int .i64 a2] w fun e w' => e = .returned (.agg #[.bool r1, .string r2, .string r3]) ∧ Below w.heap.size w w' := by
 have hu23 := Tryd.underlying23
 have HB := Aside0.mk (Below.refl w.heap.size w)
 have H : (idiomref03_Made.l0 k a0 a1 a2) = some (r1, r2, r3) := h
 clear h
 have H' := Aside0.mk H
 clear H
 go_enter Tryd.func29, Tryd.ntmps29
 go_wp2_with (first | ((with_reducible refine gate_dst (N := 6) rfl ?_); refine qx 6 #[.bool false, .string (⟨#[]⟩ : ByteArray), .string (⟨#[]⟩ : ByteArray)] 23 ?_; intro gb187 hg w4 hbox hb; have BK187 := Aside0.mk (hbox); have GW187 := qs hg HB; have GE187 := GW187; replace HB := qn HB hb; clear hb hbox hg))
 (try simp only [Act.put, List.setIfInBounds_toArray, List.set_cons_zero, List.set_cons_succ])
 go_loopg [1] k (fun kq v1 w' => ∃ (x1_1 : ByteArray), v1 = .string x1_1 ∧ Aside0 (idiomref03_Made.l0 kq a0 x1_1 a2 = some (r1, r2, r3)) ∧ Aside0 (kq ≤ k) ∧ Aside0 (w'.heap[gb187]? = some (.cells #[.bool false, .string (⟨#[]⟩ : ByteArray), .string (⟨#[]⟩ : ByteArray)] 23 (0, 0))) ∧ Aside0 (Below w.heap.size w w'))
 case atStart => exact ⟨(a1), (by first | rfl | (simp; done) | (simp [*]; done)), H', ⟨Nat.le_refl _⟩, ⟨qk BK187⟩, ⟨qh HB⟩⟩
 case round =>
  clear H'
  try clear c2
  try clear p2
  obtain ⟨x1_1, rfl, HA, HK1, BK187, HB⟩ := hrel
  cases gk with
  | zero => exact absurd HA.out (by simp [idiomref03_Made.l0])
  | succ k1 =>
   have H := HA.out
   clear HA
   simp only [idiomref03_Made.l0] at H
   by_cases c5 : (x1_1.size : Int) ≤ a2
   · rw [if_pos c5] at H
     have c5b0 : decide ((x1_1.size : Int) ≤ a2) = true := decide_eq_true c5
     clear c5
     by_cases c6 : 1 + x1_1.size ≤ 9223372036854775807
     · rw [if_pos c6] at H
       have c6b0 := eq_true c6
       have c6b1 : decide (1 + x1_1.size ≤ 9223372036854775807) = true := decide_eq_true c6
       try have c6b2 : (9223372036854775807 < 1 + x1_1.size) = False := eq_false (Nat.not_lt.2 c6)
       have H' := Aside0.mk H
       clear H
       go_wp2
       go_roundg k1
       case measure => have := HK1.out; omega
       case rel => exact ⟨((⟨#[48]⟩ : ByteArray) ++ x1_1), (by first | rfl | (simp; done) | (simp [*]; done)), H', ⟨by have := HK1.out; omega⟩, ⟨qk BK187⟩, ⟨qh HB⟩⟩
     · rw [if_neg c6] at H
       exact absurd H (by simp)
   · rw [if_neg c5] at H
     have c5b0 : decide ((x1_1.size : Int) ≤ a2) = false := decide_eq_false c5
     clear c5
     obtain ⟨ji7, hji7⟩ : ∃ j_ : Int, (wrap64 ((x1_1.size : Int) - a2)) = j_ := ⟨_, rfl⟩
     replace H : (if 0 ≤ (ji7) then (if (ji7) ≤ (x1_1.size : Int) then ((idiomref03_Lead.f k1 (x1_1.extract 0 ((ji7) : Int).toNat)).bind fun t188 => (if a0 = true then (if t188.size + (x1_1.extract ((ji7) : Int).toNat x1_1.size).size ≤ 9223372036854775807 then ((idiomref03_Lead.f k1 (t188 ++ (x1_1.extract ((ji7) : Int).toNat x1_1.size))).bind fun t190 => (some ((t190.toList != ([48] : List UInt8)), t188, x1_1.extract ((ji7) : Int).toNat x1_1.size))) else (none)) else (some (false, t188, x1_1.extract ((ji7) : Int).toNat x1_1.size)))) else (none)) else (none)) = some (r1, r2, r3) := by first | (rw [hji7] at H; exact H) | (simp only [hji7] at H ⊢; exact H)
     have hji7w : (IntKind.i64.wrap ((x1_1.size : Int) - a2)) = ji7 := (i64_w _).trans hji7
     by_cases c8 : 0 ≤ (ji7)
     · rw [if_pos c8] at H
       have c8b0 := eq_true c8
       have c8b1 : decide (0 ≤ (ji7)) = true := decide_eq_true c8
       clear c8
       by_cases c9 : (ji7) ≤ (x1_1.size : Int)
       · rw [if_pos c9] at H
         have c9b0 := eq_true c9
         have c9b1 : decide ((ji7) ≤ (x1_1.size : Int)) = true := decide_eq_true c9
         clear c9
         replace H := Option.bind_eq_some_iff.mp H
         obtain ⟨t188, A100, H⟩ := H
         replace H : (if a0 = true then (if t188.size + (x1_1.extract ((ji7) : Int).toNat x1_1.size).size ≤ 9223372036854775807 then ((idiomref03_Lead.f k1 (t188 ++ (x1_1.extract ((ji7) : Int).toNat x1_1.size))).bind fun t190 => (some ((t190.toList != ([48] : List UInt8)), t188, x1_1.extract ((ji7) : Int).toNat x1_1.size))) else (none)) else (some (false, t188, x1_1.extract ((ji7) : Int).toNat x1_1.size))) = some (r1, r2, r3) := H
         have A10 := Aside0.mk A100
         clear A100
         have c11b0 := eq_true (of_decide_eq_true qa : 0 ≤ (ji7))
         have c12b0 := eq_true (of_decide_eq_true qa : (ji7) ≤ (x1_1.size : Int))
         by_cases c13 : a0 = true
         · subst c13
           have H1 : (if t188.size + (x1_1.extract ((ji7) : Int).toNat x1_1.size).size ≤ 9223372036854775807 then ((idiomref03_Lead.f k1 (t188 ++ (x1_1.extract ((ji7) : Int).toNat x1_1.size))).bind fun t190 => (some ((t190.toList != ([48] : List UInt8)), t188, x1_1.extract ((ji7) : Int).toNat x1_1.size))) else (none)) = some (r1, r2, r3) := by rw [if_pos rfl] at H; exact H
           clear H
           have H := H1
           clear H1
           by_cases c14 : t188.size + (x1_1.extract ((ji7) : Int).toNat x1_1.size).size ≤ 9223372036854775807
           · rw [if_pos c14] at H
             have c14b0 := eq_true c14
             try have c14b0z := c14b0
             (try simp only [go_sem, ByteArray.size_extract, ByteArray.size_append, Nat.min_self, Int.natCast_add] at c14b0z)
             have c14b1 : decide (t188.size + (x1_1.extract ((ji7) : Int).toNat x1_1.size).size ≤ 9223372036854775807) = true := decide_eq_true c14
             try have c14b1z := c14b1
             (try simp only [go_sem, ByteArray.size_extract, ByteArray.size_append, Nat.min_self, Int.natCast_add] at c14b1z)
             try have c14b2 : (9223372036854775807 < t188.size + (x1_1.extract ((ji7) : Int).toNat x1_1.size).size) = False := eq_false (Nat.not_lt.2 c14)
             try have c14b2z := c14b2
             (try simp only [go_sem, ByteArray.size_extract, ByteArray.size_append, Nat.min_self, Int.natCast_add] at c14b2z)
             replace H := Option.bind_eq_some_iff.mp H
             obtain ⟨t190, A150, H⟩ := H
             replace H : (some ((t190.toList != ([48] : List UInt8)), t188, x1_1.extract ((ji7) : Int).toNat x1_1.size)) = some (r1, r2, r3) := H
             have A15 := Aside0.mk A150
             clear A150
             simp only [Option.some.injEq, Prod.mk.injEq] at H
             obtain ⟨rfl, rfl, rfl⟩ := H
             try go_wp2
             replace BK187 := Aside0.mk (blk_drew BK187.out)
             replace HB := Aside0.mk (below_drew1 HB.out)
             refine start_ (n := 16) (S := fun w' => True) (ds := []) #[false, false, false, false, false, false, false, false, false, false, false, false, false, false, false, false] (by kernel_rfl) rfl rfl trivial (fun hHeld => ?_); refine with_tabW idiomref03_Made.tab3 idiomref03_Made.bits3 (fun HT_ HW_ => ?_)
             generalize wr.drew = w16 at BK187 HB hHeld ⊢
             refine pz 0 (some 14) #[true, false, false, false, false, false, false, false, false, false, false, false, false, false, false, false] HT_ ?_
             refine pz 1 (some 15) #[true, true, false, false, false, false, false, false, false, false, false, false, false, false, false, false] HT_ ?_
             refine pz 2 (some 16) #[true, true, true, false, false, false, false, false, false, false, false, false, false, false, false, false] HT_ ?_
             refine pz 3 (some 17) #[true, true, true, true, false, false, false, false, false, false, false, false, false, false, false, false] HT_ ?_
             refine pz 4 (some 18) #[true, true, true, true, true, false, false, false, false, false, false, false, false, false, false, false] HT_ ?_
             refine pz 5 (some 19) #[true, true, true, true, true, true, false, false, false, false, false, false, false, false, false, false] HT_ ?_
             refine pz 7 (some 21) #[true, true, true, true, true, true, false, true, false, false, false, false, false, false, false, false] HT_ ?_
             refine pz 8 (some 22) #[true, true, true, true, true, true, false, true, true, false, false, false, false, false, false, false] HT_ ?_
             refine pz 9 (some 23) #[true, true, true, true, true, true, false, true, true, true, false, false, false, false, false, false] HT_ ?_
             refine pz 10 (some 24) #[true, true, true, true, true, true, false, true, true, true, true, false, false, false, false, false] HT_ ?_
             refine pz 11 (some 25) #[true, true, true, true, true, true, false, true, true, true, true, true, false, false, false, false] HT_ ?_
             refine pz 12 (some 26) #[true, true, true, true, true, true, false, true, true, true, true, true, true, false, false, false] HT_ ?_
             refine join_ (σ := Nat) 1 #[true, true, true, true, true, true, true, true, true, true, true, true, true, true, true, false] (fun s_ => [(20, .string t188), (7, .pointer (some ⟨s_, 0, none⟩)), (27, .agg #[.bool false, .string t188, .string (x1_1.extract ((ji7) : Int).toNat x1_1.size)])]) (fun s_ w' => (w'.heap[gb187]? = some (.cells #[.bool false, .string (⟨#[]⟩ : ByteArray), .string (⟨#[]⟩ : ByteArray)] 23 (0, 0))) ∧ (w'.heap[s_]? = some (.cells #[.bool false, .string (⟨#[]⟩ : ByteArray), .string (⟨#[]⟩ : ByteArray)] 23 (0, 0))) ∧ (w.heap.size ≤ s_) ∧ (w.heap.size ≤ s_) ∧ (gb187 ≠ s_) ∧ (s_ ≠ gb187) ∧ (Below w.heap.size w w')) ?_ ?_
             rotate_left
             · intro hCont
               refine two_ (i := 6) (j := 14) (Ni := some 20) (Nj := some 7) #[true, true, true, true, true, true, true, true, true, true, true, true, true, false, false, false] #[true, true, true, true, true, true, false, true, true, true, true, true, true, false, true, false] rfl rfl rfl rfl (two_of HT_.out (by kernel_rfl)) (by decide) (by decide) (fun K hK => ?_) (fun K hK => ?_)
               · skip
                 refine goes_ Tryd.func41 (by kernel_rfl) rfl #[.string (x1_1.extract 0 ((ji7) : Int).toNat)] (by rfl) rfl rfl (by (try simp only [List.map_toArray, List.map_cons, List.map_nil]); first | done | (simp only [hji7]; rfl) | rfl | (simp only [List.length_drop, List.length_take]; rfl)) ?_
                 with_reducible refine (idiomref03_Lead.calls k1 (x1_1.extract 0 ((ji7) : Int).toNat) t188 _ A10.out).mono ?_
                 rintro e w' ⟨rfl, ⟨nd, rfl⟩⟩
                 refine ⟨_, rfl, ?_⟩
                 refine hK.out _ _ trivial (fun hHeld => ?_)
                 clear hK K
                 refine nz (some 20) ?_
                 refine pz 13 (some 27) #[true, true, true, true, true, true, true, true, true, true, true, true, true, true, false, false] HT_ ?_
                 refine one_ (i := 14) (N := some 7) #[true, true, true, true, true, true, true, true, true, true, true, true, true, true, true, false] rfl rfl (one_of HT_.out (by kernel_rfl)) (by decide) (fun K hK => ?_)
                 refine box_step ?hg (N := 7) ?hd (cs := #[.bool false, .string (⟨#[]⟩ : ByteArray), .string (⟨#[]⟩ : ByteArray)]) (t := 23) ?hr ?_; (case hd => rfl); (case hg => rfl); (case hr => first | (go_simp; done) | (go_simp; rfl))
                 intro gb189 hg w17 hbox hb
                 have BK189 := Aside0.mk (hbox)
                 have GW189 := qs hg HB
                 have GE189 := GW189
                 have NB187_189 := ql_ hg BK187
                 have NB189_187 := qg_ hg BK187
                 replace BK187 := qb BK187 hb
                 replace HB := qn HB hb
                 clear hb hbox hg
                 refine hK.out _ _ trivial (fun hHeld => ?_)
                 clear hK K
                 refine nz (some 7) ?_
                 exact norm_ (by simp only [putAll, Act.put, List.setIfInBounds_toArray, List.set_cons_zero, List.set_cons_succ]) (hCont (gb189) _ ⟨(qk BK187), (qk BK189), GW189.out, GE189.out, NB187_189.out, NB189_187.out, (qh HB)⟩)
               · skip
                 refine box_step ?hg (N := 7) ?hd (cs := #[.bool false, .string (⟨#[]⟩ : ByteArray), .string (⟨#[]⟩ : ByteArray)]) (t := 23) ?hr ?_; (case hd => rfl); (case hg => rfl); (case hr => first | (go_simp; done) | (go_simp; rfl))
                 intro gb189 hg w17 hbox hb
                 have BK189 := Aside0.mk (hbox)
                 have GW189 := qs hg HB
                 have GE189 := GW189
                 have NB187_189 := ql_ hg BK187
                 have NB189_187 := qg_ hg BK187
                 replace BK187 := qb BK187 hb
                 replace HB := qn HB hb
                 clear hb hbox hg
                 refine hK.out _ _ trivial (fun hHeld => ?_)
                 clear hK K
                 refine nz (some 7) ?_
                 refine one_ (i := 6) (N := some 20) #[true, true, true, true, true, true, true, true, true, true, true, true, true, false, true, false] rfl rfl (one_of HT_.out (by kernel_rfl)) (by decide) (fun K hK => ?_)
                 refine goes_ Tryd.func41 (by kernel_rfl) rfl #[.string (x1_1.extract 0 ((ji7) : Int).toNat)] (by rfl) rfl rfl (by (try simp only [List.map_toArray, List.map_cons, List.map_nil]); first | done | (simp only [hji7]; rfl) | rfl | (simp only [List.length_drop, List.length_take]; rfl)) ?_
                 with_reducible refine (idiomref03_Lead.calls k1 (x1_1.extract 0 ((ji7) : Int).toNat) t188 _ A10.out).mono ?_
                 rintro e w' ⟨rfl, ⟨nd, rfl⟩⟩
                 refine ⟨_, rfl, ?_⟩
                 refine hK.out _ _ trivial (fun hHeld => ?_)
                 clear hK K
                 refine nz (some 20) ?_
                 refine pz 13 (some 27) #[true, true, true, true, true, true, true, true, true, true, true, true, true, true, true, false] HT_ ?_
                 exact norm_ (by simp only [putAll, Act.put, List.setIfInBounds_toArray, List.set_cons_zero, List.set_cons_succ]) (hCont (gb189) _ ⟨(qk BK187), (qk BK189), GW189.out, GE189.out, NB187_189.out, NB189_187.out, (qh HB)⟩)
             rintro gb189 w18 ⟨h0_, h1_, h2_, h3_, h4_, h5_, h6_⟩
             have n0_ : Aside0 (w18.heap[gb187]? = some (.cells #[.bool false, .string (⟨#[]⟩ : ByteArray), .string (⟨#[]⟩ : ByteArray)] 23 (0, 0))) := ⟨h0_⟩
             have n1_ : Aside0 (w18.heap[gb189]? = some (.cells #[.bool false, .string (⟨#[]⟩ : ByteArray), .string (⟨#[]⟩ : ByteArray)] 23 (0, 0))) := ⟨h1_⟩
             have n2_ : Aside0 (w.heap.size ≤ gb189) := ⟨h2_⟩
             have n3_ : Aside0 (w.heap.size ≤ gb189) := ⟨h3_⟩
             have n4_ : Aside0 (gb187 ≠ gb189) := ⟨h4_⟩
             have n5_ : Aside0 (gb189 ≠ gb187) := ⟨h5_⟩
             have n6_ : Aside0 (Below w.heap.size w w18) := ⟨h6_⟩
             clear BK187
             clear HB
             clear h0_ h1_ h2_ h3_ h4_ h5_ h6_
             have BK187 := n0_
             have BK189 := n1_
             have GW189 := n2_
             have GE189 := n3_
             have NB187_189 := n4_
             have NB189_187 := n5_
             have HB := n6_
             clear n0_ n1_ n2_ n3_ n4_ n5_ n6_
             have hHeld := trivial
             refine norm_ (a' := ?_) ?_ ?_
             rotate_left
             · simp only [putAll, Act.put, List.setIfInBounds_toArray, List.set_cons_zero, List.set_cons_succ]
               rfl
             refine one_ (i := 15) (N := none) #[true, true, true, true, true, true, true, true, true, true, true, true, true, true, true, true] rfl rfl (one_of HT_.out (by kernel_rfl)) (by decide) (fun K hK => ?_)
             have hs19 : w18.cell? ⟨gb189, 0, none⟩ = some (.bool false) := c_ BK189 0
             have hfs19 := blk_frozen BK189.out 0
             have hns19_0 := NB187_189.out
             have hms19_0 := NB189_187.out
             have hs20 : w18.cell? ⟨gb189, 1, none⟩ = some (.string (⟨#[]⟩ : ByteArray)) := c_ BK189 1
             have hfs20 := blk_frozen BK189.out 1
             have hns20_0 := NB187_189.out
             have hms20_0 := NB189_187.out
             have hs21 : w18.cell? ⟨gb189, 2, none⟩ = some (.string (⟨#[]⟩ : ByteArray)) := c_ BK189 2
             have hfs21 := blk_frozen BK189.out 2
             have hns21_0 := NB187_189.out
             have hms21_0 := NB189_187.out
             refine skip_ (w1 := ?_) (by rfl) rfl ?_ ?_
             rotate_left
             · go_simp
               rfl
             refine hK.out _ _ trivial (fun hHeld => ?_)
             clear hK K
             refine done_ (done_of HT_.out (by kernel_rfl)) ?_
             have hnb22 := NB189_187.out
             have hnc22 := NB187_189.out
             obtain ⟨hcz23_0, hcz23_1, hcz23_2, hfz23_0, hfz23_1, hfz23_2⟩ := q3 BK189
             try go_wp2_with (first | (go_at_call 41; (with_reducible refine (idiomref03_Lead.calls k1 (t188 ++ (x1_1.extract ((ji7) : Int).toNat x1_1.size)) t190 _ A15.out).mono ?_); rintro e w' ⟨rfl, ⟨nd, rfl⟩⟩; obtain ⟨hcz24_0, hcz24_1, hcz24_2, hfz24_0, hfz24_1, hfz24_2⟩ := q3 BK187))
             refine bodyPost_ret (results_cell_row rfl _ _ gb187 23 #[.bool (t190.toList != ([48] : List UInt8)), .string t188, .string (x1_1.extract ((ji7) : Int).toNat x1_1.size)] (0, 0) _ rfl (by refine qp 2 #[.bool (t190.toList != ([48] : List UInt8)), .string t188, .string (⟨#[]⟩ : ByteArray)] ?_; refine qp 1 #[.bool (t190.toList != ([48] : List UInt8)), .string (⟨#[]⟩ : ByteArray), .string (⟨#[]⟩ : ByteArray)] ?_; refine qp 0 #[.bool false, .string (⟨#[]⟩ : ByteArray), .string (⟨#[]⟩ : ByteArray)] ?_; refine qf NB187_189 ?_; refine qf NB187_189 ?_; refine qf NB187_189 ?_; refine qf NB187_189 ?_; exact qk BK187) Tryd.underlying23 rfl (by kernel_rfl)) rfl ?_
             exact ⟨by first | rfl | (exact congrArg (fun b => Ending.returned (.bool b)) (Aid.bne_nil _)) | (exact congrArg (fun b => Ending.returned (.bool b)) (Aid.eq_nil _)) | (simp [errW_none, errW_some] <;> rfl) | (simp only [← hji7]; first | rfl | (simp [errW_none, errW_some] <;> rfl)) | (simp [*, errW_none, errW_some] <;> rfl), qh HB⟩
           · rw [if_neg c14] at H
             exact absurd H (by simp)
         · replace c13 := Bool.eq_false_iff.mpr c13
           subst c13
           have H1 : (some (false, t188, x1_1.extract ((ji7) : Int).toNat x1_1.size)) = some (r1, r2, r3) := by rw [if_neg (show ¬ (false = true) by decide)] at H; exact H
           clear H
           have H := H1
           clear H1
           simp only [Option.some.injEq, Prod.mk.injEq] at H
           obtain ⟨rfl, rfl, rfl⟩ := H
           try go_wp2
           replace BK187 := Aside0.mk (blk_drew BK187.out)
           replace HB := Aside0.mk (below_drew1 HB.out)
           refine start_ (n := 16) (S := fun w' => True) (ds := []) #[false, false, false, false, false, false, false, false, false, false, false, false, false, false, false, false] (by kernel_rfl) rfl rfl trivial (fun hHeld => ?_); refine with_tabW idiomref03_Made.tab3 idiomref03_Made.bits3 (fun HT_ HW_ => ?_)
           generalize wr.drew = w25 at BK187 HB hHeld ⊢
           refine pz 0 (some 14) #[true, false, false, false, false, false, false, false, false, false, false, false, false, false, false, false] HT_ ?_
           refine pz 1 (some 15) #[true, true, false, false, false, false, false, false, false, false, false, false, false, false, false, false] HT_ ?_
           refine pz 2 (some 16) #[true, true, true, false, false, false, false, false, false, false, false, false, false, false, false, false] HT_ ?_
           refine pz 3 (some 17) #[true, true, true, true, false, false, false, false, false, false, false, false, false, false, false, false] HT_ ?_
           refine pz 4 (some 18) #[true, true, true, true, true, false, false, false, false, false, false, false, false, false, false, false] HT_ ?_
           refine pz 5 (some 19) #[true, true, true, true, true, true, false, false, false, false, false, false, false, false, false, false] HT_ ?_
           refine pz 7 (some 21) #[true, true, true, true, true, true, false, true, false, false, false, false, false, false, false, false] HT_ ?_
           refine pz 8 (some 22) #[true, true, true, true, true, true, false, true, true, false, false, false, false, false, false, false] HT_ ?_
           refine pz 9 (some 23) #[true, true, true, true, true, true, false, true, true, true, false, false, false, false, false, false] HT_ ?_
           refine pz 10 (some 24) #[true, true, true, true, true, true, false, true, true, true, true, false, false, false, false, false] HT_ ?_
           refine pz 11 (some 25) #[true, true, true, true, true, true, false, true, true, true, true, true, false, false, false, false] HT_ ?_
           refine pz 12 (some 26) #[true, true, true, true, true, true, false, true, true, true, true, true, true, false, false, false] HT_ ?_
           refine join_ (σ := Nat) 1 #[true, true, true, true, true, true, true, true, true, true, true, true, true, true, true, false] (fun s_ => [(20, .string t188), (7, .pointer (some ⟨s_, 0, none⟩)), (27, .agg #[.bool false, .string t188, .string (x1_1.extract ((ji7) : Int).toNat x1_1.size)])]) (fun s_ w' => (w'.heap[gb187]? = some (.cells #[.bool false, .string (⟨#[]⟩ : ByteArray), .string (⟨#[]⟩ : ByteArray)] 23 (0, 0))) ∧ (w'.heap[s_]? = some (.cells #[.bool false, .string (⟨#[]⟩ : ByteArray), .string (⟨#[]⟩ : ByteArray)] 23 (0, 0))) ∧ (w.heap.size ≤ s_) ∧ (w.heap.size ≤ s_) ∧ (gb187 ≠ s_) ∧ (s_ ≠ gb187) ∧ (Below w.heap.size w w')) ?_ ?_
           rotate_left
           · intro hCont
             refine two_ (i := 6) (j := 14) (Ni := some 20) (Nj := some 7) #[true, true, true, true, true, true, true, true, true, true, true, true, true, false, false, false] #[true, true, true, true, true, true, false, true, true, true, true, true, true, false, true, false] rfl rfl rfl rfl (two_of HT_.out (by kernel_rfl)) (by decide) (by decide) (fun K hK => ?_) (fun K hK => ?_)
             · skip
               refine goes_ Tryd.func41 (by kernel_rfl) rfl #[.string (x1_1.extract 0 ((ji7) : Int).toNat)] (by rfl) rfl rfl (by (try simp only [List.map_toArray, List.map_cons, List.map_nil]); first | done | (simp only [hji7]; rfl) | rfl | (simp only [List.length_drop, List.length_take]; rfl)) ?_
               with_reducible refine (idiomref03_Lead.calls k1 (x1_1.extract 0 ((ji7) : Int).toNat) t188 _ A10.out).mono ?_
               rintro e w' ⟨rfl, ⟨nd, rfl⟩⟩
               refine ⟨_, rfl, ?_⟩
               refine hK.out _ _ trivial (fun hHeld => ?_)
               clear hK K
               refine nz (some 20) ?_
               refine pz 13 (some 27) #[true, true, true, true, true, true, true, true, true, true, true, true, true, true, false, false] HT_ ?_
               refine one_ (i := 14) (N := some 7) #[true, true, true, true, true, true, true, true, true, true, true, true, true, true, true, false] rfl rfl (one_of HT_.out (by kernel_rfl)) (by decide) (fun K hK => ?_)
               refine box_step ?hg (N := 7) ?hd (cs := #[.bool false, .string (⟨#[]⟩ : ByteArray), .string (⟨#[]⟩ : ByteArray)]) (t := 23) ?hr ?_; (case hd => rfl); (case hg => rfl); (case hr => first | (go_simp; done) | (go_simp; rfl))
               intro gb189 hg w26 hbox hb
               have BK189 := Aside0.mk (hbox)
               have GW189 := qs hg HB
               have GE189 := GW189
               have NB187_189 := ql_ hg BK187
               have NB189_187 := qg_ hg BK187
               replace BK187 := qb BK187 hb
               replace HB := qn HB hb
               clear hb hbox hg
               refine hK.out _ _ trivial (fun hHeld => ?_)
               clear hK K
               refine nz (some 7) ?_
               exact norm_ (by simp only [putAll, Act.put, List.setIfInBounds_toArray, List.set_cons_zero, List.set_cons_succ]) (hCont (gb189) _ ⟨(qk BK187), (qk BK189), GW189.out, GE189.out, NB187_189.out, NB189_187.out, (qh HB)⟩)
             · skip
               refine box_step ?hg (N := 7) ?hd (cs := #[.bool false, .string (⟨#[]⟩ : ByteArray), .string (⟨#[]⟩ : ByteArray)]) (t := 23) ?hr ?_; (case hd => rfl); (case hg => rfl); (case hr => first | (go_simp; done) | (go_simp; rfl))
               intro gb189 hg w26 hbox hb
               have BK189 := Aside0.mk (hbox)
               have GW189 := qs hg HB
               have GE189 := GW189
               have NB187_189 := ql_ hg BK187
               have NB189_187 := qg_ hg BK187
               replace BK187 := qb BK187 hb
               replace HB := qn HB hb
               clear hb hbox hg
               refine hK.out _ _ trivial (fun hHeld => ?_)
               clear hK K
               refine nz (some 7) ?_
               refine one_ (i := 6) (N := some 20) #[true, true, true, true, true, true, true, true, true, true, true, true, true, false, true, false] rfl rfl (one_of HT_.out (by kernel_rfl)) (by decide) (fun K hK => ?_)
               refine goes_ Tryd.func41 (by kernel_rfl) rfl #[.string (x1_1.extract 0 ((ji7) : Int).toNat)] (by rfl) rfl rfl (by (try simp only [List.map_toArray, List.map_cons, List.map_nil]); first | done | (simp only [hji7]; rfl) | rfl | (simp only [List.length_drop, List.length_take]; rfl)) ?_
               with_reducible refine (idiomref03_Lead.calls k1 (x1_1.extract 0 ((ji7) : Int).toNat) t188 _ A10.out).mono ?_
               rintro e w' ⟨rfl, ⟨nd, rfl⟩⟩
               refine ⟨_, rfl, ?_⟩
               refine hK.out _ _ trivial (fun hHeld => ?_)
               clear hK K
               refine nz (some 20) ?_
               refine pz 13 (some 27) #[true, true, true, true, true, true, true, true, true, true, true, true, true, true, true, false] HT_ ?_
               exact norm_ (by simp only [putAll, Act.put, List.setIfInBounds_toArray, List.set_cons_zero, List.set_cons_succ]) (hCont (gb189) _ ⟨(qk BK187), (qk BK189), GW189.out, GE189.out, NB187_189.out, NB189_187.out, (qh HB)⟩)
           rintro gb189 w27 ⟨h0_, h1_, h2_, h3_, h4_, h5_, h6_⟩
           have n0_ : Aside0 (w27.heap[gb187]? = some (.cells #[.bool false, .string (⟨#[]⟩ : ByteArray), .string (⟨#[]⟩ : ByteArray)] 23 (0, 0))) := ⟨h0_⟩
           have n1_ : Aside0 (w27.heap[gb189]? = some (.cells #[.bool false, .string (⟨#[]⟩ : ByteArray), .string (⟨#[]⟩ : ByteArray)] 23 (0, 0))) := ⟨h1_⟩
           have n2_ : Aside0 (w.heap.size ≤ gb189) := ⟨h2_⟩
           have n3_ : Aside0 (w.heap.size ≤ gb189) := ⟨h3_⟩
           have n4_ : Aside0 (gb187 ≠ gb189) := ⟨h4_⟩
           have n5_ : Aside0 (gb189 ≠ gb187) := ⟨h5_⟩
           have n6_ : Aside0 (Below w.heap.size w w27) := ⟨h6_⟩
           clear BK187
           clear HB
           clear h0_ h1_ h2_ h3_ h4_ h5_ h6_
           have BK187 := n0_
           have BK189 := n1_
           have GW189 := n2_
           have GE189 := n3_
           have NB187_189 := n4_
           have NB189_187 := n5_
           have HB := n6_
           clear n0_ n1_ n2_ n3_ n4_ n5_ n6_
           have hHeld := trivial
           refine norm_ (a' := ?_) ?_ ?_
           rotate_left
           · simp only [putAll, Act.put, List.setIfInBounds_toArray, List.set_cons_zero, List.set_cons_succ]
             rfl
           refine one_ (i := 15) (N := none) #[true, true, true, true, true, true, true, true, true, true, true, true, true, true, true, true] rfl rfl (one_of HT_.out (by kernel_rfl)) (by decide) (fun K hK => ?_)
           have hs28 : w27.cell? ⟨gb189, 0, none⟩ = some (.bool false) := c_ BK189 0
           have hfs28 := blk_frozen BK189.out 0
           have hns28_0 := NB187_189.out
           have hms28_0 := NB189_187.out
           have hs29 : w27.cell? ⟨gb189, 1, none⟩ = some (.string (⟨#[]⟩ : ByteArray)) := c_ BK189 1
           have hfs29 := blk_frozen BK189.out 1
           have hns29_0 := NB187_189.out
           have hms29_0 := NB189_187.out
           have hs30 : w27.cell? ⟨gb189, 2, none⟩ = some (.string (⟨#[]⟩ : ByteArray)) := c_ BK189 2
           have hfs30 := blk_frozen BK189.out 2
           have hns30_0 := NB187_189.out
           have hms30_0 := NB189_187.out
           refine skip_ (w1 := ?_) (by rfl) rfl ?_ ?_
           rotate_left
           · go_simp
             rfl
           refine hK.out _ _ trivial (fun hHeld => ?_)
           clear hK K
           refine done_ (done_of HT_.out (by kernel_rfl)) ?_
           have hnb31 := NB189_187.out
           have hnc31 := NB187_189.out
           obtain ⟨hcz32_0, hcz32_1, hcz32_2, hfz32_0, hfz32_1, hfz32_2⟩ := q3 BK189
           obtain ⟨hcz33_0, hcz33_1, hcz33_2, hfz33_0, hfz33_1, hfz33_2⟩ := q3 BK187
           try go_wp2
           refine bodyPost_ret (results_cell_row rfl _ _ gb187 23 #[.bool false, .string t188, .string (x1_1.extract ((ji7) : Int).toNat x1_1.size)] (0, 0) _ rfl (by refine qp 2 #[.bool false, .string t188, .string (⟨#[]⟩ : ByteArray)] ?_; refine qp 1 #[.bool false, .string (⟨#[]⟩ : ByteArray), .string (⟨#[]⟩ : ByteArray)] ?_; refine qp 0 #[.bool false, .string (⟨#[]⟩ : ByteArray), .string (⟨#[]⟩ : ByteArray)] ?_; refine qf NB187_189 ?_; refine qf NB187_189 ?_; refine qf NB187_189 ?_; refine qf NB187_189 ?_; exact qk BK187) Tryd.underlying23 rfl (by kernel_rfl)) rfl ?_
           exact ⟨by first | rfl | (exact congrArg (fun b => Ending.returned (.bool b)) (Aid.bne_nil _)) | (exact congrArg (fun b => Ending.returned (.bool b)) (Aid.eq_nil _)) | (simp [errW_none, errW_some] <;> rfl) | (simp only [← hji7]; first | rfl | (simp [errW_none, errW_some] <;> rfl)) | (simp [*, errW_none, errW_some] <;> rfl), qh HB⟩
       · rw [if_neg c9] at H
         exact absurd H (by simp)
     · rw [if_neg c8] at H
       exact absurd H (by simp)

end Go.Proofs.YtpmhebdaphjinaaDoor.F
-- Printed by this session's hookprint.py (over the kit's print.py, with hooks). Lean checks it.
namespace Go.Proofs.YtpmhebdaphjinaaDoor.F
open Go.RowKit Go.Proofs.YtpmhebdaphjinaaDoorW.PrintWords Go.Proofs.YtpmhebdaphjinaaDoorW.PrintLast Go.Proofs.YtpmhebdaphjinaaDoorW.PrintMore Go.Proofs.YtpmhebdaphjinaaDoor.Q
attribute [local go_sem] max2_int min2_int max_two min_two max_three min_three max_four min_four   -- for this text's walks alone
set_option linter.unusedVariables false
set_option linter.unusedSimpArgs false

/-! ### idiomref03_Places: function 11 -/
def idiomref03_Places.j0 : Nat → Int → Int → Bool → Bool → ByteArray → ByteArray → Option (Bool × ByteArray × ByteArray × Int)
 | 0, _, _, _, _, _, _ => none
 | k + 1, x1, x2, x23, x192000, x192001, x192002 => if x23 = true then (some (false, (⟨#[]⟩ : ByteArray), (⟨#[]⟩ : ByteArray), 1)) else (if (x192002.size : Int) ≤ x2 then (some (x192000, x192001, x192002, 0)) else (if x192001.size + x192002.size ≤ 9223372036854775807 then ((idiomref03_Noughts.f k (wrap64 ((x192002.size : Int) - x2))).bind fun t194 => (if 1 + t194.size ≤ 9223372036854775807 then ((idiomref03_turned.f k x1 x192000 (x192001 ++ x192002) ((⟨#[49]⟩ : ByteArray) ++ t194)).bind fun bt195 => (if bt195.2 = 0 then ((idiomref03_Made.f k x192000 bt195.1 x2).bind fun bt197 => (some (bt197.1, bt197.2.1, bt197.2.2, 0))) else (some (false, (⟨#[]⟩ : ByteArray), (⟨#[]⟩ : ByteArray), bt195.2)))) else (none))) else (none)))
def idiomref03_Places.f (k : Nat) (a0_0 : Bool) (a0_1 : ByteArray) (a0_2 : ByteArray) (a1 : Int) (a2 : Int) : Option (Bool × ByteArray × ByteArray × Int) := (idiomref03_asked.f k a0_0 a0_1 a0_2 a1).bind fun t193 => (if t193 = 0 then (if a2 < 0 then (idiomref03_Places.j0 k a1 a2 true a0_0 a0_1 a0_2) else (idiomref03_Places.j0 k a1 a2 (decide (a2 > 40)) a0_0 a0_1 a0_2)) else (some (false, (⟨#[]⟩ : ByteArray), (⟨#[]⟩ : ByteArray), t193)))
theorem idiomref03_Places.mono_l : ∀ k, (∀ y0 y1 y2 y3 y4 y5, LeO (idiomref03_Places.j0 k y0 y1 y2 y3 y4 y5) (idiomref03_Places.j0 (k + 1) y0 y1 y2 y3 y4 y5))
 | 0 => fun _ _ _ _ _ _ r h => by simp [idiomref03_Places.j0] at h
 | k + 1 => by
  have ih0 := idiomref03_Places.mono_l k
  · intro y0 y1 y2 y3 y4 y5
    unfold idiomref03_Places.j0
    repeat' first
    | (with_reducible exact ih0 _ _ _ _ _ _)
    | (with_reducible exact idiomref03_Made.mono _ _ _ _)
    | (with_reducible exact idiomref03_Noughts.mono _ _)
    | (with_reducible exact idiomref03_asked.mono _ _ _ _ _)
    | (with_reducible exact idiomref03_turned.mono _ _ _ _ _)
    | (with_reducible exact LeO.refl _)
    | (with_reducible exact LeO.none _)
    | (with_reducible refine LeO.ite ?_ ?_)
    | (with_reducible refine LeO.bind ?_ (fun _ => ?_))
    | exact ih0 _ _ _ _ _ _
    | exact idiomref03_Made.mono _ _ _ _
    | exact idiomref03_Noughts.mono _ _
    | exact idiomref03_asked.mono _ _ _ _ _
    | exact idiomref03_turned.mono _ _ _ _ _
    | exact LeO.none _
    | refine LeO.ite ?_ ?_
    | refine LeO.bind ?_ (fun _ => ?_)
theorem idiomref03_Places.mono : ∀ a0 a1 a2 a3 a4 k, LeO (idiomref03_Places.f k a0 a1 a2 a3 a4) (idiomref03_Places.f (k + 1) a0 a1 a2 a3 a4) := by
 intro a0 a1 a2 a3 a4 k
 have ih0 := idiomref03_Places.mono_l k
 unfold idiomref03_Places.f
 repeat' first
  | (with_reducible exact ih0 _ _ _ _ _ _)
  | (with_reducible exact idiomref03_Made.mono _ _ _ _)
  | (with_reducible exact idiomref03_Noughts.mono _ _)
  | (with_reducible exact idiomref03_asked.mono _ _ _ _ _)
  | (with_reducible exact idiomref03_turned.mono _ _ _ _ _)
  | (with_reducible exact LeO.refl _)
  | (with_reducible exact LeO.none _)
  | (with_reducible refine LeO.ite ?_ ?_)
  | (with_reducible refine LeO.bind ?_ (fun _ => ?_))
  | exact ih0 _ _ _ _ _ _
  | exact idiomref03_Made.mono _ _ _ _
  | exact idiomref03_Noughts.mono _ _
  | exact idiomref03_asked.mono _ _ _ _ _
  | exact idiomref03_turned.mono _ _ _ _ _
  | exact LeO.none _
  | refine LeO.ite ?_ ?_
  | refine LeO.bind ?_ (fun _ => ?_)
def idiomref03_Places.T8 : Bool × List (List Nat × List Nat) := (true, [([], []), ([], []), ([1], [1]), ([], []), ([3], [3]), ([], []), ([5], [5]), ([4, 6], [4, 6]), ([], []), ([8], [8]), ([9], [9]), ([], []), ([10, 11], [10, 11]), ([12], [12]), ([13], [13]), ([0, 2, 7, 14, 13], [0, 2, 7, 14]), ([15], [15]), ([16], [16]), ([16], [16]), ([17, 15, 0, 1, 2, 3, 4, 5, 6, 7, 8, 9, 10, 11, 12, 13, 14, 15, 16, 17], [17]), ([18, 19, 0, 1, 2, 3, 4, 5, 6, 7, 8, 9, 10, 11, 12, 13, 14, 15, 16, 17, 18, 19], [18])])
def idiomref03_Places.B8 : List Nat := [0, 0, 2, 0, 8, 0, 32, 120, 0, 256, 768, 0, 3840, 7936, 16128, 32767, 65535, 131071, 131071, 262143, 1048575]
theorem idiomref03_Places.tab8 : rtab .any (opsOf Tryd.f11 8) = idiomref03_Places.T8 := by kernel_rfl
theorem idiomref03_Places.bits8 : waitsOk idiomref03_Places.T8.2 idiomref03_Places.B8 = true := by kernel_rfl
set_option maxHeartbeats 8000000 in
set_option maxRecDepth 100000 in
theorem idiomref03_Places.calls (k : Nat) (a0_0 : Bool) (a0_1 : ByteArray) (a0_2 : ByteArray) (a1 : Int) (a2 : Int) (r1 : Bool) (r2 : ByteArray) (r3 : ByteArray) (r4 : Int) (w : World) (h : idiomref03_Places.f k a0_0 a0_1 a0_2 a1 a2 = some (r1, r2, r3, r4)) :
 Calls Tryd.prog 11 #[.agg #[.bool a0_0, .string a0_1, .string a0_2], .int .i64 a1, .int .i64 a2] w fun e w' => e = .returned (.tuple #[.agg #[.bool r1, .string r2, .string r3], .int .i64 r4]) ∧ Below w.heap.size w w' := by
 have hu23 := Tryd.underlying23
 have HB := Aside0.mk (Below.refl w.heap.size w)
 have H : ((idiomref03_asked.f k a0_0 a0_1 a0_2 a1).bind fun t193 => (if t193 = 0 then (if a2 < 0 then (idiomref03_Places.j0 k a1 a2 true a0_0 a0_1 a0_2) else (idiomref03_Places.j0 k a1 a2 (decide (a2 > 40)) a0_0 a0_1 a0_2)) else (some (false, (⟨#[]⟩ : ByteArray), (⟨#[]⟩ : ByteArray), t193)))) = some (r1, r2, r3, r4) := h
 clear h
 replace H := Option.bind_eq_some_iff.mp H
 obtain ⟨t193, A40, H⟩ := H
 replace H : (if t193 = 0 then (if a2 < 0 then (idiomref03_Places.j0 k a1 a2 true a0_0 a0_1 a0_2) else (idiomref03_Places.j0 k a1 a2 (decide (a2 > 40)) a0_0 a0_1 a0_2)) else (some (false, (⟨#[]⟩ : ByteArray), (⟨#[]⟩ : ByteArray), t193))) = some (r1, r2, r3, r4) := H
 have A4 := Aside0.mk A40
 clear A40
 by_cases c5 : t193 = 0
 · rw [if_pos c5] at H
   have c5b0 : (t193 == 0) = true := beq_iff_eq.mpr c5
   have c5b1 : (t193 != 0) = false := bne_eq_false_iff_eq.mpr c5
   try have c5b1z := c5b1
   (try simp only [bne] at c5b1z)
   clear c5
   have HC6 := Aside0.mk H
   clear H
   go_enter Tryd.func11, Tryd.ntmps11
   go_upto_region 4 with (first | ((with_reducible refine gate_dst (N := 3) rfl ?_); refine qx 3 #[.bool a0_0, .string a0_1, .string a0_2] 23 ?_; intro gb191 hg w7 hbox hb; have BK191 := Aside0.mk (hbox); have GW191 := qs hg HB; have GE191 := GW191; replace HB := qn HB hb; clear hb hbox hg) | ((with_reducible refine gate_dst (N := 6) rfl ?_); refine qx 6 #[.bool false, .string (⟨#[]⟩ : ByteArray), .string (⟨#[]⟩ : ByteArray)] 23 ?_; intro gb192 hg w8 hbox hb; have BK192 := Aside0.mk (hbox); have GW192 := qs hg HB; have GE192 := GW192; have NB191_192 := ql_ hg BK191; have NB192_191 := qg_ hg BK191; replace BK191 := qb BK191 hb; replace HB := qn HB hb; clear hb hbox hg; have hnb9 := NB191_192.out; have hnc9 := NB192_191.out; obtain ⟨hcz10_0, hcz10_1, hcz10_2, hfz10_0, hfz10_1, hfz10_2⟩ := q3 BK191) | ((with_reducible refine gate_callee (f := 26) rfl ?_); refine goesL_ (some 13) rfl rfl Tryd.func26 (by kernel_rfl) rfl #[.agg #[.bool a0_0, .string a0_1, .string a0_2], .int .i64 a1] rfl ql ?_; (with_reducible refine (idiomref03_asked.calls k a0_0 a0_1 a0_2 a1 t193 _ A4.out).mono ?_); rintro e w11 ⟨rfl, hb⟩; refine ⟨_, rfl, ?_⟩; replace BK191 := qb BK191 hb; replace BK192 := qb BK192 hb; replace HB := qn HB hb; (try clear hb); (try clear hb2); (try clear hk); (try clear hi)))
   (try simp only [Act.put, List.setIfInBounds_toArray, List.set_cons_zero, List.set_cons_succ])
   go_cut [23] (fun v23 wc => ∃ (kq : Nat) (x23_5 : Bool), v23 = .bool x23_5 ∧ Aside0 (idiomref03_Places.j0 kq a1 a2 x23_5 a0_0 a0_1 a0_2 = some (r1, r2, r3, r4)) ∧ Aside0 (kq ≤ k) ∧ Aside0 (wc.heap[gb191]? = some (.cells #[.bool a0_0, .string a0_1, .string a0_2] 23 (0, 0))) ∧ Aside0 (wc.heap[gb192]? = some (.cells #[.bool false, .string (⟨#[]⟩ : ByteArray), .string (⟨#[]⟩ : ByteArray)] 23 (0, 0))) ∧ Aside0 (Below w.heap.size w wc))
   case first =>
    have H := HC6.out
    clear HC6
    by_cases c12 : a2 < 0
    · rw [if_pos c12] at H
      have c12b0 : decide (a2 < 0) = true := decide_eq_true c12
      clear c12
      (first | rw [c12b0] | (simp only [i64_w, i32_w]; rw [c12b0]) | skip)
      have H' := Aside0.mk H
      clear H
      go_wp2
      go_meet
      case rel => exact ⟨_, (true), (by first | rfl | (simp; done) | (simp [*]; done)), H', ⟨by first | omega | exact Nat.le_refl _⟩, ⟨qk BK191⟩, ⟨qk BK192⟩, ⟨qh HB⟩⟩
    · rw [if_neg c12] at H
      have c12b0 : decide (a2 < 0) = false := decide_eq_false c12
      clear c12
      (first | rw [c12b0] | (simp only [i64_w, i32_w]; rw [c12b0]) | skip)
      have H' := Aside0.mk H
      clear H
      go_wp2
      go_meet
      case rel => exact ⟨_, (decide (a2 > 40)), (by first | rfl | (simp; done) | (simp [*]; done)), H', ⟨by first | omega | exact Nat.le_refl _⟩, ⟨qk BK191⟩, ⟨qk BK192⟩, ⟨qh HB⟩⟩
   case rest =>
    clear HC6
    try clear c1
    try clear c2
    try clear p2
    try clear c5
    try clear c5b0
    try clear c5b1
    try clear c9
    try clear c11
    try clear c12
    try clear c12b0
    try clear hcz10_0
    try clear hcz10_1
    try clear hcz10_2
    try clear hfz10_0
    try clear hfz10_1
    try clear hfz10_2
    obtain ⟨kq, x23_5, rfl, HA, HJ5, BK191, BK192, HB⟩ := hcut
    cases kq with
    | zero => exact absurd HA.out (by simp [idiomref03_Places.j0])
    | succ kj5 =>
     have H := HA.out
     clear HA
     simp only [idiomref03_Places.j0] at H
     by_cases c13 : x23_5 = true
     · subst c13
       have H1 : (some (false, (⟨#[]⟩ : ByteArray), (⟨#[]⟩ : ByteArray), 1)) = some (r1, r2, r3, r4) := by rw [if_pos rfl] at H; exact H
       clear H
       have H := H1
       clear H1
       simp only [Option.some.injEq, Prod.mk.injEq] at H
       obtain ⟨rfl, rfl, rfl, rfl⟩ := H
       have hnb14 := NB192_191.out
       have hnc14 := NB191_192.out
       obtain ⟨hcz15_0, hcz15_1, hcz15_2, hfz15_0, hfz15_1, hfz15_2⟩ := q3 BK192
       go_wp2
       refine bodyPost_ret (results_ct rfl _ _ gb192 23 #[.bool false, .string (⟨#[]⟩ : ByteArray), .string (⟨#[]⟩ : ByteArray)] (0, 0) _ rfl (by refine qp 2 #[.bool false, .string (⟨#[]⟩ : ByteArray), .string (⟨#[]⟩ : ByteArray)] ?_; refine qp 1 #[.bool false, .string (⟨#[]⟩ : ByteArray), .string (⟨#[]⟩ : ByteArray)] ?_; refine qp 0 #[.bool false, .string (⟨#[]⟩ : ByteArray), .string (⟨#[]⟩ : ByteArray)] ?_; exact qk BK192) Tryd.underlying23 rfl (by kernel_rfl)) rfl ?_
       exact ⟨qe, qh HB⟩
     · replace c13 := Bool.eq_false_iff.mpr c13
       subst c13
       have H1 : (if (a0_2.size : Int) ≤ a2 then (some (a0_0, a0_1, a0_2, 0)) else (if a0_1.size + a0_2.size ≤ 9223372036854775807 then ((idiomref03_Noughts.f kj5 (wrap64 ((a0_2.size : Int) - a2))).bind fun t194 => (if 1 + t194.size ≤ 9223372036854775807 then ((idiomref03_turned.f kj5 a1 a0_0 (a0_1 ++ a0_2) ((⟨#[49]⟩ : ByteArray) ++ t194)).bind fun bt195 => (if bt195.2 = 0 then ((idiomref03_Made.f kj5 a0_0 bt195.1 a2).bind fun bt197 => (some (bt197.1, bt197.2.1, bt197.2.2, 0))) else (some (false, (⟨#[]⟩ : ByteArray), (⟨#[]⟩ : ByteArray), bt195.2)))) else (none))) else (none))) = some (r1, r2, r3, r4) := by rw [if_neg (show ¬ (false = true) by decide)] at H; exact H
       clear H
       have H := H1
       clear H1
       by_cases c16 : (a0_2.size : Int) ≤ a2
       · rw [if_pos c16] at H
         have c16b0 : decide ((a0_2.size : Int) ≤ a2) = true := decide_eq_true c16
         clear c16
         simp only [Option.some.injEq, Prod.mk.injEq] at H
         obtain ⟨rfl, rfl, rfl, rfl⟩ := H
         have hnb17 := NB191_192.out
         have hnc17 := NB192_191.out
         obtain ⟨hcz18_0, hcz18_1, hcz18_2, hfz18_0, hfz18_1, hfz18_2⟩ := q3 BK191
         obtain ⟨hcz19_0, hcz19_1, hcz19_2, hfz19_0, hfz19_1, hfz19_2⟩ := q3 BK192
         go_wp2
         refine bodyPost_ret (results_ct rfl _ _ gb192 23 #[.bool a0_0, .string a0_1, .string a0_2] (0, 0) _ rfl (by refine qp 2 #[.bool a0_0, .string a0_1, .string (⟨#[]⟩ : ByteArray)] ?_; refine qp 1 #[.bool a0_0, .string (⟨#[]⟩ : ByteArray), .string (⟨#[]⟩ : ByteArray)] ?_; refine qp 0 #[.bool false, .string (⟨#[]⟩ : ByteArray), .string (⟨#[]⟩ : ByteArray)] ?_; exact qk BK192) Tryd.underlying23 rfl (by kernel_rfl)) rfl ?_
         exact ⟨qe, qh HB⟩
       · rw [if_neg c16] at H
         have c16b0 : decide ((a0_2.size : Int) ≤ a2) = false := decide_eq_false c16
         clear c16
         by_cases c20 : a0_1.size + a0_2.size ≤ 9223372036854775807
         · rw [if_pos c20] at H
           have c20b0 := eq_true c20
           have c20b1 : decide (a0_1.size + a0_2.size ≤ 9223372036854775807) = true := decide_eq_true c20
           try have c20b2 : (9223372036854775807 < a0_1.size + a0_2.size) = False := eq_false (Nat.not_lt.2 c20)
           replace H := Option.bind_eq_some_iff.mp H
           obtain ⟨t194, A210, H⟩ := H
           replace H : (if 1 + t194.size ≤ 9223372036854775807 then ((idiomref03_turned.f kj5 a1 a0_0 (a0_1 ++ a0_2) ((⟨#[49]⟩ : ByteArray) ++ t194)).bind fun bt195 => (if bt195.2 = 0 then ((idiomref03_Made.f kj5 a0_0 bt195.1 a2).bind fun bt197 => (some (bt197.1, bt197.2.1, bt197.2.2, 0))) else (some (false, (⟨#[]⟩ : ByteArray), (⟨#[]⟩ : ByteArray), bt195.2)))) else (none)) = some (r1, r2, r3, r4) := H
           have A21 := Aside0.mk A210
           clear A210
           by_cases c22 : 1 + t194.size ≤ 9223372036854775807
           · rw [if_pos c22] at H
             have c22b0 := eq_true c22
             have c22b1 : decide (1 + t194.size ≤ 9223372036854775807) = true := decide_eq_true c22
             try have c22b2 : (9223372036854775807 < 1 + t194.size) = False := eq_false (Nat.not_lt.2 c22)
             replace H := Option.bind_eq_some_iff.mp H
             obtain ⟨⟨t195, t196⟩, A230, H⟩ := H
             replace H : (if t196 = 0 then ((idiomref03_Made.f kj5 a0_0 t195 a2).bind fun bt197 => (some (bt197.1, bt197.2.1, bt197.2.2, 0))) else (some (false, (⟨#[]⟩ : ByteArray), (⟨#[]⟩ : ByteArray), t196))) = some (r1, r2, r3, r4) := H
             have A23 := Aside0.mk A230
             clear A230
             by_cases c24 : t196 = 0
             · rw [if_pos c24] at H
               have c24b0 : (t196 == 0) = true := beq_iff_eq.mpr c24
               have c24b1 : (t196 != 0) = false := bne_eq_false_iff_eq.mpr c24
               try have c24b1z := c24b1
               (try simp only [bne] at c24b1z)
               clear c24
               replace H := Option.bind_eq_some_iff.mp H
               obtain ⟨⟨t197, t198, t199⟩, A250, H⟩ := H
               replace H : (some (t197, t198, t199, 0)) = some (r1, r2, r3, r4) := H
               have A25 := Aside0.mk A250
               clear A250
               simp only [Option.some.injEq, Prod.mk.injEq] at H
               obtain ⟨rfl, rfl, rfl, rfl⟩ := H
               have hnb26 := NB191_192.out
               have hnc26 := NB192_191.out
               obtain ⟨hcz27_0, hcz27_1, hcz27_2, hfz27_0, hfz27_1, hfz27_2⟩ := q3 BK191
               try go_wp2
               replace BK191 := Aside0.mk (blk_drew BK191.out)
               replace BK192 := Aside0.mk (blk_drew BK192.out)
               replace HB := Aside0.mk (below_drew1 HB.out)
               refine start_ (n := 21) (S := fun w' => w'.cell? ⟨gb191, 0, none⟩ = some (.bool a0_0) ∧ w'.cell? ⟨gb191, 1, none⟩ = some (.string a0_1) ∧ w'.cell? ⟨gb191, 2, none⟩ = some (.string a0_2)) (ds := []) #[false, false, false, false, false, false, false, false, false, false, false, false, false, false, false, false, false, false, false, false, false] (by kernel_rfl) rfl rfl ⟨c_ BK191 0, c_ BK191 1, c_ BK191 2⟩ (fun hHeld => ?_); refine with_tabW idiomref03_Places.tab8 idiomref03_Places.bits8 (fun HT_ HW_ => ?_)
               generalize wc.drew = w28 at BK191 BK192 HB hHeld ⊢
               refine pz 0 (some 32) #[true, false, false, false, false, false, false, false, false, false, false, false, false, false, false, false, false, false, false, false, false] HT_ ?_
               refine pz 1 (some 33) #[true, true, false, false, false, false, false, false, false, false, false, false, false, false, false, false, false, false, false, false, false] HT_ ?_
               refine pz 3 (some 35) #[true, true, false, true, false, false, false, false, false, false, false, false, false, false, false, false, false, false, false, false, false] HT_ ?_
               refine pz 5 (some 37) #[true, true, false, true, false, true, false, false, false, false, false, false, false, false, false, false, false, false, false, false, false] HT_ ?_
               refine pz 8 (some 40) #[true, true, false, true, false, true, false, false, true, false, false, false, false, false, false, false, false, false, false, false, false] HT_ ?_
               refine pz 11 (some 43) #[true, true, false, true, false, true, false, false, true, false, false, true, false, false, false, false, false, false, false, false, false] HT_ ?_
               refine tw3 2 (some 34) #[true, true, true, true, false, true, false, false, true, false, false, true, false, false, false, false, false, false, false, false, false] HT_ HW_ hHeld ?_
               refine tw3 4 (some 36) #[true, true, true, true, true, true, false, false, true, false, false, true, false, false, false, false, false, false, false, false, false] HT_ HW_ hHeld ?_
               refine tw3 6 (some 38) #[true, true, true, true, true, true, true, false, true, false, false, true, false, false, false, false, false, false, false, false, false] HT_ HW_ hHeld ?_
               refine pz 7 (some 39) #[true, true, true, true, true, true, true, true, true, false, false, true, false, false, false, false, false, false, false, false, false] HT_ ?_
               refine tw3 9 (some 41) #[true, true, true, true, true, true, true, true, true, true, false, true, false, false, false, false, false, false, false, false, false] HT_ HW_ hHeld ?_
               refine pz 10 (some 42) #[true, true, true, true, true, true, true, true, true, true, true, true, false, false, false, false, false, false, false, false, false] HT_ ?_
               refine pz 12 (some 44) #[true, true, true, true, true, true, true, true, true, true, true, true, true, false, false, false, false, false, false, false, false] HT_ ?_
               refine one_ (i := 13) (N := some 45) #[true, true, true, true, true, true, true, true, true, true, true, true, true, true, false, false, false, false, false, false, false] rfl rfl (one_of HT_.out (by kernel_rfl)) (by decide) (fun K hK => ?_)
               refine goes_ Tryd.func28 (by kernel_rfl) rfl #[.int .i64 (wrap64 ((a0_2.size : Int) - a2))] (by rfl) rfl rfl ql ?_
               with_reducible refine (idiomref03_Noughts.calls kj5 (wrap64 ((a0_2.size : Int) - a2)) t194 _ A21.out).mono ?_
               rintro e w29 ⟨rfl, hb⟩
               refine ⟨_, rfl, ?_⟩
               replace BK191 := qb BK191 hb
               replace BK192 := qb BK192 hb
               replace HB := qn HB hb
               (try clear hb)
               (try clear hb2)
               (try clear hk)
               (try clear hi)
               refine hK.out _ _ ⟨c_ BK191 0, c_ BK191 1, c_ BK191 2⟩ (fun hHeld => ?_)
               clear hK K
               refine nz (some 45) ?_
               refine pz 14 (some 46) #[true, true, true, true, true, true, true, true, true, true, true, true, true, true, true, false, false, false, false, false, false] HT_ ?_
               refine one_ (i := 15) (N := some 47) #[true, true, true, true, true, true, true, true, true, true, true, true, true, true, true, true, false, false, false, false, false] rfl rfl (one_of HT_.out (by kernel_rfl)) (by decide) (fun K hK => ?_)
               refine goes_ Tryd.func27 (by kernel_rfl) rfl #[.int .i64 a1, .bool a0_0, .string (a0_1 ++ a0_2), .string ((⟨#[49]⟩ : ByteArray) ++ t194)] (by rfl) rfl rfl ql ?_
               with_reducible refine (idiomref03_turned.calls kj5 a1 a0_0 (a0_1 ++ a0_2) ((⟨#[49]⟩ : ByteArray) ++ t194) t195 t196 _ A23.out).mono ?_
               rintro e w30 ⟨rfl, hb⟩
               refine ⟨_, rfl, ?_⟩
               replace BK191 := qb BK191 hb
               replace BK192 := qb BK192 hb
               replace HB := qn HB hb
               (try clear hb)
               (try clear hb2)
               (try clear hk)
               (try clear hi)
               refine hK.out _ _ ⟨c_ BK191 0, c_ BK191 1, c_ BK191 2⟩ (fun hHeld => ?_)
               clear hK K
               refine nz (some 47) ?_
               refine pz 16 (some 31) #[true, true, true, true, true, true, true, true, true, true, true, true, true, true, true, true, true, false, false, false, false] HT_ ?_
               refine pz 17 (some 48) #[true, true, true, true, true, true, true, true, true, true, true, true, true, true, true, true, true, true, false, false, false] HT_ ?_
               refine pz 18 (some 49) #[true, true, true, true, true, true, true, true, true, true, true, true, true, true, true, true, true, true, true, false, false] HT_ ?_
               refine pz 19 (some 9) #[true, true, true, true, true, true, true, true, true, true, true, true, true, true, true, true, true, true, true, true, false] HT_ ?_
               refine pz 20 (some 10) #[true, true, true, true, true, true, true, true, true, true, true, true, true, true, true, true, true, true, true, true, true] HT_ ?_
               refine done_ (done_of HT_.out (by kernel_rfl)) ?_
               obtain ⟨hcz31_0, hcz31_1, hcz31_2, hfz31_0, hfz31_1, hfz31_2⟩ := q3 BK191
               try go_wp2_with (first | ((with_reducible refine gate_callee (f := 29) rfl ?_); refine goesL_ (some 58) rfl rfl Tryd.func29 (by kernel_rfl) rfl #[.bool a0_0, .string t195, .int .i64 a2] rfl ql ?_; (with_reducible refine (idiomref03_Made.calls kj5 a0_0 t195 a2 t197 t198 t199 _ A25.out).mono ?_); rintro e w32 ⟨rfl, hb⟩; refine ⟨_, rfl, ?_⟩; replace BK191 := qb BK191 hb; replace BK192 := qb BK192 hb; replace HB := qn HB hb; (try clear hb); (try clear hb2); (try clear hk); (try clear hi); obtain ⟨hcz33_0, hcz33_1, hcz33_2, hfz33_0, hfz33_1, hfz33_2⟩ := q3 BK192))
               refine bodyPost_ret (results_ct rfl _ _ gb192 23 #[.bool t197, .string t198, .string t199] (0, 0) _ rfl (by refine qp 2 #[.bool t197, .string t198, .string (⟨#[]⟩ : ByteArray)] ?_; refine qp 1 #[.bool t197, .string (⟨#[]⟩ : ByteArray), .string (⟨#[]⟩ : ByteArray)] ?_; refine qp 0 #[.bool false, .string (⟨#[]⟩ : ByteArray), .string (⟨#[]⟩ : ByteArray)] ?_; exact qk BK192) Tryd.underlying23 rfl (by kernel_rfl)) rfl ?_
               exact ⟨qe, qh HB⟩
             · rw [if_neg c24] at H
               have c24b0 : (t196 == 0) = false := beq_eq_false_iff_ne.mpr c24
               have c24b1 : (t196 != 0) = true := bne_iff_ne.mpr c24
               try have c24b1z := c24b1
               (try simp only [bne] at c24b1z)
               simp only [Option.some.injEq, Prod.mk.injEq] at H
               obtain ⟨rfl, rfl, rfl, rfl⟩ := H
               have hnb34 := NB191_192.out
               have hnc34 := NB192_191.out
               obtain ⟨hcz35_0, hcz35_1, hcz35_2, hfz35_0, hfz35_1, hfz35_2⟩ := q3 BK191
               try go_wp2
               replace BK191 := Aside0.mk (blk_drew BK191.out)
               replace BK192 := Aside0.mk (blk_drew BK192.out)
               replace HB := Aside0.mk (below_drew1 HB.out)
               refine start_ (n := 21) (S := fun w' => w'.cell? ⟨gb191, 0, none⟩ = some (.bool a0_0) ∧ w'.cell? ⟨gb191, 1, none⟩ = some (.string a0_1) ∧ w'.cell? ⟨gb191, 2, none⟩ = some (.string a0_2)) (ds := []) #[false, false, false, false, false, false, false, false, false, false, false, false, false, false, false, false, false, false, false, false, false] (by kernel_rfl) rfl rfl ⟨c_ BK191 0, c_ BK191 1, c_ BK191 2⟩ (fun hHeld => ?_); refine with_tabW idiomref03_Places.tab8 idiomref03_Places.bits8 (fun HT_ HW_ => ?_)
               generalize wc.drew = w36 at BK191 BK192 HB hHeld ⊢
               refine pz 0 (some 32) #[true, false, false, false, false, false, false, false, false, false, false, false, false, false, false, false, false, false, false, false, false] HT_ ?_
               refine pz 1 (some 33) #[true, true, false, false, false, false, false, false, false, false, false, false, false, false, false, false, false, false, false, false, false] HT_ ?_
               refine pz 3 (some 35) #[true, true, false, true, false, false, false, false, false, false, false, false, false, false, false, false, false, false, false, false, false] HT_ ?_
               refine pz 5 (some 37) #[true, true, false, true, false, true, false, false, false, false, false, false, false, false, false, false, false, false, false, false, false] HT_ ?_
               refine pz 8 (some 40) #[true, true, false, true, false, true, false, false, true, false, false, false, false, false, false, false, false, false, false, false, false] HT_ ?_
               refine pz 11 (some 43) #[true, true, false, true, false, true, false, false, true, false, false, true, false, false, false, false, false, false, false, false, false] HT_ ?_
               refine tw3 2 (some 34) #[true, true, true, true, false, true, false, false, true, false, false, true, false, false, false, false, false, false, false, false, false] HT_ HW_ hHeld ?_
               refine tw3 4 (some 36) #[true, true, true, true, true, true, false, false, true, false, false, true, false, false, false, false, false, false, false, false, false] HT_ HW_ hHeld ?_
               refine tw3 6 (some 38) #[true, true, true, true, true, true, true, false, true, false, false, true, false, false, false, false, false, false, false, false, false] HT_ HW_ hHeld ?_
               refine pz 7 (some 39) #[true, true, true, true, true, true, true, true, true, false, false, true, false, false, false, false, false, false, false, false, false] HT_ ?_
               refine tw3 9 (some 41) #[true, true, true, true, true, true, true, true, true, true, false, true, false, false, false, false, false, false, false, false, false] HT_ HW_ hHeld ?_
               refine pz 10 (some 42) #[true, true, true, true, true, true, true, true, true, true, true, true, false, false, false, false, false, false, false, false, false] HT_ ?_
               refine pz 12 (some 44) #[true, true, true, true, true, true, true, true, true, true, true, true, true, false, false, false, false, false, false, false, false] HT_ ?_
               refine one_ (i := 13) (N := some 45) #[true, true, true, true, true, true, true, true, true, true, true, true, true, true, false, false, false, false, false, false, false] rfl rfl (one_of HT_.out (by kernel_rfl)) (by decide) (fun K hK => ?_)
               refine goes_ Tryd.func28 (by kernel_rfl) rfl #[.int .i64 (wrap64 ((a0_2.size : Int) - a2))] (by rfl) rfl rfl ql ?_
               with_reducible refine (idiomref03_Noughts.calls kj5 (wrap64 ((a0_2.size : Int) - a2)) t194 _ A21.out).mono ?_
               rintro e w37 ⟨rfl, hb⟩
               refine ⟨_, rfl, ?_⟩
               replace BK191 := qb BK191 hb
               replace BK192 := qb BK192 hb
               replace HB := qn HB hb
               (try clear hb)
               (try clear hb2)
               (try clear hk)
               (try clear hi)
               refine hK.out _ _ ⟨c_ BK191 0, c_ BK191 1, c_ BK191 2⟩ (fun hHeld => ?_)
               clear hK K
               refine nz (some 45) ?_
               refine pz 14 (some 46) #[true, true, true, true, true, true, true, true, true, true, true, true, true, true, true, false, false, false, false, false, false] HT_ ?_
               refine one_ (i := 15) (N := some 47) #[true, true, true, true, true, true, true, true, true, true, true, true, true, true, true, true, false, false, false, false, false] rfl rfl (one_of HT_.out (by kernel_rfl)) (by decide) (fun K hK => ?_)
               refine goes_ Tryd.func27 (by kernel_rfl) rfl #[.int .i64 a1, .bool a0_0, .string (a0_1 ++ a0_2), .string ((⟨#[49]⟩ : ByteArray) ++ t194)] (by rfl) rfl rfl ql ?_
               with_reducible refine (idiomref03_turned.calls kj5 a1 a0_0 (a0_1 ++ a0_2) ((⟨#[49]⟩ : ByteArray) ++ t194) t195 t196 _ A23.out).mono ?_
               rintro e w38 ⟨rfl, hb⟩
               refine ⟨_, rfl, ?_⟩
               replace BK191 := qb BK191 hb
               replace BK192 := qb BK192 hb
               replace HB := qn HB hb
               (try clear hb)
               (try clear hb2)
               (try clear hk)
               (try clear hi)
               refine hK.out _ _ ⟨c_ BK191 0, c_ BK191 1, c_ BK191 2⟩ (fun hHeld => ?_)
               clear hK K
               refine nz (some 47) ?_
               refine pz 16 (some 31) #[true, true, true, true, true, true, true, true, true, true, true, true, true, true, true, true, true, false, false, false, false] HT_ ?_
               refine pz 17 (some 48) #[true, true, true, true, true, true, true, true, true, true, true, true, true, true, true, true, true, true, false, false, false] HT_ ?_
               refine pz 18 (some 49) #[true, true, true, true, true, true, true, true, true, true, true, true, true, true, true, true, true, true, true, false, false] HT_ ?_
               refine pz 19 (some 9) #[true, true, true, true, true, true, true, true, true, true, true, true, true, true, true, true, true, true, true, true, false] HT_ ?_
               refine pz 20 (some 10) #[true, true, true, true, true, true, true, true, true, true, true, true, true, true, true, true, true, true, true, true, true] HT_ ?_
               refine done_ (done_of HT_.out (by kernel_rfl)) ?_
               obtain ⟨hcz39_0, hcz39_1, hcz39_2, hfz39_0, hfz39_1, hfz39_2⟩ := q3 BK192
               try go_wp2
               refine bodyPost_ret (results_ct rfl _ _ gb192 23 #[.bool false, .string (⟨#[]⟩ : ByteArray), .string (⟨#[]⟩ : ByteArray)] (0, 0) _ rfl (by refine qp 2 #[.bool false, .string (⟨#[]⟩ : ByteArray), .string (⟨#[]⟩ : ByteArray)] ?_; refine qp 1 #[.bool false, .string (⟨#[]⟩ : ByteArray), .string (⟨#[]⟩ : ByteArray)] ?_; refine qp 0 #[.bool false, .string (⟨#[]⟩ : ByteArray), .string (⟨#[]⟩ : ByteArray)] ?_; exact qk BK192) Tryd.underlying23 rfl (by kernel_rfl)) rfl ?_
               exact ⟨qe, qh HB⟩
           · rw [if_neg c22] at H
             exact absurd H (by simp)
         · rw [if_neg c20] at H
           exact absurd H (by simp)
 · rw [if_neg c5] at H
   have c5b0 : (t193 == 0) = false := beq_eq_false_iff_ne.mpr c5
   have c5b1 : (t193 != 0) = true := bne_iff_ne.mpr c5
   try have c5b1z := c5b1
   (try simp only [bne] at c5b1z)
   simp only [Option.some.injEq, Prod.mk.injEq] at H
   obtain ⟨rfl, rfl, rfl, rfl⟩ := H
   go_enter Tryd.func11, Tryd.ntmps11
   go_wp2_with (first | ((with_reducible refine gate_dst (N := 3) rfl ?_); refine qx 3 #[.bool a0_0, .string a0_1, .string a0_2] 23 ?_; intro gb191 hg w40 hbox hb; have BK191 := Aside0.mk (hbox); have GW191 := qs hg HB; have GE191 := GW191; replace HB := qn HB hb; clear hb hbox hg) | ((with_reducible refine gate_dst (N := 6) rfl ?_); refine qx 6 #[.bool false, .string (⟨#[]⟩ : ByteArray), .string (⟨#[]⟩ : ByteArray)] 23 ?_; intro gb192 hg w41 hbox hb; have BK192 := Aside0.mk (hbox); have GW192 := qs hg HB; have GE192 := GW192; have NB191_192 := ql_ hg BK191; have NB192_191 := qg_ hg BK191; replace BK191 := qb BK191 hb; replace HB := qn HB hb; clear hb hbox hg; have hnb42 := NB191_192.out; have hnc42 := NB192_191.out; obtain ⟨hcz43_0, hcz43_1, hcz43_2, hfz43_0, hfz43_1, hfz43_2⟩ := q3 BK191) | ((with_reducible refine gate_callee (f := 26) rfl ?_); refine goesL_ (some 13) rfl rfl Tryd.func26 (by kernel_rfl) rfl #[.agg #[.bool a0_0, .string a0_1, .string a0_2], .int .i64 a1] rfl ql ?_; (with_reducible refine (idiomref03_asked.calls k a0_0 a0_1 a0_2 a1 t193 _ A4.out).mono ?_); rintro e w44 ⟨rfl, hb⟩; refine ⟨_, rfl, ?_⟩; replace BK191 := qb BK191 hb; replace BK192 := qb BK192 hb; replace HB := qn HB hb; (try clear hb); (try clear hb2); (try clear hk); (try clear hi); obtain ⟨hcz45_0, hcz45_1, hcz45_2, hfz45_0, hfz45_1, hfz45_2⟩ := q3 BK192))
   refine bodyPost_ret (results_ct rfl _ _ gb192 23 #[.bool false, .string (⟨#[]⟩ : ByteArray), .string (⟨#[]⟩ : ByteArray)] (0, 0) _ rfl (by refine qp 2 #[.bool false, .string (⟨#[]⟩ : ByteArray), .string (⟨#[]⟩ : ByteArray)] ?_; refine qp 1 #[.bool false, .string (⟨#[]⟩ : ByteArray), .string (⟨#[]⟩ : ByteArray)] ?_; refine qp 0 #[.bool false, .string (⟨#[]⟩ : ByteArray), .string (⟨#[]⟩ : ByteArray)] ?_; exact qk BK192) Tryd.underlying23 rfl (by kernel_rfl)) rfl ?_
   exact ⟨qe, qh HB⟩

end Go.Proofs.YtpmhebdaphjinaaDoor.F
-- Printed by this session's hookprint.py (over the kit's print.py, with hooks). Lean checks it.
namespace Go.Proofs.YtpmhebdaphjinaaDoor.F
open Go.RowKit Go.Proofs.YtpmhebdaphjinaaDoorW.PrintWords Go.Proofs.YtpmhebdaphjinaaDoorW.PrintLast Go.Proofs.YtpmhebdaphjinaaDoorW.PrintMore Go.Proofs.YtpmhebdaphjinaaDoor.Q
attribute [local go_sem] max2_int min2_int max_two min_two max_three min_three max_four min_four   -- for this text's walks alone
set_option linter.unusedVariables false
set_option linter.unusedSimpArgs false

attribute [local go_sem high] eqA23
/-! ### idiomlaw03_awake: function 12 -/
def idiomlaw03_awake.f (k : Nat)  : Option (Bool) := (round_Places.f k false (⟨#[50]⟩ : ByteArray) (⟨#[53]⟩ : ByteArray) 7 0).bind fun bt200 => (if bt200.2.2.2 = 0 then (some (!bt200.1 && (bt200.2.1.toList == ([50] : List UInt8) && (bt200.2.2.1.toList == ([] : List UInt8))))) else (some false))
theorem idiomlaw03_awake.mono : ∀ k, LeO (idiomlaw03_awake.f k ) (idiomlaw03_awake.f (k + 1) ) := by
 intro  k
 unfold idiomlaw03_awake.f
 repeat' first
  | (with_reducible exact round_Places.mono _ _ _ _ _ _)
  | (with_reducible exact LeO.refl _)
  | (with_reducible exact LeO.none _)
  | (with_reducible refine LeO.ite ?_ ?_)
  | (with_reducible refine LeO.bind ?_ (fun _ => ?_))
  | exact round_Places.mono _ _ _ _ _ _
  | exact LeO.none _
  | refine LeO.ite ?_ ?_
  | refine LeO.bind ?_ (fun _ => ?_)
set_option maxHeartbeats 8000000 in
set_option maxRecDepth 100000 in
theorem idiomlaw03_awake.calls (k : Nat)  (r : Bool) (w : World) (h : idiomlaw03_awake.f k  = some r) :
 Calls Tryd.prog 12 #[] w fun e w' => e = .returned (.bool r) ∧ Below w.heap.size w w' := by
 have hu23 := Tryd.underlying23
 have HB := Aside0.mk (Below.refl w.heap.size w)
 have H : ((round_Places.f k false (⟨#[50]⟩ : ByteArray) (⟨#[53]⟩ : ByteArray) 7 0).bind fun bt200 => (if bt200.2.2.2 = 0 then (some (!bt200.1 && (bt200.2.1.toList == ([50] : List UInt8) && (bt200.2.2.1.toList == ([] : List UInt8))))) else (some false))) = some r := h
 clear h
 replace H := Option.bind_eq_some_iff.mp H
 obtain ⟨⟨t200, t201, t202, t203⟩, A10, H⟩ := H
 replace H : (if t203 = 0 then (some (!t200 && (t201.toList == ([50] : List UInt8) && (t202.toList == ([] : List UInt8))))) else (some false)) = some r := H
 have A1 := Aside0.mk A10
 clear A10
 by_cases c2 : t203 = 0
 · rw [if_pos c2] at H
   have c2b0 : (t203 == 0) = true := beq_iff_eq.mpr c2
   have c2b1 : (t203 != 0) = false := bne_eq_false_iff_eq.mpr c2
   try have c2b1z := c2b1
   (try simp only [bne] at c2b1z)
   clear c2
   obtain rfl := Option.some.inj H
   go_enter Tryd.func12, Tryd.ntmps12
   go_wp2_with (first | ((with_reducible refine gate_callee (f := 10) rfl ?_); refine goesL_ (some 5) rfl rfl Tryd.func10 (by kernel_rfl) rfl #[.agg #[.bool false, .string (⟨#[50]⟩ : ByteArray), .string (⟨#[53]⟩ : ByteArray)], .int .i64 7, .int .i64 0] rfl ql ?_; (with_reducible refine (round_Places.calls k false (⟨#[50]⟩ : ByteArray) (⟨#[53]⟩ : ByteArray) 7 0 t200 t201 t202 t203 _ A1.out).mono ?_); rintro e w3 ⟨rfl, hb⟩; refine ⟨_, rfl, ?_⟩; replace HB := qn HB hb; (try clear hb); (try clear hb2); (try clear hk); (try clear hi)) | ((with_reducible refine gate_dst (N := 1) rfl ?_); refine qx 1 #[.bool false, .string (⟨#[]⟩ : ByteArray), .string (⟨#[]⟩ : ByteArray)] 23 ?_; intro gb204 hg w4 hbox hb; have BK204 := Aside0.mk (hbox); have GW204 := qs hg HB; have GE204 := GW204; replace HB := qn HB hb; clear hb hbox hg; obtain ⟨hcz5_0, hcz5_1, hcz5_2, hfz5_0, hfz5_1, hfz5_2⟩ := q3 BK204))
   go_ret
   exact ⟨qe, qh HB⟩
 · rw [if_neg c2] at H
   have c2b0 : (t203 == 0) = false := beq_eq_false_iff_ne.mpr c2
   have c2b1 : (t203 != 0) = true := bne_iff_ne.mpr c2
   try have c2b1z := c2b1
   (try simp only [bne] at c2b1z)
   obtain rfl := Option.some.inj H
   go_enter Tryd.func12, Tryd.ntmps12
   go_wp2_with (first | ((with_reducible refine gate_callee (f := 10) rfl ?_); refine goesL_ (some 5) rfl rfl Tryd.func10 (by kernel_rfl) rfl #[.agg #[.bool false, .string (⟨#[50]⟩ : ByteArray), .string (⟨#[53]⟩ : ByteArray)], .int .i64 7, .int .i64 0] rfl ql ?_; (with_reducible refine (round_Places.calls k false (⟨#[50]⟩ : ByteArray) (⟨#[53]⟩ : ByteArray) 7 0 t200 t201 t202 t203 _ A1.out).mono ?_); rintro e w6 ⟨rfl, hb⟩; refine ⟨_, rfl, ?_⟩; replace HB := qn HB hb; (try clear hb); (try clear hb2); (try clear hk); (try clear hi)) | ((with_reducible refine gate_dst (N := 1) rfl ?_); refine qx 1 #[.bool false, .string (⟨#[]⟩ : ByteArray), .string (⟨#[]⟩ : ByteArray)] 23 ?_; intro gb204 hg w7 hbox hb; have BK204 := Aside0.mk (hbox); have GW204 := qs hg HB; have GE204 := GW204; replace HB := qn HB hb; clear hb hbox hg; obtain ⟨hcz8_0, hcz8_1, hcz8_2, hfz8_0, hfz8_1, hfz8_2⟩ := q3 BK204))
   go_ret
   exact ⟨qe, qh HB⟩

/-! ### idiomlaw03_RoundPlaces: function 3 -/
def idiomlaw03_RoundPlaces.f (k : Nat) (a0_0 : Bool) (a0_1 : ByteArray) (a0_2 : ByteArray) (a1 : Int) (a2 : Int) : Option (Bool) := (round_Places.f k a0_0 a0_1 a0_2 a1 a2).bind fun bt206 => ((idiomref03_Places.f k a0_0 a0_1 a0_2 a1 a2).bind fun bt211 => (if (bt206.1 == bt211.1 && (bt206.2.1.toList == bt211.2.1.toList && (bt206.2.2.1.toList == bt211.2.2.1.toList))) = true then (if bt206.2.2.2 = bt211.2.2.2 then ((idiomlaw03_awake.f k).bind fun t216 => (some t216)) else (none)) else (none)))
theorem idiomlaw03_RoundPlaces.mono : ∀ a0 a1 a2 a3 a4 k, LeO (idiomlaw03_RoundPlaces.f k a0 a1 a2 a3 a4) (idiomlaw03_RoundPlaces.f (k + 1) a0 a1 a2 a3 a4) := by
 intro a0 a1 a2 a3 a4 k
 unfold idiomlaw03_RoundPlaces.f
 repeat' first
  | (with_reducible exact idiomlaw03_awake.mono _)
  | (with_reducible exact idiomref03_Places.mono _ _ _ _ _ _)
  | (with_reducible exact round_Places.mono _ _ _ _ _ _)
  | (with_reducible exact LeO.refl _)
  | (with_reducible exact LeO.none _)
  | (with_reducible refine LeO.ite ?_ ?_)
  | (with_reducible refine LeO.bind ?_ (fun _ => ?_))
  | exact idiomlaw03_awake.mono _
  | exact idiomref03_Places.mono _ _ _ _ _ _
  | exact round_Places.mono _ _ _ _ _ _
  | exact LeO.none _
  | refine LeO.ite ?_ ?_
  | refine LeO.bind ?_ (fun _ => ?_)
set_option maxHeartbeats 8000000 in
set_option maxRecDepth 100000 in
theorem idiomlaw03_RoundPlaces.calls (k : Nat) (a0_0 : Bool) (a0_1 : ByteArray) (a0_2 : ByteArray) (a1 : Int) (a2 : Int) (r : Bool) (w : World) (h : idiomlaw03_RoundPlaces.f k a0_0 a0_1 a0_2 a1 a2 = some r) :
 Calls Tryd.prog 3 #[.agg #[.bool a0_0, .string a0_1, .string a0_2], .int .i64 a1, .int .i64 a2] w fun e w' => e = .returned (.bool r) ∧ Below w.heap.size w w' := by
 have hu23 := Tryd.underlying23
 have HB := Aside0.mk (Below.refl w.heap.size w)
 have H : ((round_Places.f k a0_0 a0_1 a0_2 a1 a2).bind fun bt206 => ((idiomref03_Places.f k a0_0 a0_1 a0_2 a1 a2).bind fun bt211 => (if (bt206.1 == bt211.1 && (bt206.2.1.toList == bt211.2.1.toList && (bt206.2.2.1.toList == bt211.2.2.1.toList))) = true then (if bt206.2.2.2 = bt211.2.2.2 then ((idiomlaw03_awake.f k).bind fun t216 => (some t216)) else (none)) else (none)))) = some r := h
 clear h
 replace H := Option.bind_eq_some_iff.mp H
 obtain ⟨⟨t206, t207, t208, t209⟩, A40, H⟩ := H
 replace H : ((idiomref03_Places.f k a0_0 a0_1 a0_2 a1 a2).bind fun bt211 => (if (t206 == bt211.1 && (t207.toList == bt211.2.1.toList && (t208.toList == bt211.2.2.1.toList))) = true then (if t209 = bt211.2.2.2 then ((idiomlaw03_awake.f k).bind fun t216 => (some t216)) else (none)) else (none))) = some r := H
 have A4 := Aside0.mk A40
 clear A40
 replace H := Option.bind_eq_some_iff.mp H
 obtain ⟨⟨t211, t212, t213, t214⟩, A50, H⟩ := H
 replace H : (if (t206 == t211 && (t207.toList == t212.toList && (t208.toList == t213.toList))) = true then (if t209 = t214 then ((idiomlaw03_awake.f k).bind fun t216 => (some t216)) else (none)) else (none)) = some r := H
 have A5 := Aside0.mk A50
 clear A50
 by_cases c6 : (t206 == t211 && (t207.toList == t212.toList && (t208.toList == t213.toList))) = true
 · rw [if_pos c6] at H
   have c6b0 : (t206 == t211 && (t207.toList == t212.toList && (t208.toList == t213.toList))) = true := c6
   (try (have c6b1 : decide (t206 = t211 && (t207.toList == t212.toList && (t208.toList == t213.toList))) = true := by simpa using c6))
   (try (have c6b2 : (t206 == t211 && (t207.toList == t212.toList && (t208.toList == t213.toList))) = true := by simpa using c6))
   clear c6
   by_cases c7 : t209 = t214
   · rw [if_pos c7] at H
     have c7b0 : (t209 == t214) = true := beq_iff_eq.mpr c7
     have c7b1 : (t209 != t214) = false := bne_eq_false_iff_eq.mpr c7
     try have c7b1z := c7b1
     (try simp only [bne] at c7b1z)
     clear c7
     replace H := Option.bind_eq_some_iff.mp H
     obtain ⟨t216, A80, H⟩ := H
     replace H : (some t216) = some r := H
     have A8 := Aside0.mk A80
     clear A80
     obtain rfl := Option.some.inj H
     go_enter Tryd.func3, Tryd.ntmps3
     go_wp2_with (first | ((with_reducible refine gate_dst (N := 3) rfl ?_); refine qx 3 #[.bool a0_0, .string a0_1, .string a0_2] 23 ?_; intro gb205 hg w9 hbox hb; have BK205 := Aside0.mk (hbox); have GW205 := qs hg HB; have GE205 := GW205; replace HB := qn HB hb; clear hb hbox hg; obtain ⟨hcz10_0, hcz10_1, hcz10_2, hfz10_0, hfz10_1, hfz10_2⟩ := q3 BK205) | ((with_reducible refine gate_callee (f := 10) rfl ?_); refine goesL_ (some 15) rfl rfl Tryd.func10 (by kernel_rfl) rfl #[.agg #[.bool a0_0, .string a0_1, .string a0_2], .int .i64 a1, .int .i64 a2] rfl ql ?_; (with_reducible refine (round_Places.calls k a0_0 a0_1 a0_2 a1 a2 t206 t207 t208 t209 _ A4.out).mono ?_); rintro e w11 ⟨rfl, hb⟩; refine ⟨_, rfl, ?_⟩; replace BK205 := qb BK205 hb; replace HB := qn HB hb; (try clear hb); (try clear hb2); (try clear hk); (try clear hi)) | ((with_reducible refine gate_dst (N := 7) rfl ?_); refine qx 7 #[.bool false, .string (⟨#[]⟩ : ByteArray), .string (⟨#[]⟩ : ByteArray)] 23 ?_; intro gb210 hg w12 hbox hb; have BK210 := Aside0.mk (hbox); have GW210 := qs hg HB; have GE210 := GW210; have NB205_210 := ql_ hg BK205; have NB210_205 := qg_ hg BK205; replace BK205 := qb BK205 hb; replace HB := qn HB hb; clear hb hbox hg; have hnb13 := NB210_205.out; have hnc13 := NB205_210.out; obtain ⟨hcz14_0, hcz14_1, hcz14_2, hfz14_0, hfz14_1, hfz14_2⟩ := q3 BK210; obtain ⟨hcz15_0, hcz15_1, hcz15_2, hfz15_0, hfz15_1, hfz15_2⟩ := q3 BK205) | ((with_reducible refine gate_callee (f := 11) rfl ?_); refine goesL_ (some 22) rfl rfl Tryd.func11 (by kernel_rfl) rfl #[.agg #[.bool a0_0, .string a0_1, .string a0_2], .int .i64 a1, .int .i64 a2] rfl ql ?_; (with_reducible refine (idiomref03_Places.calls k a0_0 a0_1 a0_2 a1 a2 t211 t212 t213 t214 _ A5.out).mono ?_); rintro e w16 ⟨rfl, hb⟩; refine ⟨_, rfl, ?_⟩; replace BK205 := Aside0.mk (blk_below (g := gb205) (o := .cells #[.bool a0_0, .string a0_1, .string a0_2] 23 (0, 0)) (by refine qf NB205_210 ?_; refine qf NB205_210 ?_; refine qf NB205_210 ?_; exact qk BK205) hb); replace BK210 := Aside0.mk (blk_below (g := gb210) (o := .cells #[.bool t206, .string t207, .string t208] 23 (0, 0)) (by refine qp 2 #[.bool t206, .string t207, .string (⟨#[]⟩ : ByteArray)] ?_; refine qp 1 #[.bool t206, .string (⟨#[]⟩ : ByteArray), .string (⟨#[]⟩ : ByteArray)] ?_; refine qp 0 #[.bool false, .string (⟨#[]⟩ : ByteArray), .string (⟨#[]⟩ : ByteArray)] ?_; exact qk BK210) hb); replace HB := qn HB hb; (try clear hb); (try clear hb2); (try clear hk); (try clear hi)) | ((with_reducible refine gate_dst (N := 9) rfl ?_); refine qx 9 #[.bool false, .string (⟨#[]⟩ : ByteArray), .string (⟨#[]⟩ : ByteArray)] 23 ?_; intro gb215 hg w17 hbox hb; have BK215 := Aside0.mk (hbox); have GW215 := qs hg HB; have GE215 := GW215; have NB205_215 := ql_ hg BK205; have NB215_205 := qg_ hg BK205; have NB210_215 := ql_ hg BK210; have NB215_210 := qg_ hg BK210; replace BK205 := qb BK205 hb; replace BK210 := qb BK210 hb; replace HB := qn HB hb; clear hb hbox hg; have hnb18 := NB215_205.out; have hnc18 := NB205_215.out; have hnb19 := NB215_210.out; have hnc19 := NB210_215.out; obtain ⟨hcz20_0, hcz20_1, hcz20_2, hfz20_0, hfz20_1, hfz20_2⟩ := q3 BK215; obtain ⟨hcz21_0, hcz21_1, hcz21_2, hfz21_0, hfz21_1, hfz21_2⟩ := q3 BK210) | (go_at_call 12; (with_reducible refine (idiomlaw03_awake.calls k  t216 _ A8.out).mono ?_); rintro e w22 ⟨rfl, hb⟩; replace BK205 := Aside0.mk (blk_below (g := gb205) (o := .cells #[.bool a0_0, .string a0_1, .string a0_2] 23 (0, 0)) (by refine qf NB205_215 ?_; refine qf NB205_215 ?_; refine qf NB205_215 ?_; exact qk BK205) hb); replace BK210 := Aside0.mk (blk_below (g := gb210) (o := .cells #[.bool t206, .string t207, .string t208] 23 (0, 0)) (by refine qf NB210_215 ?_; refine qf NB210_215 ?_; refine qf NB210_215 ?_; exact qk BK210) hb); replace BK215 := Aside0.mk (blk_below (g := gb215) (o := .cells #[.bool t211, .string t212, .string t213] 23 (0, 0)) (by refine qp 2 #[.bool t211, .string t212, .string (⟨#[]⟩ : ByteArray)] ?_; refine qp 1 #[.bool t211, .string (⟨#[]⟩ : ByteArray), .string (⟨#[]⟩ : ByteArray)] ?_; refine qp 0 #[.bool false, .string (⟨#[]⟩ : ByteArray), .string (⟨#[]⟩ : ByteArray)] ?_; exact qk BK215) hb); replace HB := qn HB hb; (try clear hb); (try clear hb2); (try clear hk); (try clear hi)))
     go_ret
     exact ⟨qe, qh HB⟩
   · rw [if_neg c7] at H
     exact absurd H (by simp)
 · rw [if_neg c6] at H
   exact absurd H (by simp)

/-! ### idiomref02_First: function 31 -/
def idiomref02_First.l0 : Nat → List Int → Int → Option (Int)
 | 0, _, _ => none
 | k + 1, x0, x3 => if x3 < (x0.length : Int) then (if 0 ≤ x3 then (if (rd x0 x3) = 0 then (idiomref02_First.l0 k x0 (wrap64 (x3 + 1))) else (some (rd x0 x3))) else (none)) else (some 0)
def idiomref02_First.f (k : Nat) (l0 : List Int) : Option (Int) := idiomref02_First.l0 k l0 0
theorem idiomref02_First.mono_l : ∀ k, (∀ y0 y1, LeO (idiomref02_First.l0 k y0 y1) (idiomref02_First.l0 (k + 1) y0 y1))
 | 0 => fun _ _ r h => by simp [idiomref02_First.l0] at h
 | k + 1 => by
  have ih0 := idiomref02_First.mono_l k
  · intro y0 y1
    unfold idiomref02_First.l0
    repeat' first
    | (with_reducible exact ih0 _ _)
    | (with_reducible exact LeO.refl _)
    | (with_reducible exact LeO.none _)
    | (with_reducible refine LeO.ite ?_ ?_)
    | (with_reducible refine LeO.bind ?_ (fun _ => ?_))
    | exact ih0 _ _
    | exact LeO.none _
    | refine LeO.ite ?_ ?_
    | refine LeO.bind ?_ (fun _ => ?_)
theorem idiomref02_First.mono : ∀ a0 k, LeO (idiomref02_First.f k a0) (idiomref02_First.f (k + 1) a0) := by
 intro a0 k
 have ih0 := idiomref02_First.mono_l k
 unfold idiomref02_First.f
 repeat' first
  | (with_reducible exact ih0 _ _)
  | (with_reducible exact LeO.refl _)
  | (with_reducible exact LeO.none _)
  | (with_reducible refine LeO.ite ?_ ?_)
  | (with_reducible refine LeO.bind ?_ (fun _ => ?_))
  | exact ih0 _ _
  | exact LeO.none _
  | refine LeO.ite ?_ ?_
  | refine LeO.bind ?_ (fun _ => ?_)
set_option maxHeartbeats 8000000 in
set_option maxRecDepth 100000 in
theorem idiomref02_First.calls (k : Nat) (A0 : Option Addr) (c0 : Nat) (l0 : List Int) (r : Int) (w : World) (hr0 : Kd.C (Kd.int .i64) w A0 l0.length l0) (hc0 : l0.length ≤ c0) (h : idiomref02_First.f k l0 = some r) :
 Calls Tryd.prog 31 #[.slice A0 l0.length c0] w fun e w' => e = .returned (.int .i64 r) ∧ Drawn0 w w' := by
 have HR0 := Aside0.mk hr0
 have HC0 := Aside0.mk hc0
 clear hr0 hc0
 have H : (idiomref02_First.l0 k l0 0) = some r := h
 clear h
 have H' := Aside0.mk H
 clear H
 go_enter Tryd.func31, Tryd.ntmps31
 go_wp2
 (try simp only [Act.put, List.setIfInBounds_toArray, List.set_cons_zero, List.set_cons_succ])
 go_loopg [3] k (fun kq v3 w' => ∃ (x3_1 : Int), v3 = .int .i64 x3_1 ∧ Aside0 (idiomref02_First.l0 kq l0 x3_1 = some r) ∧ Aside0 (kq ≤ k) ∧ Drawn0 w w')
 case atStart => exact ⟨(0), (by first | rfl | (simp; done) | (simp [*]; done)), H', ⟨Nat.le_refl _⟩, by repeat (first | exact Drawn0.refl _ | apply Drawn0.step)⟩
 case round =>
  clear H'
  obtain ⟨x3_1, rfl, HA, HK1, ⟨m1, rfl⟩⟩ := hrel
  cases gk with
  | zero => exact absurd HA.out (by simp [idiomref02_First.l0])
  | succ k1 =>
   have H := HA.out
   clear HA
   simp only [idiomref02_First.l0] at H
   by_cases c2 : x3_1 < (l0.length : Int)
   · rw [if_pos c2] at H
     have c2b0 : decide (x3_1 < (l0.length : Int)) = true := decide_eq_true c2
     clear c2
     by_cases c3 : 0 ≤ x3_1
     · rw [if_pos c3] at H
       have c3b0 : decide (0 ≤ x3_1) = true := decide_eq_true c3
       clear c3
       by_cases c4 : (rd l0 x3_1) = 0
       · rw [if_pos c4] at H
         have c4b0 : ((rd l0 x3_1) == 0) = true := beq_iff_eq.mpr c4
         have c4b1 : ((rd l0 x3_1) != 0) = false := bne_eq_false_iff_eq.mpr c4
         clear c4
         have H' := Aside0.mk H
         clear H
         have p217 : 0 ≤ (x3_1 : Int) := of_decide_eq_true qa
         have q217 : x3_1 < (l0.length : Int) := of_decide_eq_true qa
         obtain ⟨ad217, e217, hx217_0⟩ := Kd.at_int HR0.out x3_1 p217 q217
         cases e217
         replace p217 := eq_true p217
         replace q217 := eq_true q217
         go_wp2
         go_roundg k1
         case measure => have := HK1.out; omega
         case rel => exact ⟨(wrap64 (x3_1 + 1)), (by first | rfl | (simp; done) | (simp [*]; done)), H', ⟨by have := HK1.out; omega⟩, by repeat (first | exact Drawn0.refl _ | apply Drawn0.step)⟩
       · rw [if_neg c4] at H
         have c4b0 : ((rd l0 x3_1) == 0) = false := beq_eq_false_iff_ne.mpr c4
         have c4b1 : ((rd l0 x3_1) != 0) = true := bne_iff_ne.mpr c4
         obtain rfl := Option.some.inj H
         have p217 : 0 ≤ (x3_1 : Int) := of_decide_eq_true qa
         have q217 : x3_1 < (l0.length : Int) := of_decide_eq_true qa
         obtain ⟨ad217, e217, hx217_0⟩ := Kd.at_int HR0.out x3_1 p217 q217
         cases e217
         replace p217 := eq_true p217
         replace q217 := eq_true q217
         have p218 : 0 ≤ (x3_1 : Int) := of_decide_eq_true qa
         have q218 : x3_1 < (l0.length : Int) := of_decide_eq_true qa
         obtain ⟨ad218, e218, hx218_0⟩ := Kd.at_int HR0.out x3_1 p218 q218
         obtain rfl : ad217 = ad218 := (by injection e218)
         replace p218 := eq_true p218
         replace q218 := eq_true q218
         go_wp2
         go_ret
         exact ⟨by first | rfl | (simp; done) | (simp [*]; done), by repeat (first | exact Drawn0.refl _ | apply Drawn0.step)⟩
     · rw [if_neg c3] at H
       exact absurd H (by simp)
   · rw [if_neg c2] at H
     have c2b0 : decide (x3_1 < (l0.length : Int)) = false := decide_eq_false c2
     clear c2
     obtain rfl := Option.some.inj H
     go_wp2
     go_ret
     exact ⟨by first | rfl | (simp; done) | (simp [*]; done), by repeat (first | exact Drawn0.refl _ | apply Drawn0.step)⟩

/-! ### idiomref02_Cmp: function 33 -/
def idiomref02_Cmp.j0 : Nat → ByteArray → ByteArray → Bool → Option (Int)
 | 0, _, _, _ => none
 | k + 1, x0, x1, x5 => if x5 = true then (some (-1)) else (if x0.toList = x1.toList then (some 0) else (some 1))
def idiomref02_Cmp.f (k : Nat) (a0 : ByteArray) (a1 : ByteArray) : Option (Int) := if (a0.size : Int) < (a1.size : Int) then (idiomref02_Cmp.j0 k a0 a1 true) else (if (a0.size : Int) = (a1.size : Int) then (idiomref02_Cmp.j0 k a0 a1 (Op.bytesLess a0.toList a1.toList)) else (idiomref02_Cmp.j0 k a0 a1 false))
theorem idiomref02_Cmp.mono_l : ∀ k, (∀ y0 y1 y2, LeO (idiomref02_Cmp.j0 k y0 y1 y2) (idiomref02_Cmp.j0 (k + 1) y0 y1 y2))
 | 0 => fun _ _ _ r h => by simp [idiomref02_Cmp.j0] at h
 | k + 1 => by
  have ih0 := idiomref02_Cmp.mono_l k
  · intro y0 y1 y2
    unfold idiomref02_Cmp.j0
    repeat' first
    | (with_reducible exact ih0 _ _ _)
    | (with_reducible exact LeO.refl _)
    | (with_reducible exact LeO.none _)
    | (with_reducible refine LeO.ite ?_ ?_)
    | (with_reducible refine LeO.bind ?_ (fun _ => ?_))
    | exact ih0 _ _ _
    | exact LeO.none _
    | refine LeO.ite ?_ ?_
    | refine LeO.bind ?_ (fun _ => ?_)
theorem idiomref02_Cmp.mono : ∀ a0 a1 k, LeO (idiomref02_Cmp.f k a0 a1) (idiomref02_Cmp.f (k + 1) a0 a1) := by
 intro a0 a1 k
 have ih0 := idiomref02_Cmp.mono_l k
 unfold idiomref02_Cmp.f
 repeat' first
  | (with_reducible exact ih0 _ _ _)
  | (with_reducible exact LeO.refl _)
  | (with_reducible exact LeO.none _)
  | (with_reducible refine LeO.ite ?_ ?_)
  | (with_reducible refine LeO.bind ?_ (fun _ => ?_))
  | exact ih0 _ _ _
  | exact LeO.none _
  | refine LeO.ite ?_ ?_
  | refine LeO.bind ?_ (fun _ => ?_)
set_option maxHeartbeats 8000000 in
set_option maxRecDepth 100000 in
theorem idiomref02_Cmp.calls (k : Nat) (a0 : ByteArray) (a1 : ByteArray) (r : Int) (w : World) (h : idiomref02_Cmp.f k a0 a1 = some r) :
 Calls Tryd.prog 33 #[.string a0, .string a1] w fun e w' => e = .returned (.int .i64 r) ∧ Drawn0 w w' := by
 have H : (if (a0.size : Int) < (a1.size : Int) then (idiomref02_Cmp.j0 k a0 a1 true) else (if (a0.size : Int) = (a1.size : Int) then (idiomref02_Cmp.j0 k a0 a1 (Op.bytesLess a0.toList a1.toList)) else (idiomref02_Cmp.j0 k a0 a1 false))) = some r := h
 clear h
 have HC3 := Aside0.mk H
 clear H
 go_enter Tryd.func33, Tryd.ntmps33
 go_upto_region 1 with (fail)
 go_cut [5] (fun v5 wc => ∃ (kq : Nat) (x5_2 : Bool), v5 = .bool x5_2 ∧ Aside0 (idiomref02_Cmp.j0 kq a0 a1 x5_2 = some r) ∧ Aside0 (kq ≤ k) ∧ Drawn0 w wc)
 case first =>
  have H := HC3.out
  clear HC3
  by_cases c4 : (a0.size : Int) < (a1.size : Int)
  · rw [if_pos c4] at H
    have c4b0 : decide ((a0.size : Int) < (a1.size : Int)) = true := decide_eq_true c4
    have c4b1 : decide (a0.size < a1.size) = true := decide_eq_true (Int.ofNat_lt.mp c4)
    clear c4
    (first | rw [c4b0] | (simp only [i64_w, i32_w]; rw [c4b0]) | skip)
    have H' := Aside0.mk H
    clear H
    go_wp2
    go_meet
    case rel => exact ⟨_, (true), (by first | rfl | (simp; done) | (simp [*]; done)), H', ⟨by first | omega | exact Nat.le_refl _⟩, by repeat (first | exact Drawn0.refl _ | apply Drawn0.step)⟩
  · rw [if_neg c4] at H
    have c4b0 : decide ((a0.size : Int) < (a1.size : Int)) = false := decide_eq_false c4
    have c4b1 : decide (a0.size < a1.size) = false := decide_eq_false (fun h => c4 (Int.ofNat_lt.mpr h))
    clear c4
    (first | rw [c4b0] | (simp only [i64_w, i32_w]; rw [c4b0]) | skip)
    by_cases c5 : (a0.size : Int) = (a1.size : Int)
    · rw [if_pos c5] at H
      have c5b0 : ((a0.size : Int) == (a1.size : Int)) = true := beq_iff_eq.mpr c5
      have c5b1 : ((a0.size : Int) != (a1.size : Int)) = false := bne_eq_false_iff_eq.mpr c5
      try have c5b1z := c5b1
      (try simp only [bne] at c5b1z)
      have c5b2 : (a0.size == a1.size) = true := by first | simpa using c5 | (simp at c5 ⊢; omega)
      clear c5
      have H' := Aside0.mk H
      clear H
      go_wp2
      go_meet
      case rel => exact ⟨_, ((Op.bytesLess a0.toList a1.toList)), (by first | rfl | (simp; done) | (simp [*]; done)), H', ⟨by first | omega | exact Nat.le_refl _⟩, by repeat (first | exact Drawn0.refl _ | apply Drawn0.step)⟩
    · rw [if_neg c5] at H
      have c5b0 : ((a0.size : Int) == (a1.size : Int)) = false := beq_eq_false_iff_ne.mpr c5
      have c5b1 : ((a0.size : Int) != (a1.size : Int)) = true := bne_iff_ne.mpr c5
      try have c5b1z := c5b1
      (try simp only [bne] at c5b1z)
      have c5b2 : (a0.size == a1.size) = false := by first | simpa using c5 | (simp at c5 ⊢; omega)
      have H' := Aside0.mk H
      clear H
      go_wp2
      go_meet
      case rel => exact ⟨_, (false), (by first | rfl | (simp; done) | (simp [*]; done)), H', ⟨by first | omega | exact Nat.le_refl _⟩, by repeat (first | exact Drawn0.refl _ | apply Drawn0.step)⟩
 case rest =>
  clear HC3
  try clear p2
  try clear c3
  try clear c4
  try clear c4b0
  try clear c4b1
  try clear c5
  try clear c5b0
  try clear c5b1
  try clear c5b2
  obtain ⟨kq, x5_2, rfl, HA, HJ2, ⟨mc2, rfl⟩⟩ := hcut
  cases kq with
  | zero => exact absurd HA.out (by simp [idiomref02_Cmp.j0])
  | succ kj2 =>
   have H := HA.out
   clear HA
   simp only [idiomref02_Cmp.j0] at H
   by_cases c6 : x5_2 = true
   · subst c6
     have H1 : (some (-1)) = some r := by rw [if_pos rfl] at H; exact H
     clear H
     have H := H1
     clear H1
     obtain rfl := Option.some.inj H
     go_wp2
     go_ret
     exact ⟨by first | rfl | (simp; done) | (simp [*]; done), by repeat (first | exact Drawn0.refl _ | apply Drawn0.step)⟩
   · replace c6 := Bool.eq_false_iff.mpr c6
     subst c6
     have H1 : (if a0.toList = a1.toList then (some 0) else (some 1)) = some r := by rw [if_neg (show ¬ (false = true) by decide)] at H; exact H
     clear H
     have H := H1
     clear H1
     by_cases c7 : a0.toList = a1.toList
     · rw [if_pos c7] at H
       have c7b0 : (a0.toList == a1.toList) = true := beq_iff_eq.mpr c7
       have c7b1 : (a0.toList != a1.toList) = false := bne_eq_false_iff_eq.mpr c7
       clear c7
       obtain rfl := Option.some.inj H
       go_wp2
       go_ret
       exact ⟨by first | rfl | (simp; done) | (simp [*]; done), by repeat (first | exact Drawn0.refl _ | apply Drawn0.step)⟩
     · rw [if_neg c7] at H
       have c7b0 : (a0.toList == a1.toList) = false := beq_eq_false_iff_ne.mpr c7
       have c7b1 : (a0.toList != a1.toList) = true := bne_iff_ne.mpr c7
       obtain rfl := Option.some.inj H
       go_wp2
       go_ret
       exact ⟨by first | rfl | (simp; done) | (simp [*]; done), by repeat (first | exact Drawn0.refl _ | apply Drawn0.step)⟩

end Go.Proofs.YtpmhebdaphjinaaDoor.F
