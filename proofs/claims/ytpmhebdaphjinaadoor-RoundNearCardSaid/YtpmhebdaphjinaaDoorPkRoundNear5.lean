/- Part 6 of 7 of the proof of the law RoundNear: it is true at every input. Conditions: those of the given row, no others. -/
import Derived.Test.YtpmhebdaphjinaaDoorPkRoundNear0
import Derived.Test.YtpmhebdaphjinaaDoorPkRoundNear1
import Derived.Test.YtpmhebdaphjinaaDoorPkRoundNear3
import Derived.Test.YtpmhebdaphjinaaDoorPkRoundNear4
import Derived.Lib.Strings
import Derived.Lib.TrimByte
import Derived.Lib.Repeat
namespace Go.Proofs.YtpmhebdaphjinaaDoor.F
open Go.RowKit Go.Proofs.YtpmhebdaphjinaaDoorW.PrintWords Go.Proofs.YtpmhebdaphjinaaDoorW.PrintLast Go.Proofs.YtpmhebdaphjinaaDoorW.PrintMore Go.Proofs.YtpmhebdaphjinaaDoor.Q
attribute [local go_sem] max2_int min2_int max_two min_two max_three min_three max_four min_four   -- for this text's walks alone
set_option linter.unusedVariables false
set_option linter.unusedSimpArgs false

attribute [local go_sem high] eqA23
def idiomlaw03_RoundNear.f (k : Nat) (a0_0 : Bool) (a0_1 : ByteArray) (a0_2 : ByteArray) (a1 : Int) (a2 : Int) : Option (Bool) := (round_Places.f k a0_0 a0_1 a0_2 a1 a2).bind fun bt307 => (if bt307.2.2.2 = 0 then (if (a0_2.size : Int) ≤ a2 then (if (bt307.1 == a0_0 && (bt307.2.1.toList == a0_1.toList && (bt307.2.2.1.toList == a0_2.toList))) = true then ((idiomlaw03_awake.f k).bind fun t318 => (some t318)) else (none)) else ((idiomref02_Sub.f k bt307.1 bt307.2.1 bt307.2.2.1 a0_0 a0_1 a0_2).bind fun bt319 => (if bt319.2.2.2 = 0 then ((idiomlaw03_worth.f bt319.1 bt319.2.1 bt319.2.2.1).bind fun bt325 => ((idiomlaw03_unit.f k a2).bind fun bt328 => ((idiomref02_Compare.f k bt325.1 bt325.2.1 bt325.2.2 bt328.1 bt328.2.1 bt328.2.2).bind fun bt331 => (if bt331.1 ≥ 0 then (none) else ((idiomref02_Add.f k bt325.1 bt325.2.1 bt325.2.2 bt325.1 bt325.2.1 bt325.2.2).bind fun bt333 => (if bt333.2.2.2 = 0 then ((idiomlaw03_unit.f k a2).bind fun bt338 => ((idiomref02_Compare.f k bt333.1 bt333.2.1 bt333.2.2.1 bt338.1 bt338.2.1 bt338.2.2).bind fun bt341 => (if bt341.1 ≤ 0 then ((idiomlaw03_awake.f k).bind fun t343 => (some t343)) else (if a1 < 5 then ((idiomlaw03_awake.f k).bind fun t344 => (some t344)) else (if a1 > 7 then ((idiomlaw03_awake.f k).bind fun t345 => (some t345)) else (none)))))) else (if bt333.2.2.2 = 3 then ((idiomlaw03_awake.f k).bind fun t346 => (some t346)) else (none)))))))) else (if bt319.2.2.2 = 3 then ((idiomlaw03_awake.f k).bind fun t324 => (some t324)) else (none))))) else ((idiomref03_Places.f k a0_0 a0_1 a0_2 a1 a2).bind fun bt312 => (if bt307.2.2.2 = bt312.2.2.2 then ((idiomlaw03_awake.f k).bind fun t317 => (some t317)) else (none))))
theorem idiomlaw03_RoundNear.mono : ∀ a0 a1 a2 a3 a4 k, LeO (idiomlaw03_RoundNear.f k a0 a1 a2 a3 a4) (idiomlaw03_RoundNear.f (k + 1) a0 a1 a2 a3 a4) := by
 intro a0 a1 a2 a3 a4 k
 unfold idiomlaw03_RoundNear.f
 repeat' first
  | (with_reducible exact idiomlaw03_awake.mono _)
  | (with_reducible exact idiomlaw03_unit.mono _ _)
  | (with_reducible exact idiomref02_Add.mono _ _ _ _ _ _ _)
  | (with_reducible exact idiomref02_Compare.mono _ _ _ _ _ _ _)
  | (with_reducible exact idiomref02_Sub.mono _ _ _ _ _ _ _)
  | (with_reducible exact idiomref03_Places.mono _ _ _ _ _ _)
  | (with_reducible exact round_Places.mono _ _ _ _ _ _)
  | (with_reducible exact LeO.refl _)
  | (with_reducible exact LeO.none _)
  | (with_reducible refine LeO.ite ?_ ?_)
  | (with_reducible refine LeO.bind ?_ (fun _ => ?_))
  | exact idiomlaw03_awake.mono _
  | exact idiomlaw03_unit.mono _ _
  | exact idiomref02_Add.mono _ _ _ _ _ _ _
  | exact idiomref02_Compare.mono _ _ _ _ _ _ _
  | exact idiomref02_Sub.mono _ _ _ _ _ _ _
  | exact idiomref03_Places.mono _ _ _ _ _ _
  | exact round_Places.mono _ _ _ _ _ _
  | exact LeO.none _
  | refine LeO.ite ?_ ?_
  | refine LeO.bind ?_ (fun _ => ?_)
def idiomlaw03_RoundNear.T11 : Bool × List (List Nat × List Nat) := (true, [([], []), ([], []), ([1], [1]), ([0, 2, 2], [0, 2]), ([3], [3]), ([4], [4]), ([4], [4]), ([5, 3, 0, 1, 2, 3, 4, 5], [5]), ([6, 7, 0, 1, 2, 3, 4, 5, 6, 7], [6])])
def idiomlaw03_RoundNear.B11 : List Nat := [0, 0, 2, 7, 15, 31, 31, 63, 255]
theorem idiomlaw03_RoundNear.tab11 : rtab .any (opsOf Tryd.f4 11) = idiomlaw03_RoundNear.T11 := by kernel_rfl
theorem idiomlaw03_RoundNear.bits11 : waitsOk idiomlaw03_RoundNear.T11.2 idiomlaw03_RoundNear.B11 = true := by kernel_rfl
def idiomlaw03_RoundNear.T17 : Bool × List (List Nat × List Nat) := (true, [([], []), ([], []), ([1], [1]), ([0, 2, 2], [0, 2]), ([3], [3]), ([4], [4]), ([4], [4]), ([5, 3, 0, 1, 2, 3, 4, 5], [5]), ([6, 7, 0, 1, 2, 3, 4, 5, 6, 7], [6])])
def idiomlaw03_RoundNear.B17 : List Nat := [0, 0, 2, 7, 15, 31, 31, 63, 255]
theorem idiomlaw03_RoundNear.tab17 : rtab .any (opsOf Tryd.f4 17) = idiomlaw03_RoundNear.T17 := by kernel_rfl
theorem idiomlaw03_RoundNear.bits17 : waitsOk idiomlaw03_RoundNear.T17.2 idiomlaw03_RoundNear.B17 = true := by kernel_rfl
set_option maxHeartbeats 8000000 in
set_option maxRecDepth 100000 in
theorem idiomlaw03_RoundNear.calls (k : Nat) (a0_0 : Bool) (a0_1 : ByteArray) (a0_2 : ByteArray) (a1 : Int) (a2 : Int) (r : Bool) (w : World) (h : idiomlaw03_RoundNear.f k a0_0 a0_1 a0_2 a1 a2 = some r) :
 Calls Tryd.prog 4 #[.agg #[.bool a0_0, .string a0_1, .string a0_2], .int .i64 a1, .int .i64 a2] w fun e w' => e = .returned (.bool r) ∧ Below w.heap.size w w' := by
 have hu23 := Tryd.underlying23
 have HB := Aside0.mk (Below.refl w.heap.size w)
 have H : ((round_Places.f k a0_0 a0_1 a0_2 a1 a2).bind fun bt307 => (if bt307.2.2.2 = 0 then (if (a0_2.size : Int) ≤ a2 then (if (bt307.1 == a0_0 && (bt307.2.1.toList == a0_1.toList && (bt307.2.2.1.toList == a0_2.toList))) = true then ((idiomlaw03_awake.f k).bind fun t318 => (some t318)) else (none)) else ((idiomref02_Sub.f k bt307.1 bt307.2.1 bt307.2.2.1 a0_0 a0_1 a0_2).bind fun bt319 => (if bt319.2.2.2 = 0 then ((idiomlaw03_worth.f bt319.1 bt319.2.1 bt319.2.2.1).bind fun bt325 => ((idiomlaw03_unit.f k a2).bind fun bt328 => ((idiomref02_Compare.f k bt325.1 bt325.2.1 bt325.2.2 bt328.1 bt328.2.1 bt328.2.2).bind fun bt331 => (if bt331.1 ≥ 0 then (none) else ((idiomref02_Add.f k bt325.1 bt325.2.1 bt325.2.2 bt325.1 bt325.2.1 bt325.2.2).bind fun bt333 => (if bt333.2.2.2 = 0 then ((idiomlaw03_unit.f k a2).bind fun bt338 => ((idiomref02_Compare.f k bt333.1 bt333.2.1 bt333.2.2.1 bt338.1 bt338.2.1 bt338.2.2).bind fun bt341 => (if bt341.1 ≤ 0 then ((idiomlaw03_awake.f k).bind fun t343 => (some t343)) else (if a1 < 5 then ((idiomlaw03_awake.f k).bind fun t344 => (some t344)) else (if a1 > 7 then ((idiomlaw03_awake.f k).bind fun t345 => (some t345)) else (none)))))) else (if bt333.2.2.2 = 3 then ((idiomlaw03_awake.f k).bind fun t346 => (some t346)) else (none)))))))) else (if bt319.2.2.2 = 3 then ((idiomlaw03_awake.f k).bind fun t324 => (some t324)) else (none))))) else ((idiomref03_Places.f k a0_0 a0_1 a0_2 a1 a2).bind fun bt312 => (if bt307.2.2.2 = bt312.2.2.2 then ((idiomlaw03_awake.f k).bind fun t317 => (some t317)) else (none))))) = some r := h
 clear h
 replace H := Option.bind_eq_some_iff.mp H
 obtain ⟨⟨t307, t308, t309, t310⟩, A40, H⟩ := H
 replace H : (if t310 = 0 then (if (a0_2.size : Int) ≤ a2 then (if (t307 == a0_0 && (t308.toList == a0_1.toList && (t309.toList == a0_2.toList))) = true then ((idiomlaw03_awake.f k).bind fun t318 => (some t318)) else (none)) else ((idiomref02_Sub.f k t307 t308 t309 a0_0 a0_1 a0_2).bind fun bt319 => (if bt319.2.2.2 = 0 then ((idiomlaw03_worth.f bt319.1 bt319.2.1 bt319.2.2.1).bind fun bt325 => ((idiomlaw03_unit.f k a2).bind fun bt328 => ((idiomref02_Compare.f k bt325.1 bt325.2.1 bt325.2.2 bt328.1 bt328.2.1 bt328.2.2).bind fun bt331 => (if bt331.1 ≥ 0 then (none) else ((idiomref02_Add.f k bt325.1 bt325.2.1 bt325.2.2 bt325.1 bt325.2.1 bt325.2.2).bind fun bt333 => (if bt333.2.2.2 = 0 then ((idiomlaw03_unit.f k a2).bind fun bt338 => ((idiomref02_Compare.f k bt333.1 bt333.2.1 bt333.2.2.1 bt338.1 bt338.2.1 bt338.2.2).bind fun bt341 => (if bt341.1 ≤ 0 then ((idiomlaw03_awake.f k).bind fun t343 => (some t343)) else (if a1 < 5 then ((idiomlaw03_awake.f k).bind fun t344 => (some t344)) else (if a1 > 7 then ((idiomlaw03_awake.f k).bind fun t345 => (some t345)) else (none)))))) else (if bt333.2.2.2 = 3 then ((idiomlaw03_awake.f k).bind fun t346 => (some t346)) else (none)))))))) else (if bt319.2.2.2 = 3 then ((idiomlaw03_awake.f k).bind fun t324 => (some t324)) else (none))))) else ((idiomref03_Places.f k a0_0 a0_1 a0_2 a1 a2).bind fun bt312 => (if t310 = bt312.2.2.2 then ((idiomlaw03_awake.f k).bind fun t317 => (some t317)) else (none)))) = some r := H
 have A4 := Aside0.mk A40
 clear A40
 by_cases c5 : t310 = 0
 · rw [if_pos c5] at H
   have c5b0 : (t310 == 0) = true := beq_iff_eq.mpr c5
   have c5b1 : (t310 != 0) = false := bne_eq_false_iff_eq.mpr c5
   try have c5b1z := c5b1
   (try simp only [bne] at c5b1z)
   clear c5
   by_cases c6 : (a0_2.size : Int) ≤ a2
   · rw [if_pos c6] at H
     have c6b0 : decide ((a0_2.size : Int) ≤ a2) = true := decide_eq_true c6
     clear c6
     by_cases c7 : (t307 == a0_0 && (t308.toList == a0_1.toList && (t309.toList == a0_2.toList))) = true
     · rw [if_pos c7] at H
       have c7b0 : (t307 == a0_0 && (t308.toList == a0_1.toList && (t309.toList == a0_2.toList))) = true := c7
       (try (have c7b1 : decide (t307 = a0_0 && (t308.toList == a0_1.toList && (t309.toList == a0_2.toList))) = true := by simpa using c7))
       (try (have c7b2 : (t307 == a0_0 && (t308.toList == a0_1.toList && (t309.toList == a0_2.toList))) = true := by simpa using c7))
       clear c7
       replace H := Option.bind_eq_some_iff.mp H
       obtain ⟨t318, A80, H⟩ := H
       replace H : (some t318) = some r := H
       have A8 := Aside0.mk A80
       clear A80
       obtain rfl := Option.some.inj H
       go_enter Tryd.func4, Tryd.ntmps4
       go_wp2_with (first | ((with_reducible refine gate_dst (N := 3) rfl ?_); refine qx 3 #[.bool a0_0, .string a0_1, .string a0_2] 23 ?_; intro gb306 hg w9 hbox hb; have BK306 := Aside0.mk (hbox); have GW306 := qs hg HB; have GE306 := GW306; replace HB := qn HB hb; clear hb hbox hg; obtain ⟨hcz10_0, hcz10_1, hcz10_2, hfz10_0, hfz10_1, hfz10_2⟩ := q3 BK306) | ((with_reducible refine gate_callee (f := 10) rfl ?_); refine goesL_ (some 22) rfl rfl Tryd.func10 (by kernel_rfl) rfl #[.agg #[.bool a0_0, .string a0_1, .string a0_2], .int .i64 a1, .int .i64 a2] rfl ql ?_; (with_reducible refine (round_Places.calls k a0_0 a0_1 a0_2 a1 a2 t307 t308 t309 t310 _ A4.out).mono ?_); rintro e w11 ⟨rfl, hb⟩; refine ⟨_, rfl, ?_⟩; replace BK306 := qb BK306 hb; replace HB := qn HB hb; (try clear hb); (try clear hb2); (try clear hk); (try clear hi)) | ((with_reducible refine gate_dst (N := 7) rfl ?_); refine qx 7 #[.bool false, .string (⟨#[]⟩ : ByteArray), .string (⟨#[]⟩ : ByteArray)] 23 ?_; intro gb311 hg w12 hbox hb; have BK311 := Aside0.mk (hbox); have GW311 := qs hg HB; have GE311 := GW311; have NB306_311 := ql_ hg BK306; have NB311_306 := qg_ hg BK306; replace BK306 := qb BK306 hb; replace HB := qn HB hb; clear hb hbox hg; have hnb13 := NB311_306.out; have hnc13 := NB306_311.out; obtain ⟨hcz14_0, hcz14_1, hcz14_2, hfz14_0, hfz14_1, hfz14_2⟩ := q3 BK311; obtain ⟨hcz15_0, hcz15_1, hcz15_2, hfz15_0, hfz15_1, hfz15_2⟩ := q3 BK306) | (go_at_call 12; (with_reducible refine (idiomlaw03_awake.calls k  t318 _ A8.out).mono ?_); rintro e w16 ⟨rfl, hb⟩; replace BK306 := Aside0.mk (blk_below (g := gb306) (o := .cells #[.bool a0_0, .string a0_1, .string a0_2] 23 (0, 0)) (by refine qf NB306_311 ?_; refine qf NB306_311 ?_; refine qf NB306_311 ?_; exact qk BK306) hb); replace BK311 := Aside0.mk (blk_below (g := gb311) (o := .cells #[.bool t307, .string t308, .string t309] 23 (0, 0)) (by refine qp 2 #[.bool t307, .string t308, .string (⟨#[]⟩ : ByteArray)] ?_; refine qp 1 #[.bool t307, .string (⟨#[]⟩ : ByteArray), .string (⟨#[]⟩ : ByteArray)] ?_; refine qp 0 #[.bool false, .string (⟨#[]⟩ : ByteArray), .string (⟨#[]⟩ : ByteArray)] ?_; exact qk BK311) hb); replace HB := qn HB hb; (try clear hb); (try clear hb2); (try clear hk); (try clear hi)))
       go_ret
       exact ⟨qe, qh HB⟩
     · rw [if_neg c7] at H
       exact absurd H (by simp)
   · rw [if_neg c6] at H
     have c6b0 : decide ((a0_2.size : Int) ≤ a2) = false := decide_eq_false c6
     clear c6
     replace H := Option.bind_eq_some_iff.mp H
     obtain ⟨⟨t319, t320, t321, t322⟩, A170, H⟩ := H
     replace H : (if t322 = 0 then ((idiomlaw03_worth.f t319 t320 t321).bind fun bt325 => ((idiomlaw03_unit.f k a2).bind fun bt328 => ((idiomref02_Compare.f k bt325.1 bt325.2.1 bt325.2.2 bt328.1 bt328.2.1 bt328.2.2).bind fun bt331 => (if bt331.1 ≥ 0 then (none) else ((idiomref02_Add.f k bt325.1 bt325.2.1 bt325.2.2 bt325.1 bt325.2.1 bt325.2.2).bind fun bt333 => (if bt333.2.2.2 = 0 then ((idiomlaw03_unit.f k a2).bind fun bt338 => ((idiomref02_Compare.f k bt333.1 bt333.2.1 bt333.2.2.1 bt338.1 bt338.2.1 bt338.2.2).bind fun bt341 => (if bt341.1 ≤ 0 then ((idiomlaw03_awake.f k).bind fun t343 => (some t343)) else (if a1 < 5 then ((idiomlaw03_awake.f k).bind fun t344 => (some t344)) else (if a1 > 7 then ((idiomlaw03_awake.f k).bind fun t345 => (some t345)) else (none)))))) else (if bt333.2.2.2 = 3 then ((idiomlaw03_awake.f k).bind fun t346 => (some t346)) else (none)))))))) else (if t322 = 3 then ((idiomlaw03_awake.f k).bind fun t324 => (some t324)) else (none))) = some r := H
     have A17 := Aside0.mk A170
     clear A170
     by_cases c18 : t322 = 0
     · rw [if_pos c18] at H
       have c18b0 : (t322 == 0) = true := beq_iff_eq.mpr c18
       have c18b1 : (t322 != 0) = false := bne_eq_false_iff_eq.mpr c18
       try have c18b1z := c18b1
       (try simp only [bne] at c18b1z)
       clear c18
       replace H := Option.bind_eq_some_iff.mp H
       obtain ⟨⟨t325, t326, t327⟩, A190, H⟩ := H
       replace H : ((idiomlaw03_unit.f k a2).bind fun bt328 => ((idiomref02_Compare.f k t325 t326 t327 bt328.1 bt328.2.1 bt328.2.2).bind fun bt331 => (if bt331.1 ≥ 0 then (none) else ((idiomref02_Add.f k t325 t326 t327 t325 t326 t327).bind fun bt333 => (if bt333.2.2.2 = 0 then ((idiomlaw03_unit.f k a2).bind fun bt338 => ((idiomref02_Compare.f k bt333.1 bt333.2.1 bt333.2.2.1 bt338.1 bt338.2.1 bt338.2.2).bind fun bt341 => (if bt341.1 ≤ 0 then ((idiomlaw03_awake.f k).bind fun t343 => (some t343)) else (if a1 < 5 then ((idiomlaw03_awake.f k).bind fun t344 => (some t344)) else (if a1 > 7 then ((idiomlaw03_awake.f k).bind fun t345 => (some t345)) else (none)))))) else (if bt333.2.2.2 = 3 then ((idiomlaw03_awake.f k).bind fun t346 => (some t346)) else (none))))))) = some r := H
       have A19 := Aside0.mk A190
       clear A190
       replace H := Option.bind_eq_some_iff.mp H
       obtain ⟨⟨t328, t329, t330⟩, A200, H⟩ := H
       replace H : ((idiomref02_Compare.f k t325 t326 t327 t328 t329 t330).bind fun bt331 => (if bt331.1 ≥ 0 then (none) else ((idiomref02_Add.f k t325 t326 t327 t325 t326 t327).bind fun bt333 => (if bt333.2.2.2 = 0 then ((idiomlaw03_unit.f k a2).bind fun bt338 => ((idiomref02_Compare.f k bt333.1 bt333.2.1 bt333.2.2.1 bt338.1 bt338.2.1 bt338.2.2).bind fun bt341 => (if bt341.1 ≤ 0 then ((idiomlaw03_awake.f k).bind fun t343 => (some t343)) else (if a1 < 5 then ((idiomlaw03_awake.f k).bind fun t344 => (some t344)) else (if a1 > 7 then ((idiomlaw03_awake.f k).bind fun t345 => (some t345)) else (none)))))) else (if bt333.2.2.2 = 3 then ((idiomlaw03_awake.f k).bind fun t346 => (some t346)) else (none)))))) = some r := H
       have A20 := Aside0.mk A200
       clear A200
       replace H := Option.bind_eq_some_iff.mp H
       obtain ⟨⟨t331, t332⟩, A210, H⟩ := H
       replace H : (if t331 ≥ 0 then (none) else ((idiomref02_Add.f k t325 t326 t327 t325 t326 t327).bind fun bt333 => (if bt333.2.2.2 = 0 then ((idiomlaw03_unit.f k a2).bind fun bt338 => ((idiomref02_Compare.f k bt333.1 bt333.2.1 bt333.2.2.1 bt338.1 bt338.2.1 bt338.2.2).bind fun bt341 => (if bt341.1 ≤ 0 then ((idiomlaw03_awake.f k).bind fun t343 => (some t343)) else (if a1 < 5 then ((idiomlaw03_awake.f k).bind fun t344 => (some t344)) else (if a1 > 7 then ((idiomlaw03_awake.f k).bind fun t345 => (some t345)) else (none)))))) else (if bt333.2.2.2 = 3 then ((idiomlaw03_awake.f k).bind fun t346 => (some t346)) else (none))))) = some r := H
       have A21 := Aside0.mk A210
       clear A210
       by_cases c22 : t331 ≥ 0
       · rw [if_pos c22] at H
         exact absurd H (by simp)
       · rw [if_neg c22] at H
         have c22b0 : decide (0 ≤ t331) = false := decide_eq_false c22
         clear c22
         replace H := Option.bind_eq_some_iff.mp H
         obtain ⟨⟨t333, t334, t335, t336⟩, A230, H⟩ := H
         replace H : (if t336 = 0 then ((idiomlaw03_unit.f k a2).bind fun bt338 => ((idiomref02_Compare.f k t333 t334 t335 bt338.1 bt338.2.1 bt338.2.2).bind fun bt341 => (if bt341.1 ≤ 0 then ((idiomlaw03_awake.f k).bind fun t343 => (some t343)) else (if a1 < 5 then ((idiomlaw03_awake.f k).bind fun t344 => (some t344)) else (if a1 > 7 then ((idiomlaw03_awake.f k).bind fun t345 => (some t345)) else (none)))))) else (if t336 = 3 then ((idiomlaw03_awake.f k).bind fun t346 => (some t346)) else (none))) = some r := H
         have A23 := Aside0.mk A230
         clear A230
         by_cases c24 : t336 = 0
         · rw [if_pos c24] at H
           have c24b0 : (t336 == 0) = true := beq_iff_eq.mpr c24
           have c24b1 : (t336 != 0) = false := bne_eq_false_iff_eq.mpr c24
           try have c24b1z := c24b1
           (try simp only [bne] at c24b1z)
           clear c24
           replace H := Option.bind_eq_some_iff.mp H
           obtain ⟨⟨t338, t339, t340⟩, A250, H⟩ := H
           replace H : ((idiomref02_Compare.f k t333 t334 t335 t338 t339 t340).bind fun bt341 => (if bt341.1 ≤ 0 then ((idiomlaw03_awake.f k).bind fun t343 => (some t343)) else (if a1 < 5 then ((idiomlaw03_awake.f k).bind fun t344 => (some t344)) else (if a1 > 7 then ((idiomlaw03_awake.f k).bind fun t345 => (some t345)) else (none))))) = some r := H
           have A25 := Aside0.mk A250
           clear A250
           replace H := Option.bind_eq_some_iff.mp H
           obtain ⟨⟨t341, t342⟩, A260, H⟩ := H
           replace H : (if t341 ≤ 0 then ((idiomlaw03_awake.f k).bind fun t343 => (some t343)) else (if a1 < 5 then ((idiomlaw03_awake.f k).bind fun t344 => (some t344)) else (if a1 > 7 then ((idiomlaw03_awake.f k).bind fun t345 => (some t345)) else (none)))) = some r := H
           have A26 := Aside0.mk A260
           clear A260
           by_cases c27 : t341 ≤ 0
           · rw [if_pos c27] at H
             have c27b0 : decide (t341 ≤ 0) = true := decide_eq_true c27
             clear c27
             replace H := Option.bind_eq_some_iff.mp H
             obtain ⟨t343, A280, H⟩ := H
             replace H : (some t343) = some r := H
             have A28 := Aside0.mk A280
             clear A280
             obtain rfl := Option.some.inj H
             go_enter Tryd.func4, Tryd.ntmps4
             try go_wp2_with (first | ((with_reducible refine gate_dst (N := 3) rfl ?_); refine qx 3 #[.bool a0_0, .string a0_1, .string a0_2] 23 ?_; intro gb306 hg w29 hbox hb; have BK306 := Aside0.mk (hbox); have GW306 := qs hg HB; have GE306 := GW306; replace HB := qn HB hb; clear hb hbox hg; obtain ⟨hcz30_0, hcz30_1, hcz30_2, hfz30_0, hfz30_1, hfz30_2⟩ := q3 BK306) | ((with_reducible refine gate_callee (f := 10) rfl ?_); refine goesL_ (some 22) rfl rfl Tryd.func10 (by kernel_rfl) rfl #[.agg #[.bool a0_0, .string a0_1, .string a0_2], .int .i64 a1, .int .i64 a2] rfl ql ?_; (with_reducible refine (round_Places.calls k a0_0 a0_1 a0_2 a1 a2 t307 t308 t309 t310 _ A4.out).mono ?_); rintro e w31 ⟨rfl, hb⟩; refine ⟨_, rfl, ?_⟩; replace BK306 := qb BK306 hb; replace HB := qn HB hb; (try clear hb); (try clear hb2); (try clear hk); (try clear hi)) | ((with_reducible refine gate_dst (N := 7) rfl ?_); refine qx 7 #[.bool false, .string (⟨#[]⟩ : ByteArray), .string (⟨#[]⟩ : ByteArray)] 23 ?_; intro gb311 hg w32 hbox hb; have BK311 := Aside0.mk (hbox); have GW311 := qs hg HB; have GE311 := GW311; have NB306_311 := ql_ hg BK306; have NB311_306 := qg_ hg BK306; replace BK306 := qb BK306 hb; replace HB := qn HB hb; clear hb hbox hg; have hnb33 := NB311_306.out; have hnc33 := NB306_311.out; obtain ⟨hcz34_0, hcz34_1, hcz34_2, hfz34_0, hfz34_1, hfz34_2⟩ := q3 BK311; obtain ⟨hcz35_0, hcz35_1, hcz35_2, hfz35_0, hfz35_1, hfz35_2⟩ := q3 BK306) | ((with_reducible refine gate_callee (f := 13) rfl ?_); refine goesL_ (some 54) rfl rfl Tryd.func13 (by kernel_rfl) rfl #[.agg #[.bool t307, .string t308, .string t309], .agg #[.bool a0_0, .string a0_1, .string a0_2]] rfl ql ?_; (with_reducible refine (idiomref02_Sub.calls k t307 t308 t309 a0_0 a0_1 a0_2 t319 t320 t321 t322 _ A17.out).mono ?_); rintro e w36 ⟨rfl, hb⟩; refine ⟨_, rfl, ?_⟩; replace BK306 := Aside0.mk (blk_below (g := gb306) (o := .cells #[.bool a0_0, .string a0_1, .string a0_2] 23 (0, 0)) (by refine qf NB306_311 ?_; refine qf NB306_311 ?_; refine qf NB306_311 ?_; exact qk BK306) hb); replace BK311 := Aside0.mk (blk_below (g := gb311) (o := .cells #[.bool t307, .string t308, .string t309] 23 (0, 0)) (by refine qp 2 #[.bool t307, .string t308, .string (⟨#[]⟩ : ByteArray)] ?_; refine qp 1 #[.bool t307, .string (⟨#[]⟩ : ByteArray), .string (⟨#[]⟩ : ByteArray)] ?_; refine qp 0 #[.bool false, .string (⟨#[]⟩ : ByteArray), .string (⟨#[]⟩ : ByteArray)] ?_; exact qk BK311) hb); replace HB := qn HB hb; (try clear hb); (try clear hb2); (try clear hk); (try clear hi)) | ((with_reducible refine gate_dst (N := 11) rfl ?_); refine qx 11 #[.bool false, .string (⟨#[]⟩ : ByteArray), .string (⟨#[]⟩ : ByteArray)] 23 ?_; intro gb323 hg w37 hbox hb; have BK323 := Aside0.mk (hbox); have GW323 := qs hg HB; have GE323 := GW323; have NB306_323 := ql_ hg BK306; have NB323_306 := qg_ hg BK306; have NB311_323 := ql_ hg BK311; have NB323_311 := qg_ hg BK311; replace BK306 := qb BK306 hb; replace BK311 := qb BK311 hb; replace HB := qn HB hb; clear hb hbox hg; have hnb38 := NB323_306.out; have hnc38 := NB306_323.out; have hnb39 := NB323_311.out; have hnc39 := NB311_323.out; obtain ⟨hcz40_0, hcz40_1, hcz40_2, hfz40_0, hfz40_1, hfz40_2⟩ := q3 BK323) | ((with_reducible refine gate_callee (f := 14) rfl ?_); refine goesL_ (some 65) rfl rfl Tryd.func14 (by kernel_rfl) rfl #[.agg #[.bool t319, .string t320, .string t321]] rfl ql ?_; (with_reducible refine (idiomlaw03_worth.calls t319 t320 t321 t325 t326 t327 _ A19.out).mono ?_); rintro e w41 ⟨rfl, hb⟩; refine ⟨_, rfl, ?_⟩; replace BK306 := Aside0.mk (blk_below (g := gb306) (o := .cells #[.bool a0_0, .string a0_1, .string a0_2] 23 (0, 0)) (by refine qf NB306_323 ?_; refine qf NB306_323 ?_; refine qf NB306_323 ?_; exact qk BK306) hb); replace BK311 := Aside0.mk (blk_below (g := gb311) (o := .cells #[.bool t307, .string t308, .string t309] 23 (0, 0)) (by refine qf NB311_323 ?_; refine qf NB311_323 ?_; refine qf NB311_323 ?_; exact qk BK311) hb); replace BK323 := Aside0.mk (blk_below (g := gb323) (o := .cells #[.bool t319, .string t320, .string t321] 23 (0, 0)) (by refine qp 2 #[.bool t319, .string t320, .string (⟨#[]⟩ : ByteArray)] ?_; refine qp 1 #[.bool t319, .string (⟨#[]⟩ : ByteArray), .string (⟨#[]⟩ : ByteArray)] ?_; refine qp 0 #[.bool false, .string (⟨#[]⟩ : ByteArray), .string (⟨#[]⟩ : ByteArray)] ?_; exact qk BK323) hb); replace HB := qn HB hb; (try clear hb); (try clear hb2); (try clear hk); (try clear hi); obtain ⟨hcz42_0, hcz42_1, hcz42_2, hfz42_0, hfz42_1, hfz42_2⟩ := q3 BK323))
             have n0_ : Aside0 ((((w41.setCell ⟨gb323, 0, none⟩ (.bool t325)).setCell ⟨gb323, 1, none⟩ (.string t326)).setCell ⟨gb323, 2, none⟩ (.string t327)).heap[gb306]? = some (.cells #[.bool a0_0, .string a0_1, .string a0_2] 23 (0, 0))) := ⟨by refine qf NB306_323 ?_; refine qf NB306_323 ?_; refine qf NB306_323 ?_; exact qk BK306⟩
             have n1_ : Aside0 ((((w41.setCell ⟨gb323, 0, none⟩ (.bool t325)).setCell ⟨gb323, 1, none⟩ (.string t326)).setCell ⟨gb323, 2, none⟩ (.string t327)).heap[gb311]? = some (.cells #[.bool t307, .string t308, .string t309] 23 (0, 0))) := ⟨by refine qf NB311_323 ?_; refine qf NB311_323 ?_; refine qf NB311_323 ?_; exact qk BK311⟩
             have n2_ : Aside0 ((((w41.setCell ⟨gb323, 0, none⟩ (.bool t325)).setCell ⟨gb323, 1, none⟩ (.string t326)).setCell ⟨gb323, 2, none⟩ (.string t327)).heap[gb323]? = some (.cells #[.bool t325, .string t326, .string t327] 23 (0, 0))) := ⟨by refine qp 2 #[.bool t325, .string t326, .string t321] ?_; refine qp 1 #[.bool t325, .string t320, .string t321] ?_; refine qp 0 #[.bool t319, .string t320, .string t321] ?_; exact qk BK323⟩
             have n3_ : Aside0 (Below w.heap.size w (((w41.setCell ⟨gb323, 0, none⟩ (.bool t325)).setCell ⟨gb323, 1, none⟩ (.string t326)).setCell ⟨gb323, 2, none⟩ (.string t327))) := ⟨qh HB⟩
             (try clear BK306)
             (try clear BK311)
             (try clear BK323)
             (try clear HB)
             generalize (((w41.setCell ⟨gb323, 0, none⟩ (.bool t325)).setCell ⟨gb323, 1, none⟩ (.string t326)).setCell ⟨gb323, 2, none⟩ (.string t327)) = w43 at n0_ n1_ n2_ n3_ ⊢
             have BK306 := n0_
             have BK311 := n1_
             have BK323 := n2_
             have HB := n3_
             clear n0_ n1_ n2_ n3_
             replace BK306 := Aside0.mk (blk_drew BK306.out)
             replace BK311 := Aside0.mk (blk_drew BK311.out)
             replace BK323 := Aside0.mk (blk_drew BK323.out)
             replace HB := Aside0.mk (below_drew1 HB.out)
             refine start_ (n := 9) (S := fun w' => w'.cell? ⟨gb323, 0, none⟩ = some (.bool t325) ∧ w'.cell? ⟨gb323, 1, none⟩ = some (.string t326) ∧ w'.cell? ⟨gb323, 2, none⟩ = some (.string t327)) (ds := []) #[false, false, false, false, false, false, false, false, false] (by kernel_rfl) rfl rfl ⟨c_ BK323 0, c_ BK323 1, c_ BK323 2⟩ (fun hHeld => ?_); refine with_tabW idiomlaw03_RoundNear.tab11 idiomlaw03_RoundNear.bits11 (fun HT_ HW_ => ?_)
             generalize w43.drew = w44 at BK306 BK311 BK323 HB hHeld ⊢
             refine pz 1 (some 68) #[false, true, false, false, false, false, false, false, false] HT_ ?_
             refine tw3 0 (some 67) #[true, true, false, false, false, false, false, false, false] HT_ HW_ hHeld ?_
             refine one_ (i := 2) (N := some 69) #[true, true, true, false, false, false, false, false, false] rfl rfl (one_of HT_.out (by kernel_rfl)) (by decide) (fun K hK => ?_)
             refine goes_ Tryd.func16 (by kernel_rfl) rfl #[.int .i64 a2] (by rfl) rfl rfl ql ?_
             with_reducible refine (idiomlaw03_unit.calls k a2 t328 t329 t330 _ A20.out).mono ?_
             rintro e w45 ⟨rfl, hb⟩
             refine ⟨_, rfl, ?_⟩
             replace BK306 := qb BK306 hb
             replace BK311 := qb BK311 hb
             replace BK323 := qb BK323 hb
             replace HB := qn HB hb
             (try clear hb)
             (try clear hb2)
             (try clear hk)
             (try clear hi)
             refine hK.out _ _ ⟨c_ BK323 0, c_ BK323 1, c_ BK323 2⟩ (fun hHeld => ?_)
             clear hK K
             refine nz (some 69) ?_
             refine one_ (i := 3) (N := some 70) #[true, true, true, true, false, false, false, false, false] rfl rfl (one_of HT_.out (by kernel_rfl)) (by decide) (fun K hK => ?_)
             refine goes_ Tryd.func15 (by kernel_rfl) rfl #[.agg #[.bool t325, .string t326, .string t327], .agg #[.bool t328, .string t329, .string t330]] (by rfl) rfl rfl ql ?_
             with_reducible refine (idiomref02_Compare.calls k t325 t326 t327 t328 t329 t330 t331 t332 _ A21.out).mono ?_
             rintro e w46 ⟨rfl, hb⟩
             refine ⟨_, rfl, ?_⟩
             replace BK306 := qb BK306 hb
             replace BK311 := qb BK311 hb
             replace BK323 := qb BK323 hb
             replace HB := qn HB hb
             (try clear hb)
             (try clear hb2)
             (try clear hk)
             (try clear hi)
             refine hK.out _ _ ⟨c_ BK323 0, c_ BK323 1, c_ BK323 2⟩ (fun hHeld => ?_)
             clear hK K
             refine nz (some 70) ?_
             refine pz 4 (some 66) #[true, true, true, true, true, false, false, false, false] HT_ ?_
             refine pz 5 (some 71) #[true, true, true, true, true, true, false, false, false] HT_ ?_
             refine pz 6 (some 72) #[true, true, true, true, true, true, true, false, false] HT_ ?_
             refine pz 7 (some 13) #[true, true, true, true, true, true, true, true, false] HT_ ?_
             refine pz 8 (some 14) #[true, true, true, true, true, true, true, true, true] HT_ ?_
             refine done_ (done_of HT_.out (by kernel_rfl)) ?_
             obtain ⟨hcz47_0, hcz47_1, hcz47_2, hfz47_0, hfz47_1, hfz47_2⟩ := q3 BK323
             try go_wp2_with (first | ((with_reducible refine gate_callee (f := 17) rfl ?_); refine goesL_ (some 78) rfl rfl Tryd.func17 (by kernel_rfl) rfl #[.agg #[.bool t325, .string t326, .string t327], .agg #[.bool t325, .string t326, .string t327]] rfl ql ?_; (with_reducible refine (idiomref02_Add.calls k t325 t326 t327 t325 t326 t327 t333 t334 t335 t336 _ A23.out).mono ?_); rintro e w48 ⟨rfl, hb⟩; refine ⟨_, rfl, ?_⟩; replace BK306 := qb BK306 hb; replace BK311 := qb BK311 hb; replace BK323 := qb BK323 hb; replace HB := qn HB hb; (try clear hb); (try clear hb2); (try clear hk); (try clear hi)) | ((with_reducible refine gate_dst (N := 15) rfl ?_); refine qx 15 #[.bool false, .string (⟨#[]⟩ : ByteArray), .string (⟨#[]⟩ : ByteArray)] 23 ?_; intro gb337 hg w49 hbox hb; have BK337 := Aside0.mk (hbox); have GW337 := qs hg HB; have GE337 := GW337; have NB306_337 := ql_ hg BK306; have NB337_306 := qg_ hg BK306; have NB311_337 := ql_ hg BK311; have NB337_311 := qg_ hg BK311; have NB323_337 := ql_ hg BK323; have NB337_323 := qg_ hg BK323; replace BK306 := qb BK306 hb; replace BK311 := qb BK311 hb; replace BK323 := qb BK323 hb; replace HB := qn HB hb; clear hb hbox hg; have hnb50 := NB337_306.out; have hnc50 := NB306_337.out; have hnb51 := NB337_311.out; have hnc51 := NB311_337.out; have hnb52 := NB337_323.out; have hnc52 := NB323_337.out; obtain ⟨hcz53_0, hcz53_1, hcz53_2, hfz53_0, hfz53_1, hfz53_2⟩ := q3 BK337))
             have n0_ : Aside0 ((((w49.setCell ⟨gb337, 0, none⟩ (.bool t333)).setCell ⟨gb337, 1, none⟩ (.string t334)).setCell ⟨gb337, 2, none⟩ (.string t335)).heap[gb306]? = some (.cells #[.bool a0_0, .string a0_1, .string a0_2] 23 (0, 0))) := ⟨by refine qf NB306_337 ?_; refine qf NB306_337 ?_; refine qf NB306_337 ?_; exact qk BK306⟩
             have n1_ : Aside0 ((((w49.setCell ⟨gb337, 0, none⟩ (.bool t333)).setCell ⟨gb337, 1, none⟩ (.string t334)).setCell ⟨gb337, 2, none⟩ (.string t335)).heap[gb311]? = some (.cells #[.bool t307, .string t308, .string t309] 23 (0, 0))) := ⟨by refine qf NB311_337 ?_; refine qf NB311_337 ?_; refine qf NB311_337 ?_; exact qk BK311⟩
             have n2_ : Aside0 ((((w49.setCell ⟨gb337, 0, none⟩ (.bool t333)).setCell ⟨gb337, 1, none⟩ (.string t334)).setCell ⟨gb337, 2, none⟩ (.string t335)).heap[gb323]? = some (.cells #[.bool t325, .string t326, .string t327] 23 (0, 0))) := ⟨by refine qf NB323_337 ?_; refine qf NB323_337 ?_; refine qf NB323_337 ?_; exact qk BK323⟩
             have n3_ : Aside0 ((((w49.setCell ⟨gb337, 0, none⟩ (.bool t333)).setCell ⟨gb337, 1, none⟩ (.string t334)).setCell ⟨gb337, 2, none⟩ (.string t335)).heap[gb337]? = some (.cells #[.bool t333, .string t334, .string t335] 23 (0, 0))) := ⟨by refine qp 2 #[.bool t333, .string t334, .string (⟨#[]⟩ : ByteArray)] ?_; refine qp 1 #[.bool t333, .string (⟨#[]⟩ : ByteArray), .string (⟨#[]⟩ : ByteArray)] ?_; refine qp 0 #[.bool false, .string (⟨#[]⟩ : ByteArray), .string (⟨#[]⟩ : ByteArray)] ?_; exact qk BK337⟩
             have n4_ : Aside0 (Below w.heap.size w (((w49.setCell ⟨gb337, 0, none⟩ (.bool t333)).setCell ⟨gb337, 1, none⟩ (.string t334)).setCell ⟨gb337, 2, none⟩ (.string t335))) := ⟨qh HB⟩
             (try clear BK306)
             (try clear BK311)
             (try clear BK323)
             (try clear BK337)
             (try clear HB)
             generalize (((w49.setCell ⟨gb337, 0, none⟩ (.bool t333)).setCell ⟨gb337, 1, none⟩ (.string t334)).setCell ⟨gb337, 2, none⟩ (.string t335)) = w54 at n0_ n1_ n2_ n3_ n4_ ⊢
             have BK306 := n0_
             have BK311 := n1_
             have BK323 := n2_
             have BK337 := n3_
             have HB := n4_
             clear n0_ n1_ n2_ n3_ n4_
             replace BK306 := Aside0.mk (blk_drew BK306.out)
             replace BK311 := Aside0.mk (blk_drew BK311.out)
             replace BK323 := Aside0.mk (blk_drew BK323.out)
             replace BK337 := Aside0.mk (blk_drew BK337.out)
             replace HB := Aside0.mk (below_drew1 HB.out)
             refine start_ (n := 9) (S := fun w' => w'.cell? ⟨gb337, 0, none⟩ = some (.bool t333) ∧ w'.cell? ⟨gb337, 1, none⟩ = some (.string t334) ∧ w'.cell? ⟨gb337, 2, none⟩ = some (.string t335)) (ds := []) #[false, false, false, false, false, false, false, false, false] (by kernel_rfl) rfl rfl ⟨c_ BK337 0, c_ BK337 1, c_ BK337 2⟩ (fun hHeld => ?_); refine with_tabW idiomlaw03_RoundNear.tab17 idiomlaw03_RoundNear.bits17 (fun HT_ HW_ => ?_)
             generalize w54.drew = w55 at BK306 BK311 BK323 BK337 HB hHeld ⊢
             refine pz 1 (some 90) #[false, true, false, false, false, false, false, false, false] HT_ ?_
             refine tw3 0 (some 89) #[true, true, false, false, false, false, false, false, false] HT_ HW_ hHeld ?_
             refine one_ (i := 2) (N := some 91) #[true, true, true, false, false, false, false, false, false] rfl rfl (one_of HT_.out (by kernel_rfl)) (by decide) (fun K hK => ?_)
             refine goes_ Tryd.func16 (by kernel_rfl) rfl #[.int .i64 a2] (by rfl) rfl rfl ql ?_
             with_reducible refine (idiomlaw03_unit.calls k a2 t338 t339 t340 _ A25.out).mono ?_
             rintro e w56 ⟨rfl, hb⟩
             refine ⟨_, rfl, ?_⟩
             replace BK306 := qb BK306 hb
             replace BK311 := qb BK311 hb
             replace BK323 := qb BK323 hb
             replace BK337 := qb BK337 hb
             replace HB := qn HB hb
             (try clear hb)
             (try clear hb2)
             (try clear hk)
             (try clear hi)
             refine hK.out _ _ ⟨c_ BK337 0, c_ BK337 1, c_ BK337 2⟩ (fun hHeld => ?_)
             clear hK K
             refine nz (some 91) ?_
             refine one_ (i := 3) (N := some 92) #[true, true, true, true, false, false, false, false, false] rfl rfl (one_of HT_.out (by kernel_rfl)) (by decide) (fun K hK => ?_)
             refine goes_ Tryd.func15 (by kernel_rfl) rfl #[.agg #[.bool t333, .string t334, .string t335], .agg #[.bool t338, .string t339, .string t340]] (by rfl) rfl rfl ql ?_
             with_reducible refine (idiomref02_Compare.calls k t333 t334 t335 t338 t339 t340 t341 t342 _ A26.out).mono ?_
             rintro e w57 ⟨rfl, hb⟩
             refine ⟨_, rfl, ?_⟩
             replace BK306 := qb BK306 hb
             replace BK311 := qb BK311 hb
             replace BK323 := qb BK323 hb
             replace BK337 := qb BK337 hb
             replace HB := qn HB hb
             (try clear hb)
             (try clear hb2)
             (try clear hk)
             (try clear hi)
             refine hK.out _ _ ⟨c_ BK337 0, c_ BK337 1, c_ BK337 2⟩ (fun hHeld => ?_)
             clear hK K
             refine nz (some 92) ?_
             refine pz 4 (some 88) #[true, true, true, true, true, false, false, false, false] HT_ ?_
             refine pz 5 (some 93) #[true, true, true, true, true, true, false, false, false] HT_ ?_
             refine pz 6 (some 94) #[true, true, true, true, true, true, true, false, false] HT_ ?_
             refine pz 7 (some 16) #[true, true, true, true, true, true, true, true, false] HT_ ?_
             refine pz 8 (some 17) #[true, true, true, true, true, true, true, true, true] HT_ ?_
             refine done_ (done_of HT_.out (by kernel_rfl)) ?_
             try go_wp2_with (first | (go_at_call 12; (with_reducible refine (idiomlaw03_awake.calls k  t343 _ A28.out).mono ?_); rintro e w58 ⟨rfl, hb⟩; replace BK306 := qb BK306 hb; replace BK311 := qb BK311 hb; replace BK323 := qb BK323 hb; replace BK337 := qb BK337 hb; replace HB := qn HB hb; (try clear hb); (try clear hb2); (try clear hk); (try clear hi)))
             go_ret
             exact ⟨qe, qh HB⟩
           · rw [if_neg c27] at H
             have c27b0 : decide (t341 ≤ 0) = false := decide_eq_false c27
             clear c27
             by_cases c59 : a1 < 5
             · rw [if_pos c59] at H
               have c59b0 : decide (a1 < 5) = true := decide_eq_true c59
               clear c59
               replace H := Option.bind_eq_some_iff.mp H
               obtain ⟨t344, A600, H⟩ := H
               replace H : (some t344) = some r := H
               have A60 := Aside0.mk A600
               clear A600
               obtain rfl := Option.some.inj H
               go_enter Tryd.func4, Tryd.ntmps4
               try go_wp2_with (first | ((with_reducible refine gate_dst (N := 3) rfl ?_); refine qx 3 #[.bool a0_0, .string a0_1, .string a0_2] 23 ?_; intro gb306 hg w61 hbox hb; have BK306 := Aside0.mk (hbox); have GW306 := qs hg HB; have GE306 := GW306; replace HB := qn HB hb; clear hb hbox hg; obtain ⟨hcz62_0, hcz62_1, hcz62_2, hfz62_0, hfz62_1, hfz62_2⟩ := q3 BK306) | ((with_reducible refine gate_callee (f := 10) rfl ?_); refine goesL_ (some 22) rfl rfl Tryd.func10 (by kernel_rfl) rfl #[.agg #[.bool a0_0, .string a0_1, .string a0_2], .int .i64 a1, .int .i64 a2] rfl ql ?_; (with_reducible refine (round_Places.calls k a0_0 a0_1 a0_2 a1 a2 t307 t308 t309 t310 _ A4.out).mono ?_); rintro e w63 ⟨rfl, hb⟩; refine ⟨_, rfl, ?_⟩; replace BK306 := qb BK306 hb; replace HB := qn HB hb; (try clear hb); (try clear hb2); (try clear hk); (try clear hi)) | ((with_reducible refine gate_dst (N := 7) rfl ?_); refine qx 7 #[.bool false, .string (⟨#[]⟩ : ByteArray), .string (⟨#[]⟩ : ByteArray)] 23 ?_; intro gb311 hg w64 hbox hb; have BK311 := Aside0.mk (hbox); have GW311 := qs hg HB; have GE311 := GW311; have NB306_311 := ql_ hg BK306; have NB311_306 := qg_ hg BK306; replace BK306 := qb BK306 hb; replace HB := qn HB hb; clear hb hbox hg; have hnb65 := NB311_306.out; have hnc65 := NB306_311.out; obtain ⟨hcz66_0, hcz66_1, hcz66_2, hfz66_0, hfz66_1, hfz66_2⟩ := q3 BK311; obtain ⟨hcz67_0, hcz67_1, hcz67_2, hfz67_0, hfz67_1, hfz67_2⟩ := q3 BK306) | ((with_reducible refine gate_callee (f := 13) rfl ?_); refine goesL_ (some 54) rfl rfl Tryd.func13 (by kernel_rfl) rfl #[.agg #[.bool t307, .string t308, .string t309], .agg #[.bool a0_0, .string a0_1, .string a0_2]] rfl ql ?_; (with_reducible refine (idiomref02_Sub.calls k t307 t308 t309 a0_0 a0_1 a0_2 t319 t320 t321 t322 _ A17.out).mono ?_); rintro e w68 ⟨rfl, hb⟩; refine ⟨_, rfl, ?_⟩; replace BK306 := Aside0.mk (blk_below (g := gb306) (o := .cells #[.bool a0_0, .string a0_1, .string a0_2] 23 (0, 0)) (by refine qf NB306_311 ?_; refine qf NB306_311 ?_; refine qf NB306_311 ?_; exact qk BK306) hb); replace BK311 := Aside0.mk (blk_below (g := gb311) (o := .cells #[.bool t307, .string t308, .string t309] 23 (0, 0)) (by refine qp 2 #[.bool t307, .string t308, .string (⟨#[]⟩ : ByteArray)] ?_; refine qp 1 #[.bool t307, .string (⟨#[]⟩ : ByteArray), .string (⟨#[]⟩ : ByteArray)] ?_; refine qp 0 #[.bool false, .string (⟨#[]⟩ : ByteArray), .string (⟨#[]⟩ : ByteArray)] ?_; exact qk BK311) hb); replace HB := qn HB hb; (try clear hb); (try clear hb2); (try clear hk); (try clear hi)) | ((with_reducible refine gate_dst (N := 11) rfl ?_); refine qx 11 #[.bool false, .string (⟨#[]⟩ : ByteArray), .string (⟨#[]⟩ : ByteArray)] 23 ?_; intro gb323 hg w69 hbox hb; have BK323 := Aside0.mk (hbox); have GW323 := qs hg HB; have GE323 := GW323; have NB306_323 := ql_ hg BK306; have NB323_306 := qg_ hg BK306; have NB311_323 := ql_ hg BK311; have NB323_311 := qg_ hg BK311; replace BK306 := qb BK306 hb; replace BK311 := qb BK311 hb; replace HB := qn HB hb; clear hb hbox hg; have hnb70 := NB323_306.out; have hnc70 := NB306_323.out; have hnb71 := NB323_311.out; have hnc71 := NB311_323.out; obtain ⟨hcz72_0, hcz72_1, hcz72_2, hfz72_0, hfz72_1, hfz72_2⟩ := q3 BK323) | ((with_reducible refine gate_callee (f := 14) rfl ?_); refine goesL_ (some 65) rfl rfl Tryd.func14 (by kernel_rfl) rfl #[.agg #[.bool t319, .string t320, .string t321]] rfl ql ?_; (with_reducible refine (idiomlaw03_worth.calls t319 t320 t321 t325 t326 t327 _ A19.out).mono ?_); rintro e w73 ⟨rfl, hb⟩; refine ⟨_, rfl, ?_⟩; replace BK306 := Aside0.mk (blk_below (g := gb306) (o := .cells #[.bool a0_0, .string a0_1, .string a0_2] 23 (0, 0)) (by refine qf NB306_323 ?_; refine qf NB306_323 ?_; refine qf NB306_323 ?_; exact qk BK306) hb); replace BK311 := Aside0.mk (blk_below (g := gb311) (o := .cells #[.bool t307, .string t308, .string t309] 23 (0, 0)) (by refine qf NB311_323 ?_; refine qf NB311_323 ?_; refine qf NB311_323 ?_; exact qk BK311) hb); replace BK323 := Aside0.mk (blk_below (g := gb323) (o := .cells #[.bool t319, .string t320, .string t321] 23 (0, 0)) (by refine qp 2 #[.bool t319, .string t320, .string (⟨#[]⟩ : ByteArray)] ?_; refine qp 1 #[.bool t319, .string (⟨#[]⟩ : ByteArray), .string (⟨#[]⟩ : ByteArray)] ?_; refine qp 0 #[.bool false, .string (⟨#[]⟩ : ByteArray), .string (⟨#[]⟩ : ByteArray)] ?_; exact qk BK323) hb); replace HB := qn HB hb; (try clear hb); (try clear hb2); (try clear hk); (try clear hi); obtain ⟨hcz74_0, hcz74_1, hcz74_2, hfz74_0, hfz74_1, hfz74_2⟩ := q3 BK323))
               have n0_ : Aside0 ((((w73.setCell ⟨gb323, 0, none⟩ (.bool t325)).setCell ⟨gb323, 1, none⟩ (.string t326)).setCell ⟨gb323, 2, none⟩ (.string t327)).heap[gb306]? = some (.cells #[.bool a0_0, .string a0_1, .string a0_2] 23 (0, 0))) := ⟨by refine qf NB306_323 ?_; refine qf NB306_323 ?_; refine qf NB306_323 ?_; exact qk BK306⟩
               have n1_ : Aside0 ((((w73.setCell ⟨gb323, 0, none⟩ (.bool t325)).setCell ⟨gb323, 1, none⟩ (.string t326)).setCell ⟨gb323, 2, none⟩ (.string t327)).heap[gb311]? = some (.cells #[.bool t307, .string t308, .string t309] 23 (0, 0))) := ⟨by refine qf NB311_323 ?_; refine qf NB311_323 ?_; refine qf NB311_323 ?_; exact qk BK311⟩
               have n2_ : Aside0 ((((w73.setCell ⟨gb323, 0, none⟩ (.bool t325)).setCell ⟨gb323, 1, none⟩ (.string t326)).setCell ⟨gb323, 2, none⟩ (.string t327)).heap[gb323]? = some (.cells #[.bool t325, .string t326, .string t327] 23 (0, 0))) := ⟨by refine qp 2 #[.bool t325, .string t326, .string t321] ?_; refine qp 1 #[.bool t325, .string t320, .string t321] ?_; refine qp 0 #[.bool t319, .string t320, .string t321] ?_; exact qk BK323⟩
               have n3_ : Aside0 (Below w.heap.size w (((w73.setCell ⟨gb323, 0, none⟩ (.bool t325)).setCell ⟨gb323, 1, none⟩ (.string t326)).setCell ⟨gb323, 2, none⟩ (.string t327))) := ⟨qh HB⟩
               (try clear BK306)
               (try clear BK311)
               (try clear BK323)
               (try clear HB)
               generalize (((w73.setCell ⟨gb323, 0, none⟩ (.bool t325)).setCell ⟨gb323, 1, none⟩ (.string t326)).setCell ⟨gb323, 2, none⟩ (.string t327)) = w75 at n0_ n1_ n2_ n3_ ⊢
               have BK306 := n0_
               have BK311 := n1_
               have BK323 := n2_
               have HB := n3_
               clear n0_ n1_ n2_ n3_
               replace BK306 := Aside0.mk (blk_drew BK306.out)
               replace BK311 := Aside0.mk (blk_drew BK311.out)
               replace BK323 := Aside0.mk (blk_drew BK323.out)
               replace HB := Aside0.mk (below_drew1 HB.out)
               refine start_ (n := 9) (S := fun w' => w'.cell? ⟨gb323, 0, none⟩ = some (.bool t325) ∧ w'.cell? ⟨gb323, 1, none⟩ = some (.string t326) ∧ w'.cell? ⟨gb323, 2, none⟩ = some (.string t327)) (ds := []) #[false, false, false, false, false, false, false, false, false] (by kernel_rfl) rfl rfl ⟨c_ BK323 0, c_ BK323 1, c_ BK323 2⟩ (fun hHeld => ?_); refine with_tabW idiomlaw03_RoundNear.tab11 idiomlaw03_RoundNear.bits11 (fun HT_ HW_ => ?_)
               generalize w75.drew = w76 at BK306 BK311 BK323 HB hHeld ⊢
               refine pz 1 (some 68) #[false, true, false, false, false, false, false, false, false] HT_ ?_
               refine tw3 0 (some 67) #[true, true, false, false, false, false, false, false, false] HT_ HW_ hHeld ?_
               refine one_ (i := 2) (N := some 69) #[true, true, true, false, false, false, false, false, false] rfl rfl (one_of HT_.out (by kernel_rfl)) (by decide) (fun K hK => ?_)
               refine goes_ Tryd.func16 (by kernel_rfl) rfl #[.int .i64 a2] (by rfl) rfl rfl ql ?_
               with_reducible refine (idiomlaw03_unit.calls k a2 t328 t329 t330 _ A20.out).mono ?_
               rintro e w77 ⟨rfl, hb⟩
               refine ⟨_, rfl, ?_⟩
               replace BK306 := qb BK306 hb
               replace BK311 := qb BK311 hb
               replace BK323 := qb BK323 hb
               replace HB := qn HB hb
               (try clear hb)
               (try clear hb2)
               (try clear hk)
               (try clear hi)
               refine hK.out _ _ ⟨c_ BK323 0, c_ BK323 1, c_ BK323 2⟩ (fun hHeld => ?_)
               clear hK K
               refine nz (some 69) ?_
               refine one_ (i := 3) (N := some 70) #[true, true, true, true, false, false, false, false, false] rfl rfl (one_of HT_.out (by kernel_rfl)) (by decide) (fun K hK => ?_)
               refine goes_ Tryd.func15 (by kernel_rfl) rfl #[.agg #[.bool t325, .string t326, .string t327], .agg #[.bool t328, .string t329, .string t330]] (by rfl) rfl rfl ql ?_
               with_reducible refine (idiomref02_Compare.calls k t325 t326 t327 t328 t329 t330 t331 t332 _ A21.out).mono ?_
               rintro e w78 ⟨rfl, hb⟩
               refine ⟨_, rfl, ?_⟩
               replace BK306 := qb BK306 hb
               replace BK311 := qb BK311 hb
               replace BK323 := qb BK323 hb
               replace HB := qn HB hb
               (try clear hb)
               (try clear hb2)
               (try clear hk)
               (try clear hi)
               refine hK.out _ _ ⟨c_ BK323 0, c_ BK323 1, c_ BK323 2⟩ (fun hHeld => ?_)
               clear hK K
               refine nz (some 70) ?_
               refine pz 4 (some 66) #[true, true, true, true, true, false, false, false, false] HT_ ?_
               refine pz 5 (some 71) #[true, true, true, true, true, true, false, false, false] HT_ ?_
               refine pz 6 (some 72) #[true, true, true, true, true, true, true, false, false] HT_ ?_
               refine pz 7 (some 13) #[true, true, true, true, true, true, true, true, false] HT_ ?_
               refine pz 8 (some 14) #[true, true, true, true, true, true, true, true, true] HT_ ?_
               refine done_ (done_of HT_.out (by kernel_rfl)) ?_
               obtain ⟨hcz79_0, hcz79_1, hcz79_2, hfz79_0, hfz79_1, hfz79_2⟩ := q3 BK323
               try go_wp2_with (first | ((with_reducible refine gate_callee (f := 17) rfl ?_); refine goesL_ (some 78) rfl rfl Tryd.func17 (by kernel_rfl) rfl #[.agg #[.bool t325, .string t326, .string t327], .agg #[.bool t325, .string t326, .string t327]] rfl ql ?_; (with_reducible refine (idiomref02_Add.calls k t325 t326 t327 t325 t326 t327 t333 t334 t335 t336 _ A23.out).mono ?_); rintro e w80 ⟨rfl, hb⟩; refine ⟨_, rfl, ?_⟩; replace BK306 := qb BK306 hb; replace BK311 := qb BK311 hb; replace BK323 := qb BK323 hb; replace HB := qn HB hb; (try clear hb); (try clear hb2); (try clear hk); (try clear hi)) | ((with_reducible refine gate_dst (N := 15) rfl ?_); refine qx 15 #[.bool false, .string (⟨#[]⟩ : ByteArray), .string (⟨#[]⟩ : ByteArray)] 23 ?_; intro gb337 hg w81 hbox hb; have BK337 := Aside0.mk (hbox); have GW337 := qs hg HB; have GE337 := GW337; have NB306_337 := ql_ hg BK306; have NB337_306 := qg_ hg BK306; have NB311_337 := ql_ hg BK311; have NB337_311 := qg_ hg BK311; have NB323_337 := ql_ hg BK323; have NB337_323 := qg_ hg BK323; replace BK306 := qb BK306 hb; replace BK311 := qb BK311 hb; replace BK323 := qb BK323 hb; replace HB := qn HB hb; clear hb hbox hg; have hnb82 := NB337_306.out; have hnc82 := NB306_337.out; have hnb83 := NB337_311.out; have hnc83 := NB311_337.out; have hnb84 := NB337_323.out; have hnc84 := NB323_337.out; obtain ⟨hcz85_0, hcz85_1, hcz85_2, hfz85_0, hfz85_1, hfz85_2⟩ := q3 BK337))
               have n0_ : Aside0 ((((w81.setCell ⟨gb337, 0, none⟩ (.bool t333)).setCell ⟨gb337, 1, none⟩ (.string t334)).setCell ⟨gb337, 2, none⟩ (.string t335)).heap[gb306]? = some (.cells #[.bool a0_0, .string a0_1, .string a0_2] 23 (0, 0))) := ⟨by refine qf NB306_337 ?_; refine qf NB306_337 ?_; refine qf NB306_337 ?_; exact qk BK306⟩
               have n1_ : Aside0 ((((w81.setCell ⟨gb337, 0, none⟩ (.bool t333)).setCell ⟨gb337, 1, none⟩ (.string t334)).setCell ⟨gb337, 2, none⟩ (.string t335)).heap[gb311]? = some (.cells #[.bool t307, .string t308, .string t309] 23 (0, 0))) := ⟨by refine qf NB311_337 ?_; refine qf NB311_337 ?_; refine qf NB311_337 ?_; exact qk BK311⟩
               have n2_ : Aside0 ((((w81.setCell ⟨gb337, 0, none⟩ (.bool t333)).setCell ⟨gb337, 1, none⟩ (.string t334)).setCell ⟨gb337, 2, none⟩ (.string t335)).heap[gb323]? = some (.cells #[.bool t325, .string t326, .string t327] 23 (0, 0))) := ⟨by refine qf NB323_337 ?_; refine qf NB323_337 ?_; refine qf NB323_337 ?_; exact qk BK323⟩
               have n3_ : Aside0 ((((w81.setCell ⟨gb337, 0, none⟩ (.bool t333)).setCell ⟨gb337, 1, none⟩ (.string t334)).setCell ⟨gb337, 2, none⟩ (.string t335)).heap[gb337]? = some (.cells #[.bool t333, .string t334, .string t335] 23 (0, 0))) := ⟨by refine qp 2 #[.bool t333, .string t334, .string (⟨#[]⟩ : ByteArray)] ?_; refine qp 1 #[.bool t333, .string (⟨#[]⟩ : ByteArray), .string (⟨#[]⟩ : ByteArray)] ?_; refine qp 0 #[.bool false, .string (⟨#[]⟩ : ByteArray), .string (⟨#[]⟩ : ByteArray)] ?_; exact qk BK337⟩
               have n4_ : Aside0 (Below w.heap.size w (((w81.setCell ⟨gb337, 0, none⟩ (.bool t333)).setCell ⟨gb337, 1, none⟩ (.string t334)).setCell ⟨gb337, 2, none⟩ (.string t335))) := ⟨qh HB⟩
               (try clear BK306)
               (try clear BK311)
               (try clear BK323)
               (try clear BK337)
               (try clear HB)
               generalize (((w81.setCell ⟨gb337, 0, none⟩ (.bool t333)).setCell ⟨gb337, 1, none⟩ (.string t334)).setCell ⟨gb337, 2, none⟩ (.string t335)) = w86 at n0_ n1_ n2_ n3_ n4_ ⊢
               have BK306 := n0_
               have BK311 := n1_
               have BK323 := n2_
               have BK337 := n3_
               have HB := n4_
               clear n0_ n1_ n2_ n3_ n4_
               replace BK306 := Aside0.mk (blk_drew BK306.out)
               replace BK311 := Aside0.mk (blk_drew BK311.out)
               replace BK323 := Aside0.mk (blk_drew BK323.out)
               replace BK337 := Aside0.mk (blk_drew BK337.out)
               replace HB := Aside0.mk (below_drew1 HB.out)
               refine start_ (n := 9) (S := fun w' => w'.cell? ⟨gb337, 0, none⟩ = some (.bool t333) ∧ w'.cell? ⟨gb337, 1, none⟩ = some (.string t334) ∧ w'.cell? ⟨gb337, 2, none⟩ = some (.string t335)) (ds := []) #[false, false, false, false, false, false, false, false, false] (by kernel_rfl) rfl rfl ⟨c_ BK337 0, c_ BK337 1, c_ BK337 2⟩ (fun hHeld => ?_); refine with_tabW idiomlaw03_RoundNear.tab17 idiomlaw03_RoundNear.bits17 (fun HT_ HW_ => ?_)
               generalize w86.drew = w87 at BK306 BK311 BK323 BK337 HB hHeld ⊢
               refine pz 1 (some 90) #[false, true, false, false, false, false, false, false, false] HT_ ?_
               refine tw3 0 (some 89) #[true, true, false, false, false, false, false, false, false] HT_ HW_ hHeld ?_
               refine one_ (i := 2) (N := some 91) #[true, true, true, false, false, false, false, false, false] rfl rfl (one_of HT_.out (by kernel_rfl)) (by decide) (fun K hK => ?_)
               refine goes_ Tryd.func16 (by kernel_rfl) rfl #[.int .i64 a2] (by rfl) rfl rfl ql ?_
               with_reducible refine (idiomlaw03_unit.calls k a2 t338 t339 t340 _ A25.out).mono ?_
               rintro e w88 ⟨rfl, hb⟩
               refine ⟨_, rfl, ?_⟩
               replace BK306 := qb BK306 hb
               replace BK311 := qb BK311 hb
               replace BK323 := qb BK323 hb
               replace BK337 := qb BK337 hb
               replace HB := qn HB hb
               (try clear hb)
               (try clear hb2)
               (try clear hk)
               (try clear hi)
               refine hK.out _ _ ⟨c_ BK337 0, c_ BK337 1, c_ BK337 2⟩ (fun hHeld => ?_)
               clear hK K
               refine nz (some 91) ?_
               refine one_ (i := 3) (N := some 92) #[true, true, true, true, false, false, false, false, false] rfl rfl (one_of HT_.out (by kernel_rfl)) (by decide) (fun K hK => ?_)
               refine goes_ Tryd.func15 (by kernel_rfl) rfl #[.agg #[.bool t333, .string t334, .string t335], .agg #[.bool t338, .string t339, .string t340]] (by rfl) rfl rfl ql ?_
               with_reducible refine (idiomref02_Compare.calls k t333 t334 t335 t338 t339 t340 t341 t342 _ A26.out).mono ?_
               rintro e w89 ⟨rfl, hb⟩
               refine ⟨_, rfl, ?_⟩
               replace BK306 := qb BK306 hb
               replace BK311 := qb BK311 hb
               replace BK323 := qb BK323 hb
               replace BK337 := qb BK337 hb
               replace HB := qn HB hb
               (try clear hb)
               (try clear hb2)
               (try clear hk)
               (try clear hi)
               refine hK.out _ _ ⟨c_ BK337 0, c_ BK337 1, c_ BK337 2⟩ (fun hHeld => ?_)
               clear hK K
               refine nz (some 92) ?_
               refine pz 4 (some 88) #[true, true, true, true, true, false, false, false, false] HT_ ?_
               refine pz 5 (some 93) #[true, true, true, true, true, true, false, false, false] HT_ ?_
               refine pz 6 (some 94) #[true, true, true, true, true, true, true, false, false] HT_ ?_
               refine pz 7 (some 16) #[true, true, true, true, true, true, true, true, false] HT_ ?_
               refine pz 8 (some 17) #[true, true, true, true, true, true, true, true, true] HT_ ?_
               refine done_ (done_of HT_.out (by kernel_rfl)) ?_
               try go_wp2_with (first | (go_at_call 12; (with_reducible refine (idiomlaw03_awake.calls k  t344 _ A60.out).mono ?_); rintro e w90 ⟨rfl, hb⟩; replace BK306 := qb BK306 hb; replace BK311 := qb BK311 hb; replace BK323 := qb BK323 hb; replace BK337 := qb BK337 hb; replace HB := qn HB hb; (try clear hb); (try clear hb2); (try clear hk); (try clear hi)))
               go_ret
               exact ⟨qe, qh HB⟩
             · rw [if_neg c59] at H
               have c59b0 : decide (a1 < 5) = false := decide_eq_false c59
               clear c59
               by_cases c91 : a1 > 7
               · rw [if_pos c91] at H
                 have c91b0 : decide (7 < a1) = true := decide_eq_true c91
                 clear c91
                 replace H := Option.bind_eq_some_iff.mp H
                 obtain ⟨t345, A920, H⟩ := H
                 replace H : (some t345) = some r := H
                 have A92 := Aside0.mk A920
                 clear A920
                 obtain rfl := Option.some.inj H
                 go_enter Tryd.func4, Tryd.ntmps4
                 try go_wp2_with (first | ((with_reducible refine gate_dst (N := 3) rfl ?_); refine qx 3 #[.bool a0_0, .string a0_1, .string a0_2] 23 ?_; intro gb306 hg w93 hbox hb; have BK306 := Aside0.mk (hbox); have GW306 := qs hg HB; have GE306 := GW306; replace HB := qn HB hb; clear hb hbox hg; obtain ⟨hcz94_0, hcz94_1, hcz94_2, hfz94_0, hfz94_1, hfz94_2⟩ := q3 BK306) | ((with_reducible refine gate_callee (f := 10) rfl ?_); refine goesL_ (some 22) rfl rfl Tryd.func10 (by kernel_rfl) rfl #[.agg #[.bool a0_0, .string a0_1, .string a0_2], .int .i64 a1, .int .i64 a2] rfl ql ?_; (with_reducible refine (round_Places.calls k a0_0 a0_1 a0_2 a1 a2 t307 t308 t309 t310 _ A4.out).mono ?_); rintro e w95 ⟨rfl, hb⟩; refine ⟨_, rfl, ?_⟩; replace BK306 := qb BK306 hb; replace HB := qn HB hb; (try clear hb); (try clear hb2); (try clear hk); (try clear hi)) | ((with_reducible refine gate_dst (N := 7) rfl ?_); refine qx 7 #[.bool false, .string (⟨#[]⟩ : ByteArray), .string (⟨#[]⟩ : ByteArray)] 23 ?_; intro gb311 hg w96 hbox hb; have BK311 := Aside0.mk (hbox); have GW311 := qs hg HB; have GE311 := GW311; have NB306_311 := ql_ hg BK306; have NB311_306 := qg_ hg BK306; replace BK306 := qb BK306 hb; replace HB := qn HB hb; clear hb hbox hg; have hnb97 := NB311_306.out; have hnc97 := NB306_311.out; obtain ⟨hcz98_0, hcz98_1, hcz98_2, hfz98_0, hfz98_1, hfz98_2⟩ := q3 BK311; obtain ⟨hcz99_0, hcz99_1, hcz99_2, hfz99_0, hfz99_1, hfz99_2⟩ := q3 BK306) | ((with_reducible refine gate_callee (f := 13) rfl ?_); refine goesL_ (some 54) rfl rfl Tryd.func13 (by kernel_rfl) rfl #[.agg #[.bool t307, .string t308, .string t309], .agg #[.bool a0_0, .string a0_1, .string a0_2]] rfl ql ?_; (with_reducible refine (idiomref02_Sub.calls k t307 t308 t309 a0_0 a0_1 a0_2 t319 t320 t321 t322 _ A17.out).mono ?_); rintro e w100 ⟨rfl, hb⟩; refine ⟨_, rfl, ?_⟩; replace BK306 := Aside0.mk (blk_below (g := gb306) (o := .cells #[.bool a0_0, .string a0_1, .string a0_2] 23 (0, 0)) (by refine qf NB306_311 ?_; refine qf NB306_311 ?_; refine qf NB306_311 ?_; exact qk BK306) hb); replace BK311 := Aside0.mk (blk_below (g := gb311) (o := .cells #[.bool t307, .string t308, .string t309] 23 (0, 0)) (by refine qp 2 #[.bool t307, .string t308, .string (⟨#[]⟩ : ByteArray)] ?_; refine qp 1 #[.bool t307, .string (⟨#[]⟩ : ByteArray), .string (⟨#[]⟩ : ByteArray)] ?_; refine qp 0 #[.bool false, .string (⟨#[]⟩ : ByteArray), .string (⟨#[]⟩ : ByteArray)] ?_; exact qk BK311) hb); replace HB := qn HB hb; (try clear hb); (try clear hb2); (try clear hk); (try clear hi)) | ((with_reducible refine gate_dst (N := 11) rfl ?_); refine qx 11 #[.bool false, .string (⟨#[]⟩ : ByteArray), .string (⟨#[]⟩ : ByteArray)] 23 ?_; intro gb323 hg w101 hbox hb; have BK323 := Aside0.mk (hbox); have GW323 := qs hg HB; have GE323 := GW323; have NB306_323 := ql_ hg BK306; have NB323_306 := qg_ hg BK306; have NB311_323 := ql_ hg BK311; have NB323_311 := qg_ hg BK311; replace BK306 := qb BK306 hb; replace BK311 := qb BK311 hb; replace HB := qn HB hb; clear hb hbox hg; have hnb102 := NB323_306.out; have hnc102 := NB306_323.out; have hnb103 := NB323_311.out; have hnc103 := NB311_323.out; obtain ⟨hcz104_0, hcz104_1, hcz104_2, hfz104_0, hfz104_1, hfz104_2⟩ := q3 BK323) | ((with_reducible refine gate_callee (f := 14) rfl ?_); refine goesL_ (some 65) rfl rfl Tryd.func14 (by kernel_rfl) rfl #[.agg #[.bool t319, .string t320, .string t321]] rfl ql ?_; (with_reducible refine (idiomlaw03_worth.calls t319 t320 t321 t325 t326 t327 _ A19.out).mono ?_); rintro e w105 ⟨rfl, hb⟩; refine ⟨_, rfl, ?_⟩; replace BK306 := Aside0.mk (blk_below (g := gb306) (o := .cells #[.bool a0_0, .string a0_1, .string a0_2] 23 (0, 0)) (by refine qf NB306_323 ?_; refine qf NB306_323 ?_; refine qf NB306_323 ?_; exact qk BK306) hb); replace BK311 := Aside0.mk (blk_below (g := gb311) (o := .cells #[.bool t307, .string t308, .string t309] 23 (0, 0)) (by refine qf NB311_323 ?_; refine qf NB311_323 ?_; refine qf NB311_323 ?_; exact qk BK311) hb); replace BK323 := Aside0.mk (blk_below (g := gb323) (o := .cells #[.bool t319, .string t320, .string t321] 23 (0, 0)) (by refine qp 2 #[.bool t319, .string t320, .string (⟨#[]⟩ : ByteArray)] ?_; refine qp 1 #[.bool t319, .string (⟨#[]⟩ : ByteArray), .string (⟨#[]⟩ : ByteArray)] ?_; refine qp 0 #[.bool false, .string (⟨#[]⟩ : ByteArray), .string (⟨#[]⟩ : ByteArray)] ?_; exact qk BK323) hb); replace HB := qn HB hb; (try clear hb); (try clear hb2); (try clear hk); (try clear hi); obtain ⟨hcz106_0, hcz106_1, hcz106_2, hfz106_0, hfz106_1, hfz106_2⟩ := q3 BK323))
                 have n0_ : Aside0 ((((w105.setCell ⟨gb323, 0, none⟩ (.bool t325)).setCell ⟨gb323, 1, none⟩ (.string t326)).setCell ⟨gb323, 2, none⟩ (.string t327)).heap[gb306]? = some (.cells #[.bool a0_0, .string a0_1, .string a0_2] 23 (0, 0))) := ⟨by refine qf NB306_323 ?_; refine qf NB306_323 ?_; refine qf NB306_323 ?_; exact qk BK306⟩
                 have n1_ : Aside0 ((((w105.setCell ⟨gb323, 0, none⟩ (.bool t325)).setCell ⟨gb323, 1, none⟩ (.string t326)).setCell ⟨gb323, 2, none⟩ (.string t327)).heap[gb311]? = some (.cells #[.bool t307, .string t308, .string t309] 23 (0, 0))) := ⟨by refine qf NB311_323 ?_; refine qf NB311_323 ?_; refine qf NB311_323 ?_; exact qk BK311⟩
                 have n2_ : Aside0 ((((w105.setCell ⟨gb323, 0, none⟩ (.bool t325)).setCell ⟨gb323, 1, none⟩ (.string t326)).setCell ⟨gb323, 2, none⟩ (.string t327)).heap[gb323]? = some (.cells #[.bool t325, .string t326, .string t327] 23 (0, 0))) := ⟨by refine qp 2 #[.bool t325, .string t326, .string t321] ?_; refine qp 1 #[.bool t325, .string t320, .string t321] ?_; refine qp 0 #[.bool t319, .string t320, .string t321] ?_; exact qk BK323⟩
                 have n3_ : Aside0 (Below w.heap.size w (((w105.setCell ⟨gb323, 0, none⟩ (.bool t325)).setCell ⟨gb323, 1, none⟩ (.string t326)).setCell ⟨gb323, 2, none⟩ (.string t327))) := ⟨qh HB⟩
                 (try clear BK306)
                 (try clear BK311)
                 (try clear BK323)
                 (try clear HB)
                 generalize (((w105.setCell ⟨gb323, 0, none⟩ (.bool t325)).setCell ⟨gb323, 1, none⟩ (.string t326)).setCell ⟨gb323, 2, none⟩ (.string t327)) = w107 at n0_ n1_ n2_ n3_ ⊢
                 have BK306 := n0_
                 have BK311 := n1_
                 have BK323 := n2_
                 have HB := n3_
                 clear n0_ n1_ n2_ n3_
                 replace BK306 := Aside0.mk (blk_drew BK306.out)
                 replace BK311 := Aside0.mk (blk_drew BK311.out)
                 replace BK323 := Aside0.mk (blk_drew BK323.out)
                 replace HB := Aside0.mk (below_drew1 HB.out)
                 refine start_ (n := 9) (S := fun w' => w'.cell? ⟨gb323, 0, none⟩ = some (.bool t325) ∧ w'.cell? ⟨gb323, 1, none⟩ = some (.string t326) ∧ w'.cell? ⟨gb323, 2, none⟩ = some (.string t327)) (ds := []) #[false, false, false, false, false, false, false, false, false] (by kernel_rfl) rfl rfl ⟨c_ BK323 0, c_ BK323 1, c_ BK323 2⟩ (fun hHeld => ?_); refine with_tabW idiomlaw03_RoundNear.tab11 idiomlaw03_RoundNear.bits11 (fun HT_ HW_ => ?_)
                 generalize w107.drew = w108 at BK306 BK311 BK323 HB hHeld ⊢
                 refine pz 1 (some 68) #[false, true, false, false, false, false, false, false, false] HT_ ?_
                 refine tw3 0 (some 67) #[true, true, false, false, false, false, false, false, false] HT_ HW_ hHeld ?_
                 refine one_ (i := 2) (N := some 69) #[true, true, true, false, false, false, false, false, false] rfl rfl (one_of HT_.out (by kernel_rfl)) (by decide) (fun K hK => ?_)
                 refine goes_ Tryd.func16 (by kernel_rfl) rfl #[.int .i64 a2] (by rfl) rfl rfl ql ?_
                 with_reducible refine (idiomlaw03_unit.calls k a2 t328 t329 t330 _ A20.out).mono ?_
                 rintro e w109 ⟨rfl, hb⟩
                 refine ⟨_, rfl, ?_⟩
                 replace BK306 := qb BK306 hb
                 replace BK311 := qb BK311 hb
                 replace BK323 := qb BK323 hb
                 replace HB := qn HB hb
                 (try clear hb)
                 (try clear hb2)
                 (try clear hk)
                 (try clear hi)
                 refine hK.out _ _ ⟨c_ BK323 0, c_ BK323 1, c_ BK323 2⟩ (fun hHeld => ?_)
                 clear hK K
                 refine nz (some 69) ?_
                 refine one_ (i := 3) (N := some 70) #[true, true, true, true, false, false, false, false, false] rfl rfl (one_of HT_.out (by kernel_rfl)) (by decide) (fun K hK => ?_)
                 refine goes_ Tryd.func15 (by kernel_rfl) rfl #[.agg #[.bool t325, .string t326, .string t327], .agg #[.bool t328, .string t329, .string t330]] (by rfl) rfl rfl ql ?_
                 with_reducible refine (idiomref02_Compare.calls k t325 t326 t327 t328 t329 t330 t331 t332 _ A21.out).mono ?_
                 rintro e w110 ⟨rfl, hb⟩
                 refine ⟨_, rfl, ?_⟩
                 replace BK306 := qb BK306 hb
                 replace BK311 := qb BK311 hb
                 replace BK323 := qb BK323 hb
                 replace HB := qn HB hb
                 (try clear hb)
                 (try clear hb2)
                 (try clear hk)
                 (try clear hi)
                 refine hK.out _ _ ⟨c_ BK323 0, c_ BK323 1, c_ BK323 2⟩ (fun hHeld => ?_)
                 clear hK K
                 refine nz (some 70) ?_
                 refine pz 4 (some 66) #[true, true, true, true, true, false, false, false, false] HT_ ?_
                 refine pz 5 (some 71) #[true, true, true, true, true, true, false, false, false] HT_ ?_
                 refine pz 6 (some 72) #[true, true, true, true, true, true, true, false, false] HT_ ?_
                 refine pz 7 (some 13) #[true, true, true, true, true, true, true, true, false] HT_ ?_
                 refine pz 8 (some 14) #[true, true, true, true, true, true, true, true, true] HT_ ?_
                 refine done_ (done_of HT_.out (by kernel_rfl)) ?_
                 obtain ⟨hcz111_0, hcz111_1, hcz111_2, hfz111_0, hfz111_1, hfz111_2⟩ := q3 BK323
                 try go_wp2_with (first | ((with_reducible refine gate_callee (f := 17) rfl ?_); refine goesL_ (some 78) rfl rfl Tryd.func17 (by kernel_rfl) rfl #[.agg #[.bool t325, .string t326, .string t327], .agg #[.bool t325, .string t326, .string t327]] rfl ql ?_; (with_reducible refine (idiomref02_Add.calls k t325 t326 t327 t325 t326 t327 t333 t334 t335 t336 _ A23.out).mono ?_); rintro e w112 ⟨rfl, hb⟩; refine ⟨_, rfl, ?_⟩; replace BK306 := qb BK306 hb; replace BK311 := qb BK311 hb; replace BK323 := qb BK323 hb; replace HB := qn HB hb; (try clear hb); (try clear hb2); (try clear hk); (try clear hi)) | ((with_reducible refine gate_dst (N := 15) rfl ?_); refine qx 15 #[.bool false, .string (⟨#[]⟩ : ByteArray), .string (⟨#[]⟩ : ByteArray)] 23 ?_; intro gb337 hg w113 hbox hb; have BK337 := Aside0.mk (hbox); have GW337 := qs hg HB; have GE337 := GW337; have NB306_337 := ql_ hg BK306; have NB337_306 := qg_ hg BK306; have NB311_337 := ql_ hg BK311; have NB337_311 := qg_ hg BK311; have NB323_337 := ql_ hg BK323; have NB337_323 := qg_ hg BK323; replace BK306 := qb BK306 hb; replace BK311 := qb BK311 hb; replace BK323 := qb BK323 hb; replace HB := qn HB hb; clear hb hbox hg; have hnb114 := NB337_306.out; have hnc114 := NB306_337.out; have hnb115 := NB337_311.out; have hnc115 := NB311_337.out; have hnb116 := NB337_323.out; have hnc116 := NB323_337.out; obtain ⟨hcz117_0, hcz117_1, hcz117_2, hfz117_0, hfz117_1, hfz117_2⟩ := q3 BK337))
                 have n0_ : Aside0 ((((w113.setCell ⟨gb337, 0, none⟩ (.bool t333)).setCell ⟨gb337, 1, none⟩ (.string t334)).setCell ⟨gb337, 2, none⟩ (.string t335)).heap[gb306]? = some (.cells #[.bool a0_0, .string a0_1, .string a0_2] 23 (0, 0))) := ⟨by refine qf NB306_337 ?_; refine qf NB306_337 ?_; refine qf NB306_337 ?_; exact qk BK306⟩
                 have n1_ : Aside0 ((((w113.setCell ⟨gb337, 0, none⟩ (.bool t333)).setCell ⟨gb337, 1, none⟩ (.string t334)).setCell ⟨gb337, 2, none⟩ (.string t335)).heap[gb311]? = some (.cells #[.bool t307, .string t308, .string t309] 23 (0, 0))) := ⟨by refine qf NB311_337 ?_; refine qf NB311_337 ?_; refine qf NB311_337 ?_; exact qk BK311⟩
                 have n2_ : Aside0 ((((w113.setCell ⟨gb337, 0, none⟩ (.bool t333)).setCell ⟨gb337, 1, none⟩ (.string t334)).setCell ⟨gb337, 2, none⟩ (.string t335)).heap[gb323]? = some (.cells #[.bool t325, .string t326, .string t327] 23 (0, 0))) := ⟨by refine qf NB323_337 ?_; refine qf NB323_337 ?_; refine qf NB323_337 ?_; exact qk BK323⟩
                 have n3_ : Aside0 ((((w113.setCell ⟨gb337, 0, none⟩ (.bool t333)).setCell ⟨gb337, 1, none⟩ (.string t334)).setCell ⟨gb337, 2, none⟩ (.string t335)).heap[gb337]? = some (.cells #[.bool t333, .string t334, .string t335] 23 (0, 0))) := ⟨by refine qp 2 #[.bool t333, .string t334, .string (⟨#[]⟩ : ByteArray)] ?_; refine qp 1 #[.bool t333, .string (⟨#[]⟩ : ByteArray), .string (⟨#[]⟩ : ByteArray)] ?_; refine qp 0 #[.bool false, .string (⟨#[]⟩ : ByteArray), .string (⟨#[]⟩ : ByteArray)] ?_; exact qk BK337⟩
                 have n4_ : Aside0 (Below w.heap.size w (((w113.setCell ⟨gb337, 0, none⟩ (.bool t333)).setCell ⟨gb337, 1, none⟩ (.string t334)).setCell ⟨gb337, 2, none⟩ (.string t335))) := ⟨qh HB⟩
                 (try clear BK306)
                 (try clear BK311)
                 (try clear BK323)
                 (try clear BK337)
                 (try clear HB)
                 generalize (((w113.setCell ⟨gb337, 0, none⟩ (.bool t333)).setCell ⟨gb337, 1, none⟩ (.string t334)).setCell ⟨gb337, 2, none⟩ (.string t335)) = w118 at n0_ n1_ n2_ n3_ n4_ ⊢
                 have BK306 := n0_
                 have BK311 := n1_
                 have BK323 := n2_
                 have BK337 := n3_
                 have HB := n4_
                 clear n0_ n1_ n2_ n3_ n4_
                 replace BK306 := Aside0.mk (blk_drew BK306.out)
                 replace BK311 := Aside0.mk (blk_drew BK311.out)
                 replace BK323 := Aside0.mk (blk_drew BK323.out)
                 replace BK337 := Aside0.mk (blk_drew BK337.out)
                 replace HB := Aside0.mk (below_drew1 HB.out)
                 refine start_ (n := 9) (S := fun w' => w'.cell? ⟨gb337, 0, none⟩ = some (.bool t333) ∧ w'.cell? ⟨gb337, 1, none⟩ = some (.string t334) ∧ w'.cell? ⟨gb337, 2, none⟩ = some (.string t335)) (ds := []) #[false, false, false, false, false, false, false, false, false] (by kernel_rfl) rfl rfl ⟨c_ BK337 0, c_ BK337 1, c_ BK337 2⟩ (fun hHeld => ?_); refine with_tabW idiomlaw03_RoundNear.tab17 idiomlaw03_RoundNear.bits17 (fun HT_ HW_ => ?_)
                 generalize w118.drew = w119 at BK306 BK311 BK323 BK337 HB hHeld ⊢
                 refine pz 1 (some 90) #[false, true, false, false, false, false, false, false, false] HT_ ?_
                 refine tw3 0 (some 89) #[true, true, false, false, false, false, false, false, false] HT_ HW_ hHeld ?_
                 refine one_ (i := 2) (N := some 91) #[true, true, true, false, false, false, false, false, false] rfl rfl (one_of HT_.out (by kernel_rfl)) (by decide) (fun K hK => ?_)
                 refine goes_ Tryd.func16 (by kernel_rfl) rfl #[.int .i64 a2] (by rfl) rfl rfl ql ?_
                 with_reducible refine (idiomlaw03_unit.calls k a2 t338 t339 t340 _ A25.out).mono ?_
                 rintro e w120 ⟨rfl, hb⟩
                 refine ⟨_, rfl, ?_⟩
                 replace BK306 := qb BK306 hb
                 replace BK311 := qb BK311 hb
                 replace BK323 := qb BK323 hb
                 replace BK337 := qb BK337 hb
                 replace HB := qn HB hb
                 (try clear hb)
                 (try clear hb2)
                 (try clear hk)
                 (try clear hi)
                 refine hK.out _ _ ⟨c_ BK337 0, c_ BK337 1, c_ BK337 2⟩ (fun hHeld => ?_)
                 clear hK K
                 refine nz (some 91) ?_
                 refine one_ (i := 3) (N := some 92) #[true, true, true, true, false, false, false, false, false] rfl rfl (one_of HT_.out (by kernel_rfl)) (by decide) (fun K hK => ?_)
                 refine goes_ Tryd.func15 (by kernel_rfl) rfl #[.agg #[.bool t333, .string t334, .string t335], .agg #[.bool t338, .string t339, .string t340]] (by rfl) rfl rfl ql ?_
                 with_reducible refine (idiomref02_Compare.calls k t333 t334 t335 t338 t339 t340 t341 t342 _ A26.out).mono ?_
                 rintro e w121 ⟨rfl, hb⟩
                 refine ⟨_, rfl, ?_⟩
                 replace BK306 := qb BK306 hb
                 replace BK311 := qb BK311 hb
                 replace BK323 := qb BK323 hb
                 replace BK337 := qb BK337 hb
                 replace HB := qn HB hb
                 (try clear hb)
                 (try clear hb2)
                 (try clear hk)
                 (try clear hi)
                 refine hK.out _ _ ⟨c_ BK337 0, c_ BK337 1, c_ BK337 2⟩ (fun hHeld => ?_)
                 clear hK K
                 refine nz (some 92) ?_
                 refine pz 4 (some 88) #[true, true, true, true, true, false, false, false, false] HT_ ?_
                 refine pz 5 (some 93) #[true, true, true, true, true, true, false, false, false] HT_ ?_
                 refine pz 6 (some 94) #[true, true, true, true, true, true, true, false, false] HT_ ?_
                 refine pz 7 (some 16) #[true, true, true, true, true, true, true, true, false] HT_ ?_
                 refine pz 8 (some 17) #[true, true, true, true, true, true, true, true, true] HT_ ?_
                 refine done_ (done_of HT_.out (by kernel_rfl)) ?_
                 try go_wp2_with (first | (go_at_call 12; (with_reducible refine (idiomlaw03_awake.calls k  t345 _ A92.out).mono ?_); rintro e w122 ⟨rfl, hb⟩; replace BK306 := qb BK306 hb; replace BK311 := qb BK311 hb; replace BK323 := qb BK323 hb; replace BK337 := qb BK337 hb; replace HB := qn HB hb; (try clear hb); (try clear hb2); (try clear hk); (try clear hi)))
                 go_ret
                 exact ⟨qe, qh HB⟩
               · rw [if_neg c91] at H
                 exact absurd H (by simp)
         · rw [if_neg c24] at H
           have c24b0 : (t336 == 0) = false := beq_eq_false_iff_ne.mpr c24
           have c24b1 : (t336 != 0) = true := bne_iff_ne.mpr c24
           try have c24b1z := c24b1
           (try simp only [bne] at c24b1z)
           by_cases c123 : t336 = 3
           · rw [if_pos c123] at H
             have c123b0 : (t336 == 3) = true := beq_iff_eq.mpr c123
             have c123b1 : (t336 != 3) = false := bne_eq_false_iff_eq.mpr c123
             try have c123b1z := c123b1
             (try simp only [bne] at c123b1z)
             clear c123
             replace H := Option.bind_eq_some_iff.mp H
             obtain ⟨t346, A1240, H⟩ := H
             replace H : (some t346) = some r := H
             have A124 := Aside0.mk A1240
             clear A1240
             obtain rfl := Option.some.inj H
             go_enter Tryd.func4, Tryd.ntmps4
             try go_wp2_with (first | ((with_reducible refine gate_dst (N := 3) rfl ?_); refine qx 3 #[.bool a0_0, .string a0_1, .string a0_2] 23 ?_; intro gb306 hg w125 hbox hb; have BK306 := Aside0.mk (hbox); have GW306 := qs hg HB; have GE306 := GW306; replace HB := qn HB hb; clear hb hbox hg; obtain ⟨hcz126_0, hcz126_1, hcz126_2, hfz126_0, hfz126_1, hfz126_2⟩ := q3 BK306) | ((with_reducible refine gate_callee (f := 10) rfl ?_); refine goesL_ (some 22) rfl rfl Tryd.func10 (by kernel_rfl) rfl #[.agg #[.bool a0_0, .string a0_1, .string a0_2], .int .i64 a1, .int .i64 a2] rfl ql ?_; (with_reducible refine (round_Places.calls k a0_0 a0_1 a0_2 a1 a2 t307 t308 t309 t310 _ A4.out).mono ?_); rintro e w127 ⟨rfl, hb⟩; refine ⟨_, rfl, ?_⟩; replace BK306 := qb BK306 hb; replace HB := qn HB hb; (try clear hb); (try clear hb2); (try clear hk); (try clear hi)) | ((with_reducible refine gate_dst (N := 7) rfl ?_); refine qx 7 #[.bool false, .string (⟨#[]⟩ : ByteArray), .string (⟨#[]⟩ : ByteArray)] 23 ?_; intro gb311 hg w128 hbox hb; have BK311 := Aside0.mk (hbox); have GW311 := qs hg HB; have GE311 := GW311; have NB306_311 := ql_ hg BK306; have NB311_306 := qg_ hg BK306; replace BK306 := qb BK306 hb; replace HB := qn HB hb; clear hb hbox hg; have hnb129 := NB311_306.out; have hnc129 := NB306_311.out; obtain ⟨hcz130_0, hcz130_1, hcz130_2, hfz130_0, hfz130_1, hfz130_2⟩ := q3 BK311; obtain ⟨hcz131_0, hcz131_1, hcz131_2, hfz131_0, hfz131_1, hfz131_2⟩ := q3 BK306) | ((with_reducible refine gate_callee (f := 13) rfl ?_); refine goesL_ (some 54) rfl rfl Tryd.func13 (by kernel_rfl) rfl #[.agg #[.bool t307, .string t308, .string t309], .agg #[.bool a0_0, .string a0_1, .string a0_2]] rfl ql ?_; (with_reducible refine (idiomref02_Sub.calls k t307 t308 t309 a0_0 a0_1 a0_2 t319 t320 t321 t322 _ A17.out).mono ?_); rintro e w132 ⟨rfl, hb⟩; refine ⟨_, rfl, ?_⟩; replace BK306 := Aside0.mk (blk_below (g := gb306) (o := .cells #[.bool a0_0, .string a0_1, .string a0_2] 23 (0, 0)) (by refine qf NB306_311 ?_; refine qf NB306_311 ?_; refine qf NB306_311 ?_; exact qk BK306) hb); replace BK311 := Aside0.mk (blk_below (g := gb311) (o := .cells #[.bool t307, .string t308, .string t309] 23 (0, 0)) (by refine qp 2 #[.bool t307, .string t308, .string (⟨#[]⟩ : ByteArray)] ?_; refine qp 1 #[.bool t307, .string (⟨#[]⟩ : ByteArray), .string (⟨#[]⟩ : ByteArray)] ?_; refine qp 0 #[.bool false, .string (⟨#[]⟩ : ByteArray), .string (⟨#[]⟩ : ByteArray)] ?_; exact qk BK311) hb); replace HB := qn HB hb; (try clear hb); (try clear hb2); (try clear hk); (try clear hi)) | ((with_reducible refine gate_dst (N := 11) rfl ?_); refine qx 11 #[.bool false, .string (⟨#[]⟩ : ByteArray), .string (⟨#[]⟩ : ByteArray)] 23 ?_; intro gb323 hg w133 hbox hb; have BK323 := Aside0.mk (hbox); have GW323 := qs hg HB; have GE323 := GW323; have NB306_323 := ql_ hg BK306; have NB323_306 := qg_ hg BK306; have NB311_323 := ql_ hg BK311; have NB323_311 := qg_ hg BK311; replace BK306 := qb BK306 hb; replace BK311 := qb BK311 hb; replace HB := qn HB hb; clear hb hbox hg; have hnb134 := NB323_306.out; have hnc134 := NB306_323.out; have hnb135 := NB323_311.out; have hnc135 := NB311_323.out; obtain ⟨hcz136_0, hcz136_1, hcz136_2, hfz136_0, hfz136_1, hfz136_2⟩ := q3 BK323) | ((with_reducible refine gate_callee (f := 14) rfl ?_); refine goesL_ (some 65) rfl rfl Tryd.func14 (by kernel_rfl) rfl #[.agg #[.bool t319, .string t320, .string t321]] rfl ql ?_; (with_reducible refine (idiomlaw03_worth.calls t319 t320 t321 t325 t326 t327 _ A19.out).mono ?_); rintro e w137 ⟨rfl, hb⟩; refine ⟨_, rfl, ?_⟩; replace BK306 := Aside0.mk (blk_below (g := gb306) (o := .cells #[.bool a0_0, .string a0_1, .string a0_2] 23 (0, 0)) (by refine qf NB306_323 ?_; refine qf NB306_323 ?_; refine qf NB306_323 ?_; exact qk BK306) hb); replace BK311 := Aside0.mk (blk_below (g := gb311) (o := .cells #[.bool t307, .string t308, .string t309] 23 (0, 0)) (by refine qf NB311_323 ?_; refine qf NB311_323 ?_; refine qf NB311_323 ?_; exact qk BK311) hb); replace BK323 := Aside0.mk (blk_below (g := gb323) (o := .cells #[.bool t319, .string t320, .string t321] 23 (0, 0)) (by refine qp 2 #[.bool t319, .string t320, .string (⟨#[]⟩ : ByteArray)] ?_; refine qp 1 #[.bool t319, .string (⟨#[]⟩ : ByteArray), .string (⟨#[]⟩ : ByteArray)] ?_; refine qp 0 #[.bool false, .string (⟨#[]⟩ : ByteArray), .string (⟨#[]⟩ : ByteArray)] ?_; exact qk BK323) hb); replace HB := qn HB hb; (try clear hb); (try clear hb2); (try clear hk); (try clear hi); obtain ⟨hcz138_0, hcz138_1, hcz138_2, hfz138_0, hfz138_1, hfz138_2⟩ := q3 BK323))
             have n0_ : Aside0 ((((w137.setCell ⟨gb323, 0, none⟩ (.bool t325)).setCell ⟨gb323, 1, none⟩ (.string t326)).setCell ⟨gb323, 2, none⟩ (.string t327)).heap[gb306]? = some (.cells #[.bool a0_0, .string a0_1, .string a0_2] 23 (0, 0))) := ⟨by refine qf NB306_323 ?_; refine qf NB306_323 ?_; refine qf NB306_323 ?_; exact qk BK306⟩
             have n1_ : Aside0 ((((w137.setCell ⟨gb323, 0, none⟩ (.bool t325)).setCell ⟨gb323, 1, none⟩ (.string t326)).setCell ⟨gb323, 2, none⟩ (.string t327)).heap[gb311]? = some (.cells #[.bool t307, .string t308, .string t309] 23 (0, 0))) := ⟨by refine qf NB311_323 ?_; refine qf NB311_323 ?_; refine qf NB311_323 ?_; exact qk BK311⟩
             have n2_ : Aside0 ((((w137.setCell ⟨gb323, 0, none⟩ (.bool t325)).setCell ⟨gb323, 1, none⟩ (.string t326)).setCell ⟨gb323, 2, none⟩ (.string t327)).heap[gb323]? = some (.cells #[.bool t325, .string t326, .string t327] 23 (0, 0))) := ⟨by refine qp 2 #[.bool t325, .string t326, .string t321] ?_; refine qp 1 #[.bool t325, .string t320, .string t321] ?_; refine qp 0 #[.bool t319, .string t320, .string t321] ?_; exact qk BK323⟩
             have n3_ : Aside0 (Below w.heap.size w (((w137.setCell ⟨gb323, 0, none⟩ (.bool t325)).setCell ⟨gb323, 1, none⟩ (.string t326)).setCell ⟨gb323, 2, none⟩ (.string t327))) := ⟨qh HB⟩
             (try clear BK306)
             (try clear BK311)
             (try clear BK323)
             (try clear HB)
             generalize (((w137.setCell ⟨gb323, 0, none⟩ (.bool t325)).setCell ⟨gb323, 1, none⟩ (.string t326)).setCell ⟨gb323, 2, none⟩ (.string t327)) = w139 at n0_ n1_ n2_ n3_ ⊢
             have BK306 := n0_
             have BK311 := n1_
             have BK323 := n2_
             have HB := n3_
             clear n0_ n1_ n2_ n3_
             replace BK306 := Aside0.mk (blk_drew BK306.out)
             replace BK311 := Aside0.mk (blk_drew BK311.out)
             replace BK323 := Aside0.mk (blk_drew BK323.out)
             replace HB := Aside0.mk (below_drew1 HB.out)
             refine start_ (n := 9) (S := fun w' => w'.cell? ⟨gb323, 0, none⟩ = some (.bool t325) ∧ w'.cell? ⟨gb323, 1, none⟩ = some (.string t326) ∧ w'.cell? ⟨gb323, 2, none⟩ = some (.string t327)) (ds := []) #[false, false, false, false, false, false, false, false, false] (by kernel_rfl) rfl rfl ⟨c_ BK323 0, c_ BK323 1, c_ BK323 2⟩ (fun hHeld => ?_); refine with_tabW idiomlaw03_RoundNear.tab11 idiomlaw03_RoundNear.bits11 (fun HT_ HW_ => ?_)
             generalize w139.drew = w140 at BK306 BK311 BK323 HB hHeld ⊢
             refine pz 1 (some 68) #[false, true, false, false, false, false, false, false, false] HT_ ?_
             refine tw3 0 (some 67) #[true, true, false, false, false, false, false, false, false] HT_ HW_ hHeld ?_
             refine one_ (i := 2) (N := some 69) #[true, true, true, false, false, false, false, false, false] rfl rfl (one_of HT_.out (by kernel_rfl)) (by decide) (fun K hK => ?_)
             refine goes_ Tryd.func16 (by kernel_rfl) rfl #[.int .i64 a2] (by rfl) rfl rfl ql ?_
             with_reducible refine (idiomlaw03_unit.calls k a2 t328 t329 t330 _ A20.out).mono ?_
             rintro e w141 ⟨rfl, hb⟩
             refine ⟨_, rfl, ?_⟩
             replace BK306 := qb BK306 hb
             replace BK311 := qb BK311 hb
             replace BK323 := qb BK323 hb
             replace HB := qn HB hb
             (try clear hb)
             (try clear hb2)
             (try clear hk)
             (try clear hi)
             refine hK.out _ _ ⟨c_ BK323 0, c_ BK323 1, c_ BK323 2⟩ (fun hHeld => ?_)
             clear hK K
             refine nz (some 69) ?_
             refine one_ (i := 3) (N := some 70) #[true, true, true, true, false, false, false, false, false] rfl rfl (one_of HT_.out (by kernel_rfl)) (by decide) (fun K hK => ?_)
             refine goes_ Tryd.func15 (by kernel_rfl) rfl #[.agg #[.bool t325, .string t326, .string t327], .agg #[.bool t328, .string t329, .string t330]] (by rfl) rfl rfl ql ?_
             with_reducible refine (idiomref02_Compare.calls k t325 t326 t327 t328 t329 t330 t331 t332 _ A21.out).mono ?_
             rintro e w142 ⟨rfl, hb⟩
             refine ⟨_, rfl, ?_⟩
             replace BK306 := qb BK306 hb
             replace BK311 := qb BK311 hb
             replace BK323 := qb BK323 hb
             replace HB := qn HB hb
             (try clear hb)
             (try clear hb2)
             (try clear hk)
             (try clear hi)
             refine hK.out _ _ ⟨c_ BK323 0, c_ BK323 1, c_ BK323 2⟩ (fun hHeld => ?_)
             clear hK K
             refine nz (some 70) ?_
             refine pz 4 (some 66) #[true, true, true, true, true, false, false, false, false] HT_ ?_
             refine pz 5 (some 71) #[true, true, true, true, true, true, false, false, false] HT_ ?_
             refine pz 6 (some 72) #[true, true, true, true, true, true, true, false, false] HT_ ?_
             refine pz 7 (some 13) #[true, true, true, true, true, true, true, true, false] HT_ ?_
             refine pz 8 (some 14) #[true, true, true, true, true, true, true, true, true] HT_ ?_
             refine done_ (done_of HT_.out (by kernel_rfl)) ?_
             obtain ⟨hcz143_0, hcz143_1, hcz143_2, hfz143_0, hfz143_1, hfz143_2⟩ := q3 BK323
             try go_wp2_with (first | ((with_reducible refine gate_callee (f := 17) rfl ?_); refine goesL_ (some 78) rfl rfl Tryd.func17 (by kernel_rfl) rfl #[.agg #[.bool t325, .string t326, .string t327], .agg #[.bool t325, .string t326, .string t327]] rfl ql ?_; (with_reducible refine (idiomref02_Add.calls k t325 t326 t327 t325 t326 t327 t333 t334 t335 t336 _ A23.out).mono ?_); rintro e w144 ⟨rfl, hb⟩; refine ⟨_, rfl, ?_⟩; replace BK306 := qb BK306 hb; replace BK311 := qb BK311 hb; replace BK323 := qb BK323 hb; replace HB := qn HB hb; (try clear hb); (try clear hb2); (try clear hk); (try clear hi)) | ((with_reducible refine gate_dst (N := 15) rfl ?_); refine qx 15 #[.bool false, .string (⟨#[]⟩ : ByteArray), .string (⟨#[]⟩ : ByteArray)] 23 ?_; intro gb337 hg w145 hbox hb; have BK337 := Aside0.mk (hbox); have GW337 := qs hg HB; have GE337 := GW337; have NB306_337 := ql_ hg BK306; have NB337_306 := qg_ hg BK306; have NB311_337 := ql_ hg BK311; have NB337_311 := qg_ hg BK311; have NB323_337 := ql_ hg BK323; have NB337_323 := qg_ hg BK323; replace BK306 := qb BK306 hb; replace BK311 := qb BK311 hb; replace BK323 := qb BK323 hb; replace HB := qn HB hb; clear hb hbox hg; have hnb146 := NB337_306.out; have hnc146 := NB306_337.out; have hnb147 := NB337_311.out; have hnc147 := NB311_337.out; have hnb148 := NB337_323.out; have hnc148 := NB323_337.out; obtain ⟨hcz149_0, hcz149_1, hcz149_2, hfz149_0, hfz149_1, hfz149_2⟩ := q3 BK337) | (go_at_call 12; (with_reducible refine (idiomlaw03_awake.calls k  t346 _ A124.out).mono ?_); rintro e w150 ⟨rfl, hb⟩; replace BK306 := Aside0.mk (blk_below (g := gb306) (o := .cells #[.bool a0_0, .string a0_1, .string a0_2] 23 (0, 0)) (by refine qf NB306_337 ?_; refine qf NB306_337 ?_; refine qf NB306_337 ?_; exact qk BK306) hb); replace BK311 := Aside0.mk (blk_below (g := gb311) (o := .cells #[.bool t307, .string t308, .string t309] 23 (0, 0)) (by refine qf NB311_337 ?_; refine qf NB311_337 ?_; refine qf NB311_337 ?_; exact qk BK311) hb); replace BK323 := Aside0.mk (blk_below (g := gb323) (o := .cells #[.bool t325, .string t326, .string t327] 23 (0, 0)) (by refine qf NB323_337 ?_; refine qf NB323_337 ?_; refine qf NB323_337 ?_; exact qk BK323) hb); replace BK337 := Aside0.mk (blk_below (g := gb337) (o := .cells #[.bool t333, .string t334, .string t335] 23 (0, 0)) (by refine qp 2 #[.bool t333, .string t334, .string (⟨#[]⟩ : ByteArray)] ?_; refine qp 1 #[.bool t333, .string (⟨#[]⟩ : ByteArray), .string (⟨#[]⟩ : ByteArray)] ?_; refine qp 0 #[.bool false, .string (⟨#[]⟩ : ByteArray), .string (⟨#[]⟩ : ByteArray)] ?_; exact qk BK337) hb); replace HB := qn HB hb; (try clear hb); (try clear hb2); (try clear hk); (try clear hi)))
             go_ret
             exact ⟨qe, qh HB⟩
           · rw [if_neg c123] at H
             exact absurd H (by simp)
     · rw [if_neg c18] at H
       have c18b0 : (t322 == 0) = false := beq_eq_false_iff_ne.mpr c18
       have c18b1 : (t322 != 0) = true := bne_iff_ne.mpr c18
       try have c18b1z := c18b1
       (try simp only [bne] at c18b1z)
       by_cases c151 : t322 = 3
       · rw [if_pos c151] at H
         have c151b0 : (t322 == 3) = true := beq_iff_eq.mpr c151
         have c151b1 : (t322 != 3) = false := bne_eq_false_iff_eq.mpr c151
         try have c151b1z := c151b1
         (try simp only [bne] at c151b1z)
         clear c151
         replace H := Option.bind_eq_some_iff.mp H
         obtain ⟨t324, A1520, H⟩ := H
         replace H : (some t324) = some r := H
         have A152 := Aside0.mk A1520
         clear A1520
         obtain rfl := Option.some.inj H
         go_enter Tryd.func4, Tryd.ntmps4
         go_wp2_with (first | ((with_reducible refine gate_dst (N := 3) rfl ?_); refine qx 3 #[.bool a0_0, .string a0_1, .string a0_2] 23 ?_; intro gb306 hg w153 hbox hb; have BK306 := Aside0.mk (hbox); have GW306 := qs hg HB; have GE306 := GW306; replace HB := qn HB hb; clear hb hbox hg; obtain ⟨hcz154_0, hcz154_1, hcz154_2, hfz154_0, hfz154_1, hfz154_2⟩ := q3 BK306) | ((with_reducible refine gate_callee (f := 10) rfl ?_); refine goesL_ (some 22) rfl rfl Tryd.func10 (by kernel_rfl) rfl #[.agg #[.bool a0_0, .string a0_1, .string a0_2], .int .i64 a1, .int .i64 a2] rfl ql ?_; (with_reducible refine (round_Places.calls k a0_0 a0_1 a0_2 a1 a2 t307 t308 t309 t310 _ A4.out).mono ?_); rintro e w155 ⟨rfl, hb⟩; refine ⟨_, rfl, ?_⟩; replace BK306 := qb BK306 hb; replace HB := qn HB hb; (try clear hb); (try clear hb2); (try clear hk); (try clear hi)) | ((with_reducible refine gate_dst (N := 7) rfl ?_); refine qx 7 #[.bool false, .string (⟨#[]⟩ : ByteArray), .string (⟨#[]⟩ : ByteArray)] 23 ?_; intro gb311 hg w156 hbox hb; have BK311 := Aside0.mk (hbox); have GW311 := qs hg HB; have GE311 := GW311; have NB306_311 := ql_ hg BK306; have NB311_306 := qg_ hg BK306; replace BK306 := qb BK306 hb; replace HB := qn HB hb; clear hb hbox hg; have hnb157 := NB311_306.out; have hnc157 := NB306_311.out; obtain ⟨hcz158_0, hcz158_1, hcz158_2, hfz158_0, hfz158_1, hfz158_2⟩ := q3 BK311; obtain ⟨hcz159_0, hcz159_1, hcz159_2, hfz159_0, hfz159_1, hfz159_2⟩ := q3 BK306) | ((with_reducible refine gate_callee (f := 13) rfl ?_); refine goesL_ (some 54) rfl rfl Tryd.func13 (by kernel_rfl) rfl #[.agg #[.bool t307, .string t308, .string t309], .agg #[.bool a0_0, .string a0_1, .string a0_2]] rfl ql ?_; (with_reducible refine (idiomref02_Sub.calls k t307 t308 t309 a0_0 a0_1 a0_2 t319 t320 t321 t322 _ A17.out).mono ?_); rintro e w160 ⟨rfl, hb⟩; refine ⟨_, rfl, ?_⟩; replace BK306 := Aside0.mk (blk_below (g := gb306) (o := .cells #[.bool a0_0, .string a0_1, .string a0_2] 23 (0, 0)) (by refine qf NB306_311 ?_; refine qf NB306_311 ?_; refine qf NB306_311 ?_; exact qk BK306) hb); replace BK311 := Aside0.mk (blk_below (g := gb311) (o := .cells #[.bool t307, .string t308, .string t309] 23 (0, 0)) (by refine qp 2 #[.bool t307, .string t308, .string (⟨#[]⟩ : ByteArray)] ?_; refine qp 1 #[.bool t307, .string (⟨#[]⟩ : ByteArray), .string (⟨#[]⟩ : ByteArray)] ?_; refine qp 0 #[.bool false, .string (⟨#[]⟩ : ByteArray), .string (⟨#[]⟩ : ByteArray)] ?_; exact qk BK311) hb); replace HB := qn HB hb; (try clear hb); (try clear hb2); (try clear hk); (try clear hi)) | ((with_reducible refine gate_dst (N := 11) rfl ?_); refine qx 11 #[.bool false, .string (⟨#[]⟩ : ByteArray), .string (⟨#[]⟩ : ByteArray)] 23 ?_; intro gb323 hg w161 hbox hb; have BK323 := Aside0.mk (hbox); have GW323 := qs hg HB; have GE323 := GW323; have NB306_323 := ql_ hg BK306; have NB323_306 := qg_ hg BK306; have NB311_323 := ql_ hg BK311; have NB323_311 := qg_ hg BK311; replace BK306 := qb BK306 hb; replace BK311 := qb BK311 hb; replace HB := qn HB hb; clear hb hbox hg; have hnb162 := NB323_306.out; have hnc162 := NB306_323.out; have hnb163 := NB323_311.out; have hnc163 := NB311_323.out; obtain ⟨hcz164_0, hcz164_1, hcz164_2, hfz164_0, hfz164_1, hfz164_2⟩ := q3 BK323) | (go_at_call 12; (with_reducible refine (idiomlaw03_awake.calls k  t324 _ A152.out).mono ?_); rintro e w165 ⟨rfl, hb⟩; replace BK306 := Aside0.mk (blk_below (g := gb306) (o := .cells #[.bool a0_0, .string a0_1, .string a0_2] 23 (0, 0)) (by refine qf NB306_323 ?_; refine qf NB306_323 ?_; refine qf NB306_323 ?_; exact qk BK306) hb); replace BK311 := Aside0.mk (blk_below (g := gb311) (o := .cells #[.bool t307, .string t308, .string t309] 23 (0, 0)) (by refine qf NB311_323 ?_; refine qf NB311_323 ?_; refine qf NB311_323 ?_; exact qk BK311) hb); replace BK323 := Aside0.mk (blk_below (g := gb323) (o := .cells #[.bool t319, .string t320, .string t321] 23 (0, 0)) (by refine qp 2 #[.bool t319, .string t320, .string (⟨#[]⟩ : ByteArray)] ?_; refine qp 1 #[.bool t319, .string (⟨#[]⟩ : ByteArray), .string (⟨#[]⟩ : ByteArray)] ?_; refine qp 0 #[.bool false, .string (⟨#[]⟩ : ByteArray), .string (⟨#[]⟩ : ByteArray)] ?_; exact qk BK323) hb); replace HB := qn HB hb; (try clear hb); (try clear hb2); (try clear hk); (try clear hi)))
         go_ret
         exact ⟨qe, qh HB⟩
       · rw [if_neg c151] at H
         exact absurd H (by simp)
 · rw [if_neg c5] at H
   have c5b0 : (t310 == 0) = false := beq_eq_false_iff_ne.mpr c5
   have c5b1 : (t310 != 0) = true := bne_iff_ne.mpr c5
   try have c5b1z := c5b1
   (try simp only [bne] at c5b1z)
   replace H := Option.bind_eq_some_iff.mp H
   obtain ⟨⟨t312, t313, t314, t315⟩, A1660, H⟩ := H
   replace H : (if t310 = t315 then ((idiomlaw03_awake.f k).bind fun t317 => (some t317)) else (none)) = some r := H
   have A166 := Aside0.mk A1660
   clear A1660
   by_cases c167 : t310 = t315
   · rw [if_pos c167] at H
     have c167b0 : (t310 == t315) = true := beq_iff_eq.mpr c167
     have c167b1 : (t310 != t315) = false := bne_eq_false_iff_eq.mpr c167
     try have c167b1z := c167b1
     (try simp only [bne] at c167b1z)
     clear c167
     replace H := Option.bind_eq_some_iff.mp H
     obtain ⟨t317, A1680, H⟩ := H
     replace H : (some t317) = some r := H
     have A168 := Aside0.mk A1680
     clear A1680
     obtain rfl := Option.some.inj H
     go_enter Tryd.func4, Tryd.ntmps4
     go_wp2_with (first | ((with_reducible refine gate_dst (N := 3) rfl ?_); refine qx 3 #[.bool a0_0, .string a0_1, .string a0_2] 23 ?_; intro gb306 hg w169 hbox hb; have BK306 := Aside0.mk (hbox); have GW306 := qs hg HB; have GE306 := GW306; replace HB := qn HB hb; clear hb hbox hg; obtain ⟨hcz170_0, hcz170_1, hcz170_2, hfz170_0, hfz170_1, hfz170_2⟩ := q3 BK306) | ((with_reducible refine gate_callee (f := 10) rfl ?_); refine goesL_ (some 22) rfl rfl Tryd.func10 (by kernel_rfl) rfl #[.agg #[.bool a0_0, .string a0_1, .string a0_2], .int .i64 a1, .int .i64 a2] rfl ql ?_; (with_reducible refine (round_Places.calls k a0_0 a0_1 a0_2 a1 a2 t307 t308 t309 t310 _ A4.out).mono ?_); rintro e w171 ⟨rfl, hb⟩; refine ⟨_, rfl, ?_⟩; replace BK306 := qb BK306 hb; replace HB := qn HB hb; (try clear hb); (try clear hb2); (try clear hk); (try clear hi)) | ((with_reducible refine gate_dst (N := 7) rfl ?_); refine qx 7 #[.bool false, .string (⟨#[]⟩ : ByteArray), .string (⟨#[]⟩ : ByteArray)] 23 ?_; intro gb311 hg w172 hbox hb; have BK311 := Aside0.mk (hbox); have GW311 := qs hg HB; have GE311 := GW311; have NB306_311 := ql_ hg BK306; have NB311_306 := qg_ hg BK306; replace BK306 := qb BK306 hb; replace HB := qn HB hb; clear hb hbox hg; have hnb173 := NB311_306.out; have hnc173 := NB306_311.out; obtain ⟨hcz174_0, hcz174_1, hcz174_2, hfz174_0, hfz174_1, hfz174_2⟩ := q3 BK311; obtain ⟨hcz175_0, hcz175_1, hcz175_2, hfz175_0, hfz175_1, hfz175_2⟩ := q3 BK306) | ((with_reducible refine gate_callee (f := 11) rfl ?_); refine goesL_ (some 31) rfl rfl Tryd.func11 (by kernel_rfl) rfl #[.agg #[.bool a0_0, .string a0_1, .string a0_2], .int .i64 a1, .int .i64 a2] rfl ql ?_; (with_reducible refine (idiomref03_Places.calls k a0_0 a0_1 a0_2 a1 a2 t312 t313 t314 t315 _ A166.out).mono ?_); rintro e w176 ⟨rfl, hb⟩; refine ⟨_, rfl, ?_⟩; replace BK306 := Aside0.mk (blk_below (g := gb306) (o := .cells #[.bool a0_0, .string a0_1, .string a0_2] 23 (0, 0)) (by refine qf NB306_311 ?_; refine qf NB306_311 ?_; refine qf NB306_311 ?_; exact qk BK306) hb); replace BK311 := Aside0.mk (blk_below (g := gb311) (o := .cells #[.bool t307, .string t308, .string t309] 23 (0, 0)) (by refine qp 2 #[.bool t307, .string t308, .string (⟨#[]⟩ : ByteArray)] ?_; refine qp 1 #[.bool t307, .string (⟨#[]⟩ : ByteArray), .string (⟨#[]⟩ : ByteArray)] ?_; refine qp 0 #[.bool false, .string (⟨#[]⟩ : ByteArray), .string (⟨#[]⟩ : ByteArray)] ?_; exact qk BK311) hb); replace HB := qn HB hb; (try clear hb); (try clear hb2); (try clear hk); (try clear hi)) | ((with_reducible refine gate_dst (N := 9) rfl ?_); refine qx 9 #[.bool false, .string (⟨#[]⟩ : ByteArray), .string (⟨#[]⟩ : ByteArray)] 23 ?_; intro gb316 hg w177 hbox hb; have BK316 := Aside0.mk (hbox); have GW316 := qs hg HB; have GE316 := GW316; have NB306_316 := ql_ hg BK306; have NB316_306 := qg_ hg BK306; have NB311_316 := ql_ hg BK311; have NB316_311 := qg_ hg BK311; replace BK306 := qb BK306 hb; replace BK311 := qb BK311 hb; replace HB := qn HB hb; clear hb hbox hg; have hnb178 := NB316_306.out; have hnc178 := NB306_316.out; have hnb179 := NB316_311.out; have hnc179 := NB311_316.out; obtain ⟨hcz180_0, hcz180_1, hcz180_2, hfz180_0, hfz180_1, hfz180_2⟩ := q3 BK316) | (go_at_call 12; (with_reducible refine (idiomlaw03_awake.calls k  t317 _ A168.out).mono ?_); rintro e w181 ⟨rfl, hb⟩; replace BK306 := Aside0.mk (blk_below (g := gb306) (o := .cells #[.bool a0_0, .string a0_1, .string a0_2] 23 (0, 0)) (by refine qf NB306_316 ?_; refine qf NB306_316 ?_; refine qf NB306_316 ?_; exact qk BK306) hb); replace BK311 := Aside0.mk (blk_below (g := gb311) (o := .cells #[.bool t307, .string t308, .string t309] 23 (0, 0)) (by refine qf NB311_316 ?_; refine qf NB311_316 ?_; refine qf NB311_316 ?_; exact qk BK311) hb); replace BK316 := Aside0.mk (blk_below (g := gb316) (o := .cells #[.bool t312, .string t313, .string t314] 23 (0, 0)) (by refine qp 2 #[.bool t312, .string t313, .string (⟨#[]⟩ : ByteArray)] ?_; refine qp 1 #[.bool t312, .string (⟨#[]⟩ : ByteArray), .string (⟨#[]⟩ : ByteArray)] ?_; refine qp 0 #[.bool false, .string (⟨#[]⟩ : ByteArray), .string (⟨#[]⟩ : ByteArray)] ?_; exact qk BK316) hb); replace HB := qn HB hb; (try clear hb); (try clear hb2); (try clear hk); (try clear hi)))
     go_ret
     exact ⟨qe, qh HB⟩
   · rw [if_neg c167] at H
     exact absurd H (by simp)

end Go.Proofs.YtpmhebdaphjinaaDoor.F
set_option linter.unusedVariables false
set_option linter.unusedSimpArgs false
namespace Go.Proofs.YtpmhebdaphjinaaDoor.Dig
open Go.RowKit Go.Proofs.YtpmhebdaphjinaaDoorW.PrintWords

/-- A list of digits. -/
def Dg (l : List Nat) : Prop := ∀ d ∈ l, d ≤ 9
/-- The text of a list of digits. -/
def ofD (l : List Nat) : ByteArray := ⟨(l.map fun d => UInt8.ofNat (d + 48)).toArray⟩
/-- What a list of digits is worth. -/
def val : List Nat → Nat
  | [] => 0
  | d :: l => d * 10 ^ l.length + val l
/-- Without noughts ahead; '0' of none. -/
def lead : List Nat → List Nat
  | [] => [0]
  | [d] => [d]
  | d :: e :: t => if d = 0 then lead (e :: t) else d :: e :: t
def Canon (l : List Nat) : Prop := l ≠ [] ∧ (l.length = 1 ∨ l.getD 0 0 ≠ 0)

theorem Dg.nil : Dg [] := fun _ h => by cases h
theorem Dg.cons {d : Nat} {l : List Nat} (h : d ≤ 9) (hl : Dg l) : Dg (d :: l) := fun x hx => by
  rcases List.mem_cons.1 hx with rfl | hx
  · exact h
  · exact hl x hx
theorem Dg.head {d : Nat} {l : List Nat} (h : Dg (d :: l)) : d ≤ 9 := h d (by simp)
theorem Dg.tail {d : Nat} {l : List Nat} (h : Dg (d :: l)) : Dg l := fun x hx => h x (by simp [hx])
theorem Dg.append {l m : List Nat} (hl : Dg l) (hm : Dg m) : Dg (l ++ m) := fun x hx => by
  rcases List.mem_append.1 hx with hx | hx
  · exact hl x hx
  · exact hm x hx
theorem Dg.take {l : List Nat} (h : Dg l) (n : Nat) : Dg (l.take n) := fun x hx => h x (List.mem_of_mem_take hx)
theorem Dg.drop {l : List Nat} (h : Dg l) (n : Nat) : Dg (l.drop n) := fun x hx => h x (List.mem_of_mem_drop hx)
theorem Dg.zeros (n : Nat) : Dg (List.replicate n 0) := fun x hx => by rw [List.eq_of_mem_replicate hx]; omega
theorem Dg.get {l : List Nat} (h : Dg l) (i : Nat) : l.getD i 0 ≤ 9 := by
  rw [List.getD_eq_getElem?_getD]
  cases e : l[i]? with
  | none => simp
  | some d => exact h d (List.mem_of_getElem? e)
theorem Dg.set {l : List Nat} (h : Dg l) (i : Nat) {d : Nat} (hd : d ≤ 9) : Dg (l.set i d) := fun x hx => by
  rcases List.mem_or_eq_of_mem_set hx with hx | rfl
  · exact h x hx
  · exact hd

theorem val_append (l m : List Nat) : val (l ++ m) = val l * 10 ^ m.length + val m := by
  induction l with
  | nil => simp [val]
  | cons d l ih =>
    simp only [List.cons_append, val, ih, List.length_append, Nat.pow_add, Nat.add_mul, Nat.mul_assoc]
    omega
theorem val_snoc (l : List Nat) (d : Nat) : val (l ++ [d]) = val l * 10 + d := by rw [val_append]; simp [val]
theorem val_lt {l : List Nat} (h : Dg l) : val l < 10 ^ l.length := by
  induction l with
  | nil => simp [val]
  | cons d l ih =>
    have h1 := h.head
    have h2 := ih h.tail
    simp only [val, List.length_cons, Nat.pow_succ]
    have h3 : d * 10 ^ l.length ≤ 9 * 10 ^ l.length := Nat.mul_le_mul_right _ h1
    omega
theorem val_zeros (n : Nat) : val (List.replicate n 0) = 0 := by
  induction n with
  | zero => rfl
  | succ n ih => simp [List.replicate_succ, val, ih]
theorem val_zeros_append (n : Nat) (l : List Nat) : val (List.replicate n 0 ++ l) = val l := by rw [val_append, val_zeros]; simp
theorem val_append_zeros (n : Nat) (l : List Nat) : val (l ++ List.replicate n 0) = val l * 10 ^ n := by rw [val_append, val_zeros]; simp
theorem val_eq_zero {l : List Nat} : val l = 0 ↔ ∀ d ∈ l, d = 0 := by
  induction l with
  | nil => simp [val]
  | cons d l ih =>
    simp only [val, List.mem_cons, forall_eq_or_imp]
    have hp : 0 < 10 ^ l.length := Nat.pow_pos (by omega)
    constructor
    · intro h
      have h2 : val l = 0 := by omega
      have h1 : d * 10 ^ l.length = 0 := by omega
      rcases Nat.mul_eq_zero.1 h1 with h1 | h1
      · exact ⟨h1, ih.1 h2⟩
      · omega
    · rintro ⟨rfl, h⟩
      simp [ih.2 h]
theorem val_take_drop (l : List Nat) (n : Nat) : val l = val (l.take n) * 10 ^ (l.length - n) + val (l.drop n) := by
  conv => lhs; rw [← List.take_append_drop n l]
  rw [val_append, List.length_drop]
theorem val_take {l : List Nat} (h : Dg l) (n : Nat) : val (l.take n) = val l / 10 ^ (l.length - n) := by
  have h1 := val_take_drop l n
  have h2 := val_lt (h.drop n)
  rw [List.length_drop] at h2
  have hp : 0 < 10 ^ (l.length - n) := Nat.pow_pos (by omega)
  rw [h1, Nat.add_comm, Nat.add_mul_div_right _ _ hp, Nat.div_eq_of_lt h2, Nat.zero_add]
theorem val_drop {l : List Nat} (h : Dg l) (n : Nat) : val (l.drop n) = val l % 10 ^ (l.length - n) := by
  have h1 := val_take_drop l n
  have h2 := val_lt (h.drop n)
  rw [List.length_drop] at h2
  rw [h1, Nat.add_comm, Nat.add_mul_mod_self_right, Nat.mod_eq_of_lt h2]
theorem eq_of_val : ∀ {l m : List Nat}, Dg l → Dg m → l.length = m.length → val l = val m → l = m
  | [], [], _, _, _, _ => rfl
  | [], _ :: _, _, _, h, _ => by simp at h
  | _ :: _, [], _, _, h, _ => by simp at h
  | d :: l, e :: m, hl, hm, h, hv => by
    have h1 : l.length = m.length := by simpa using h
    have a := val_lt hl.tail
    have b := val_lt hm.tail
    simp only [val, h1] at hv a
    have hp : 0 < 10 ^ m.length := Nat.pow_pos (by omega)
    have hd : d = e := by
      have x : (d * 10 ^ m.length + val l) / 10 ^ m.length = d := by
        rw [Nat.add_comm, Nat.add_mul_div_right _ _ hp, Nat.div_eq_of_lt a]; omega
      have y : (e * 10 ^ m.length + val m) / 10 ^ m.length = e := by
        rw [Nat.add_comm, Nat.add_mul_div_right _ _ hp, Nat.div_eq_of_lt b]; omega
      rw [hv] at x
      omega
    subst hd
    rw [eq_of_val hl.tail hm.tail h1 (by omega)]

theorem lead_ne (l : List Nat) : lead l ≠ [] := by
  fun_induction lead l <;> simp_all
theorem Dg.lead {l : List Nat} (h : Dg l) : Dg (lead l) := by
  fun_induction Dig.lead l with
  | case1 => exact Dg.cons (by omega) Dg.nil
  | case2 => exact h
  | case3 e t ih => exact ih h.tail
  | case4 => exact h
theorem val_lead (l : List Nat) : val (lead l) = val l := by
  fun_induction lead l with
  | case1 => rfl
  | case2 => rfl
  | case3 e t ih => rw [ih]; simp [val]
  | case4 => rfl
theorem canon_lead (l : List Nat) : Canon (lead l) := by
  fun_induction lead l with
  | case1 => exact ⟨by simp, .inl rfl⟩
  | case2 => exact ⟨by simp, .inl rfl⟩
  | case3 e t ih => exact ih
  | case4 d e t h => exact ⟨by simp, .inr (by simpa using h)⟩
theorem lead_length (l : List Nat) : (lead l).length ≤ max 1 l.length := by
  fun_induction lead l with
  | case1 => simp
  | case2 => simp
  | case3 e t ih => simp at ih ⊢; omega
  | case4 => simp
theorem Canon.lead {l : List Nat} (h : Canon l) : lead l = l := by
  fun_induction Dig.lead l with
  | case1 => exact absurd rfl h.1
  | case2 => rfl
  | case3 e t ih => rcases h.2 with h2 | h2 <;> simp at h2
  | case4 => rfl
theorem Canon.le_val {l : List Nat} (h : Canon l) (h1 : l.length ≠ 1) : 10 ^ (l.length - 1) ≤ val l := by
  cases l with
  | nil => exact absurd rfl h.1
  | cons d l =>
    rcases h.2 with h2 | h2
    · exact absurd h2 h1
    · simp only [List.getD_cons_zero] at h2
      simp only [val, List.length_cons, Nat.add_sub_cancel]
      have : 1 * 10 ^ l.length ≤ d * 10 ^ l.length := Nat.mul_le_mul_right _ (by omega)
      omega
theorem canon_length_le {l m : List Nat} (hm : Dg m) (cl : Canon l) (h : val l ≤ val m) (cm : m ≠ []) : l.length ≤ m.length := by
  by_cases h1 : l.length = 1
  · have : m.length ≠ 0 := by simpa using cm
    omega
  · have a := cl.le_val h1
    have b := val_lt hm
    have c : 10 ^ (l.length - 1) < 10 ^ m.length := by omega
    have := (Nat.pow_lt_pow_iff_right (show 1 < 10 by omega)).1 c
    omega
theorem canon_unique {l m : List Nat} (hl : Dg l) (hm : Dg m) (cl : Canon l) (cm : Canon m) (h : val l = val m) : l = m := by
  have a := canon_length_le hm cl (by omega) cm.1
  have b := canon_length_le hl cm (by omega) cl.1
  exact eq_of_val hl hm (by omega) h
theorem lead_eq {l m : List Nat} (hl : Dg l) (hm : Dg m) (h : val l = val m) : lead l = lead m :=
  canon_unique hl.lead hm.lead (canon_lead _) (canon_lead _) (by rw [val_lead, val_lead, h])
theorem canon_zero {l : List Nat} (hl : Dg l) (cl : Canon l) (h : val l = 0) : l = [0] :=
  canon_unique hl (Dg.cons (by omega) Dg.nil) cl ⟨by simp, .inl rfl⟩ (by simp [h, val])

theorem ofNat48 {d : Nat} (h : d ≤ 9) : (UInt8.ofNat (d + 48)).toNat = d + 48 := by
  rw [UInt8.toNat_ofNat']; omega
theorem size_ofD (l : List Nat) : (ofD l).size = l.length := by simp [ofD, ByteArray.size]
theorem data_ofD (l : List Nat) : (ofD l).data.toList = l.map fun d => UInt8.ofNat (d + 48) := by simp [ofD]
theorem toList_ofD (l : List Nat) : (ofD l).toList = l.map fun d => UInt8.ofNat (d + 48) := by rw [ByteArray.toList_eq, data_ofD]
theorem ext_data {s t : ByteArray} (h : s.data.toList = t.data.toList) : s = t := by
  obtain ⟨⟨l⟩⟩ := s
  obtain ⟨⟨m⟩⟩ := t
  simpa using h
theorem ofD_append (l m : List Nat) : ofD l ++ ofD m = ofD (l ++ m) := by
  apply ext_data
  rw [ByteArray.data_append]
  simp [ofD]
theorem ofD_extract (l : List Nat) (a b : Nat) : (ofD l).extract a b = ofD ((l.drop a).take (b - a)) := by
  apply ext_data
  rw [Lib.extract_data, data_ofD, data_ofD]
  simp [List.map_take, List.map_drop]
theorem bt_ofD {l : List Nat} (h : Dg l) {i : Int} (h0 : 0 ≤ i) (h1 : i < l.length) : bt (ofD l) i = ((l.getD i.toNat 0 + 48 : Nat) : Int) := by
  have hs : i.toNat < (ofD l).size := by rw [size_ofD]; omega
  have hi : i.toNat < l.length := by omega
  have hd := h (l[i.toNat]) (List.getElem_mem hi)
  unfold bt
  rw [dif_pos hs]
  have e : (ofD l)[i.toNat] = UInt8.ofNat (l[i.toNat] + 48) := by
    show (ofD l).data[i.toNat] = _
    simp [ofD]
  rw [e, ofNat48 hd]
  simp [List.getD_eq_getElem?_getD, hi]
theorem ofD_inj {l m : List Nat} (hl : Dg l) (hm : Dg m) (h : ofD l = ofD m) : l = m := by
  have h1 : (ofD l).data.toList = (ofD m).data.toList := by rw [h]
  rw [data_ofD, data_ofD] at h1
  clear h
  induction l generalizing m with
  | nil => cases m with
    | nil => rfl
    | cons e m => simp at h1
  | cons d l ih => cases m with
    | nil => simp at h1
    | cons e m =>
      simp only [List.map_cons, List.cons.injEq] at h1
      have a := ofNat48 hl.head
      have b := ofNat48 hm.head
      rw [h1.1, b] at a
      rw [ih hl.tail hm.tail h1.2]
      simp; omega
theorem toList_inj {l m : List Nat} (hl : Dg l) (hm : Dg m) : (ofD l).toList = (ofD m).toList ↔ l = m := by
  constructor
  · intro h
    rw [ByteArray.toList_eq, ByteArray.toList_eq] at h
    exact ofD_inj hl hm (ext_data h)
  · rintro rfl; rfl
theorem toList_nil {l : List Nat} : (ofD l).toList = [] ↔ l = [] := by rw [toList_ofD]; simp
theorem ofD_zero : (⟨#[48]⟩ : ByteArray) = ofD [0] := rfl
theorem ofD_one : (⟨#[49]⟩ : ByteArray) = ofD [1] := rfl
theorem ofD_five : (⟨#[53]⟩ : ByteArray) = ofD [5] := rfl
theorem ofD_nil : (⟨#[]⟩ : ByteArray) = ofD [] := rfl
theorem strOfNums_ofD (l : List Nat) : strOfNums (l.map fun d => ((d + 48 : Nat) : Int)) = ofD l := by
  unfold strOfNums ofD
  rw [List.map_map]
  simp only [Function.comp_def, Int.toNat_natCast]
/-- A text all of whose bytes are digits. -/
theorem of_bytes (s : ByteArray) (h : ∀ i : Nat, i < s.size → 48 ≤ bt s i ∧ bt s i ≤ 57) : ∃ l, Dg l ∧ s = ofD l := by
  refine ⟨s.data.toList.map fun c => c.toNat - 48, ?_, ?_⟩
  · intro d hd
    obtain ⟨c, hc, rfl⟩ := List.mem_map.1 hd
    obtain ⟨i, hi, rfl⟩ := List.mem_iff_getElem.1 hc
    have hi2 : i < s.size := by simpa using hi
    have := h i hi2
    unfold bt at this
    rw [dif_pos (by simpa using hi2)] at this
    have e : s.data.toList[i].toNat = (s[((i : Nat) : Int).toNat]'(by simpa using hi2)).toNat := by simp; rfl
    omega
  · apply ext_data
    rw [data_ofD, List.map_map]
    conv => lhs; rw [← List.map_id s.data.toList]
    apply List.map_congr_left
    intro c hc
    obtain ⟨i, hi, rfl⟩ := List.mem_iff_getElem.1 hc
    have hi2 : i < s.size := by simpa using hi
    have := h i hi2
    unfold bt at this
    rw [dif_pos (by simpa using hi2)] at this
    have e : s.data.toList[i].toNat = (s[((i : Nat) : Int).toNat]'(by simpa using hi2)).toNat := by simp; rfl
    simp only [id, Function.comp]
    apply UInt8.toNat_inj.1
    rw [UInt8.toNat_ofNat']
    have := s.data.toList[i].toNat_lt
    omega
theorem bytesLess_ofD : ∀ {l m : List Nat}, Dg l → Dg m → l.length = m.length → Op.bytesLess (ofD l).toList (ofD m).toList = decide (val l < val m) := by
  intro l m hl hm h
  rw [toList_ofD, toList_ofD]
  induction l generalizing m with
  | nil => cases m with
    | nil => simp [Op.bytesLess, val]
    | cons e m => simp at h
  | cons d l ih => cases m with
    | nil => simp at h
    | cons e m =>
      have h1 : l.length = m.length := by simpa using h
      simp only [List.map_cons, Op.bytesLess, ih hl.tail hm.tail h1]
      have a := ofNat48 hl.head
      have b := ofNat48 hm.head
      have e1 : (UInt8.ofNat (d + 48) < UInt8.ofNat (e + 48)) = (d < e) := by rw [UInt8.lt_iff_toNat_lt, a, b]; simp
      have e2 : (UInt8.ofNat (d + 48) == UInt8.ofNat (e + 48)) = (d == e) := by
        rw [Bool.eq_iff_iff]; simp only [beq_iff_eq, ← UInt8.toNat_inj, a, b]; omega
      rw [e2]
      simp only [val, h1]
      have va := val_lt hl.tail
      have vb := val_lt hm.tail
      rw [h1] at va
      rw [Bool.eq_iff_iff]
      simp only [Bool.or_eq_true, decide_eq_true_eq, Bool.and_eq_true, beq_iff_eq, e1]
      constructor
      · rintro (h2 | ⟨rfl, h2⟩)
        · have : (d + 1) * 10 ^ m.length ≤ e * 10 ^ m.length := Nat.mul_le_mul_right _ h2
          rw [Nat.add_mul] at this
          omega
        · omega
      · intro h2
        rcases Nat.lt_trichotomy d e with h3 | h3 | h3
        · exact .inl h3
        · exact .inr ⟨h3, by subst h3; omega⟩
        · have : (e + 1) * 10 ^ m.length ≤ d * 10 ^ m.length := Nat.mul_le_mul_right _ h3
          rw [Nat.add_mul] at this
          omega
theorem dropWhile_ofD {l : List Nat} (h : Dg l) : (l.map fun d => UInt8.ofNat (d + 48)).dropWhile (· == 48) = (l.dropWhile (· == 0)).map fun d => UInt8.ofNat (d + 48) := by
  induction l with
  | nil => rfl
  | cons d l ih =>
    have a := ofNat48 h.head
    have e : (UInt8.ofNat (d + 48) == 48) = (d == 0) := by
      rw [Bool.eq_iff_iff]; simp only [beq_iff_eq, ← UInt8.toNat_inj, a]; simp
    simp only [List.map_cons, List.dropWhile_cons, e]
    split
    · exact ih h.tail
    · simp
def tl (l : List Nat) : List Nat := l.dropWhile (· == 0)
def tt (l : List Nat) : List Nat := tl (l.reverse.dropWhile (· == 0)).reverse
theorem Dg.dropWhile {l : List Nat} (h : Dg l) : Dg (l.dropWhile (· == 0)) := fun x hx => h x (List.dropWhile_sublist _ |>.subset hx)
theorem Dg.reverse {l : List Nat} (h : Dg l) : Dg l.reverse := fun x hx => h x (by simpa using hx)
theorem Dg.tl {l : List Nat} (h : Dg l) : Dg (tl l) := h.dropWhile
theorem Dg.tt {l : List Nat} (h : Dg l) : Dg (tt l) := (h.reverse.dropWhile).reverse.tl
theorem trimLeft_ofD {l : List Nat} (h : Dg l) : (⟨(Lib.trimLeftB (ofD l).data.toList 48).toArray⟩ : ByteArray) = ofD (tl l) := by
  apply ext_data
  rw [data_ofD, data_ofD]
  simp only [Lib.trimLeftB, tl]
  rw [dropWhile_ofD h]
theorem trim_ofD {l : List Nat} (h : Dg l) : (⟨(Lib.trimB (ofD l).data.toList 48).toArray⟩ : ByteArray) = ofD (tt l) := by
  apply ext_data
  rw [data_ofD, data_ofD]
  simp only [Lib.trimB, Lib.trimRightB, Lib.trimLeftB, tt, tl]
  rw [← List.map_reverse, dropWhile_ofD h.reverse, ← List.map_reverse, dropWhile_ofD (h.reverse.dropWhile).reverse]
theorem dropWhile_nil {l : List Nat} : l.dropWhile (· == 0) = [] ↔ ∀ d ∈ l, d = 0 := by
  induction l with
  | nil => simp
  | cons d l ih =>
    simp only [List.dropWhile_cons, List.mem_cons, forall_eq_or_imp]
    split
    · rename_i h; simp at h; simp [h, ih]
    · rename_i h; simp at h; simp [h]
theorem tl_nil {l : List Nat} : tl l = [] ↔ val l = 0 := by rw [val_eq_zero]; exact dropWhile_nil
theorem tt_nil {l : List Nat} : tt l = [] ↔ val l = 0 := by
  rw [tt, tl_nil, val_eq_zero, val_eq_zero]
  constructor
  · intro h d hd
    by_cases hz : ∀ d ∈ l.reverse, d = 0
    · exact hz d (by simpa using hd)
    · exfalso
      apply hz
      rw [← dropWhile_nil]
      cases e : l.reverse.dropWhile (· == 0) with
      | nil => rfl
      | cons x t =>
        have h1 := h x (by rw [e]; simp)
        have h2 := List.head_dropWhile_not (fun d : Nat => d == 0) (l := l.reverse) (by rw [e]; simp)
        simp only [e, List.head_cons, h1] at h2
        simp at h2
  · intro h d hd
    have hd' := (List.dropWhile_sublist _).subset (List.mem_reverse.1 hd)
    exact h d (by simpa using hd')
theorem tl_lead (l : List Nat) : lead l = if tl l = [] then (if l = [] then [0] else [0]) else tl l := by
  fun_induction lead l with
  | case1 => simp [tl]
  | case2 d => by_cases h : d = 0 <;> simp [tl, h]
  | case3 e t ih => rw [ih]; simp [tl]
  | case4 d e t h => simp [tl, h]
theorem lead_of_tl (l : List Nat) : lead l = if tl l = [] then [0] else tl l := by rw [tl_lead]; split <;> simp
theorem val_tl (l : List Nat) : val (tl l) = val l := by
  induction l with
  | nil => rfl
  | cons d l ih =>
    simp only [tl, List.dropWhile_cons] at ih ⊢
    split
    · rename_i h; simp at h; simp [val, h, ih]
    · rfl
theorem repeat_ofD (n : Nat) : (⟨(Lib.repeatL (⟨#[48]⟩ : ByteArray).data.toList n).toArray⟩ : ByteArray) = ofD (List.replicate n 0) := by
  apply ext_data
  rw [data_ofD]
  simp only [List.map_replicate]
  induction n with
  | zero => rfl
  | succ n ih =>
    simp only [Lib.repeatL, List.replicate_succ]
    show (⟨#[48]⟩ : ByteArray).data.toList ++ Lib.repeatL (⟨#[48]⟩ : ByteArray).data.toList n = _
    rw [show Lib.repeatL (⟨#[48]⟩ : ByteArray).data.toList n = List.replicate n (UInt8.ofNat (0 + 48)) from ih]
    rfl
end Go.Proofs.YtpmhebdaphjinaaDoor.Dig
