/- Part 5 of 7 of the proof of the law RoundModes: it is true at every input. Conditions: those of the given row, no others. -/
import Derived.Test.YtpmhebdaphjinaaDoorPkRoundModes0
import Derived.Test.YtpmhebdaphjinaaDoorPkRoundModes1
import Derived.Test.YtpmhebdaphjinaaDoorPkRoundModes3
namespace Go.Proofs.YtpmhebdaphjinaaDoor.F
open Go.RowKit Go.Proofs.YtpmhebdaphjinaaDoorW.PrintWords Go.Proofs.YtpmhebdaphjinaaDoorW.PrintLast Go.Proofs.YtpmhebdaphjinaaDoorW.PrintMore Go.Proofs.YtpmhebdaphjinaaDoor.Q
attribute [local go_sem] max2_int min2_int max_two min_two max_three min_three max_four min_four   -- for this text's walks alone
set_option linter.unusedVariables false
set_option linter.unusedSimpArgs false

attribute [local go_sem high] eqA23
mutual
def idiomlaw03_RoundModes.l0 : Nat → Int → List (S23) → Int → Bool → ByteArray → ByteArray → Option (Bool)
 | 0, _, _, _, _, _, _ => none
 | k + 1, x1, x5, x6, x348000, x348001, x348002 => if x6 ≤ 7 then ((round_Places.f k x348000 x348001 x348002 x6 x1).bind fun bt351 => (if bt351.2.2.2 = 0 then (if 0 ≤ x6 then (if x6 < (x5.length : Int) then (idiomlaw03_RoundModes.l0 k x1 (x5.set (x6 : Int).toNat (⟨bt351.1, bt351.2.1, bt351.2.2.1⟩ : S23)) (wrap64 (x6 + 1)) x348000 x348001 x348002) else (none)) else (none)) else ((idiomref03_Places.f k x348000 x348001 x348002 x6 x1).bind fun bt357 => (if bt351.2.2.2 = bt357.2.2.2 then ((idiomlaw03_awake.f k).bind fun t362 => (some t362)) else (none))))) else (if 4 < (x5.length : Int) then ((idiomref02_Compare.f k ((rd_T23 x5 4).f0) ((rd_T23 x5 4).f1) ((rd_T23 x5 4).f2) x348000 x348001 x348002).bind fun bt364 => (if 3 < (x5.length : Int) then ((idiomref02_Compare.f k ((rd_T23 x5 3).f0) ((rd_T23 x5 3).f1) ((rd_T23 x5 3).f2) x348000 x348001 x348002).bind fun bt367 => (if 2 < (x5.length : Int) then ((idiomlaw03_worth.f ((rd_T23 x5 2).f0) ((rd_T23 x5 2).f1) ((rd_T23 x5 2).f2)).bind fun bt370 => ((idiomlaw03_worth.f x348000 x348001 x348002).bind fun bt373 => ((idiomref02_Compare.f k bt370.1 bt370.2.1 bt370.2.2 bt373.1 bt373.2.1 bt373.2.2).bind fun bt376 => (if 1 < (x5.length : Int) then ((idiomlaw03_worth.f ((rd_T23 x5 1).f0) ((rd_T23 x5 1).f1) ((rd_T23 x5 1).f2)).bind fun bt379 => ((idiomlaw03_worth.f x348000 x348001 x348002).bind fun bt382 => ((idiomref02_Compare.f k bt379.1 bt379.2.1 bt379.2.2 bt382.1 bt382.2.1 bt382.2.2).bind fun bt385 => (if bt364.1 > 0 then (idiomlaw03_RoundModes.j1 k x1 x5 true x348000 x348001 x348002) else (if bt367.1 < 0 then (idiomlaw03_RoundModes.j1 k x1 x5 true x348000 x348001 x348002) else (if bt376.1 > 0 then (idiomlaw03_RoundModes.j1 k x1 x5 true x348000 x348001 x348002) else (idiomlaw03_RoundModes.j1 k x1 x5 (decide (bt385.1 < 0)) x348000 x348001 x348002))))))) else (none))))) else (none))) else (none))) else (none))
def idiomlaw03_RoundModes.j1 : Nat → Int → List (S23) → Bool → Bool → ByteArray → ByteArray → Option (Bool)
 | 0, _, _, _, _, _, _ => none
 | k + 1, x1, x5, x104, x348000, x348001, x348002 => if x104 = true then (none) else (idiomlaw03_RoundModes.l1 k x1 x5 5 x348000 x348001 x348002)
def idiomlaw03_RoundModes.l1 : Nat → Int → List (S23) → Int → Bool → ByteArray → ByteArray → Option (Bool)
 | 0, _, _, _, _, _, _ => none
 | k + 1, x1, x5, x19, x348000, x348001, x348002 => if x19 ≤ 7 then (if 0 ≤ x19 then (if x19 < (x5.length : Int) then (if 4 < (x5.length : Int) then (if (!(((rd_T23 x5 x19).f0) == ((rd_T23 x5 4).f0)) || (!((((rd_T23 x5 x19).f1).toList) == (((rd_T23 x5 4).f1).toList)) || (!((((rd_T23 x5 x19).f2).toList) == (((rd_T23 x5 4).f2).toList))))) = true then (if 3 < (x5.length : Int) then (if (!(((rd_T23 x5 x19).f0) == ((rd_T23 x5 3).f0)) || (!((((rd_T23 x5 x19).f1).toList) == (((rd_T23 x5 3).f1).toList)) || (!((((rd_T23 x5 x19).f2).toList) == (((rd_T23 x5 3).f2).toList))))) = true then (none) else (idiomlaw03_RoundModes.l1 k x1 x5 (wrap64 (x19 + 1)) x348000 x348001 x348002)) else (none)) else (idiomlaw03_RoundModes.l1 k x1 x5 (wrap64 (x19 + 1)) x348000 x348001 x348002)) else (none)) else (none)) else (none)) else ((round_Places.f k x348000 x348001 x348002 8 x1).bind fun bt391 => (if 4 < (x5.length : Int) then (if 3 < (x5.length : Int) then ((idiomref02_Compare.f k ((rd_T23 x5 4).f0) ((rd_T23 x5 4).f1) ((rd_T23 x5 4).f2) ((rd_T23 x5 3).f0) ((rd_T23 x5 3).f1) ((rd_T23 x5 3).f2)).bind fun bt398 => (if ((bt391.2.2.2 == 0) == (bt398.1 == 0)) = true then (if bt391.2.2.2 = 0 then ((idiomlaw03_awake.f k).bind fun t400 => (some t400)) else (if bt391.2.2.2 = 31 then ((idiomlaw03_awake.f k).bind fun t401 => (some t401)) else (none))) else (none))) else (none)) else (none)))
end
def idiomlaw03_RoundModes.f (k : Nat) (a0_0 : Bool) (a0_1 : ByteArray) (a0_2 : ByteArray) (a1 : Int) : Option (Bool) := if 9 ≤ 7036874417766 then (idiomlaw03_RoundModes.l0 k a1 (List.replicate 9 z23) 1 a0_0 a0_1 a0_2) else (none)
theorem idiomlaw03_RoundModes.mono_l : ∀ k, (∀ y0 y1 y2 y3 y4 y5, LeO (idiomlaw03_RoundModes.l0 k y0 y1 y2 y3 y4 y5) (idiomlaw03_RoundModes.l0 (k + 1) y0 y1 y2 y3 y4 y5)) ∧ (∀ y0 y1 y2 y3 y4 y5, LeO (idiomlaw03_RoundModes.j1 k y0 y1 y2 y3 y4 y5) (idiomlaw03_RoundModes.j1 (k + 1) y0 y1 y2 y3 y4 y5)) ∧ (∀ y0 y1 y2 y3 y4 y5, LeO (idiomlaw03_RoundModes.l1 k y0 y1 y2 y3 y4 y5) (idiomlaw03_RoundModes.l1 (k + 1) y0 y1 y2 y3 y4 y5))
 | 0 => ⟨fun _ _ _ _ _ _ r h => by simp [idiomlaw03_RoundModes.l0] at h, fun _ _ _ _ _ _ r h => by simp [idiomlaw03_RoundModes.j1] at h, fun _ _ _ _ _ _ r h => by simp [idiomlaw03_RoundModes.l1] at h⟩
 | k + 1 => by
  obtain ⟨ih0, ih1, ih2⟩ := idiomlaw03_RoundModes.mono_l k
  refine ⟨?_, ?_, ?_⟩
  · intro y0 y1 y2 y3 y4 y5
    unfold idiomlaw03_RoundModes.l0
    repeat' first
    | (with_reducible exact ih0 _ _ _ _ _ _)
    | (with_reducible exact ih1 _ _ _ _ _ _)
    | (with_reducible exact ih2 _ _ _ _ _ _)
    | (with_reducible exact idiomlaw03_awake.mono _)
    | (with_reducible exact idiomref02_Compare.mono _ _ _ _ _ _ _)
    | (with_reducible exact idiomref03_Places.mono _ _ _ _ _ _)
    | (with_reducible exact round_Places.mono _ _ _ _ _ _)
    | (with_reducible exact LeO.refl _)
    | (with_reducible exact LeO.none _)
    | (with_reducible refine LeO.ite ?_ ?_)
    | (with_reducible refine LeO.bind ?_ (fun _ => ?_))
    | exact ih0 _ _ _ _ _ _
    | exact ih1 _ _ _ _ _ _
    | exact ih2 _ _ _ _ _ _
    | exact idiomlaw03_awake.mono _
    | exact idiomref02_Compare.mono _ _ _ _ _ _ _
    | exact idiomref03_Places.mono _ _ _ _ _ _
    | exact round_Places.mono _ _ _ _ _ _
    | exact LeO.none _
    | refine LeO.ite ?_ ?_
    | refine LeO.bind ?_ (fun _ => ?_)
  · intro y0 y1 y2 y3 y4 y5
    unfold idiomlaw03_RoundModes.j1
    repeat' first
    | (with_reducible exact ih0 _ _ _ _ _ _)
    | (with_reducible exact ih1 _ _ _ _ _ _)
    | (with_reducible exact ih2 _ _ _ _ _ _)
    | (with_reducible exact idiomlaw03_awake.mono _)
    | (with_reducible exact idiomref02_Compare.mono _ _ _ _ _ _ _)
    | (with_reducible exact idiomref03_Places.mono _ _ _ _ _ _)
    | (with_reducible exact round_Places.mono _ _ _ _ _ _)
    | (with_reducible exact LeO.refl _)
    | (with_reducible exact LeO.none _)
    | (with_reducible refine LeO.ite ?_ ?_)
    | (with_reducible refine LeO.bind ?_ (fun _ => ?_))
    | exact ih0 _ _ _ _ _ _
    | exact ih1 _ _ _ _ _ _
    | exact ih2 _ _ _ _ _ _
    | exact idiomlaw03_awake.mono _
    | exact idiomref02_Compare.mono _ _ _ _ _ _ _
    | exact idiomref03_Places.mono _ _ _ _ _ _
    | exact round_Places.mono _ _ _ _ _ _
    | exact LeO.none _
    | refine LeO.ite ?_ ?_
    | refine LeO.bind ?_ (fun _ => ?_)
  · intro y0 y1 y2 y3 y4 y5
    unfold idiomlaw03_RoundModes.l1
    repeat' first
    | (with_reducible exact ih0 _ _ _ _ _ _)
    | (with_reducible exact ih1 _ _ _ _ _ _)
    | (with_reducible exact ih2 _ _ _ _ _ _)
    | (with_reducible exact idiomlaw03_awake.mono _)
    | (with_reducible exact idiomref02_Compare.mono _ _ _ _ _ _ _)
    | (with_reducible exact idiomref03_Places.mono _ _ _ _ _ _)
    | (with_reducible exact round_Places.mono _ _ _ _ _ _)
    | (with_reducible exact LeO.refl _)
    | (with_reducible exact LeO.none _)
    | (with_reducible refine LeO.ite ?_ ?_)
    | (with_reducible refine LeO.bind ?_ (fun _ => ?_))
    | exact ih0 _ _ _ _ _ _
    | exact ih1 _ _ _ _ _ _
    | exact ih2 _ _ _ _ _ _
    | exact idiomlaw03_awake.mono _
    | exact idiomref02_Compare.mono _ _ _ _ _ _ _
    | exact idiomref03_Places.mono _ _ _ _ _ _
    | exact round_Places.mono _ _ _ _ _ _
    | exact LeO.none _
    | refine LeO.ite ?_ ?_
    | refine LeO.bind ?_ (fun _ => ?_)
theorem idiomlaw03_RoundModes.mono : ∀ a0 a1 a2 a3 k, LeO (idiomlaw03_RoundModes.f k a0 a1 a2 a3) (idiomlaw03_RoundModes.f (k + 1) a0 a1 a2 a3) := by
 intro a0 a1 a2 a3 k
 obtain ⟨ih0, ih1, ih2⟩ := idiomlaw03_RoundModes.mono_l k
 unfold idiomlaw03_RoundModes.f
 repeat' first
  | (with_reducible exact ih0 _ _ _ _ _ _)
  | (with_reducible exact ih1 _ _ _ _ _ _)
  | (with_reducible exact ih2 _ _ _ _ _ _)
  | (with_reducible exact idiomlaw03_awake.mono _)
  | (with_reducible exact idiomref02_Compare.mono _ _ _ _ _ _ _)
  | (with_reducible exact idiomref03_Places.mono _ _ _ _ _ _)
  | (with_reducible exact round_Places.mono _ _ _ _ _ _)
  | (with_reducible exact LeO.refl _)
  | (with_reducible exact LeO.none _)
  | (with_reducible refine LeO.ite ?_ ?_)
  | (with_reducible refine LeO.bind ?_ (fun _ => ?_))
  | exact ih0 _ _ _ _ _ _
  | exact ih1 _ _ _ _ _ _
  | exact ih2 _ _ _ _ _ _
  | exact idiomlaw03_awake.mono _
  | exact idiomref02_Compare.mono _ _ _ _ _ _ _
  | exact idiomref03_Places.mono _ _ _ _ _ _
  | exact round_Places.mono _ _ _ _ _ _
  | exact LeO.none _
  | refine LeO.ite ?_ ?_
  | refine LeO.bind ?_ (fun _ => ?_)
def idiomlaw03_RoundModes.T10 : Bool × List (List Nat × List Nat) := (true, [([], []), ([0], [0]), ([1], [1]), ([], []), ([2, 3], [2, 3]), ([4], [4]), ([5], [5]), ([5], [5]), ([6, 4, 0, 1, 2, 3, 4, 5, 6], [6]), ([7, 8, 0, 1, 2, 3, 4, 5, 6, 7, 8], [7])])
def idiomlaw03_RoundModes.B10 : List Nat := [0, 1, 3, 0, 15, 31, 63, 63, 127, 511]
theorem idiomlaw03_RoundModes.tab10 : rtab .any (opsOf Tryd.f5 10) = idiomlaw03_RoundModes.T10 := by kernel_rfl
theorem idiomlaw03_RoundModes.bits10 : waitsOk idiomlaw03_RoundModes.T10.2 idiomlaw03_RoundModes.B10 = true := by kernel_rfl
def idiomlaw03_RoundModes.T11 : Bool × List (List Nat × List Nat) := (true, [([], []), ([0], [0]), ([1], [1]), ([], []), ([2, 3], [2, 3]), ([4], [4]), ([5], [5]), ([5], [5]), ([6, 4, 0, 1, 2, 3, 4, 5, 6], [6]), ([7, 8, 0, 1, 2, 3, 4, 5, 6, 7, 8], [7])])
def idiomlaw03_RoundModes.B11 : List Nat := [0, 1, 3, 0, 15, 31, 63, 63, 127, 511]
theorem idiomlaw03_RoundModes.tab11 : rtab .any (opsOf Tryd.f5 11) = idiomlaw03_RoundModes.T11 := by kernel_rfl
theorem idiomlaw03_RoundModes.bits11 : waitsOk idiomlaw03_RoundModes.T11.2 idiomlaw03_RoundModes.B11 = true := by kernel_rfl
def idiomlaw03_RoundModes.T12 : Bool × List (List Nat × List Nat) := (true, [([], []), ([0], [0]), ([1], [1]), ([2], [2]), ([], []), ([4, 3], [4]), ([3, 5, 5], [3, 5]), ([6], [6]), ([7], [7]), ([7], [7]), ([8, 6, 0, 1, 2, 3, 4, 5, 6, 7, 8], [8]), ([9, 10, 0, 1, 2, 3, 4, 5, 6, 7, 8, 9, 10], [9])])
def idiomlaw03_RoundModes.B12 : List Nat := [0, 1, 3, 7, 0, 31, 63, 127, 255, 255, 511, 2047]
theorem idiomlaw03_RoundModes.tab12 : rtab .any (opsOf Tryd.f5 12) = idiomlaw03_RoundModes.T12 := by kernel_rfl
theorem idiomlaw03_RoundModes.bits12 : waitsOk idiomlaw03_RoundModes.T12.2 idiomlaw03_RoundModes.B12 = true := by kernel_rfl
def idiomlaw03_RoundModes.T13 : Bool × List (List Nat × List Nat) := (true, [([], []), ([0], [0]), ([1], [1]), ([2], [2]), ([], []), ([4, 3], [4]), ([3, 5, 5], [3, 5]), ([6], [6]), ([7], [7]), ([7], [7]), ([8, 6, 0, 1, 2, 3, 4, 5, 6, 7, 8], [8]), ([9, 10, 0, 1, 2, 3, 4, 5, 6, 7, 8, 9, 10], [9])])
def idiomlaw03_RoundModes.B13 : List Nat := [0, 1, 3, 7, 0, 31, 63, 127, 255, 255, 511, 2047]
theorem idiomlaw03_RoundModes.tab13 : rtab .any (opsOf Tryd.f5 13) = idiomlaw03_RoundModes.T13 := by kernel_rfl
theorem idiomlaw03_RoundModes.bits13 : waitsOk idiomlaw03_RoundModes.T13.2 idiomlaw03_RoundModes.B13 = true := by kernel_rfl
def idiomlaw03_RoundModes.T19 : Bool × List (List Nat × List Nat) := (true, [([], []), ([], []), ([0, 1], [0, 1]), ([2], [2]), ([], []), ([4], [4]), ([5], [5]), ([3, 6], [3, 6]), ([7], [7]), ([8], [8]), ([8], [8]), ([9, 10, 8], [8, 9, 10]), ([11, 8], [8, 11]), ([8], [8]), ([13, 8], [8, 13]), ([14, 8], [8, 14]), ([12, 15, 8], [8, 12, 15]), ([8, 16], [8, 16])])
def idiomlaw03_RoundModes.B19 : List Nat := [0, 0, 3, 7, 0, 16, 48, 127, 255, 511, 511, 2047, 4095, 511, 8703, 25087, 65535, 131071]
theorem idiomlaw03_RoundModes.tab19 : rtab .any (opsOf Tryd.f5 19) = idiomlaw03_RoundModes.T19 := by kernel_rfl
theorem idiomlaw03_RoundModes.bits19 : waitsOk idiomlaw03_RoundModes.T19.2 idiomlaw03_RoundModes.B19 = true := by kernel_rfl
def idiomlaw03_RoundModes.T22 : Bool × List (List Nat × List Nat) := (true, [([], []), ([0], [0]), ([1], [1]), ([], []), ([3], [3]), ([4], [4]), ([2, 5], [2, 5]), ([6], [6]), ([7], [7]), ([7], [7]), ([8, 6, 0, 1, 2, 3, 4, 5, 6, 7, 8], [8]), ([9, 10, 0, 1, 2, 3, 4, 5, 6, 7, 8, 9, 10], [9])])
def idiomlaw03_RoundModes.B22 : List Nat := [0, 1, 3, 0, 8, 24, 63, 127, 255, 255, 511, 2047]
theorem idiomlaw03_RoundModes.tab22 : rtab .any (opsOf Tryd.f5 22) = idiomlaw03_RoundModes.T22 := by kernel_rfl
theorem idiomlaw03_RoundModes.bits22 : waitsOk idiomlaw03_RoundModes.T22.2 idiomlaw03_RoundModes.B22 = true := by kernel_rfl
set_option maxHeartbeats 8000000 in
set_option maxRecDepth 100000 in
theorem idiomlaw03_RoundModes.calls (k : Nat) (a0_0 : Bool) (a0_1 : ByteArray) (a0_2 : ByteArray) (a1 : Int) (r : Bool) (w : World) (h : idiomlaw03_RoundModes.f k a0_0 a0_1 a0_2 a1 = some r) :
 Calls Tryd.prog 5 #[.agg #[.bool a0_0, .string a0_1, .string a0_2], .int .i64 a1] w fun e w' => e = .returned (.bool r) ∧ Below w.heap.size w w' := by
 have hu23 := Tryd.underlying23
 have HB := Aside0.mk (Below.refl w.heap.size w)
 have H : (if 9 ≤ 7036874417766 then (idiomlaw03_RoundModes.l0 k a1 (List.replicate 9 z23) 1 a0_0 a0_1 a0_2) else (none)) = some r := h
 clear h
 by_cases c3 : 9 ≤ 7036874417766
 · rw [if_pos c3] at H
   have c3b0 := eq_true c3
   have c3b1 : decide (9 ≤ 7036874417766) = true := decide_eq_true c3
   clear c3
   obtain ⟨y348, hy348⟩ : ∃ y_ : List (S23), y_ = (List.replicate 9 z23) := ⟨_, rfl⟩
   replace H : (idiomlaw03_RoundModes.l0 k a1 y348 1 a0_0 a0_1 a0_2) = some r := by first | (rw [hy348]; with_reducible exact H) | (have H2_ := (Option.bind_some _ _).symm.trans H; rw [hy348]; with_reducible exact H2_) | (have H2_ := (Option.bind_some _ _).symm.trans H; with_reducible exact H2_) | with_reducible exact H | (rw [hy348]; exact H) | exact H
   have Ny348 := Aside0.mk hy348
   clear hy348
   have H' := Aside0.mk H
   clear H
   go_enter Tryd.func5, Tryd.ntmps5
   go_wp2_with (first | ((with_reducible refine gate_dst (N := 2) rfl ?_); refine qx 2 #[.bool a0_0, .string a0_1, .string a0_2] 23 ?_; intro gb347 hg w4 hbox hb; have BK347 := Aside0.mk (hbox); have GW347 := qs hg HB; have GE347 := GW347; replace HB := qn HB hb; clear hb hbox hg) | ((with_reducible refine gate_dst (N := 24) rfl ?_); refine Kd.R_make k23 _ 23 rfl (N := 24) rfl 34 _ _ rfl 9 rfl rfl Tryd.underlying34 (.agg #[(.bool false), (.string ⟨#[]⟩), (.string ⟨#[]⟩)]) 40 info23 rfl (by decide) (by omega) z23 (ok := fun _ => True) (okp := fun _ => True) (k23_mkM _ _ _ z23 ) (fun _ hk => hk) trivial (by omega) (by omega) (Below.refl _ _) (Nat.le_refl _) ?_; intro v349 w5 ho6 hb hg_ hnew_; clear hg_ hnew_; (first | rw [← Ny348.out] at ho6 | (simp only [Int.reduceToNat] at ho6; rw [← Ny348.out] at ho6)); have HO350 := Aside0.mk (Kd.R_lower (Kd.R_newB ho6 (g := gb347) (o := .cells #[.bool a0_0, .string a0_1, .string a0_2] 23 (0, 0)) (qk BK347)) (below_size (qh HB))); replace BK347 := qb BK347 hb; replace HB := qn HB hb; clear hb ho6))
   (try simp only [Act.put, List.setIfInBounds_toArray, List.set_cons_zero, List.set_cons_succ])
   go_loopg [6] k (fun kq v6 w' => ∃ (x5_1 : List (S23)) (x6_1 : Int) (x348000_1 : Bool) (x348001_1 : ByteArray) (x348002_1 : ByteArray), v6 = .int .i64 x6_1 ∧ Aside0 (idiomlaw03_RoundModes.l0 kq a1 x5_1 x6_1 x348000_1 x348001_1 x348002_1 = some r) ∧ Aside0 (kq ≤ k) ∧ Aside0 (Kd.R k23 23 w' w.heap.size (fun k_ => k_ ≠ gb347) v349 x5_1) ∧ Aside0 (w'.heap[gb347]? = some (.cells #[.bool x348000_1, .string x348001_1, .string x348002_1] 23 (0, 0))) ∧ Aside0 (Below w.heap.size w w'))
   case atStart => exact ⟨(y348), (1), (a0_0), (a0_1), (a0_2), (by first | rfl | (simp; done) | (simp [*]; done)), H', ⟨Nat.le_refl _⟩, ⟨by (with_reducible repeat (first | apply Kd.R_alloc | apply Kd.R_drewN | apply Kd.R_drew)); exact Kd.R_mono HO350.out (fun _ hk => hk.2)⟩, ⟨qk BK347⟩, ⟨qh HB⟩⟩
   case round =>
    clear H'
    try clear p2
    try clear c3
    try clear c3b0
    try clear c3b1
    try clear c5
    obtain ⟨x5_1, x6_1, x348000_1, x348001_1, x348002_1, rfl, HA, HK1, HO_5, BK347, HB⟩ := hrel
    cases gk with
    | zero => exact absurd HA.out (by simp [idiomlaw03_RoundModes.l0])
    | succ k1 =>
     have H := HA.out
     clear HA
     simp only [idiomlaw03_RoundModes.l0] at H
     by_cases c7 : x6_1 ≤ 7
     · rw [if_pos c7] at H
       have c7b0 : decide (x6_1 ≤ 7) = true := decide_eq_true c7
       clear c7
       replace H := Option.bind_eq_some_iff.mp H
       obtain ⟨⟨t351, t352, t353, t354⟩, A80, H⟩ := H
       replace H : (if t354 = 0 then (if 0 ≤ x6_1 then (if x6_1 < (x5_1.length : Int) then (idiomlaw03_RoundModes.l0 k1 a1 (x5_1.set (x6_1 : Int).toNat (⟨t351, t352, t353⟩ : S23)) (wrap64 (x6_1 + 1)) x348000_1 x348001_1 x348002_1) else (none)) else (none)) else ((idiomref03_Places.f k1 x348000_1 x348001_1 x348002_1 x6_1 a1).bind fun bt357 => (if t354 = bt357.2.2.2 then ((idiomlaw03_awake.f k1).bind fun t362 => (some t362)) else (none)))) = some r := H
       have A8 := Aside0.mk A80
       clear A80
       by_cases c9 : t354 = 0
       · rw [if_pos c9] at H
         have c9b0 : (t354 == 0) = true := beq_iff_eq.mpr c9
         have c9b1 : (t354 != 0) = false := bne_eq_false_iff_eq.mpr c9
         try have c9b1z := c9b1
         (try simp only [bne] at c9b1z)
         clear c9
         by_cases c10 : 0 ≤ x6_1
         · rw [if_pos c10] at H
           have c10b0 : decide (0 ≤ x6_1) = true := decide_eq_true c10
           clear c10
           by_cases c11 : x6_1 < (x5_1.length : Int)
           · rw [if_pos c11] at H
             have c11b0 : decide (x6_1 < (x5_1.length : Int)) = true := decide_eq_true c11
             clear c11
             obtain ⟨y356, hy356⟩ : ∃ y_ : List (S23), y_ = (x5_1.set (x6_1 : Int).toNat (⟨t351, t352, t353⟩ : S23)) := ⟨_, rfl⟩
             replace H : (idiomlaw03_RoundModes.l0 k1 a1 y356 (wrap64 (x6_1 + 1)) x348000_1 x348001_1 x348002_1) = some r := by first | (rw [hy356]; with_reducible exact H) | (have H2_ := (Option.bind_some _ _).symm.trans H; rw [hy356]; with_reducible exact H2_) | (have H2_ := (Option.bind_some _ _).symm.trans H; with_reducible exact H2_) | with_reducible exact H | (rw [hy356]; exact H) | exact H
             have Ny356 := Aside0.mk hy356
             clear hy356
             have H' := Aside0.mk H
             clear H
             obtain ⟨hcz13_0, hcz13_1, hcz13_2, hfz13_0, hfz13_1, hfz13_2⟩ := q3 BK347
             go_wp2_with (first | ((with_reducible refine gate_callee (f := 10) rfl ?_); refine goesL_ (some 33) rfl rfl Tryd.func10 (by kernel_rfl) rfl #[.agg #[.bool x348000_1, .string x348001_1, .string x348002_1], .int .i64 x6_1, .int .i64 a1] rfl ql ?_; (with_reducible refine (round_Places.calls k1 x348000_1 x348001_1 x348002_1 x6_1 a1 t351 t352 t353 t354 _ A8.out).mono ?_); rintro e w14 ⟨rfl, hb⟩; refine ⟨_, rfl, ?_⟩; replace HO_5 := Aside0.mk (Kd.R_below (by (with_reducible repeat (first | apply Kd.R_alloc | apply Kd.R_drewN | apply Kd.R_drew)); exact HO_5.out) hb); replace BK347 := qb BK347 hb; replace HB := qn HB hb; (try clear hb); (try clear hb2); (try clear hk); (try clear hi)) | ((with_reducible refine gate_dst (N := 7) rfl ?_); refine qx 7 #[.bool false, .string (⟨#[]⟩ : ByteArray), .string (⟨#[]⟩ : ByteArray)] 23 ?_; intro gb355 hg w15 hbox hb; have BK355 := Aside0.mk (hbox); have GW355 := qs hg HB; have GE355 := GW355; have NB347_355 := ql_ hg BK347; have NB355_347 := qg_ hg BK347; replace HO_5 := Aside0.mk (Kd.R_below (Kd.R_elderB (by (with_reducible repeat (first | apply Kd.R_alloc | apply Kd.R_drewN | apply Kd.R_drew)); exact HO_5.out) gb355 (Nat.le_of_eq hg.symm)) hb); replace BK347 := qb BK347 hb; replace HB := qn HB hb; clear hb hbox hg; have hnb16 := NB355_347.out; have hnc16 := NB347_355.out; obtain ⟨hcz17_0, hcz17_1, hcz17_2, hfz17_0, hfz17_1, hfz17_2⟩ := q3 BK355) | ((with_reducible refine gate_store (t := 23) (p := 7) rfl ?_); refine store_event (t := 23) (p := 7) (v := ?vo_w18) (w1 := (((w15.setCell ⟨gb355, 0, none⟩ (.bool t351)).setCell ⟨gb355, 1, none⟩ (.string t352)).setCell ⟨gb355, 2, none⟩ (.string t353))) ?hg ?ho ?hn ?hr ?_; (case ho => rfl); (case hg => rfl); (case hn => rfl); (case hr => first | (go_simp; done) | (go_simp; rfl)); intro w18 hw; have n0_ : Aside0 (Kd.R k23 23 w18 w.heap.size (fun k_ => k_ ≠ gb347 ∧ k_ ≠ gb355) v349 x5_1) := ⟨(by rw [hw]; exact (by (with_reducible repeat (first | apply Kd.R_alloc | apply Kd.R_drewN | apply Kd.R_drew)); exact Kd.R_mono (Kd.R_far (p := ⟨gb355, 2, none⟩) (Kd.R_far (p := ⟨gb355, 1, none⟩) (Kd.R_far (p := ⟨gb355, 0, none⟩) (Kd.R_mono HO_5.out (fun k_ hk => (⟨hk, hk.2⟩ : _ ∧ k_ ≠ gb355))) (fun _ hk => hk.2) (.bool t351)) (fun _ hk => hk.2) (.string t352)) (fun _ hk => hk.2) (.string t353)) (fun _ hk => ⟨hk.1.1, hk.1.2⟩)))⟩; have n1_ : Aside0 (w18.heap[gb347]? = some (.cells #[.bool x348000_1, .string x348001_1, .string x348002_1] 23 (0, 0))) := ⟨(by rw [hw]; exact (by refine qf NB347_355 ?_; refine qf NB347_355 ?_; refine qf NB347_355 ?_; exact qk BK347))⟩; have n2_ : Aside0 (w18.heap[gb355]? = some (.cells #[.bool t351, .string t352, .string t353] 23 (0, 0))) := ⟨(by rw [hw]; exact (by refine qp 2 #[.bool t351, .string t352, .string (⟨#[]⟩ : ByteArray)] ?_; refine qp 1 #[.bool t351, .string (⟨#[]⟩ : ByteArray), .string (⟨#[]⟩ : ByteArray)] ?_; refine qp 0 #[.bool false, .string (⟨#[]⟩ : ByteArray), .string (⟨#[]⟩ : ByteArray)] ?_; exact qk BK355))⟩; have n3_ : Aside0 (Below w.heap.size w w18) := ⟨(by rw [hw]; exact (qh HB))⟩; clear hw; clear HO_5; clear BK347; clear BK355; clear HB; have HO_5 := n0_; have BK347 := n1_; have BK355 := n2_; have HB := n3_; clear n0_ n1_ n2_ n3_; obtain ⟨hcz19_0, hcz19_1, hcz19_2, hfz19_0, hfz19_1, hfz19_2⟩ := q3 BK355; have p12 : 0 ≤ (x6_1 : Int) := of_decide_eq_true qa; have q12 : (x6_1 : Int) < ((x5_1.length : Int) : Int) := of_decide_eq_true qa; obtain ⟨go12, co12, eo12, gb12, gl12, cl12, HG12⟩ := Kd.R_form HO_5.out (by omega); (first | cases eo12 | (injection eo12 with ea_ en_ ec_; (first | subst ea_ | (injection ea_ with ea_; subst ea_)); subst ec_; clear en_)); have GB12 := Aside0.mk gb12; have GG12 := Aside0.mk HG12; clear gb12 gl12 HG12; obtain ⟨ce12, hcl12, hM12, hcc12, hfr12⟩ := Kd.R_elem HO_5.out z23 (x6_1 : Int) p12 q12; obtain rfl := k23_openM hM12; have hx12_0 : w18.cell? ⟨go12, (x6_1 : Int).toNat * 3, none⟩ = some (.bool ((rd_T23 x5_1 x6_1).f0)) := hcc12 0 _ rfl; have hx12_1 : w18.cell? ⟨go12, (x6_1 : Int).toNat * 3 + 1, none⟩ = some (.string ((rd_T23 x5_1 x6_1).f1)) := hcc12 1 _ rfl; have hx12_2 : w18.cell? ⟨go12, (x6_1 : Int).toNat * 3 + 2, none⟩ = some (.string ((rd_T23 x5_1 x6_1).f2)) := hcc12 2 _ rfl; have hf12_0 : w18.frozen? ⟨go12, (x6_1 : Int).toNat * 3, none⟩ = false := hfr12 0; have hf12_1 : w18.frozen? ⟨go12, (x6_1 : Int).toNat * 3 + 1, none⟩ = false := hfr12 1; have hf12_2 : w18.frozen? ⟨go12, (x6_1 : Int).toNat * 3 + 2, none⟩ = false := hfr12 2; clear hcl12 hcc12 hfr12 hM12; replace p12 := eq_true p12; replace q12 := eq_true q12; have HX20 := Aside0.mk (show Kd.R k23 23 w18 w.heap.size (fun k_ => k_ ≠ gb347 ∧ k_ ≠ gb355) (.slice (some ⟨go12, 0, none⟩) x5_1.length co12) x5_1 from (by (with_reducible repeat (first | apply Kd.R_alloc | apply Kd.R_drewN | apply Kd.R_drew)); exact HO_5.out)); obtain ⟨ce20, hcl20, hM20, hcc20, hfr20⟩ := Kd.R_elem HX20.out z23 (x6_1 : Int) (of_decide_eq_true qa) (by have h_ : (x6_1 : Int) < ((x5_1.length : Int) : Int) := of_decide_eq_true qa; first | exact h_ | (have e_ := (Kd.R_reads' HO_5.out).1; omega) | simpa using h_); obtain rfl := k23_openM hM20; have HP20 := Kd.R_seg HX20.out (x6_1 : Int) (of_decide_eq_true qa) (by have h_ : (x6_1 : Int) < ((x5_1.length : Int) : Int) := of_decide_eq_true qa; first | exact h_ | (have e_ := (Kd.R_reads' HO_5.out).1; omega) | simpa using h_) (seg := [.bool t351, .string t352, .string t353]) (j := 0) hcl20 hcc20 (show 3 ≤ 3 from by decide) (x' := (⟨t351, t352, t353⟩ : S23)) (k23_mkM _ _ _ (⟨t351, t352, t353⟩ : S23) ) (fun _ hk => hk); have hx20_0 := hcc20 0 _ rfl; (try simp only [show (k23).sz = 3 from rfl, Nat.mul_one, Nat.add_zero] at hx20_0); have hf20_0 := hfr20 0; (try simp only [show (k23).sz = 3 from rfl, Nat.mul_one, Nat.add_zero] at hf20_0); have hx20_1 := hcc20 1 _ rfl; (try simp only [show (k23).sz = 3 from rfl, Nat.mul_one, Nat.add_zero] at hx20_1); have hf20_1 := hfr20 1; (try simp only [show (k23).sz = 3 from rfl, Nat.mul_one, Nat.add_zero] at hf20_1); have hx20_2 := hcc20 2 _ rfl; (try simp only [show (k23).sz = 3 from rfl, Nat.mul_one, Nat.add_zero] at hx20_2); have hf20_2 := hfr20 2; (try simp only [show (k23).sz = 3 from rfl, Nat.mul_one, Nat.add_zero] at hf20_2); clear hcl20 hcc20 hfr20 hM20) | ((with_reducible refine gate_store (t := 23) (p := 54) rfl ?_); refine store_event (t := 23) (p := 54) (v := ?vo_w21) (w1 := (((w18.setCell ⟨go12, (x6_1 : Int).toNat * 3, none⟩ (.bool t351)).setCell ⟨go12, (x6_1 : Int).toNat * 3 + 1, none⟩ (.string t352)).setCell ⟨go12, (x6_1 : Int).toNat * 3 + 2, none⟩ (.string t353))) ?hg ?ho ?hn ?hr ?_; (case ho => rfl); (case hg => rfl); (case hn => rfl); (case hr => first | (go_simp; done) | (go_simp; rfl)); intro w21 hw; have hg : w18.grownBy w21 (some go12) := (by rw [hw]; exact HP20.2); have hp_ : Kd.R k23 23 w21 w.heap.size (fun k_ => k_ ≠ gb347 ∧ k_ ≠ gb355) (.slice (some ⟨go12, 0, none⟩) x5_1.length co12) y356 := (by rw [hw, Ny356.out]; exact HP20.1); clear HP20; replace BK347 := Aside0.mk (blk_grown (g := gb347) (o := .cells #[.bool x348000_1, .string x348001_1, .string x348002_1] 23 (0, 0)) (qk BK347) hg (Kd.R_away HO_5.out (fun _ hk => hk.1))); replace BK355 := Aside0.mk (blk_grown (g := gb355) (o := .cells #[.bool t351, .string t352, .string t353] 23 (0, 0)) (qk BK355) hg (Kd.R_away HO_5.out (fun _ hk => hk.2))); replace HO_5 := Aside0.mk (hp_); replace HB := Aside0.mk ((by rw [hw]; exact below_set (below_set (below_set (HB.out) GB12.out) GB12.out) GB12.out : Below w.heap.size w w21)); clear hg hw hp_))
             go_roundg k1
             case measure => have := HK1.out; omega
             case rel => exact ⟨(y356), (wrap64 (x6_1 + 1)), (x348000_1), (x348001_1), (x348002_1), (by first | rfl | (simp; done) | (simp [*]; done)), H', ⟨by have := HK1.out; omega⟩, ⟨by (with_reducible repeat (first | apply Kd.R_alloc | apply Kd.R_drewN | apply Kd.R_drew)); exact Kd.R_mono HO_5.out (fun _ hk => hk.1)⟩, ⟨qk BK347⟩, ⟨qh HB⟩⟩
           · rw [if_neg c11] at H
             exact absurd H (by simp)
         · rw [if_neg c10] at H
           exact absurd H (by simp)
       · rw [if_neg c9] at H
         have c9b0 : (t354 == 0) = false := beq_eq_false_iff_ne.mpr c9
         have c9b1 : (t354 != 0) = true := bne_iff_ne.mpr c9
         try have c9b1z := c9b1
         (try simp only [bne] at c9b1z)
         replace H := Option.bind_eq_some_iff.mp H
         obtain ⟨⟨t357, t358, t359, t360⟩, A220, H⟩ := H
         replace H : (if t354 = t360 then ((idiomlaw03_awake.f k1).bind fun t362 => (some t362)) else (none)) = some r := H
         have A22 := Aside0.mk A220
         clear A220
         by_cases c23 : t354 = t360
         · rw [if_pos c23] at H
           have c23b0 : (t354 == t360) = true := beq_iff_eq.mpr c23
           have c23b1 : (t354 != t360) = false := bne_eq_false_iff_eq.mpr c23
           try have c23b1z := c23b1
           (try simp only [bne] at c23b1z)
           clear c23
           replace H := Option.bind_eq_some_iff.mp H
           obtain ⟨t362, A240, H⟩ := H
           replace H : (some t362) = some r := H
           have A24 := Aside0.mk A240
           clear A240
           obtain rfl := Option.some.inj H
           obtain ⟨hcz25_0, hcz25_1, hcz25_2, hfz25_0, hfz25_1, hfz25_2⟩ := q3 BK347
           go_wp2_with (first | ((with_reducible refine gate_callee (f := 10) rfl ?_); refine goesL_ (some 33) rfl rfl Tryd.func10 (by kernel_rfl) rfl #[.agg #[.bool x348000_1, .string x348001_1, .string x348002_1], .int .i64 x6_1, .int .i64 a1] rfl ql ?_; (with_reducible refine (round_Places.calls k1 x348000_1 x348001_1 x348002_1 x6_1 a1 t351 t352 t353 t354 _ A8.out).mono ?_); rintro e w26 ⟨rfl, hb⟩; refine ⟨_, rfl, ?_⟩; replace HO_5 := Aside0.mk (Kd.R_below (by (with_reducible repeat (first | apply Kd.R_alloc | apply Kd.R_drewN | apply Kd.R_drew)); exact HO_5.out) hb); replace BK347 := qb BK347 hb; replace HB := qn HB hb; (try clear hb); (try clear hb2); (try clear hk); (try clear hi)) | ((with_reducible refine gate_dst (N := 7) rfl ?_); refine qx 7 #[.bool false, .string (⟨#[]⟩ : ByteArray), .string (⟨#[]⟩ : ByteArray)] 23 ?_; intro gb355 hg w27 hbox hb; have BK355 := Aside0.mk (hbox); have GW355 := qs hg HB; have GE355 := GW355; have NB347_355 := ql_ hg BK347; have NB355_347 := qg_ hg BK347; replace HO_5 := Aside0.mk (Kd.R_below (Kd.R_elderB (by (with_reducible repeat (first | apply Kd.R_alloc | apply Kd.R_drewN | apply Kd.R_drew)); exact HO_5.out) gb355 (Nat.le_of_eq hg.symm)) hb); replace BK347 := qb BK347 hb; replace HB := qn HB hb; clear hb hbox hg; have hnb28 := NB355_347.out; have hnc28 := NB347_355.out; obtain ⟨hcz29_0, hcz29_1, hcz29_2, hfz29_0, hfz29_1, hfz29_2⟩ := q3 BK355; obtain ⟨hcz30_0, hcz30_1, hcz30_2, hfz30_0, hfz30_1, hfz30_2⟩ := q3 BK347) | ((with_reducible refine gate_callee (f := 11) rfl ?_); refine goesL_ (some 42) rfl rfl Tryd.func11 (by kernel_rfl) rfl #[.agg #[.bool x348000_1, .string x348001_1, .string x348002_1], .int .i64 x6_1, .int .i64 a1] rfl ql ?_; (with_reducible refine (idiomref03_Places.calls k1 x348000_1 x348001_1 x348002_1 x6_1 a1 t357 t358 t359 t360 _ A22.out).mono ?_); rintro e w31 ⟨rfl, hb⟩; refine ⟨_, rfl, ?_⟩; replace HO_5 := Aside0.mk (Kd.R_below (by (with_reducible repeat (first | apply Kd.R_alloc | apply Kd.R_drewN | apply Kd.R_drew)); exact (Kd.R_mono (Kd.R_far (p := ⟨gb355, 2, none⟩) (Kd.R_far (p := ⟨gb355, 1, none⟩) (Kd.R_far (p := ⟨gb355, 0, none⟩) (Kd.R_mono HO_5.out (fun k_ hk => (⟨hk, hk.2⟩ : _ ∧ k_ ≠ gb355))) (fun _ hk => hk.2) (.bool t351)) (fun _ hk => hk.2) (.string t352)) (fun _ hk => hk.2) (.string t353)) (fun _ h_ => h_.1))) hb); replace BK347 := Aside0.mk (blk_below (g := gb347) (o := .cells #[.bool x348000_1, .string x348001_1, .string x348002_1] 23 (0, 0)) (by refine qf NB347_355 ?_; refine qf NB347_355 ?_; refine qf NB347_355 ?_; exact qk BK347) hb); replace BK355 := Aside0.mk (blk_below (g := gb355) (o := .cells #[.bool t351, .string t352, .string t353] 23 (0, 0)) (by refine qp 2 #[.bool t351, .string t352, .string (⟨#[]⟩ : ByteArray)] ?_; refine qp 1 #[.bool t351, .string (⟨#[]⟩ : ByteArray), .string (⟨#[]⟩ : ByteArray)] ?_; refine qp 0 #[.bool false, .string (⟨#[]⟩ : ByteArray), .string (⟨#[]⟩ : ByteArray)] ?_; exact qk BK355) hb); replace HB := qn HB hb; (try clear hb); (try clear hb2); (try clear hk); (try clear hi)) | ((with_reducible refine gate_dst (N := 9) rfl ?_); refine qx 9 #[.bool false, .string (⟨#[]⟩ : ByteArray), .string (⟨#[]⟩ : ByteArray)] 23 ?_; intro gb361 hg w32 hbox hb; have BK361 := Aside0.mk (hbox); have GW361 := qs hg HB; have GE361 := GW361; have NB347_361 := ql_ hg BK347; have NB361_347 := qg_ hg BK347; have NB355_361 := ql_ hg BK355; have NB361_355 := qg_ hg BK355; replace HO_5 := Aside0.mk (Kd.R_below (Kd.R_elderB (by (with_reducible repeat (first | apply Kd.R_alloc | apply Kd.R_drewN | apply Kd.R_drew)); exact HO_5.out) gb361 (Nat.le_of_eq hg.symm)) hb); replace BK347 := qb BK347 hb; replace BK355 := qb BK355 hb; replace HB := qn HB hb; clear hb hbox hg; have hnb33 := NB361_347.out; have hnc33 := NB347_361.out; have hnb34 := NB361_355.out; have hnc34 := NB355_361.out; obtain ⟨hcz35_0, hcz35_1, hcz35_2, hfz35_0, hfz35_1, hfz35_2⟩ := q3 BK361) | (go_at_call 12; (with_reducible refine (idiomlaw03_awake.calls k1  t362 _ A24.out).mono ?_); rintro e w36 ⟨rfl, hb⟩; replace HO_5 := Aside0.mk (Kd.R_below (by (with_reducible repeat (first | apply Kd.R_alloc | apply Kd.R_drewN | apply Kd.R_drew)); exact (Kd.R_mono (Kd.R_far (p := ⟨gb361, 2, none⟩) (Kd.R_far (p := ⟨gb361, 1, none⟩) (Kd.R_far (p := ⟨gb361, 0, none⟩) (Kd.R_mono HO_5.out (fun k_ hk => (⟨hk, hk.2⟩ : _ ∧ k_ ≠ gb361))) (fun _ hk => hk.2) (.bool t357)) (fun _ hk => hk.2) (.string t358)) (fun _ hk => hk.2) (.string t359)) (fun _ h_ => h_.1))) hb); replace BK347 := Aside0.mk (blk_below (g := gb347) (o := .cells #[.bool x348000_1, .string x348001_1, .string x348002_1] 23 (0, 0)) (by refine qf NB347_361 ?_; refine qf NB347_361 ?_; refine qf NB347_361 ?_; exact qk BK347) hb); replace BK355 := Aside0.mk (blk_below (g := gb355) (o := .cells #[.bool t351, .string t352, .string t353] 23 (0, 0)) (by refine qf NB355_361 ?_; refine qf NB355_361 ?_; refine qf NB355_361 ?_; exact qk BK355) hb); replace BK361 := Aside0.mk (blk_below (g := gb361) (o := .cells #[.bool t357, .string t358, .string t359] 23 (0, 0)) (by refine qp 2 #[.bool t357, .string t358, .string (⟨#[]⟩ : ByteArray)] ?_; refine qp 1 #[.bool t357, .string (⟨#[]⟩ : ByteArray), .string (⟨#[]⟩ : ByteArray)] ?_; refine qp 0 #[.bool false, .string (⟨#[]⟩ : ByteArray), .string (⟨#[]⟩ : ByteArray)] ?_; exact qk BK361) hb); replace HB := qn HB hb; (try clear hb); (try clear hb2); (try clear hk); (try clear hi)))
           go_ret
           exact ⟨qe, qh HB⟩
         · rw [if_neg c23] at H
           exact absurd H (by simp)
     · rw [if_neg c7] at H
       have c7b0 : decide (x6_1 ≤ 7) = false := decide_eq_false c7
       clear c7
       by_cases c37 : 4 < (x5_1.length : Int)
       · rw [if_pos c37] at H
         have c37b0 : decide (4 < (x5_1.length : Int)) = true := decide_eq_true c37
         have c37b1 : decide (4 < x5_1.length) = true := decide_eq_true (by omega)
         clear c37
         replace H := Option.bind_eq_some_iff.mp H
         obtain ⟨⟨t364, t365⟩, A380, H⟩ := H
         replace H : (if 3 < (x5_1.length : Int) then ((idiomref02_Compare.f k1 ((rd_T23 x5_1 3).f0) ((rd_T23 x5_1 3).f1) ((rd_T23 x5_1 3).f2) x348000_1 x348001_1 x348002_1).bind fun bt367 => (if 2 < (x5_1.length : Int) then ((idiomlaw03_worth.f ((rd_T23 x5_1 2).f0) ((rd_T23 x5_1 2).f1) ((rd_T23 x5_1 2).f2)).bind fun bt370 => ((idiomlaw03_worth.f x348000_1 x348001_1 x348002_1).bind fun bt373 => ((idiomref02_Compare.f k1 bt370.1 bt370.2.1 bt370.2.2 bt373.1 bt373.2.1 bt373.2.2).bind fun bt376 => (if 1 < (x5_1.length : Int) then ((idiomlaw03_worth.f ((rd_T23 x5_1 1).f0) ((rd_T23 x5_1 1).f1) ((rd_T23 x5_1 1).f2)).bind fun bt379 => ((idiomlaw03_worth.f x348000_1 x348001_1 x348002_1).bind fun bt382 => ((idiomref02_Compare.f k1 bt379.1 bt379.2.1 bt379.2.2 bt382.1 bt382.2.1 bt382.2.2).bind fun bt385 => (if t364 > 0 then (idiomlaw03_RoundModes.j1 k1 a1 x5_1 true x348000_1 x348001_1 x348002_1) else (if bt367.1 < 0 then (idiomlaw03_RoundModes.j1 k1 a1 x5_1 true x348000_1 x348001_1 x348002_1) else (if bt376.1 > 0 then (idiomlaw03_RoundModes.j1 k1 a1 x5_1 true x348000_1 x348001_1 x348002_1) else (idiomlaw03_RoundModes.j1 k1 a1 x5_1 (decide (bt385.1 < 0)) x348000_1 x348001_1 x348002_1))))))) else (none))))) else (none))) else (none)) = some r := H
         have A38 := Aside0.mk A380
         clear A380
         by_cases c39 : 3 < (x5_1.length : Int)
         · rw [if_pos c39] at H
           have c39b0 : decide (3 < (x5_1.length : Int)) = true := decide_eq_true c39
           have c39b1 : decide (3 < x5_1.length) = true := decide_eq_true (by omega)
           clear c39
           replace H := Option.bind_eq_some_iff.mp H
           obtain ⟨⟨t367, t368⟩, A400, H⟩ := H
           replace H : (if 2 < (x5_1.length : Int) then ((idiomlaw03_worth.f ((rd_T23 x5_1 2).f0) ((rd_T23 x5_1 2).f1) ((rd_T23 x5_1 2).f2)).bind fun bt370 => ((idiomlaw03_worth.f x348000_1 x348001_1 x348002_1).bind fun bt373 => ((idiomref02_Compare.f k1 bt370.1 bt370.2.1 bt370.2.2 bt373.1 bt373.2.1 bt373.2.2).bind fun bt376 => (if 1 < (x5_1.length : Int) then ((idiomlaw03_worth.f ((rd_T23 x5_1 1).f0) ((rd_T23 x5_1 1).f1) ((rd_T23 x5_1 1).f2)).bind fun bt379 => ((idiomlaw03_worth.f x348000_1 x348001_1 x348002_1).bind fun bt382 => ((idiomref02_Compare.f k1 bt379.1 bt379.2.1 bt379.2.2 bt382.1 bt382.2.1 bt382.2.2).bind fun bt385 => (if t364 > 0 then (idiomlaw03_RoundModes.j1 k1 a1 x5_1 true x348000_1 x348001_1 x348002_1) else (if t367 < 0 then (idiomlaw03_RoundModes.j1 k1 a1 x5_1 true x348000_1 x348001_1 x348002_1) else (if bt376.1 > 0 then (idiomlaw03_RoundModes.j1 k1 a1 x5_1 true x348000_1 x348001_1 x348002_1) else (idiomlaw03_RoundModes.j1 k1 a1 x5_1 (decide (bt385.1 < 0)) x348000_1 x348001_1 x348002_1))))))) else (none))))) else (none)) = some r := H
           have A40 := Aside0.mk A400
           clear A400
           by_cases c41 : 2 < (x5_1.length : Int)
           · rw [if_pos c41] at H
             have c41b0 : decide (2 < (x5_1.length : Int)) = true := decide_eq_true c41
             have c41b1 : decide (2 < x5_1.length) = true := decide_eq_true (by omega)
             clear c41
             replace H := Option.bind_eq_some_iff.mp H
             obtain ⟨⟨t370, t371, t372⟩, A420, H⟩ := H
             replace H : ((idiomlaw03_worth.f x348000_1 x348001_1 x348002_1).bind fun bt373 => ((idiomref02_Compare.f k1 t370 t371 t372 bt373.1 bt373.2.1 bt373.2.2).bind fun bt376 => (if 1 < (x5_1.length : Int) then ((idiomlaw03_worth.f ((rd_T23 x5_1 1).f0) ((rd_T23 x5_1 1).f1) ((rd_T23 x5_1 1).f2)).bind fun bt379 => ((idiomlaw03_worth.f x348000_1 x348001_1 x348002_1).bind fun bt382 => ((idiomref02_Compare.f k1 bt379.1 bt379.2.1 bt379.2.2 bt382.1 bt382.2.1 bt382.2.2).bind fun bt385 => (if t364 > 0 then (idiomlaw03_RoundModes.j1 k1 a1 x5_1 true x348000_1 x348001_1 x348002_1) else (if t367 < 0 then (idiomlaw03_RoundModes.j1 k1 a1 x5_1 true x348000_1 x348001_1 x348002_1) else (if bt376.1 > 0 then (idiomlaw03_RoundModes.j1 k1 a1 x5_1 true x348000_1 x348001_1 x348002_1) else (idiomlaw03_RoundModes.j1 k1 a1 x5_1 (decide (bt385.1 < 0)) x348000_1 x348001_1 x348002_1))))))) else (none)))) = some r := H
             have A42 := Aside0.mk A420
             clear A420
             replace H := Option.bind_eq_some_iff.mp H
             obtain ⟨⟨t373, t374, t375⟩, A430, H⟩ := H
             replace H : ((idiomref02_Compare.f k1 t370 t371 t372 t373 t374 t375).bind fun bt376 => (if 1 < (x5_1.length : Int) then ((idiomlaw03_worth.f ((rd_T23 x5_1 1).f0) ((rd_T23 x5_1 1).f1) ((rd_T23 x5_1 1).f2)).bind fun bt379 => ((idiomlaw03_worth.f x348000_1 x348001_1 x348002_1).bind fun bt382 => ((idiomref02_Compare.f k1 bt379.1 bt379.2.1 bt379.2.2 bt382.1 bt382.2.1 bt382.2.2).bind fun bt385 => (if t364 > 0 then (idiomlaw03_RoundModes.j1 k1 a1 x5_1 true x348000_1 x348001_1 x348002_1) else (if t367 < 0 then (idiomlaw03_RoundModes.j1 k1 a1 x5_1 true x348000_1 x348001_1 x348002_1) else (if bt376.1 > 0 then (idiomlaw03_RoundModes.j1 k1 a1 x5_1 true x348000_1 x348001_1 x348002_1) else (idiomlaw03_RoundModes.j1 k1 a1 x5_1 (decide (bt385.1 < 0)) x348000_1 x348001_1 x348002_1))))))) else (none))) = some r := H
             have A43 := Aside0.mk A430
             clear A430
             replace H := Option.bind_eq_some_iff.mp H
             obtain ⟨⟨t376, t377⟩, A440, H⟩ := H
             replace H : (if 1 < (x5_1.length : Int) then ((idiomlaw03_worth.f ((rd_T23 x5_1 1).f0) ((rd_T23 x5_1 1).f1) ((rd_T23 x5_1 1).f2)).bind fun bt379 => ((idiomlaw03_worth.f x348000_1 x348001_1 x348002_1).bind fun bt382 => ((idiomref02_Compare.f k1 bt379.1 bt379.2.1 bt379.2.2 bt382.1 bt382.2.1 bt382.2.2).bind fun bt385 => (if t364 > 0 then (idiomlaw03_RoundModes.j1 k1 a1 x5_1 true x348000_1 x348001_1 x348002_1) else (if t367 < 0 then (idiomlaw03_RoundModes.j1 k1 a1 x5_1 true x348000_1 x348001_1 x348002_1) else (if t376 > 0 then (idiomlaw03_RoundModes.j1 k1 a1 x5_1 true x348000_1 x348001_1 x348002_1) else (idiomlaw03_RoundModes.j1 k1 a1 x5_1 (decide (bt385.1 < 0)) x348000_1 x348001_1 x348002_1))))))) else (none)) = some r := H
             have A44 := Aside0.mk A440
             clear A440
             by_cases c45 : 1 < (x5_1.length : Int)
             · rw [if_pos c45] at H
               have c45b0 : decide (1 < (x5_1.length : Int)) = true := decide_eq_true c45
               have c45b1 : decide (1 < x5_1.length) = true := decide_eq_true (by omega)
               clear c45
               replace H := Option.bind_eq_some_iff.mp H
               obtain ⟨⟨t379, t380, t381⟩, A460, H⟩ := H
               replace H : ((idiomlaw03_worth.f x348000_1 x348001_1 x348002_1).bind fun bt382 => ((idiomref02_Compare.f k1 t379 t380 t381 bt382.1 bt382.2.1 bt382.2.2).bind fun bt385 => (if t364 > 0 then (idiomlaw03_RoundModes.j1 k1 a1 x5_1 true x348000_1 x348001_1 x348002_1) else (if t367 < 0 then (idiomlaw03_RoundModes.j1 k1 a1 x5_1 true x348000_1 x348001_1 x348002_1) else (if t376 > 0 then (idiomlaw03_RoundModes.j1 k1 a1 x5_1 true x348000_1 x348001_1 x348002_1) else (idiomlaw03_RoundModes.j1 k1 a1 x5_1 (decide (bt385.1 < 0)) x348000_1 x348001_1 x348002_1)))))) = some r := H
               have A46 := Aside0.mk A460
               clear A460
               replace H := Option.bind_eq_some_iff.mp H
               obtain ⟨⟨t382, t383, t384⟩, A470, H⟩ := H
               replace H : ((idiomref02_Compare.f k1 t379 t380 t381 t382 t383 t384).bind fun bt385 => (if t364 > 0 then (idiomlaw03_RoundModes.j1 k1 a1 x5_1 true x348000_1 x348001_1 x348002_1) else (if t367 < 0 then (idiomlaw03_RoundModes.j1 k1 a1 x5_1 true x348000_1 x348001_1 x348002_1) else (if t376 > 0 then (idiomlaw03_RoundModes.j1 k1 a1 x5_1 true x348000_1 x348001_1 x348002_1) else (idiomlaw03_RoundModes.j1 k1 a1 x5_1 (decide (bt385.1 < 0)) x348000_1 x348001_1 x348002_1))))) = some r := H
               have A47 := Aside0.mk A470
               clear A470
               replace H := Option.bind_eq_some_iff.mp H
               obtain ⟨⟨t385, t386⟩, A480, H⟩ := H
               replace H : (if t364 > 0 then (idiomlaw03_RoundModes.j1 k1 a1 x5_1 true x348000_1 x348001_1 x348002_1) else (if t367 < 0 then (idiomlaw03_RoundModes.j1 k1 a1 x5_1 true x348000_1 x348001_1 x348002_1) else (if t376 > 0 then (idiomlaw03_RoundModes.j1 k1 a1 x5_1 true x348000_1 x348001_1 x348002_1) else (idiomlaw03_RoundModes.j1 k1 a1 x5_1 (decide (t385 < 0)) x348000_1 x348001_1 x348002_1)))) = some r := H
               have A48 := Aside0.mk A480
               clear A480
               have HC49 := Aside0.mk H
               clear H
               try go_wp2
               replace HO_5 := Aside0.mk (Kd.R_drew HO_5.out)
               replace BK347 := Aside0.mk (blk_drew BK347.out)
               replace HB := Aside0.mk (below_drew1 HB.out)
               obtain ⟨Ao51, co51, eo51⟩ := Kd.R_slice HO_5.out
               (first | subst eo51 | (injection eo51 with f1_ f2_ f3_; have f4_ := f1_.symm; have f5_ := f3_.symm; clear f1_ f2_ f3_; subst f4_; subst f5_))
               have p363 : 0 ≤ (4 : Int) := (by omega)
               have q363 : 4 < (x5_1.length : Int) := of_decide_eq_true qa
               obtain ⟨ad363, e363, hx363_0, hx363_1, hx363_2⟩ := at_T23 (Kd.R_reads' HO_5.out).2.2 4 p363 q363
               cases e363
               (try simp only [show (4 : Int).toNat = 4 from rfl, Nat.reduceMul, Nat.reduceEqDiff, Go.Addr.add, ↓reduceIte] at hx363_0)
               (try simp only [show (4 : Int).toNat = 4 from rfl, Nat.reduceMul, Nat.reduceEqDiff, Go.Addr.add, ↓reduceIte] at hx363_1)
               (try simp only [show (4 : Int).toNat = 4 from rfl, Nat.reduceMul, Nat.reduceEqDiff, Go.Addr.add, ↓reduceIte] at hx363_2)
               have qi363 : (4 < x5_1.length) = True := eq_true (by omega)
               (try rw [show ((4 : Int)).toNat = 4 from rfl] at hx363_0)
               (try rw [show 4 * 3 = 12 from rfl] at hx363_0)
               (try rw [show ((4 : Int)).toNat = 4 from rfl] at hx363_1)
               (try rw [show 4 * 3 = 12 from rfl] at hx363_1)
               (try rw [show ((4 : Int)).toNat = 4 from rfl] at hx363_2)
               (try rw [show 4 * 3 = 12 from rfl] at hx363_2)
               replace p363 := eq_true p363
               replace q363 := eq_true q363
               refine start_ (n := 10) (S := fun w' => w'.cell? ⟨gb347, 0, none⟩ = some (.bool x348000_1) ∧ w'.cell? ⟨gb347, 1, none⟩ = some (.string x348001_1) ∧ w'.cell? ⟨gb347, 2, none⟩ = some (.string x348002_1) ∧ w'.cell? ⟨ad363.block, ad363.off + 12, none⟩ = some (.bool ((rd_T23 x5_1 4).f0)) ∧ w'.cell? ⟨ad363.block, ad363.off + 12 + 1, none⟩ = some (.string ((rd_T23 x5_1 4).f1)) ∧ w'.cell? ⟨ad363.block, ad363.off + 12 + 2, none⟩ = some (.string ((rd_T23 x5_1 4).f2))) (ds := []) #[false, false, false, false, false, false, false, false, false, false] (by kernel_rfl) rfl rfl ⟨c_ BK347 0, c_ BK347 1, c_ BK347 2, hx363_0, hx363_1, hx363_2⟩ (fun hHeld => ?_); refine with_tabW idiomlaw03_RoundModes.tab10 idiomlaw03_RoundModes.bits10 (fun HT_ HW_ => ?_)
               generalize wr.drew = w50 at HO_5 BK347 HB hx363_0 hx363_1 hx363_2 hHeld ⊢
               refine pz 0 (some 56) #[true, false, false, false, false, false, false, false, false, false] HT_ ?_
               refine pz 1 (some 57) #[true, true, false, false, false, false, false, false, false, false] HT_ ?_
               refine tw6 2 (some 58) #[true, true, true, false, false, false, false, false, false, false] HT_ HW_ hHeld ?_
               refine tw6 3 (some 59) #[true, true, true, true, false, false, false, false, false, false] HT_ HW_ hHeld ?_
               refine one_ (i := 4) (N := some 60) #[true, true, true, true, true, false, false, false, false, false] rfl rfl (one_of HT_.out (by kernel_rfl)) (by decide) (fun K hK => ?_)
               refine goes_ Tryd.func15 (by kernel_rfl) rfl #[.agg #[.bool ((rd_T23 x5_1 4).f0), .string ((rd_T23 x5_1 4).f1), .string ((rd_T23 x5_1 4).f2)], .agg #[.bool x348000_1, .string x348001_1, .string x348002_1]] (by rfl) rfl rfl ql ?_
               with_reducible refine (idiomref02_Compare.calls k1 ((rd_T23 x5_1 4).f0) ((rd_T23 x5_1 4).f1) ((rd_T23 x5_1 4).f2) x348000_1 x348001_1 x348002_1 t364 t365 _ A38.out).mono ?_
               rintro e w52 ⟨rfl, hb⟩
               have HS3_ := (hb.cell (World.block_lt_of_cell? _ _ (hHeld.2.2.2.1))).trans (hHeld.2.2.2.1)
               have HS4_ := (hb.cell (World.block_lt_of_cell? _ _ (hHeld.2.2.2.2.1))).trans (hHeld.2.2.2.2.1)
               have HS5_ := (hb.cell (World.block_lt_of_cell? _ _ (hHeld.2.2.2.2.2))).trans (hHeld.2.2.2.2.2)
               refine ⟨_, rfl, ?_⟩
               replace HO_5 := Aside0.mk (Kd.R_below (by (with_reducible repeat (first | apply Kd.R_alloc | apply Kd.R_drewN | apply Kd.R_drew)); exact HO_5.out) hb)
               replace BK347 := qb BK347 hb
               replace HB := qn HB hb
               (try clear hb)
               (try clear hb2)
               (try clear hk)
               (try clear hi)
               refine hK.out _ _ ⟨c_ BK347 0, c_ BK347 1, c_ BK347 2, HS3_, HS4_, HS5_⟩ (fun hHeld => ?_)
               clear hK K
               refine nz (some 60) ?_
               refine pz 5 (some 55) #[true, true, true, true, true, true, false, false, false, false] HT_ ?_
               refine pz 6 (some 61) #[true, true, true, true, true, true, true, false, false, false] HT_ ?_
               refine pz 7 (some 62) #[true, true, true, true, true, true, true, true, false, false] HT_ ?_
               refine pz 8 (some 11) #[true, true, true, true, true, true, true, true, true, false] HT_ ?_
               refine pz 9 (some 12) #[true, true, true, true, true, true, true, true, true, true] HT_ ?_
               refine done_ (done_of HT_.out (by kernel_rfl)) ?_
               try go_wp2
               replace HO_5 := Aside0.mk (Kd.R_drew HO_5.out)
               replace BK347 := Aside0.mk (blk_drew BK347.out)
               replace HB := Aside0.mk (below_drew1 HB.out)
               have p366 : 0 ≤ (3 : Int) := (by omega)
               have q366 : 3 < (x5_1.length : Int) := of_decide_eq_true qa
               obtain ⟨ad366, e366, hx366_0, hx366_1, hx366_2⟩ := at_T23 (Kd.R_reads' HO_5.out).2.2 3 p366 q366
               obtain rfl : ad363 = ad366 := (by injection e366)
               (try simp only [show (3 : Int).toNat = 3 from rfl, Nat.reduceMul, Nat.reduceEqDiff, Go.Addr.add, ↓reduceIte] at hx366_0)
               (try simp only [show (3 : Int).toNat = 3 from rfl, Nat.reduceMul, Nat.reduceEqDiff, Go.Addr.add, ↓reduceIte] at hx366_1)
               (try simp only [show (3 : Int).toNat = 3 from rfl, Nat.reduceMul, Nat.reduceEqDiff, Go.Addr.add, ↓reduceIte] at hx366_2)
               have qi366 : (3 < x5_1.length) = True := eq_true (by omega)
               (try rw [show ((3 : Int)).toNat = 3 from rfl] at hx366_0)
               (try rw [show 3 * 3 = 9 from rfl] at hx366_0)
               (try rw [show ((3 : Int)).toNat = 3 from rfl] at hx366_1)
               (try rw [show 3 * 3 = 9 from rfl] at hx366_1)
               (try rw [show ((3 : Int)).toNat = 3 from rfl] at hx366_2)
               (try rw [show 3 * 3 = 9 from rfl] at hx366_2)
               replace p366 := eq_true p366
               replace q366 := eq_true q366
               refine start_ (n := 10) (S := fun w' => w'.cell? ⟨gb347, 0, none⟩ = some (.bool x348000_1) ∧ w'.cell? ⟨gb347, 1, none⟩ = some (.string x348001_1) ∧ w'.cell? ⟨gb347, 2, none⟩ = some (.string x348002_1) ∧ w'.cell? ⟨ad363.block, ad363.off + 9, none⟩ = some (.bool ((rd_T23 x5_1 3).f0)) ∧ w'.cell? ⟨ad363.block, ad363.off + 9 + 1, none⟩ = some (.string ((rd_T23 x5_1 3).f1)) ∧ w'.cell? ⟨ad363.block, ad363.off + 9 + 2, none⟩ = some (.string ((rd_T23 x5_1 3).f2))) (ds := []) #[false, false, false, false, false, false, false, false, false, false] (by kernel_rfl) rfl rfl ⟨c_ BK347 0, c_ BK347 1, c_ BK347 2, hx366_0, hx366_1, hx366_2⟩ (fun hHeld => ?_); refine with_tabW idiomlaw03_RoundModes.tab11 idiomlaw03_RoundModes.bits11 (fun HT_ HW_ => ?_)
               generalize w52.drew = w53 at HO_5 BK347 HB hx366_0 hx366_1 hx366_2 hHeld ⊢
               refine pz 0 (some 64) #[true, false, false, false, false, false, false, false, false, false] HT_ ?_
               refine pz 1 (some 65) #[true, true, false, false, false, false, false, false, false, false] HT_ ?_
               refine tw6 2 (some 66) #[true, true, true, false, false, false, false, false, false, false] HT_ HW_ hHeld ?_
               refine tw6 3 (some 67) #[true, true, true, true, false, false, false, false, false, false] HT_ HW_ hHeld ?_
               refine one_ (i := 4) (N := some 68) #[true, true, true, true, true, false, false, false, false, false] rfl rfl (one_of HT_.out (by kernel_rfl)) (by decide) (fun K hK => ?_)
               refine goes_ Tryd.func15 (by kernel_rfl) rfl #[.agg #[.bool ((rd_T23 x5_1 3).f0), .string ((rd_T23 x5_1 3).f1), .string ((rd_T23 x5_1 3).f2)], .agg #[.bool x348000_1, .string x348001_1, .string x348002_1]] (by rfl) rfl rfl ql ?_
               with_reducible refine (idiomref02_Compare.calls k1 ((rd_T23 x5_1 3).f0) ((rd_T23 x5_1 3).f1) ((rd_T23 x5_1 3).f2) x348000_1 x348001_1 x348002_1 t367 t368 _ A40.out).mono ?_
               rintro e w54 ⟨rfl, hb⟩
               have HS3_ := (hb.cell (World.block_lt_of_cell? _ _ (hHeld.2.2.2.1))).trans (hHeld.2.2.2.1)
               have HS4_ := (hb.cell (World.block_lt_of_cell? _ _ (hHeld.2.2.2.2.1))).trans (hHeld.2.2.2.2.1)
               have HS5_ := (hb.cell (World.block_lt_of_cell? _ _ (hHeld.2.2.2.2.2))).trans (hHeld.2.2.2.2.2)
               refine ⟨_, rfl, ?_⟩
               replace HO_5 := Aside0.mk (Kd.R_below (by (with_reducible repeat (first | apply Kd.R_alloc | apply Kd.R_drewN | apply Kd.R_drew)); exact HO_5.out) hb)
               replace BK347 := qb BK347 hb
               replace HB := qn HB hb
               (try clear hb)
               (try clear hb2)
               (try clear hk)
               (try clear hi)
               refine hK.out _ _ ⟨c_ BK347 0, c_ BK347 1, c_ BK347 2, HS3_, HS4_, HS5_⟩ (fun hHeld => ?_)
               clear hK K
               refine nz (some 68) ?_
               refine pz 5 (some 63) #[true, true, true, true, true, true, false, false, false, false] HT_ ?_
               refine pz 6 (some 69) #[true, true, true, true, true, true, true, false, false, false] HT_ ?_
               refine pz 7 (some 70) #[true, true, true, true, true, true, true, true, false, false] HT_ ?_
               refine pz 8 (some 13) #[true, true, true, true, true, true, true, true, true, false] HT_ ?_
               refine pz 9 (some 14) #[true, true, true, true, true, true, true, true, true, true] HT_ ?_
               refine done_ (done_of HT_.out (by kernel_rfl)) ?_
               try go_wp2
               replace HO_5 := Aside0.mk (Kd.R_drew HO_5.out)
               replace BK347 := Aside0.mk (blk_drew BK347.out)
               replace HB := Aside0.mk (below_drew1 HB.out)
               have p369 : 0 ≤ (2 : Int) := (by omega)
               have q369 : 2 < (x5_1.length : Int) := of_decide_eq_true qa
               obtain ⟨ad369, e369, hx369_0, hx369_1, hx369_2⟩ := at_T23 (Kd.R_reads' HO_5.out).2.2 2 p369 q369
               obtain rfl : ad363 = ad369 := (by injection e369)
               (try simp only [show (2 : Int).toNat = 2 from rfl, Nat.reduceMul, Nat.reduceEqDiff, Go.Addr.add, ↓reduceIte] at hx369_0)
               (try simp only [show (2 : Int).toNat = 2 from rfl, Nat.reduceMul, Nat.reduceEqDiff, Go.Addr.add, ↓reduceIte] at hx369_1)
               (try simp only [show (2 : Int).toNat = 2 from rfl, Nat.reduceMul, Nat.reduceEqDiff, Go.Addr.add, ↓reduceIte] at hx369_2)
               have qi369 : (2 < x5_1.length) = True := eq_true (by omega)
               (try rw [show ((2 : Int)).toNat = 2 from rfl] at hx369_0)
               (try rw [show 2 * 3 = 6 from rfl] at hx369_0)
               (try rw [show ((2 : Int)).toNat = 2 from rfl] at hx369_1)
               (try rw [show 2 * 3 = 6 from rfl] at hx369_1)
               (try rw [show ((2 : Int)).toNat = 2 from rfl] at hx369_2)
               (try rw [show 2 * 3 = 6 from rfl] at hx369_2)
               replace p369 := eq_true p369
               replace q369 := eq_true q369
               refine start_ (n := 12) (S := fun w' => w'.cell? ⟨gb347, 0, none⟩ = some (.bool x348000_1) ∧ w'.cell? ⟨gb347, 1, none⟩ = some (.string x348001_1) ∧ w'.cell? ⟨gb347, 2, none⟩ = some (.string x348002_1) ∧ w'.cell? ⟨ad363.block, ad363.off + 6, none⟩ = some (.bool ((rd_T23 x5_1 2).f0)) ∧ w'.cell? ⟨ad363.block, ad363.off + 6 + 1, none⟩ = some (.string ((rd_T23 x5_1 2).f1)) ∧ w'.cell? ⟨ad363.block, ad363.off + 6 + 2, none⟩ = some (.string ((rd_T23 x5_1 2).f2))) (ds := []) #[false, false, false, false, false, false, false, false, false, false, false, false] (by kernel_rfl) rfl rfl ⟨c_ BK347 0, c_ BK347 1, c_ BK347 2, hx369_0, hx369_1, hx369_2⟩ (fun hHeld => ?_); refine with_tabW idiomlaw03_RoundModes.tab12 idiomlaw03_RoundModes.bits12 (fun HT_ HW_ => ?_)
               generalize w54.drew = w55 at HO_5 BK347 HB hx369_0 hx369_1 hx369_2 hHeld ⊢
               refine pz 0 (some 72) #[true, false, false, false, false, false, false, false, false, false, false, false] HT_ ?_
               refine pz 1 (some 73) #[true, true, false, false, false, false, false, false, false, false, false, false] HT_ ?_
               refine tw6 2 (some 74) #[true, true, true, false, false, false, false, false, false, false, false, false] HT_ HW_ hHeld ?_
               refine tw6 4 (some 76) #[true, true, true, false, true, false, false, false, false, false, false, false] HT_ HW_ hHeld ?_
               refine one_ (i := 3) (N := some 75) #[true, true, true, true, true, false, false, false, false, false, false, false] rfl rfl (one_of HT_.out (by kernel_rfl)) (by decide) (fun K hK => ?_)
               refine goes_ Tryd.func14 (by kernel_rfl) rfl #[.agg #[.bool ((rd_T23 x5_1 2).f0), .string ((rd_T23 x5_1 2).f1), .string ((rd_T23 x5_1 2).f2)]] (by rfl) rfl rfl ql ?_
               with_reducible refine (idiomlaw03_worth.calls ((rd_T23 x5_1 2).f0) ((rd_T23 x5_1 2).f1) ((rd_T23 x5_1 2).f2) t370 t371 t372 _ A42.out).mono ?_
               rintro e w56 ⟨rfl, hb⟩
               have HS3_ := (hb.cell (World.block_lt_of_cell? _ _ (hHeld.2.2.2.1))).trans (hHeld.2.2.2.1)
               have HS4_ := (hb.cell (World.block_lt_of_cell? _ _ (hHeld.2.2.2.2.1))).trans (hHeld.2.2.2.2.1)
               have HS5_ := (hb.cell (World.block_lt_of_cell? _ _ (hHeld.2.2.2.2.2))).trans (hHeld.2.2.2.2.2)
               refine ⟨_, rfl, ?_⟩
               replace HO_5 := Aside0.mk (Kd.R_below (by (with_reducible repeat (first | apply Kd.R_alloc | apply Kd.R_drewN | apply Kd.R_drew)); exact HO_5.out) hb)
               replace BK347 := qb BK347 hb
               replace HB := qn HB hb
               (try clear hb)
               (try clear hb2)
               (try clear hk)
               (try clear hi)
               refine hK.out _ _ ⟨c_ BK347 0, c_ BK347 1, c_ BK347 2, HS3_, HS4_, HS5_⟩ (fun hHeld => ?_)
               clear hK K
               refine nz (some 75) ?_
               refine one_ (i := 5) (N := some 77) #[true, true, true, true, true, true, false, false, false, false, false, false] rfl rfl (one_of HT_.out (by kernel_rfl)) (by decide) (fun K hK => ?_)
               refine goes_ Tryd.func14 (by kernel_rfl) rfl #[.agg #[.bool x348000_1, .string x348001_1, .string x348002_1]] (by rfl) rfl rfl ql ?_
               with_reducible refine (idiomlaw03_worth.calls x348000_1 x348001_1 x348002_1 t373 t374 t375 _ A43.out).mono ?_
               rintro e w57 ⟨rfl, hb⟩
               have HS3_ := (hb.cell (World.block_lt_of_cell? _ _ (hHeld.2.2.2.1))).trans (hHeld.2.2.2.1)
               have HS4_ := (hb.cell (World.block_lt_of_cell? _ _ (hHeld.2.2.2.2.1))).trans (hHeld.2.2.2.2.1)
               have HS5_ := (hb.cell (World.block_lt_of_cell? _ _ (hHeld.2.2.2.2.2))).trans (hHeld.2.2.2.2.2)
               refine ⟨_, rfl, ?_⟩
               replace HO_5 := Aside0.mk (Kd.R_below (by (with_reducible repeat (first | apply Kd.R_alloc | apply Kd.R_drewN | apply Kd.R_drew)); exact HO_5.out) hb)
               replace BK347 := qb BK347 hb
               replace HB := qn HB hb
               (try clear hb)
               (try clear hb2)
               (try clear hk)
               (try clear hi)
               refine hK.out _ _ ⟨c_ BK347 0, c_ BK347 1, c_ BK347 2, HS3_, HS4_, HS5_⟩ (fun hHeld => ?_)
               clear hK K
               refine nz (some 77) ?_
               refine one_ (i := 6) (N := some 78) #[true, true, true, true, true, true, true, false, false, false, false, false] rfl rfl (one_of HT_.out (by kernel_rfl)) (by decide) (fun K hK => ?_)
               refine goes_ Tryd.func15 (by kernel_rfl) rfl #[.agg #[.bool t370, .string t371, .string t372], .agg #[.bool t373, .string t374, .string t375]] (by rfl) rfl rfl ql ?_
               with_reducible refine (idiomref02_Compare.calls k1 t370 t371 t372 t373 t374 t375 t376 t377 _ A44.out).mono ?_
               rintro e w58 ⟨rfl, hb⟩
               have HS3_ := (hb.cell (World.block_lt_of_cell? _ _ (hHeld.2.2.2.1))).trans (hHeld.2.2.2.1)
               have HS4_ := (hb.cell (World.block_lt_of_cell? _ _ (hHeld.2.2.2.2.1))).trans (hHeld.2.2.2.2.1)
               have HS5_ := (hb.cell (World.block_lt_of_cell? _ _ (hHeld.2.2.2.2.2))).trans (hHeld.2.2.2.2.2)
               refine ⟨_, rfl, ?_⟩
               replace HO_5 := Aside0.mk (Kd.R_below (by (with_reducible repeat (first | apply Kd.R_alloc | apply Kd.R_drewN | apply Kd.R_drew)); exact HO_5.out) hb)
               replace BK347 := qb BK347 hb
               replace HB := qn HB hb
               (try clear hb)
               (try clear hb2)
               (try clear hk)
               (try clear hi)
               refine hK.out _ _ ⟨c_ BK347 0, c_ BK347 1, c_ BK347 2, HS3_, HS4_, HS5_⟩ (fun hHeld => ?_)
               clear hK K
               refine nz (some 78) ?_
               refine pz 7 (some 71) #[true, true, true, true, true, true, true, true, false, false, false, false] HT_ ?_
               refine pz 8 (some 79) #[true, true, true, true, true, true, true, true, true, false, false, false] HT_ ?_
               refine pz 9 (some 80) #[true, true, true, true, true, true, true, true, true, true, false, false] HT_ ?_
               refine pz 10 (some 15) #[true, true, true, true, true, true, true, true, true, true, true, false] HT_ ?_
               refine pz 11 (some 16) #[true, true, true, true, true, true, true, true, true, true, true, true] HT_ ?_
               refine done_ (done_of HT_.out (by kernel_rfl)) ?_
               try go_wp2
               replace HO_5 := Aside0.mk (Kd.R_drew HO_5.out)
               replace BK347 := Aside0.mk (blk_drew BK347.out)
               replace HB := Aside0.mk (below_drew1 HB.out)
               have p378 : 0 ≤ (1 : Int) := (by omega)
               have q378 : 1 < (x5_1.length : Int) := of_decide_eq_true qa
               obtain ⟨ad378, e378, hx378_0, hx378_1, hx378_2⟩ := at_T23 (Kd.R_reads' HO_5.out).2.2 1 p378 q378
               obtain rfl : ad363 = ad378 := (by injection e378)
               (try simp only [show (1 : Int).toNat = 1 from rfl, Nat.reduceMul, Nat.reduceEqDiff, Go.Addr.add, ↓reduceIte] at hx378_0)
               (try simp only [show (1 : Int).toNat = 1 from rfl, Nat.reduceMul, Nat.reduceEqDiff, Go.Addr.add, ↓reduceIte] at hx378_1)
               (try simp only [show (1 : Int).toNat = 1 from rfl, Nat.reduceMul, Nat.reduceEqDiff, Go.Addr.add, ↓reduceIte] at hx378_2)
               have qi378 : (1 < x5_1.length) = True := eq_true (by omega)
               (try rw [show ((1 : Int)).toNat = 1 from rfl] at hx378_0)
               (try rw [show 1 * 3 = 3 from rfl] at hx378_0)
               (try rw [show ((1 : Int)).toNat = 1 from rfl] at hx378_1)
               (try rw [show 1 * 3 = 3 from rfl] at hx378_1)
               (try rw [show ((1 : Int)).toNat = 1 from rfl] at hx378_2)
               (try rw [show 1 * 3 = 3 from rfl] at hx378_2)
               replace p378 := eq_true p378
               replace q378 := eq_true q378
               refine start_ (n := 12) (S := fun w' => w'.cell? ⟨gb347, 0, none⟩ = some (.bool x348000_1) ∧ w'.cell? ⟨gb347, 1, none⟩ = some (.string x348001_1) ∧ w'.cell? ⟨gb347, 2, none⟩ = some (.string x348002_1) ∧ w'.cell? ⟨ad363.block, ad363.off + 3, none⟩ = some (.bool ((rd_T23 x5_1 1).f0)) ∧ w'.cell? ⟨ad363.block, ad363.off + 3 + 1, none⟩ = some (.string ((rd_T23 x5_1 1).f1)) ∧ w'.cell? ⟨ad363.block, ad363.off + 3 + 2, none⟩ = some (.string ((rd_T23 x5_1 1).f2))) (ds := []) #[false, false, false, false, false, false, false, false, false, false, false, false] (by kernel_rfl) rfl rfl ⟨c_ BK347 0, c_ BK347 1, c_ BK347 2, hx378_0, hx378_1, hx378_2⟩ (fun hHeld => ?_); refine with_tabW idiomlaw03_RoundModes.tab13 idiomlaw03_RoundModes.bits13 (fun HT_ HW_ => ?_)
               generalize w58.drew = w59 at HO_5 BK347 HB hx378_0 hx378_1 hx378_2 hHeld ⊢
               refine pz 0 (some 82) #[true, false, false, false, false, false, false, false, false, false, false, false] HT_ ?_
               refine pz 1 (some 83) #[true, true, false, false, false, false, false, false, false, false, false, false] HT_ ?_
               refine tw6 2 (some 84) #[true, true, true, false, false, false, false, false, false, false, false, false] HT_ HW_ hHeld ?_
               refine tw6 4 (some 86) #[true, true, true, false, true, false, false, false, false, false, false, false] HT_ HW_ hHeld ?_
               refine one_ (i := 3) (N := some 85) #[true, true, true, true, true, false, false, false, false, false, false, false] rfl rfl (one_of HT_.out (by kernel_rfl)) (by decide) (fun K hK => ?_)
               refine goes_ Tryd.func14 (by kernel_rfl) rfl #[.agg #[.bool ((rd_T23 x5_1 1).f0), .string ((rd_T23 x5_1 1).f1), .string ((rd_T23 x5_1 1).f2)]] (by rfl) rfl rfl ql ?_
               with_reducible refine (idiomlaw03_worth.calls ((rd_T23 x5_1 1).f0) ((rd_T23 x5_1 1).f1) ((rd_T23 x5_1 1).f2) t379 t380 t381 _ A46.out).mono ?_
               rintro e w60 ⟨rfl, hb⟩
               have HS3_ := (hb.cell (World.block_lt_of_cell? _ _ (hHeld.2.2.2.1))).trans (hHeld.2.2.2.1)
               have HS4_ := (hb.cell (World.block_lt_of_cell? _ _ (hHeld.2.2.2.2.1))).trans (hHeld.2.2.2.2.1)
               have HS5_ := (hb.cell (World.block_lt_of_cell? _ _ (hHeld.2.2.2.2.2))).trans (hHeld.2.2.2.2.2)
               refine ⟨_, rfl, ?_⟩
               replace HO_5 := Aside0.mk (Kd.R_below (by (with_reducible repeat (first | apply Kd.R_alloc | apply Kd.R_drewN | apply Kd.R_drew)); exact HO_5.out) hb)
               replace BK347 := qb BK347 hb
               replace HB := qn HB hb
               (try clear hb)
               (try clear hb2)
               (try clear hk)
               (try clear hi)
               refine hK.out _ _ ⟨c_ BK347 0, c_ BK347 1, c_ BK347 2, HS3_, HS4_, HS5_⟩ (fun hHeld => ?_)
               clear hK K
               refine nz (some 85) ?_
               refine one_ (i := 5) (N := some 87) #[true, true, true, true, true, true, false, false, false, false, false, false] rfl rfl (one_of HT_.out (by kernel_rfl)) (by decide) (fun K hK => ?_)
               refine goes_ Tryd.func14 (by kernel_rfl) rfl #[.agg #[.bool x348000_1, .string x348001_1, .string x348002_1]] (by rfl) rfl rfl ql ?_
               with_reducible refine (idiomlaw03_worth.calls x348000_1 x348001_1 x348002_1 t382 t383 t384 _ A47.out).mono ?_
               rintro e w61 ⟨rfl, hb⟩
               have HS3_ := (hb.cell (World.block_lt_of_cell? _ _ (hHeld.2.2.2.1))).trans (hHeld.2.2.2.1)
               have HS4_ := (hb.cell (World.block_lt_of_cell? _ _ (hHeld.2.2.2.2.1))).trans (hHeld.2.2.2.2.1)
               have HS5_ := (hb.cell (World.block_lt_of_cell? _ _ (hHeld.2.2.2.2.2))).trans (hHeld.2.2.2.2.2)
               refine ⟨_, rfl, ?_⟩
               replace HO_5 := Aside0.mk (Kd.R_below (by (with_reducible repeat (first | apply Kd.R_alloc | apply Kd.R_drewN | apply Kd.R_drew)); exact HO_5.out) hb)
               replace BK347 := qb BK347 hb
               replace HB := qn HB hb
               (try clear hb)
               (try clear hb2)
               (try clear hk)
               (try clear hi)
               refine hK.out _ _ ⟨c_ BK347 0, c_ BK347 1, c_ BK347 2, HS3_, HS4_, HS5_⟩ (fun hHeld => ?_)
               clear hK K
               refine nz (some 87) ?_
               refine one_ (i := 6) (N := some 88) #[true, true, true, true, true, true, true, false, false, false, false, false] rfl rfl (one_of HT_.out (by kernel_rfl)) (by decide) (fun K hK => ?_)
               refine goes_ Tryd.func15 (by kernel_rfl) rfl #[.agg #[.bool t379, .string t380, .string t381], .agg #[.bool t382, .string t383, .string t384]] (by rfl) rfl rfl ql ?_
               with_reducible refine (idiomref02_Compare.calls k1 t379 t380 t381 t382 t383 t384 t385 t386 _ A48.out).mono ?_
               rintro e w62 ⟨rfl, hb⟩
               have HS3_ := (hb.cell (World.block_lt_of_cell? _ _ (hHeld.2.2.2.1))).trans (hHeld.2.2.2.1)
               have HS4_ := (hb.cell (World.block_lt_of_cell? _ _ (hHeld.2.2.2.2.1))).trans (hHeld.2.2.2.2.1)
               have HS5_ := (hb.cell (World.block_lt_of_cell? _ _ (hHeld.2.2.2.2.2))).trans (hHeld.2.2.2.2.2)
               refine ⟨_, rfl, ?_⟩
               replace HO_5 := Aside0.mk (Kd.R_below (by (with_reducible repeat (first | apply Kd.R_alloc | apply Kd.R_drewN | apply Kd.R_drew)); exact HO_5.out) hb)
               replace BK347 := qb BK347 hb
               replace HB := qn HB hb
               (try clear hb)
               (try clear hb2)
               (try clear hk)
               (try clear hi)
               refine hK.out _ _ ⟨c_ BK347 0, c_ BK347 1, c_ BK347 2, HS3_, HS4_, HS5_⟩ (fun hHeld => ?_)
               clear hK K
               refine nz (some 88) ?_
               refine pz 7 (some 81) #[true, true, true, true, true, true, true, true, false, false, false, false] HT_ ?_
               refine pz 8 (some 89) #[true, true, true, true, true, true, true, true, true, false, false, false] HT_ ?_
               refine pz 9 (some 90) #[true, true, true, true, true, true, true, true, true, true, false, false] HT_ ?_
               refine pz 10 (some 17) #[true, true, true, true, true, true, true, true, true, true, true, false] HT_ ?_
               refine pz 11 (some 18) #[true, true, true, true, true, true, true, true, true, true, true, true] HT_ ?_
               refine done_ (done_of HT_.out (by kernel_rfl)) ?_
               go_upto_region 14 with (fail)
               go_cut [104] (fun v104 wc => ∃ (kq : Nat) (x104_48 : Bool), v104 = .bool x104_48 ∧ Aside0 (idiomlaw03_RoundModes.j1 kq a1 x5_1 x104_48 x348000_1 x348001_1 x348002_1 = some r) ∧ Aside0 (kq ≤ k1) ∧ Aside0 (Kd.R k23 23 wc w.heap.size (fun k_ => k_ ≠ gb347) (.slice (some ad363) x5_1.length co51) x5_1) ∧ Aside0 (wc.heap[gb347]? = some (.cells #[.bool x348000_1, .string x348001_1, .string x348002_1] 23 (0, 0))) ∧ Aside0 (Below w.heap.size w wc))
               case first =>
                have H := HC49.out
                clear HC49
                by_cases c63 : t364 > 0
                · rw [if_pos c63] at H
                  have c63b0 : decide (0 < t364) = true := decide_eq_true c63
                  clear c63
                  (first | rw [c63b0] | (simp only [i64_w, i32_w]; rw [c63b0]) | skip)
                  have H' := Aside0.mk H
                  clear H
                  go_wp2
                  go_meet
                  case rel => exact ⟨_, (true), (by first | rfl | (simp; done) | (simp [*]; done)), H', ⟨by have := HK1.out; first | omega | exact Nat.le_refl _⟩, ⟨by (with_reducible repeat (first | apply Kd.R_alloc | apply Kd.R_drewN | apply Kd.R_drew)); exact HO_5.out⟩, ⟨qk BK347⟩, ⟨qh HB⟩⟩
                · rw [if_neg c63] at H
                  have c63b0 : decide (0 < t364) = false := decide_eq_false c63
                  clear c63
                  (first | rw [c63b0] | (simp only [i64_w, i32_w]; rw [c63b0]) | skip)
                  by_cases c64 : t367 < 0
                  · rw [if_pos c64] at H
                    have c64b0 : decide (t367 < 0) = true := decide_eq_true c64
                    clear c64
                    have H' := Aside0.mk H
                    clear H
                    go_wp2
                    go_meet
                    case rel => exact ⟨_, (true), (by first | rfl | (simp; done) | (simp [*]; done)), H', ⟨by have := HK1.out; first | omega | exact Nat.le_refl _⟩, ⟨by (with_reducible repeat (first | apply Kd.R_alloc | apply Kd.R_drewN | apply Kd.R_drew)); exact HO_5.out⟩, ⟨qk BK347⟩, ⟨qh HB⟩⟩
                  · rw [if_neg c64] at H
                    have c64b0 : decide (t367 < 0) = false := decide_eq_false c64
                    clear c64
                    by_cases c65 : t376 > 0
                    · rw [if_pos c65] at H
                      have c65b0 : decide (0 < t376) = true := decide_eq_true c65
                      clear c65
                      have H' := Aside0.mk H
                      clear H
                      go_wp2
                      go_meet
                      case rel => exact ⟨_, (true), (by first | rfl | (simp; done) | (simp [*]; done)), H', ⟨by have := HK1.out; first | omega | exact Nat.le_refl _⟩, ⟨by (with_reducible repeat (first | apply Kd.R_alloc | apply Kd.R_drewN | apply Kd.R_drew)); exact HO_5.out⟩, ⟨qk BK347⟩, ⟨qh HB⟩⟩
                    · rw [if_neg c65] at H
                      have c65b0 : decide (0 < t376) = false := decide_eq_false c65
                      clear c65
                      have H' := Aside0.mk H
                      clear H
                      go_wp2
                      go_meet
                      case rel => exact ⟨_, (decide (t385 < 0)), (by first | rfl | (simp; done) | (simp [*]; done)), H', ⟨by have := HK1.out; first | omega | exact Nat.le_refl _⟩, ⟨by (with_reducible repeat (first | apply Kd.R_alloc | apply Kd.R_drewN | apply Kd.R_drew)); exact HO_5.out⟩, ⟨qk BK347⟩, ⟨qh HB⟩⟩
               case rest =>
                clear HC49
                try clear c1
                try clear p2
                try clear p3
                try clear q3
                try clear hx3
                try clear qi3
                try clear c6
                try clear c14
                try clear c15
                try clear p36
                try clear q36
                try clear hx36
                try clear qi36
                try clear p37
                try clear q37
                try clear hx37
                try clear qi37
                try clear c63
                try clear c63b0
                try clear c64
                try clear c64b0
                try clear c65
                try clear c65b0
                try clear hx366_0
                try clear hx366_1
                try clear hx366_2
                try clear hx369_0
                try clear hx369_1
                try clear hx369_2
                try clear hx378_0
                try clear hx378_1
                try clear hx378_2
                try clear p366
                try clear p369
                try clear p378
                try clear q366
                try clear q369
                try clear q378
                obtain ⟨kq, x104_48, rfl, HA, HJ48, HO_5, BK347, HB⟩ := hcut
                cases kq with
                | zero => exact absurd HA.out (by simp [idiomlaw03_RoundModes.j1])
                | succ kj48 =>
                 have H := HA.out
                 clear HA
                 simp only [idiomlaw03_RoundModes.j1] at H
                 by_cases c66 : x104_48 = true
                 · subst c66
                   have H1 : (none) = some r := by rw [if_pos rfl] at H; exact H
                   clear H
                   have H := H1
                   clear H1
                   exact absurd H (by simp)
                 · replace c66 := Bool.eq_false_iff.mpr c66
                   subst c66
                   have H1 : (idiomlaw03_RoundModes.l1 kj48 a1 x5_1 5 x348000_1 x348001_1 x348002_1) = some r := by rw [if_neg (show ¬ (false = true) by decide)] at H; exact H
                   clear H
                   have H := H1
                   clear H1
                   have H' := Aside0.mk H
                   clear H
                   go_wp2
                   (try simp only [Act.put, List.setIfInBounds_toArray, List.set_cons_zero, List.set_cons_succ])
                   go_loopg [19] kj48 (fun kq v19 w' => ∃ (x19_3 : Int), v19 = .int .i64 x19_3 ∧ Aside0 (idiomlaw03_RoundModes.l1 kq a1 x5_1 x19_3 x348000_1 x348001_1 x348002_1 = some r) ∧ Aside0 (kq ≤ kj48) ∧ Aside0 (Kd.R k23 23 w' w.heap.size (fun k_ => k_ ≠ gb347) (.slice (some ad363) x5_1.length co51) x5_1) ∧ Aside0 (w'.heap[gb347]? = some (.cells #[.bool x348000_1, .string x348001_1, .string x348002_1] 23 (0, 0))) ∧ Aside0 (Below w.heap.size w w'))
                   case atStart => exact ⟨(5), (by first | rfl | (simp; done) | (simp [*]; done)), H', ⟨Nat.le_refl _⟩, ⟨by (with_reducible repeat (first | apply Kd.R_alloc | apply Kd.R_drewN | apply Kd.R_drew)); exact HO_5.out⟩, ⟨qk BK347⟩, ⟨qh HB⟩⟩
                   case round =>
                    clear H'
                    try clear c1
                    try clear p2
                    try clear p3
                    try clear q3
                    try clear hx3
                    try clear qi3
                    try clear c6
                    try clear c14
                    try clear c15
                    try clear p36
                    try clear q36
                    try clear hx36
                    try clear qi36
                    try clear p37
                    try clear q37
                    try clear hx37
                    try clear qi37
                    try clear c63
                    try clear c63b0
                    try clear c64
                    try clear c64b0
                    try clear c65
                    try clear c65b0
                    try clear c66
                    try clear hx366_0
                    try clear hx366_1
                    try clear hx366_2
                    try clear hx369_0
                    try clear hx369_1
                    try clear hx369_2
                    try clear hx378_0
                    try clear hx378_1
                    try clear hx378_2
                    try clear p2
                    try clear p3
                    try clear p36
                    try clear p366
                    try clear p369
                    try clear p37
                    try clear p378
                    try clear q3
                    try clear q36
                    try clear q366
                    try clear q369
                    try clear q37
                    try clear q378
                    obtain ⟨x19_3, rfl, HA, HK3, HO_5, BK347, HB⟩ := hrel
                    cases gk with
                    | zero => exact absurd HA.out (by simp [idiomlaw03_RoundModes.l1])
                    | succ k3 =>
                     have H := HA.out
                     clear HA
                     simp only [idiomlaw03_RoundModes.l1] at H
                     by_cases c67 : x19_3 ≤ 7
                     · rw [if_pos c67] at H
                       have c67b0 : decide (x19_3 ≤ 7) = true := decide_eq_true c67
                       clear c67
                       by_cases c68 : 0 ≤ x19_3
                       · rw [if_pos c68] at H
                         have c68b0 : decide (0 ≤ x19_3) = true := decide_eq_true c68
                         clear c68
                         by_cases c69 : x19_3 < (x5_1.length : Int)
                         · rw [if_pos c69] at H
                           have c69b0 : decide (x19_3 < (x5_1.length : Int)) = true := decide_eq_true c69
                           clear c69
                           by_cases c70 : 4 < (x5_1.length : Int)
                           · rw [if_pos c70] at H
                             have c70b0 : decide (4 < (x5_1.length : Int)) = true := decide_eq_true c70
                             have c70b1 : decide (4 < x5_1.length) = true := decide_eq_true (by omega)
                             clear c70
                             by_cases c71 : (!(((rd_T23 x5_1 x19_3).f0) == ((rd_T23 x5_1 4).f0)) || (!((((rd_T23 x5_1 x19_3).f1).toList) == (((rd_T23 x5_1 4).f1).toList)) || (!((((rd_T23 x5_1 x19_3).f2).toList) == (((rd_T23 x5_1 4).f2).toList))))) = true
                             · rw [if_pos c71] at H
                               have c71b0 : (!(((rd_T23 x5_1 x19_3).f0) == ((rd_T23 x5_1 4).f0)) || (!((((rd_T23 x5_1 x19_3).f1).toList) == (((rd_T23 x5_1 4).f1).toList)) || (!((((rd_T23 x5_1 x19_3).f2).toList) == (((rd_T23 x5_1 4).f2).toList))))) = true := c71
                               clear c71
                               by_cases c72 : 3 < (x5_1.length : Int)
                               · rw [if_pos c72] at H
                                 have c72b0 : decide (3 < (x5_1.length : Int)) = true := decide_eq_true c72
                                 have c72b1 : decide (3 < x5_1.length) = true := decide_eq_true (by omega)
                                 clear c72
                                 by_cases c73 : (!(((rd_T23 x5_1 x19_3).f0) == ((rd_T23 x5_1 3).f0)) || (!((((rd_T23 x5_1 x19_3).f1).toList) == (((rd_T23 x5_1 3).f1).toList)) || (!((((rd_T23 x5_1 x19_3).f2).toList) == (((rd_T23 x5_1 3).f2).toList))))) = true
                                 · rw [if_pos c73] at H
                                   exact absurd H (by simp)
                                 · rw [if_neg c73] at H
                                   have c73b0 : (!(((rd_T23 x5_1 x19_3).f0) == ((rd_T23 x5_1 3).f0)) || (!((((rd_T23 x5_1 x19_3).f1).toList) == (((rd_T23 x5_1 3).f1).toList)) || (!((((rd_T23 x5_1 x19_3).f2).toList) == (((rd_T23 x5_1 3).f2).toList))))) = false := by simpa using c73
                                   clear c73
                                   have H' := Aside0.mk H
                                   clear H
                                   try go_wp2
                                   replace HO_5 := Aside0.mk (Kd.R_drew HO_5.out)
                                   replace BK347 := Aside0.mk (blk_drew BK347.out)
                                   replace HB := Aside0.mk (below_drew1 HB.out)
                                   have p387 : 0 ≤ (x19_3 : Int) := of_decide_eq_true qa
                                   have q387 : x19_3 < (x5_1.length : Int) := of_decide_eq_true qa
                                   obtain ⟨ad387, e387, hx387_0, hx387_1, hx387_2⟩ := at_T23 (Kd.R_reads' HO_5.out).2.2 x19_3 p387 q387
                                   obtain rfl : ad363 = ad387 := (by injection e387)
                                   replace p387 := eq_true p387
                                   replace q387 := eq_true q387
                                   have p388 : 0 ≤ (4 : Int) := (by omega)
                                   have q388 : 4 < (x5_1.length : Int) := of_decide_eq_true qa
                                   obtain ⟨ad388, e388, hx388_0, hx388_1, hx388_2⟩ := at_T23 (Kd.R_reads' HO_5.out).2.2 4 p388 q388
                                   obtain rfl : ad363 = ad388 := (by injection e388)
                                   (try simp only [show (4 : Int).toNat = 4 from rfl, Nat.reduceMul, Nat.reduceEqDiff, Go.Addr.add, ↓reduceIte] at hx388_0)
                                   (try simp only [show (4 : Int).toNat = 4 from rfl, Nat.reduceMul, Nat.reduceEqDiff, Go.Addr.add, ↓reduceIte] at hx388_1)
                                   (try simp only [show (4 : Int).toNat = 4 from rfl, Nat.reduceMul, Nat.reduceEqDiff, Go.Addr.add, ↓reduceIte] at hx388_2)
                                   have qi388 : (4 < x5_1.length) = True := eq_true (by omega)
                                   (try rw [show ((4 : Int)).toNat = 4 from rfl] at hx388_0)
                                   (try rw [show 4 * 3 = 12 from rfl] at hx388_0)
                                   (try rw [show ((4 : Int)).toNat = 4 from rfl] at hx388_1)
                                   (try rw [show 4 * 3 = 12 from rfl] at hx388_1)
                                   (try rw [show ((4 : Int)).toNat = 4 from rfl] at hx388_2)
                                   (try rw [show 4 * 3 = 12 from rfl] at hx388_2)
                                   replace p388 := eq_true p388
                                   replace q388 := eq_true q388
                                   have p389 : 0 ≤ (x19_3 : Int) := of_decide_eq_true qa
                                   have q389 : x19_3 < (x5_1.length : Int) := of_decide_eq_true qa
                                   obtain ⟨ad389, e389, hx389_0, hx389_1, hx389_2⟩ := at_T23 (Kd.R_reads' HO_5.out).2.2 x19_3 p389 q389
                                   obtain rfl : ad363 = ad389 := (by injection e389)
                                   replace p389 := eq_true p389
                                   replace q389 := eq_true q389
                                   have p390 : 0 ≤ (3 : Int) := (by omega)
                                   have q390 : 3 < (x5_1.length : Int) := of_decide_eq_true qa
                                   obtain ⟨ad390, e390, hx390_0, hx390_1, hx390_2⟩ := at_T23 (Kd.R_reads' HO_5.out).2.2 3 p390 q390
                                   obtain rfl : ad363 = ad390 := (by injection e390)
                                   (try simp only [show (3 : Int).toNat = 3 from rfl, Nat.reduceMul, Nat.reduceEqDiff, Go.Addr.add, ↓reduceIte] at hx390_0)
                                   (try simp only [show (3 : Int).toNat = 3 from rfl, Nat.reduceMul, Nat.reduceEqDiff, Go.Addr.add, ↓reduceIte] at hx390_1)
                                   (try simp only [show (3 : Int).toNat = 3 from rfl, Nat.reduceMul, Nat.reduceEqDiff, Go.Addr.add, ↓reduceIte] at hx390_2)
                                   have qi390 : (3 < x5_1.length) = True := eq_true (by omega)
                                   (try rw [show ((3 : Int)).toNat = 3 from rfl] at hx390_0)
                                   (try rw [show 3 * 3 = 9 from rfl] at hx390_0)
                                   (try rw [show ((3 : Int)).toNat = 3 from rfl] at hx390_1)
                                   (try rw [show 3 * 3 = 9 from rfl] at hx390_1)
                                   (try rw [show ((3 : Int)).toNat = 3 from rfl] at hx390_2)
                                   (try rw [show 3 * 3 = 9 from rfl] at hx390_2)
                                   replace p390 := eq_true p390
                                   replace q390 := eq_true q390
                                   refine start_ (n := 18) (S := fun w' => w'.cell? (ad363.add ((x19_3).toNat * 3)) = some (.bool ((rd_T23 x5_1 x19_3).f0)) ∧ w'.cell? ⟨(ad363.add ((x19_3).toNat * 3)).block, (ad363.add ((x19_3).toNat * 3)).off + 1, none⟩ = some (.string ((rd_T23 x5_1 x19_3).f1)) ∧ w'.cell? ⟨(ad363.add ((x19_3).toNat * 3)).block, (ad363.add ((x19_3).toNat * 3)).off + 2, none⟩ = some (.string ((rd_T23 x5_1 x19_3).f2)) ∧ w'.cell? ⟨ad363.block, ad363.off + 12, none⟩ = some (.bool ((rd_T23 x5_1 4).f0)) ∧ w'.cell? ⟨ad363.block, ad363.off + 12 + 1, none⟩ = some (.string ((rd_T23 x5_1 4).f1)) ∧ w'.cell? ⟨ad363.block, ad363.off + 12 + 2, none⟩ = some (.string ((rd_T23 x5_1 4).f2)) ∧ w'.cell? (ad363.add ((x19_3).toNat * 3)) = some (.bool ((rd_T23 x5_1 x19_3).f0)) ∧ w'.cell? ⟨(ad363.add ((x19_3).toNat * 3)).block, (ad363.add ((x19_3).toNat * 3)).off + 1, none⟩ = some (.string ((rd_T23 x5_1 x19_3).f1)) ∧ w'.cell? ⟨(ad363.add ((x19_3).toNat * 3)).block, (ad363.add ((x19_3).toNat * 3)).off + 2, none⟩ = some (.string ((rd_T23 x5_1 x19_3).f2)) ∧ w'.cell? ⟨ad363.block, ad363.off + 9, none⟩ = some (.bool ((rd_T23 x5_1 3).f0)) ∧ w'.cell? ⟨ad363.block, ad363.off + 9 + 1, none⟩ = some (.string ((rd_T23 x5_1 3).f1)) ∧ w'.cell? ⟨ad363.block, ad363.off + 9 + 2, none⟩ = some (.string ((rd_T23 x5_1 3).f2))) (ds := []) #[false, false, false, false, false, false, false, false, false, false, false, false, false, false, false, false, false, false] (by kernel_rfl) rfl rfl ⟨hx387_0, hx387_1, hx387_2, hx388_0, hx388_1, hx388_2, hx389_0, hx389_1, hx389_2, hx390_0, hx390_1, hx390_2⟩ (fun hHeld => ?_); refine with_tabW idiomlaw03_RoundModes.tab19 idiomlaw03_RoundModes.bits19 (fun HT_ HW_ => ?_)
                                   generalize wr.drew = w74 at HO_5 BK347 HB hx387_0 hx387_1 hx387_2 hx388_0 hx388_1 hx388_2 hx389_0 hx389_1 hx389_2 hx390_0 hx390_1 hx390_2 hHeld ⊢
                                   refine pz 0 (some 109) #[true, false, false, false, false, false, false, false, false, false, false, false, false, false, false, false, false, false] HT_ ?_
                                   refine pz 1 (some 110) #[true, true, false, false, false, false, false, false, false, false, false, false, false, false, false, false, false, false] HT_ ?_
                                   refine pz 2 (some 111) #[true, true, true, false, false, false, false, false, false, false, false, false, false, false, false, false, false, false] HT_ ?_
                                   refine pz 4 (some 113) #[true, true, true, false, true, false, false, false, false, false, false, false, false, false, false, false, false, false] HT_ ?_
                                   refine pz 5 (some 114) #[true, true, true, false, true, true, false, false, false, false, false, false, false, false, false, false, false, false] HT_ ?_
                                   refine take_ (i := 3) (N := some 112) (v := ?_) (a' := ?_) #[true, true, true, true, true, true, false, false, false, false, false, false, false, false, false, false, false, false] rfl rfl (take_ofW HT_.out HW_.out (by kernel_rfl)) (fun _ _ _ h => h) (Or.inl ⟨by rfl, ?_⟩) hHeld ?_ ?_
                                   rotate_left
                                   · rintro w' ⟨s0, s1, s2, s3, s4, s5, s6, s7, s8, s9, s10, s11⟩
                                     go_simp
                                     with_reducible rfl
                                   rotate_left
                                   · simp only [Act.put, List.setIfInBounds_toArray, List.set_cons_zero, List.set_cons_succ, i64_w, i32_w]
                                     rfl
                                   refine take_ (i := 6) (N := some 115) (v := ?_) (a' := ?_) #[true, true, true, true, true, true, true, false, false, false, false, false, false, false, false, false, false, false] rfl rfl (take_ofW HT_.out HW_.out (by kernel_rfl)) (fun _ _ _ h => h) (Or.inl ⟨by rfl, ?_⟩) hHeld ?_ ?_
                                   rotate_left
                                   · rintro w' ⟨s0, s1, s2, s3, s4, s5, s6, s7, s8, s9, s10, s11⟩
                                     go_simp
                                     with_reducible rfl
                                   rotate_left
                                   · simp only [Act.put, List.setIfInBounds_toArray, List.set_cons_zero, List.set_cons_succ, i64_w, i32_w]
                                     rfl
                                   refine pz 7 (some 116) #[true, true, true, true, true, true, true, true, false, false, false, false, false, false, false, false, false, false] HT_ ?_
                                   refine pz 8 (some 117) #[true, true, true, true, true, true, true, true, true, false, false, false, false, false, false, false, false, false] HT_ ?_
                                   refine pz 9 (some 118) #[true, true, true, true, true, true, true, true, true, true, false, false, false, false, false, false, false, false] HT_ ?_
                                   refine pz 10 (some 119) #[true, true, true, true, true, true, true, true, true, true, true, false, false, false, false, false, false, false] HT_ ?_
                                   refine pz 11 (some 120) #[true, true, true, true, true, true, true, true, true, true, true, true, false, false, false, false, false, false] HT_ ?_
                                   refine pz 13 (some 122) #[true, true, true, true, true, true, true, true, true, true, true, true, false, true, false, false, false, false] HT_ ?_
                                   refine pz 14 (some 123) #[true, true, true, true, true, true, true, true, true, true, true, true, false, true, true, false, false, false] HT_ ?_
                                   refine take_ (i := 12) (N := some 121) (v := ?_) (a' := ?_) #[true, true, true, true, true, true, true, true, true, true, true, true, true, true, true, false, false, false] rfl rfl (take_ofW HT_.out HW_.out (by kernel_rfl)) (fun _ _ _ h => h) (Or.inl ⟨by rfl, ?_⟩) hHeld ?_ ?_
                                   rotate_left
                                   · rintro w' ⟨s0, s1, s2, s3, s4, s5, s6, s7, s8, s9, s10, s11⟩
                                     go_simp
                                     with_reducible rfl
                                   rotate_left
                                   · simp only [Act.put, List.setIfInBounds_toArray, List.set_cons_zero, List.set_cons_succ, i64_w, i32_w]
                                     rfl
                                   refine take_ (i := 15) (N := some 124) (v := ?_) (a' := ?_) #[true, true, true, true, true, true, true, true, true, true, true, true, true, true, true, true, false, false] rfl rfl (take_ofW HT_.out HW_.out (by kernel_rfl)) (fun _ _ _ h => h) (Or.inl ⟨by rfl, ?_⟩) hHeld ?_ ?_
                                   rotate_left
                                   · rintro w' ⟨s0, s1, s2, s3, s4, s5, s6, s7, s8, s9, s10, s11⟩
                                     go_simp
                                     with_reducible rfl
                                   rotate_left
                                   · simp only [Act.put, List.setIfInBounds_toArray, List.set_cons_zero, List.set_cons_succ, i64_w, i32_w]
                                     rfl
                                   refine pz 16 (some 125) #[true, true, true, true, true, true, true, true, true, true, true, true, true, true, true, true, true, false] HT_ ?_
                                   refine pz 17 (some 126) #[true, true, true, true, true, true, true, true, true, true, true, true, true, true, true, true, true, true] HT_ ?_
                                   refine done_ (done_of HT_.out (by kernel_rfl)) ?_
                                   try go_wp2
                                   go_roundg k3
                                   case measure => have := HK1.out; have := HJ48.out; have := HK3.out; omega
                                   case rel => exact ⟨(wrap64 (x19_3 + 1)), (by first | rfl | (simp; done) | (simp [*]; done)), H', ⟨by have := HK1.out; have := HJ48.out; have := HK3.out; omega⟩, ⟨by (with_reducible repeat (first | apply Kd.R_alloc | apply Kd.R_drewN | apply Kd.R_drew)); exact HO_5.out⟩, ⟨qk BK347⟩, ⟨qh HB⟩⟩
                               · rw [if_neg c72] at H
                                 exact absurd H (by simp)
                             · rw [if_neg c71] at H
                               have c71b0 : (!(((rd_T23 x5_1 x19_3).f0) == ((rd_T23 x5_1 4).f0)) || (!((((rd_T23 x5_1 x19_3).f1).toList) == (((rd_T23 x5_1 4).f1).toList)) || (!((((rd_T23 x5_1 x19_3).f2).toList) == (((rd_T23 x5_1 4).f2).toList))))) = false := by simpa using c71
                               clear c71
                               have H' := Aside0.mk H
                               clear H
                               try go_wp2
                               replace HO_5 := Aside0.mk (Kd.R_drew HO_5.out)
                               replace BK347 := Aside0.mk (blk_drew BK347.out)
                               replace HB := Aside0.mk (below_drew1 HB.out)
                               have p387 : 0 ≤ (x19_3 : Int) := of_decide_eq_true qa
                               have q387 : x19_3 < (x5_1.length : Int) := of_decide_eq_true qa
                               obtain ⟨ad387, e387, hx387_0, hx387_1, hx387_2⟩ := at_T23 (Kd.R_reads' HO_5.out).2.2 x19_3 p387 q387
                               obtain rfl : ad363 = ad387 := (by injection e387)
                               replace p387 := eq_true p387
                               replace q387 := eq_true q387
                               have p388 : 0 ≤ (4 : Int) := (by omega)
                               have q388 : 4 < (x5_1.length : Int) := of_decide_eq_true qa
                               obtain ⟨ad388, e388, hx388_0, hx388_1, hx388_2⟩ := at_T23 (Kd.R_reads' HO_5.out).2.2 4 p388 q388
                               obtain rfl : ad363 = ad388 := (by injection e388)
                               (try simp only [show (4 : Int).toNat = 4 from rfl, Nat.reduceMul, Nat.reduceEqDiff, Go.Addr.add, ↓reduceIte] at hx388_0)
                               (try simp only [show (4 : Int).toNat = 4 from rfl, Nat.reduceMul, Nat.reduceEqDiff, Go.Addr.add, ↓reduceIte] at hx388_1)
                               (try simp only [show (4 : Int).toNat = 4 from rfl, Nat.reduceMul, Nat.reduceEqDiff, Go.Addr.add, ↓reduceIte] at hx388_2)
                               have qi388 : (4 < x5_1.length) = True := eq_true (by omega)
                               (try rw [show ((4 : Int)).toNat = 4 from rfl] at hx388_0)
                               (try rw [show 4 * 3 = 12 from rfl] at hx388_0)
                               (try rw [show ((4 : Int)).toNat = 4 from rfl] at hx388_1)
                               (try rw [show 4 * 3 = 12 from rfl] at hx388_1)
                               (try rw [show ((4 : Int)).toNat = 4 from rfl] at hx388_2)
                               (try rw [show 4 * 3 = 12 from rfl] at hx388_2)
                               replace p388 := eq_true p388
                               replace q388 := eq_true q388
                               refine start_ (n := 18) (S := fun w' => w'.cell? (ad363.add ((x19_3).toNat * 3)) = some (.bool ((rd_T23 x5_1 x19_3).f0)) ∧ w'.cell? ⟨(ad363.add ((x19_3).toNat * 3)).block, (ad363.add ((x19_3).toNat * 3)).off + 1, none⟩ = some (.string ((rd_T23 x5_1 x19_3).f1)) ∧ w'.cell? ⟨(ad363.add ((x19_3).toNat * 3)).block, (ad363.add ((x19_3).toNat * 3)).off + 2, none⟩ = some (.string ((rd_T23 x5_1 x19_3).f2)) ∧ w'.cell? ⟨ad363.block, ad363.off + 12, none⟩ = some (.bool ((rd_T23 x5_1 4).f0)) ∧ w'.cell? ⟨ad363.block, ad363.off + 12 + 1, none⟩ = some (.string ((rd_T23 x5_1 4).f1)) ∧ w'.cell? ⟨ad363.block, ad363.off + 12 + 2, none⟩ = some (.string ((rd_T23 x5_1 4).f2))) (ds := []) #[false, false, false, false, false, false, false, false, false, false, false, false, false, false, false, false, false, false] (by kernel_rfl) rfl rfl ⟨hx387_0, hx387_1, hx387_2, hx388_0, hx388_1, hx388_2⟩ (fun hHeld => ?_); refine with_tabW idiomlaw03_RoundModes.tab19 idiomlaw03_RoundModes.bits19 (fun HT_ HW_ => ?_)
                               generalize wr.drew = w75 at HO_5 BK347 HB hx387_0 hx387_1 hx387_2 hx388_0 hx388_1 hx388_2 hHeld ⊢
                               refine pz 0 (some 109) #[true, false, false, false, false, false, false, false, false, false, false, false, false, false, false, false, false, false] HT_ ?_
                               refine pz 1 (some 110) #[true, true, false, false, false, false, false, false, false, false, false, false, false, false, false, false, false, false] HT_ ?_
                               refine pz 2 (some 111) #[true, true, true, false, false, false, false, false, false, false, false, false, false, false, false, false, false, false] HT_ ?_
                               refine pz 4 (some 113) #[true, true, true, false, true, false, false, false, false, false, false, false, false, false, false, false, false, false] HT_ ?_
                               refine pz 5 (some 114) #[true, true, true, false, true, true, false, false, false, false, false, false, false, false, false, false, false, false] HT_ ?_
                               refine tw6 3 (some 112) #[true, true, true, true, true, true, false, false, false, false, false, false, false, false, false, false, false, false] HT_ HW_ hHeld ?_
                               refine tw6 6 (some 115) #[true, true, true, true, true, true, true, false, false, false, false, false, false, false, false, false, false, false] HT_ HW_ hHeld ?_
                               refine pz 7 (some 116) #[true, true, true, true, true, true, true, true, false, false, false, false, false, false, false, false, false, false] HT_ ?_
                               refine pz 8 (some 117) #[true, true, true, true, true, true, true, true, true, false, false, false, false, false, false, false, false, false] HT_ ?_
                               refine pure_ (i := 9) (N := some 118) (v := undef) (a' := ?_) #[true, true, true, true, true, true, true, true, true, true, false, false, false, false, false, false, false, false] rfl rfl (any_of HT_.out (by kernel_rfl)) (fun _ _ _ h => h) (Or.inr ⟨by rfl, rfl⟩) ?_ ?_
                               rotate_left
                               · simp only [Act.put, List.setIfInBounds_toArray, List.set_cons_zero, List.set_cons_succ, i64_w, i32_w]
                                 rfl
                               refine pure_ (i := 10) (N := some 119) (v := undef) (a' := ?_) #[true, true, true, true, true, true, true, true, true, true, true, false, false, false, false, false, false, false] rfl rfl (any_of HT_.out (by kernel_rfl)) (fun _ _ _ h => h) (Or.inr ⟨by rfl, rfl⟩) ?_ ?_
                               rotate_left
                               · simp only [Act.put, List.setIfInBounds_toArray, List.set_cons_zero, List.set_cons_succ, i64_w, i32_w]
                                 rfl
                               refine pure_ (i := 11) (N := some 120) (v := undef) (a' := ?_) #[true, true, true, true, true, true, true, true, true, true, true, true, false, false, false, false, false, false] rfl rfl (any_of HT_.out (by kernel_rfl)) (fun _ _ _ h => h) (Or.inr ⟨by rfl, rfl⟩) ?_ ?_
                               rotate_left
                               · simp only [Act.put, List.setIfInBounds_toArray, List.set_cons_zero, List.set_cons_succ, i64_w, i32_w]
                                 rfl
                               refine pure_ (i := 12) (N := some 121) (v := undef) (a' := ?_) #[true, true, true, true, true, true, true, true, true, true, true, true, true, false, false, false, false, false] rfl rfl (any_of HT_.out (by kernel_rfl)) (fun _ _ _ h => h) (Or.inr ⟨by rfl, rfl⟩) ?_ ?_
                               rotate_left
                               · simp only [Act.put, List.setIfInBounds_toArray, List.set_cons_zero, List.set_cons_succ, i64_w, i32_w]
                                 rfl
                               refine pure_ (i := 13) (N := some 122) (v := undef) (a' := ?_) #[true, true, true, true, true, true, true, true, true, true, true, true, true, true, false, false, false, false] rfl rfl (any_of HT_.out (by kernel_rfl)) (fun _ _ _ h => h) (Or.inr ⟨by rfl, rfl⟩) ?_ ?_
                               rotate_left
                               · simp only [Act.put, List.setIfInBounds_toArray, List.set_cons_zero, List.set_cons_succ, i64_w, i32_w]
                                 rfl
                               refine pure_ (i := 14) (N := some 123) (v := undef) (a' := ?_) #[true, true, true, true, true, true, true, true, true, true, true, true, true, true, true, false, false, false] rfl rfl (any_of HT_.out (by kernel_rfl)) (fun _ _ _ h => h) (Or.inr ⟨by rfl, rfl⟩) ?_ ?_
                               rotate_left
                               · simp only [Act.put, List.setIfInBounds_toArray, List.set_cons_zero, List.set_cons_succ, i64_w, i32_w]
                                 rfl
                               refine pure_ (i := 15) (N := some 124) (v := undef) (a' := ?_) #[true, true, true, true, true, true, true, true, true, true, true, true, true, true, true, true, false, false] rfl rfl (any_of HT_.out (by kernel_rfl)) (fun _ _ _ h => h) (Or.inr ⟨by rfl, rfl⟩) ?_ ?_
                               rotate_left
                               · simp only [Act.put, List.setIfInBounds_toArray, List.set_cons_zero, List.set_cons_succ, i64_w, i32_w]
                                 rfl
                               refine pure_ (i := 16) (N := some 125) (v := undef) (a' := ?_) #[true, true, true, true, true, true, true, true, true, true, true, true, true, true, true, true, true, false] rfl rfl (any_of HT_.out (by kernel_rfl)) (fun _ _ _ h => h) (Or.inr ⟨by rfl, rfl⟩) ?_ ?_
                               rotate_left
                               · simp only [Act.put, List.setIfInBounds_toArray, List.set_cons_zero, List.set_cons_succ, i64_w, i32_w]
                                 rfl
                               refine pz 17 (some 126) #[true, true, true, true, true, true, true, true, true, true, true, true, true, true, true, true, true, true] HT_ ?_
                               refine done_ (done_of HT_.out (by kernel_rfl)) ?_
                               try go_wp2
                               go_roundg k3
                               case measure => have := HK1.out; have := HJ48.out; have := HK3.out; omega
                               case rel => exact ⟨(wrap64 (x19_3 + 1)), (by first | rfl | (simp; done) | (simp [*]; done)), H', ⟨by have := HK1.out; have := HJ48.out; have := HK3.out; omega⟩, ⟨by (with_reducible repeat (first | apply Kd.R_alloc | apply Kd.R_drewN | apply Kd.R_drew)); exact HO_5.out⟩, ⟨qk BK347⟩, ⟨qh HB⟩⟩
                           · rw [if_neg c70] at H
                             exact absurd H (by simp)
                         · rw [if_neg c69] at H
                           exact absurd H (by simp)
                       · rw [if_neg c68] at H
                         exact absurd H (by simp)
                     · rw [if_neg c67] at H
                       have c67b0 : decide (x19_3 ≤ 7) = false := decide_eq_false c67
                       clear c67
                       replace H := Option.bind_eq_some_iff.mp H
                       obtain ⟨⟨t391, t392, t393, t394⟩, A760, H⟩ := H
                       replace H : (if 4 < (x5_1.length : Int) then (if 3 < (x5_1.length : Int) then ((idiomref02_Compare.f k3 ((rd_T23 x5_1 4).f0) ((rd_T23 x5_1 4).f1) ((rd_T23 x5_1 4).f2) ((rd_T23 x5_1 3).f0) ((rd_T23 x5_1 3).f1) ((rd_T23 x5_1 3).f2)).bind fun bt398 => (if ((t394 == 0) == (bt398.1 == 0)) = true then (if t394 = 0 then ((idiomlaw03_awake.f k3).bind fun t400 => (some t400)) else (if t394 = 31 then ((idiomlaw03_awake.f k3).bind fun t401 => (some t401)) else (none))) else (none))) else (none)) else (none)) = some r := H
                       have A76 := Aside0.mk A760
                       clear A760
                       by_cases c77 : 4 < (x5_1.length : Int)
                       · rw [if_pos c77] at H
                         have c77b0 : decide (4 < (x5_1.length : Int)) = true := decide_eq_true c77
                         have c77b1 : decide (4 < x5_1.length) = true := decide_eq_true (by omega)
                         clear c77
                         by_cases c78 : 3 < (x5_1.length : Int)
                         · rw [if_pos c78] at H
                           have c78b0 : decide (3 < (x5_1.length : Int)) = true := decide_eq_true c78
                           have c78b1 : decide (3 < x5_1.length) = true := decide_eq_true (by omega)
                           clear c78
                           replace H := Option.bind_eq_some_iff.mp H
                           obtain ⟨⟨t398, t399⟩, A790, H⟩ := H
                           replace H : (if ((t394 == 0) == (t398 == 0)) = true then (if t394 = 0 then ((idiomlaw03_awake.f k3).bind fun t400 => (some t400)) else (if t394 = 31 then ((idiomlaw03_awake.f k3).bind fun t401 => (some t401)) else (none))) else (none)) = some r := H
                           have A79 := Aside0.mk A790
                           clear A790
                           by_cases c80 : ((t394 == 0) == (t398 == 0)) = true
                           · rw [if_pos c80] at H
                             have c80b0 : ((t394 == 0) == (t398 == 0)) = true := c80
                             (try (have c80b1 : decide ((t394 == 0) = (t398 == 0)) = true := by simpa using c80))
                             (try (have c80b2 : ((t394 == 0) == (t398 == 0)) = true := by simpa using c80))
                             clear c80
                             by_cases c81 : t394 = 0
                             · rw [if_pos c81] at H
                               have c81b0 : (t394 == 0) = true := beq_iff_eq.mpr c81
                               try have c81b0q : (t398 == 0) = true := by have h_ := c80b0; rw [c81b0] at h_; exact (beq_iff_eq.1 h_).symm
                               have c81b1 : (t394 != 0) = false := bne_eq_false_iff_eq.mpr c81
                               try have c81b1z := c81b1
                               (try simp only [bne] at c81b1z)
                               clear c81
                               replace H := Option.bind_eq_some_iff.mp H
                               obtain ⟨t400, A820, H⟩ := H
                               replace H : (some t400) = some r := H
                               have A82 := Aside0.mk A820
                               clear A820
                               obtain rfl := Option.some.inj H
                               obtain ⟨hcz83_0, hcz83_1, hcz83_2, hfz83_0, hfz83_1, hfz83_2⟩ := q3 BK347
                               try go_wp2_with (first | ((with_reducible refine gate_callee (f := 10) rfl ?_); refine goesL_ (some 130) rfl rfl Tryd.func10 (by kernel_rfl) rfl #[.agg #[.bool x348000_1, .string x348001_1, .string x348002_1], .int .i64 8, .int .i64 a1] rfl ql ?_; (with_reducible refine (round_Places.calls k3 x348000_1 x348001_1 x348002_1 8 a1 t391 t392 t393 t394 _ A76.out).mono ?_); rintro e w84 ⟨rfl, hb⟩; refine ⟨_, rfl, ?_⟩; replace HO_5 := Aside0.mk (Kd.R_below (by (with_reducible repeat (first | apply Kd.R_alloc | apply Kd.R_drewN | apply Kd.R_drew)); exact HO_5.out) hb); replace BK347 := qb BK347 hb; replace HB := qn HB hb; (try clear hb); (try clear hb2); (try clear hk); (try clear hi)) | ((with_reducible refine gate_dst (N := 20) rfl ?_); refine qx 20 #[.bool false, .string (⟨#[]⟩ : ByteArray), .string (⟨#[]⟩ : ByteArray)] 23 ?_; intro gb395 hg w85 hbox hb; have BK395 := Aside0.mk (hbox); have GW395 := qs hg HB; have GE395 := GW395; have NB347_395 := ql_ hg BK347; have NB395_347 := qg_ hg BK347; replace HO_5 := Aside0.mk (Kd.R_below (Kd.R_elderB (by (with_reducible repeat (first | apply Kd.R_alloc | apply Kd.R_drewN | apply Kd.R_drew)); exact HO_5.out) gb395 (Nat.le_of_eq hg.symm)) hb); replace BK347 := qb BK347 hb; replace HB := qn HB hb; clear hb hbox hg; have hnb86 := NB395_347.out; have hnc86 := NB347_395.out; obtain ⟨hcz87_0, hcz87_1, hcz87_2, hfz87_0, hfz87_1, hfz87_2⟩ := q3 BK395))
                               have n0_ : Aside0 (Kd.R k23 23 (((w85.setCell ⟨gb395, 0, none⟩ (.bool t391)).setCell ⟨gb395, 1, none⟩ (.string t392)).setCell ⟨gb395, 2, none⟩ (.string t393)) w.heap.size (fun k_ => k_ ≠ gb347 ∧ k_ ≠ gb395) (.slice (some ad363) x5_1.length co51) x5_1) := ⟨by (with_reducible repeat (first | apply Kd.R_alloc | apply Kd.R_drewN | apply Kd.R_drew)); exact Kd.R_mono (Kd.R_far (p := ⟨gb395, 2, none⟩) (Kd.R_far (p := ⟨gb395, 1, none⟩) (Kd.R_far (p := ⟨gb395, 0, none⟩) (Kd.R_mono HO_5.out (fun k_ hk => (⟨hk, hk.2⟩ : _ ∧ k_ ≠ gb395))) (fun _ hk => hk.2) (.bool t391)) (fun _ hk => hk.2) (.string t392)) (fun _ hk => hk.2) (.string t393)) (fun _ hk => ⟨hk.1.1, hk.1.2⟩)⟩
                               have n1_ : Aside0 ((((w85.setCell ⟨gb395, 0, none⟩ (.bool t391)).setCell ⟨gb395, 1, none⟩ (.string t392)).setCell ⟨gb395, 2, none⟩ (.string t393)).heap[gb347]? = some (.cells #[.bool x348000_1, .string x348001_1, .string x348002_1] 23 (0, 0))) := ⟨by refine qf NB347_395 ?_; refine qf NB347_395 ?_; refine qf NB347_395 ?_; exact qk BK347⟩
                               have n2_ : Aside0 ((((w85.setCell ⟨gb395, 0, none⟩ (.bool t391)).setCell ⟨gb395, 1, none⟩ (.string t392)).setCell ⟨gb395, 2, none⟩ (.string t393)).heap[gb395]? = some (.cells #[.bool t391, .string t392, .string t393] 23 (0, 0))) := ⟨by refine qp 2 #[.bool t391, .string t392, .string (⟨#[]⟩ : ByteArray)] ?_; refine qp 1 #[.bool t391, .string (⟨#[]⟩ : ByteArray), .string (⟨#[]⟩ : ByteArray)] ?_; refine qp 0 #[.bool false, .string (⟨#[]⟩ : ByteArray), .string (⟨#[]⟩ : ByteArray)] ?_; exact qk BK395⟩
                               have n3_ : Aside0 (Below w.heap.size w (((w85.setCell ⟨gb395, 0, none⟩ (.bool t391)).setCell ⟨gb395, 1, none⟩ (.string t392)).setCell ⟨gb395, 2, none⟩ (.string t393))) := ⟨qh HB⟩
                               (try clear HO_5)
                               (try clear BK347)
                               (try clear BK395)
                               (try clear HB)
                               generalize (((w85.setCell ⟨gb395, 0, none⟩ (.bool t391)).setCell ⟨gb395, 1, none⟩ (.string t392)).setCell ⟨gb395, 2, none⟩ (.string t393)) = w88 at n0_ n1_ n2_ n3_ ⊢
                               have HO_5 := n0_
                               have BK347 := n1_
                               have BK395 := n2_
                               have HB := n3_
                               clear n0_ n1_ n2_ n3_
                               replace HO_5 := Aside0.mk (Kd.R_drew HO_5.out)
                               replace BK347 := Aside0.mk (blk_drew BK347.out)
                               replace BK395 := Aside0.mk (blk_drew BK395.out)
                               replace HB := Aside0.mk (below_drew1 HB.out)
                               have p396 : 0 ≤ (4 : Int) := (by omega)
                               have q396 : 4 < (x5_1.length : Int) := of_decide_eq_true qa
                               obtain ⟨ad396, e396, hx396_0, hx396_1, hx396_2⟩ := at_T23 (Kd.R_reads' HO_5.out).2.2 4 p396 q396
                               obtain rfl : ad363 = ad396 := (by injection e396)
                               (try simp only [show (4 : Int).toNat = 4 from rfl, Nat.reduceMul, Nat.reduceEqDiff, Go.Addr.add, ↓reduceIte] at hx396_0)
                               (try simp only [show (4 : Int).toNat = 4 from rfl, Nat.reduceMul, Nat.reduceEqDiff, Go.Addr.add, ↓reduceIte] at hx396_1)
                               (try simp only [show (4 : Int).toNat = 4 from rfl, Nat.reduceMul, Nat.reduceEqDiff, Go.Addr.add, ↓reduceIte] at hx396_2)
                               have qi396 : (4 < x5_1.length) = True := eq_true (by omega)
                               (try rw [show ((4 : Int)).toNat = 4 from rfl] at hx396_0)
                               (try rw [show 4 * 3 = 12 from rfl] at hx396_0)
                               (try rw [show ((4 : Int)).toNat = 4 from rfl] at hx396_1)
                               (try rw [show 4 * 3 = 12 from rfl] at hx396_1)
                               (try rw [show ((4 : Int)).toNat = 4 from rfl] at hx396_2)
                               (try rw [show 4 * 3 = 12 from rfl] at hx396_2)
                               replace p396 := eq_true p396
                               replace q396 := eq_true q396
                               have p397 : 0 ≤ (3 : Int) := (by omega)
                               have q397 : 3 < (x5_1.length : Int) := of_decide_eq_true qa
                               obtain ⟨ad397, e397, hx397_0, hx397_1, hx397_2⟩ := at_T23 (Kd.R_reads' HO_5.out).2.2 3 p397 q397
                               obtain rfl : ad363 = ad397 := (by injection e397)
                               (try simp only [show (3 : Int).toNat = 3 from rfl, Nat.reduceMul, Nat.reduceEqDiff, Go.Addr.add, ↓reduceIte] at hx397_0)
                               (try simp only [show (3 : Int).toNat = 3 from rfl, Nat.reduceMul, Nat.reduceEqDiff, Go.Addr.add, ↓reduceIte] at hx397_1)
                               (try simp only [show (3 : Int).toNat = 3 from rfl, Nat.reduceMul, Nat.reduceEqDiff, Go.Addr.add, ↓reduceIte] at hx397_2)
                               have qi397 : (3 < x5_1.length) = True := eq_true (by omega)
                               (try rw [show ((3 : Int)).toNat = 3 from rfl] at hx397_0)
                               (try rw [show 3 * 3 = 9 from rfl] at hx397_0)
                               (try rw [show ((3 : Int)).toNat = 3 from rfl] at hx397_1)
                               (try rw [show 3 * 3 = 9 from rfl] at hx397_1)
                               (try rw [show ((3 : Int)).toNat = 3 from rfl] at hx397_2)
                               (try rw [show 3 * 3 = 9 from rfl] at hx397_2)
                               replace p397 := eq_true p397
                               replace q397 := eq_true q397
                               refine start_ (n := 12) (S := fun w' => w'.cell? ⟨ad363.block, ad363.off + 12, none⟩ = some (.bool ((rd_T23 x5_1 4).f0)) ∧ w'.cell? ⟨ad363.block, ad363.off + 12 + 1, none⟩ = some (.string ((rd_T23 x5_1 4).f1)) ∧ w'.cell? ⟨ad363.block, ad363.off + 12 + 2, none⟩ = some (.string ((rd_T23 x5_1 4).f2)) ∧ w'.cell? ⟨ad363.block, ad363.off + 9, none⟩ = some (.bool ((rd_T23 x5_1 3).f0)) ∧ w'.cell? ⟨ad363.block, ad363.off + 9 + 1, none⟩ = some (.string ((rd_T23 x5_1 3).f1)) ∧ w'.cell? ⟨ad363.block, ad363.off + 9 + 2, none⟩ = some (.string ((rd_T23 x5_1 3).f2))) (ds := []) #[false, false, false, false, false, false, false, false, false, false, false, false] (by kernel_rfl) rfl rfl ⟨hx396_0, hx396_1, hx396_2, hx397_0, hx397_1, hx397_2⟩ (fun hHeld => ?_); refine with_tabW idiomlaw03_RoundModes.tab22 idiomlaw03_RoundModes.bits22 (fun HT_ HW_ => ?_)
                               generalize w88.drew = w89 at HO_5 BK347 BK395 HB hx396_0 hx396_1 hx396_2 hx397_0 hx397_1 hx397_2 hHeld ⊢
                               refine pz 0 (some 134) #[true, false, false, false, false, false, false, false, false, false, false, false] HT_ ?_
                               refine pz 1 (some 135) #[true, true, false, false, false, false, false, false, false, false, false, false] HT_ ?_
                               refine pz 3 (some 137) #[true, true, false, true, false, false, false, false, false, false, false, false] HT_ ?_
                               refine pz 4 (some 138) #[true, true, false, true, true, false, false, false, false, false, false, false] HT_ ?_
                               refine tw6 2 (some 136) #[true, true, true, true, true, false, false, false, false, false, false, false] HT_ HW_ hHeld ?_
                               refine tw6 5 (some 139) #[true, true, true, true, true, true, false, false, false, false, false, false] HT_ HW_ hHeld ?_
                               refine one_ (i := 6) (N := some 140) #[true, true, true, true, true, true, true, false, false, false, false, false] rfl rfl (one_of HT_.out (by kernel_rfl)) (by decide) (fun K hK => ?_)
                               refine goes_ Tryd.func15 (by kernel_rfl) rfl #[.agg #[.bool ((rd_T23 x5_1 4).f0), .string ((rd_T23 x5_1 4).f1), .string ((rd_T23 x5_1 4).f2)], .agg #[.bool ((rd_T23 x5_1 3).f0), .string ((rd_T23 x5_1 3).f1), .string ((rd_T23 x5_1 3).f2)]] (by rfl) rfl rfl ql ?_
                               with_reducible refine (idiomref02_Compare.calls k3 ((rd_T23 x5_1 4).f0) ((rd_T23 x5_1 4).f1) ((rd_T23 x5_1 4).f2) ((rd_T23 x5_1 3).f0) ((rd_T23 x5_1 3).f1) ((rd_T23 x5_1 3).f2) t398 t399 _ A79.out).mono ?_
                               rintro e w90 ⟨rfl, hb⟩
                               have HS0_ := (hb.cell (World.block_lt_of_cell? _ _ (hHeld.1))).trans (hHeld.1)
                               have HS1_ := (hb.cell (World.block_lt_of_cell? _ _ (hHeld.2.1))).trans (hHeld.2.1)
                               have HS2_ := (hb.cell (World.block_lt_of_cell? _ _ (hHeld.2.2.1))).trans (hHeld.2.2.1)
                               have HS3_ := (hb.cell (World.block_lt_of_cell? _ _ (hHeld.2.2.2.1))).trans (hHeld.2.2.2.1)
                               have HS4_ := (hb.cell (World.block_lt_of_cell? _ _ (hHeld.2.2.2.2.1))).trans (hHeld.2.2.2.2.1)
                               have HS5_ := (hb.cell (World.block_lt_of_cell? _ _ (hHeld.2.2.2.2.2))).trans (hHeld.2.2.2.2.2)
                               refine ⟨_, rfl, ?_⟩
                               replace HO_5 := Aside0.mk (Kd.R_below (by (with_reducible repeat (first | apply Kd.R_alloc | apply Kd.R_drewN | apply Kd.R_drew)); exact HO_5.out) hb)
                               replace BK347 := qb BK347 hb
                               replace BK395 := qb BK395 hb
                               replace HB := qn HB hb
                               (try clear hb)
                               (try clear hb2)
                               (try clear hk)
                               (try clear hi)
                               refine hK.out _ _ ⟨HS0_, HS1_, HS2_, HS3_, HS4_, HS5_⟩ (fun hHeld => ?_)
                               clear hK K
                               refine nz (some 140) ?_
                               refine pz 7 (some 133) #[true, true, true, true, true, true, true, true, false, false, false, false] HT_ ?_
                               refine pz 8 (some 141) #[true, true, true, true, true, true, true, true, true, false, false, false] HT_ ?_
                               refine pz 9 (some 142) #[true, true, true, true, true, true, true, true, true, true, false, false] HT_ ?_
                               refine pz 10 (some 22) #[true, true, true, true, true, true, true, true, true, true, true, false] HT_ ?_
                               refine pz 11 (some 23) #[true, true, true, true, true, true, true, true, true, true, true, true] HT_ ?_
                               refine done_ (done_of HT_.out (by kernel_rfl)) ?_
                               try go_wp2_with (first | (go_at_call 12; (with_reducible refine (idiomlaw03_awake.calls k3  t400 _ A82.out).mono ?_); rintro e w91 ⟨rfl, hb⟩; replace HO_5 := Aside0.mk (Kd.R_below (by (with_reducible repeat (first | apply Kd.R_alloc | apply Kd.R_drewN | apply Kd.R_drew)); exact HO_5.out) hb); replace BK347 := qb BK347 hb; replace BK395 := qb BK395 hb; replace HB := qn HB hb; (try clear hb); (try clear hb2); (try clear hk); (try clear hi)))
                               go_ret
                               exact ⟨qe, qh HB⟩
                             · rw [if_neg c81] at H
                               have c81b0 : (t394 == 0) = false := beq_eq_false_iff_ne.mpr c81
                               try have c81b0q : (t398 == 0) = false := by have h_ := c80b0; rw [c81b0] at h_; exact (beq_iff_eq.1 h_).symm
                               have c81b1 : (t394 != 0) = true := bne_iff_ne.mpr c81
                               try have c81b1z := c81b1
                               (try simp only [bne] at c81b1z)
                               by_cases c92 : t394 = 31
                               · rw [if_pos c92] at H
                                 have c92b0 : (t394 == 31) = true := beq_iff_eq.mpr c92
                                 have c92b1 : (t394 != 31) = false := bne_eq_false_iff_eq.mpr c92
                                 try have c92b1z := c92b1
                                 (try simp only [bne] at c92b1z)
                                 clear c92
                                 replace H := Option.bind_eq_some_iff.mp H
                                 obtain ⟨t401, A930, H⟩ := H
                                 replace H : (some t401) = some r := H
                                 have A93 := Aside0.mk A930
                                 clear A930
                                 obtain rfl := Option.some.inj H
                                 obtain ⟨hcz94_0, hcz94_1, hcz94_2, hfz94_0, hfz94_1, hfz94_2⟩ := q3 BK347
                                 try go_wp2_with (first | ((with_reducible refine gate_callee (f := 10) rfl ?_); refine goesL_ (some 130) rfl rfl Tryd.func10 (by kernel_rfl) rfl #[.agg #[.bool x348000_1, .string x348001_1, .string x348002_1], .int .i64 8, .int .i64 a1] rfl ql ?_; (with_reducible refine (round_Places.calls k3 x348000_1 x348001_1 x348002_1 8 a1 t391 t392 t393 t394 _ A76.out).mono ?_); rintro e w95 ⟨rfl, hb⟩; refine ⟨_, rfl, ?_⟩; replace HO_5 := Aside0.mk (Kd.R_below (by (with_reducible repeat (first | apply Kd.R_alloc | apply Kd.R_drewN | apply Kd.R_drew)); exact HO_5.out) hb); replace BK347 := qb BK347 hb; replace HB := qn HB hb; (try clear hb); (try clear hb2); (try clear hk); (try clear hi)) | ((with_reducible refine gate_dst (N := 20) rfl ?_); refine qx 20 #[.bool false, .string (⟨#[]⟩ : ByteArray), .string (⟨#[]⟩ : ByteArray)] 23 ?_; intro gb395 hg w96 hbox hb; have BK395 := Aside0.mk (hbox); have GW395 := qs hg HB; have GE395 := GW395; have NB347_395 := ql_ hg BK347; have NB395_347 := qg_ hg BK347; replace HO_5 := Aside0.mk (Kd.R_below (Kd.R_elderB (by (with_reducible repeat (first | apply Kd.R_alloc | apply Kd.R_drewN | apply Kd.R_drew)); exact HO_5.out) gb395 (Nat.le_of_eq hg.symm)) hb); replace BK347 := qb BK347 hb; replace HB := qn HB hb; clear hb hbox hg; have hnb97 := NB395_347.out; have hnc97 := NB347_395.out; obtain ⟨hcz98_0, hcz98_1, hcz98_2, hfz98_0, hfz98_1, hfz98_2⟩ := q3 BK395))
                                 have n0_ : Aside0 (Kd.R k23 23 (((w96.setCell ⟨gb395, 0, none⟩ (.bool t391)).setCell ⟨gb395, 1, none⟩ (.string t392)).setCell ⟨gb395, 2, none⟩ (.string t393)) w.heap.size (fun k_ => k_ ≠ gb347 ∧ k_ ≠ gb395) (.slice (some ad363) x5_1.length co51) x5_1) := ⟨by (with_reducible repeat (first | apply Kd.R_alloc | apply Kd.R_drewN | apply Kd.R_drew)); exact Kd.R_mono (Kd.R_far (p := ⟨gb395, 2, none⟩) (Kd.R_far (p := ⟨gb395, 1, none⟩) (Kd.R_far (p := ⟨gb395, 0, none⟩) (Kd.R_mono HO_5.out (fun k_ hk => (⟨hk, hk.2⟩ : _ ∧ k_ ≠ gb395))) (fun _ hk => hk.2) (.bool t391)) (fun _ hk => hk.2) (.string t392)) (fun _ hk => hk.2) (.string t393)) (fun _ hk => ⟨hk.1.1, hk.1.2⟩)⟩
                                 have n1_ : Aside0 ((((w96.setCell ⟨gb395, 0, none⟩ (.bool t391)).setCell ⟨gb395, 1, none⟩ (.string t392)).setCell ⟨gb395, 2, none⟩ (.string t393)).heap[gb347]? = some (.cells #[.bool x348000_1, .string x348001_1, .string x348002_1] 23 (0, 0))) := ⟨by refine qf NB347_395 ?_; refine qf NB347_395 ?_; refine qf NB347_395 ?_; exact qk BK347⟩
                                 have n2_ : Aside0 ((((w96.setCell ⟨gb395, 0, none⟩ (.bool t391)).setCell ⟨gb395, 1, none⟩ (.string t392)).setCell ⟨gb395, 2, none⟩ (.string t393)).heap[gb395]? = some (.cells #[.bool t391, .string t392, .string t393] 23 (0, 0))) := ⟨by refine qp 2 #[.bool t391, .string t392, .string (⟨#[]⟩ : ByteArray)] ?_; refine qp 1 #[.bool t391, .string (⟨#[]⟩ : ByteArray), .string (⟨#[]⟩ : ByteArray)] ?_; refine qp 0 #[.bool false, .string (⟨#[]⟩ : ByteArray), .string (⟨#[]⟩ : ByteArray)] ?_; exact qk BK395⟩
                                 have n3_ : Aside0 (Below w.heap.size w (((w96.setCell ⟨gb395, 0, none⟩ (.bool t391)).setCell ⟨gb395, 1, none⟩ (.string t392)).setCell ⟨gb395, 2, none⟩ (.string t393))) := ⟨qh HB⟩
                                 (try clear HO_5)
                                 (try clear BK347)
                                 (try clear BK395)
                                 (try clear HB)
                                 generalize (((w96.setCell ⟨gb395, 0, none⟩ (.bool t391)).setCell ⟨gb395, 1, none⟩ (.string t392)).setCell ⟨gb395, 2, none⟩ (.string t393)) = w99 at n0_ n1_ n2_ n3_ ⊢
                                 have HO_5 := n0_
                                 have BK347 := n1_
                                 have BK395 := n2_
                                 have HB := n3_
                                 clear n0_ n1_ n2_ n3_
                                 replace HO_5 := Aside0.mk (Kd.R_drew HO_5.out)
                                 replace BK347 := Aside0.mk (blk_drew BK347.out)
                                 replace BK395 := Aside0.mk (blk_drew BK395.out)
                                 replace HB := Aside0.mk (below_drew1 HB.out)
                                 have p396 : 0 ≤ (4 : Int) := (by omega)
                                 have q396 : 4 < (x5_1.length : Int) := of_decide_eq_true qa
                                 obtain ⟨ad396, e396, hx396_0, hx396_1, hx396_2⟩ := at_T23 (Kd.R_reads' HO_5.out).2.2 4 p396 q396
                                 obtain rfl : ad363 = ad396 := (by injection e396)
                                 (try simp only [show (4 : Int).toNat = 4 from rfl, Nat.reduceMul, Nat.reduceEqDiff, Go.Addr.add, ↓reduceIte] at hx396_0)
                                 (try simp only [show (4 : Int).toNat = 4 from rfl, Nat.reduceMul, Nat.reduceEqDiff, Go.Addr.add, ↓reduceIte] at hx396_1)
                                 (try simp only [show (4 : Int).toNat = 4 from rfl, Nat.reduceMul, Nat.reduceEqDiff, Go.Addr.add, ↓reduceIte] at hx396_2)
                                 have qi396 : (4 < x5_1.length) = True := eq_true (by omega)
                                 (try rw [show ((4 : Int)).toNat = 4 from rfl] at hx396_0)
                                 (try rw [show 4 * 3 = 12 from rfl] at hx396_0)
                                 (try rw [show ((4 : Int)).toNat = 4 from rfl] at hx396_1)
                                 (try rw [show 4 * 3 = 12 from rfl] at hx396_1)
                                 (try rw [show ((4 : Int)).toNat = 4 from rfl] at hx396_2)
                                 (try rw [show 4 * 3 = 12 from rfl] at hx396_2)
                                 replace p396 := eq_true p396
                                 replace q396 := eq_true q396
                                 have p397 : 0 ≤ (3 : Int) := (by omega)
                                 have q397 : 3 < (x5_1.length : Int) := of_decide_eq_true qa
                                 obtain ⟨ad397, e397, hx397_0, hx397_1, hx397_2⟩ := at_T23 (Kd.R_reads' HO_5.out).2.2 3 p397 q397
                                 obtain rfl : ad363 = ad397 := (by injection e397)
                                 (try simp only [show (3 : Int).toNat = 3 from rfl, Nat.reduceMul, Nat.reduceEqDiff, Go.Addr.add, ↓reduceIte] at hx397_0)
                                 (try simp only [show (3 : Int).toNat = 3 from rfl, Nat.reduceMul, Nat.reduceEqDiff, Go.Addr.add, ↓reduceIte] at hx397_1)
                                 (try simp only [show (3 : Int).toNat = 3 from rfl, Nat.reduceMul, Nat.reduceEqDiff, Go.Addr.add, ↓reduceIte] at hx397_2)
                                 have qi397 : (3 < x5_1.length) = True := eq_true (by omega)
                                 (try rw [show ((3 : Int)).toNat = 3 from rfl] at hx397_0)
                                 (try rw [show 3 * 3 = 9 from rfl] at hx397_0)
                                 (try rw [show ((3 : Int)).toNat = 3 from rfl] at hx397_1)
                                 (try rw [show 3 * 3 = 9 from rfl] at hx397_1)
                                 (try rw [show ((3 : Int)).toNat = 3 from rfl] at hx397_2)
                                 (try rw [show 3 * 3 = 9 from rfl] at hx397_2)
                                 replace p397 := eq_true p397
                                 replace q397 := eq_true q397
                                 refine start_ (n := 12) (S := fun w' => w'.cell? ⟨ad363.block, ad363.off + 12, none⟩ = some (.bool ((rd_T23 x5_1 4).f0)) ∧ w'.cell? ⟨ad363.block, ad363.off + 12 + 1, none⟩ = some (.string ((rd_T23 x5_1 4).f1)) ∧ w'.cell? ⟨ad363.block, ad363.off + 12 + 2, none⟩ = some (.string ((rd_T23 x5_1 4).f2)) ∧ w'.cell? ⟨ad363.block, ad363.off + 9, none⟩ = some (.bool ((rd_T23 x5_1 3).f0)) ∧ w'.cell? ⟨ad363.block, ad363.off + 9 + 1, none⟩ = some (.string ((rd_T23 x5_1 3).f1)) ∧ w'.cell? ⟨ad363.block, ad363.off + 9 + 2, none⟩ = some (.string ((rd_T23 x5_1 3).f2))) (ds := []) #[false, false, false, false, false, false, false, false, false, false, false, false] (by kernel_rfl) rfl rfl ⟨hx396_0, hx396_1, hx396_2, hx397_0, hx397_1, hx397_2⟩ (fun hHeld => ?_); refine with_tabW idiomlaw03_RoundModes.tab22 idiomlaw03_RoundModes.bits22 (fun HT_ HW_ => ?_)
                                 generalize w99.drew = w100 at HO_5 BK347 BK395 HB hx396_0 hx396_1 hx396_2 hx397_0 hx397_1 hx397_2 hHeld ⊢
                                 refine pz 0 (some 134) #[true, false, false, false, false, false, false, false, false, false, false, false] HT_ ?_
                                 refine pz 1 (some 135) #[true, true, false, false, false, false, false, false, false, false, false, false] HT_ ?_
                                 refine pz 3 (some 137) #[true, true, false, true, false, false, false, false, false, false, false, false] HT_ ?_
                                 refine pz 4 (some 138) #[true, true, false, true, true, false, false, false, false, false, false, false] HT_ ?_
                                 refine tw6 2 (some 136) #[true, true, true, true, true, false, false, false, false, false, false, false] HT_ HW_ hHeld ?_
                                 refine tw6 5 (some 139) #[true, true, true, true, true, true, false, false, false, false, false, false] HT_ HW_ hHeld ?_
                                 refine one_ (i := 6) (N := some 140) #[true, true, true, true, true, true, true, false, false, false, false, false] rfl rfl (one_of HT_.out (by kernel_rfl)) (by decide) (fun K hK => ?_)
                                 refine goes_ Tryd.func15 (by kernel_rfl) rfl #[.agg #[.bool ((rd_T23 x5_1 4).f0), .string ((rd_T23 x5_1 4).f1), .string ((rd_T23 x5_1 4).f2)], .agg #[.bool ((rd_T23 x5_1 3).f0), .string ((rd_T23 x5_1 3).f1), .string ((rd_T23 x5_1 3).f2)]] (by rfl) rfl rfl ql ?_
                                 with_reducible refine (idiomref02_Compare.calls k3 ((rd_T23 x5_1 4).f0) ((rd_T23 x5_1 4).f1) ((rd_T23 x5_1 4).f2) ((rd_T23 x5_1 3).f0) ((rd_T23 x5_1 3).f1) ((rd_T23 x5_1 3).f2) t398 t399 _ A79.out).mono ?_
                                 rintro e w101 ⟨rfl, hb⟩
                                 have HS0_ := (hb.cell (World.block_lt_of_cell? _ _ (hHeld.1))).trans (hHeld.1)
                                 have HS1_ := (hb.cell (World.block_lt_of_cell? _ _ (hHeld.2.1))).trans (hHeld.2.1)
                                 have HS2_ := (hb.cell (World.block_lt_of_cell? _ _ (hHeld.2.2.1))).trans (hHeld.2.2.1)
                                 have HS3_ := (hb.cell (World.block_lt_of_cell? _ _ (hHeld.2.2.2.1))).trans (hHeld.2.2.2.1)
                                 have HS4_ := (hb.cell (World.block_lt_of_cell? _ _ (hHeld.2.2.2.2.1))).trans (hHeld.2.2.2.2.1)
                                 have HS5_ := (hb.cell (World.block_lt_of_cell? _ _ (hHeld.2.2.2.2.2))).trans (hHeld.2.2.2.2.2)
                                 refine ⟨_, rfl, ?_⟩
                                 replace HO_5 := Aside0.mk (Kd.R_below (by (with_reducible repeat (first | apply Kd.R_alloc | apply Kd.R_drewN | apply Kd.R_drew)); exact HO_5.out) hb)
                                 replace BK347 := qb BK347 hb
                                 replace BK395 := qb BK395 hb
                                 replace HB := qn HB hb
                                 (try clear hb)
                                 (try clear hb2)
                                 (try clear hk)
                                 (try clear hi)
                                 refine hK.out _ _ ⟨HS0_, HS1_, HS2_, HS3_, HS4_, HS5_⟩ (fun hHeld => ?_)
                                 clear hK K
                                 refine nz (some 140) ?_
                                 refine pz 7 (some 133) #[true, true, true, true, true, true, true, true, false, false, false, false] HT_ ?_
                                 refine pz 8 (some 141) #[true, true, true, true, true, true, true, true, true, false, false, false] HT_ ?_
                                 refine pz 9 (some 142) #[true, true, true, true, true, true, true, true, true, true, false, false] HT_ ?_
                                 refine pz 10 (some 22) #[true, true, true, true, true, true, true, true, true, true, true, false] HT_ ?_
                                 refine pz 11 (some 23) #[true, true, true, true, true, true, true, true, true, true, true, true] HT_ ?_
                                 refine done_ (done_of HT_.out (by kernel_rfl)) ?_
                                 try go_wp2_with (first | (go_at_call 12; (with_reducible refine (idiomlaw03_awake.calls k3  t401 _ A93.out).mono ?_); rintro e w102 ⟨rfl, hb⟩; replace HO_5 := Aside0.mk (Kd.R_below (by (with_reducible repeat (first | apply Kd.R_alloc | apply Kd.R_drewN | apply Kd.R_drew)); exact HO_5.out) hb); replace BK347 := qb BK347 hb; replace BK395 := qb BK395 hb; replace HB := qn HB hb; (try clear hb); (try clear hb2); (try clear hk); (try clear hi)))
                                 go_ret
                                 exact ⟨qe, qh HB⟩
                               · rw [if_neg c92] at H
                                 exact absurd H (by simp)
                           · rw [if_neg c80] at H
                             exact absurd H (by simp)
                         · rw [if_neg c78] at H
                           exact absurd H (by simp)
                       · rw [if_neg c77] at H
                         exact absurd H (by simp)
             · rw [if_neg c45] at H
               exact absurd H (by simp)
           · rw [if_neg c41] at H
             exact absurd H (by simp)
         · rw [if_neg c39] at H
           exact absurd H (by simp)
       · rw [if_neg c37] at H
         exact absurd H (by simp)
 · rw [if_neg c3] at H
   exact absurd H (by simp)

end Go.Proofs.YtpmhebdaphjinaaDoor.F
