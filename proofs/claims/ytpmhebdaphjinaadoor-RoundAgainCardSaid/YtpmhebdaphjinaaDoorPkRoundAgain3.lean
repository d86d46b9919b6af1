/- Part 4 of 8 of the proof of the law RoundAgain: it is true at every input. Conditions: those of the given row, no others. -/
import Derived.Test.YtpmhebdaphjinaaDoorPkRoundAgain0
import Derived.Test.YtpmhebdaphjinaaDoorPkRoundAgain1
import Derived.Test.YtpmhebdaphjinaaDoorPkRoundAgain2
namespace Go.Proofs.YtpmhebdaphjinaaDoor.F
open Go.RowKit Go.Proofs.YtpmhebdaphjinaaDoorW.PrintWords Go.Proofs.YtpmhebdaphjinaaDoorW.PrintLast Go.Proofs.YtpmhebdaphjinaaDoorW.PrintMore Go.Proofs.YtpmhebdaphjinaaDoor.Q
attribute [local go_sem] max2_int min2_int max_two min_two max_three min_three max_four min_four   -- for this text's walks alone
set_option linter.unusedVariables false
set_option linter.unusedSimpArgs false

def idiomref03_Places.j0 : Nat → Int → Int → Bool → Bool → ByteArray → ByteArray → Option (Bool × ByteArray × ByteArray × Int)
 | 0, _, _, _, _, _, _ => none
 | k + 1, x1, x2, x23, x192000, x192001, x192002 => if x23 = true then (some (false, (⟨#[]⟩ : ByteArray), (⟨#[]⟩ : ByteArray), 1)) else (if (x192002.size : Int) ≤ x2 then (some (x192000, x192001, x192002, 0)) else (if x192001.size + x192002.size ≤ 9223372036854775807 then ((idiomref03_Noughts.f k (wrap64 ((x192002.size : Int) - x2))).bind fun t194 => (if 1 + t194.size ≤ 9223372036854775807 then ((idiomref03_turned.f k x1 x192000 (x192001 ++ x192002) ((⟨#[49]⟩ : ByteArray) ++ t194)).bind fun bt195 => (if bt195.2 = 0 then ((idiomref03_Made.f k x192000 bt195.1 x2).bind fun bt197 => (some (bt197.1, bt197.2.1, bt197.2.2, 0))) else (some (false, (⟨#[]⟩ : ByteArray), (⟨#[]⟩ : ByteArray), bt195.2)))) else (none))) else (none)))
def idiomref03_Places.f (k : Nat) (a0_0 : Bool) (a0_1 : ByteArray) (a0_2 : ByteArray) (a1 : Int) (a2 : Int) : Option (Bool × ByteArray × ByteArray × Int) := (idiomref03_asked.f k a0_0 a0_1 a0_2 a1).bind fun t193 => (if t193 = 0 then (if a2 < 0 then (idiomref03_Places.j0 k a1 a2 true a0_0 a0_1 a0_2) else (idiomref03_Places.j0 k a1 a2 (decide (a2 > 40)) a0_0 a0_1 a0_2)) else (some (false, (⟨#[]⟩ : ByteArray), (⟨#[]⟩ : ByteArray), t193)))
theorem idiomref03_Places.mono_l : ∀ k, (∀ y0 y1 y2 y3 y4 y5, LeO (idiomref03_Places.j0 k y0 y1 y2 y3 y4 y5) (idiomref03_Places.j0 (k + 1) y0 y1 y2 y3 y4 y5))
 | 0 => fun _ _ _ _ _ _ r h => by simp [idiomref03_Places.j0] at h
 | k + 1 => by
  have ih0 := idiomref03_Places.mono_l k
  · intro y0 y1 y2 y3 y4 y5
    unfold idiomref03_Places.j0
    repeat' first
    | (with_reducible exact ih0 _ _ _ _ _ _)
    | (with_reducible exact idiomref03_Made.mono _ _ _ _)
    | (with_reducible exact idiomref03_Noughts.mono _ _)
    | (with_reducible exact idiomref03_asked.mono _ _ _ _ _)
    | (with_reducible exact idiomref03_turned.mono _ _ _ _ _)
    | (with_reducible exact LeO.refl _)
    | (with_reducible exact LeO.none _)
    | (with_reducible refine LeO.ite ?_ ?_)
    | (with_reducible refine LeO.bind ?_ (fun _ => ?_))
    | exact ih0 _ _ _ _ _ _
    | exact idiomref03_Made.mono _ _ _ _
    | exact idiomref03_Noughts.mono _ _
    | exact idiomref03_asked.mono _ _ _ _ _
    | exact idiomref03_turned.mono _ _ _ _ _
    | exact LeO.none _
    | refine LeO.ite ?_ ?_
    | refine LeO.bind ?_ (fun _ => ?_)
theorem idiomref03_Places.mono : ∀ a0 a1 a2 a3 a4 k, LeO (idiomref03_Places.f k a0 a1 a2 a3 a4) (idiomref03_Places.f (k + 1) a0 a1 a2 a3 a4) := by
 intro a0 a1 a2 a3 a4 k
 have ih0 := idiomref03_Places.mono_l k
 unfold idiomref03_Places.f
 repeat' first
  | (with_reducible exact ih0 _ _ _ _ _ _)
  | (with_reducible exact idiomref03_Made.mono _ _ _ _)
  | (with_reducible exact idiomref03_Noughts.mono _ _)
  | (with_reducible exact idiomref03_asked.mono _ _ _ _ _)
  | (with_reducible exact idiomref03_turned.mono _ _ _ _ _)
  | (with_reducible exact LeO.refl _)
  | (with_reducible exact LeO.none _)
  | (with_reducible refine LeO.ite ?_ ?_)
  | (with_reducible refine LeO.bind ?_ (fun _ => ?_))
  | exact ih0 _ _ _ _ _ _
  | exact idiomref03_Made.mono _ _ _ _
  | exact idiomref03_Noughts.mono _ _
  | exact idiomref03_asked.mono _ _ _ _ _
  | exact idiomref03_turned.mono _ _ _ _ _
  | exact LeO.none _
  | refine LeO.ite ?_ ?_
  | refine LeO.bind ?_ (fun _ => ?_)
def idiomref03_Places.T8 : Bool × List (List Nat × List Nat) := (true, [([], []), ([], []), ([1], [1]), ([], []), ([3], [3]), ([], []), ([5], [5]), ([4, 6], [4, 6]), ([], []), ([8], [8]), ([9], [9]), ([], []), ([10, 11], [10, 11]), ([12], [12]), ([13], [13]), ([0, 2, 7, 14, 13], [0, 2, 7, 14]), ([15], [15]), ([16], [16]), ([16], [16]), ([17, 15, 0, 1, 2, 3, 4, 5, 6, 7, 8, 9, 10, 11, 12, 13, 14, 15, 16, 17], [17]), ([18, 19, 0, 1, 2, 3, 4, 5, 6, 7, 8, 9, 10, 11, 12, 13, 14, 15, 16, 17, 18, 19], [18])])
def idiomref03_Places.B8 : List Nat := [0, 0, 2, 0, 8, 0, 32, 120, 0, 256, 768, 0, 3840, 7936, 16128, 32767, 65535, 131071, 131071, 262143, 1048575]
theorem idiomref03_Places.tab8 : rtab .any (opsOf Tryd.f11 8) = idiomref03_Places.T8 := by kernel_rfl
theorem idiomref03_Places.bits8 : waitsOk idiomref03_Places.T8.2 idiomref03_Places.B8 = true := by kernel_rfl
set_option maxHeartbeats 8000000 in
set_option maxRecDepth 100000 in
theorem idiomref03_Places.calls (k : Nat) (a0_0 : Bool) (a0_1 : ByteArray) (a0_2 : ByteArray) (a1 : Int) (a2 : Int) (r1 : Bool) (r2 : ByteArray) (r3 : ByteArray) (r4 : Int) (w : World) (h : idiomref03_Places.f k a0_0 a0_1 a0_2 a1 a2 = some (r1, r2, r3, r4)) :
 Calls Tryd.prog 11 #[.agg #[.bool a0_0, .string a0_1, .string a0_2], .int .i64 a1, .int .i64 a2] w fun e w' => e = .returned (.tuple #[.agg #[.bool r1, .string r2, .string r3], .int .i64 r4]) ∧ Below w.heap.size w w' := by
 have hu23 := Tryd.underlying23
 have HB := Aside0.mk (Below.refl w.heap.size w)
 have H : ((idiomref03_asked.f k a0_0 a0_1 a0_2 a1).bind fun t193 => (if t193 = 0 then (if a2 < 0 then (idiomref03_Places.j0 k a1 a2 true a0_0 a0_1 a0_2) else (idiomref03_Places.j0 k a1 a2 (decide (a2 > 40)) a0_0 a0_1 a0_2)) else (some (false, (⟨#[]⟩ : ByteArray), (⟨#[]⟩ : ByteArray), t193)))) = some (r1, r2, r3, r4) := h
 clear h
 replace H := Option.bind_eq_some_iff.mp H
 obtain ⟨t193, A40, H⟩ := H
 replace H : (if t193 = 0 then (if a2 < 0 then (idiomref03_Places.j0 k a1 a2 true a0_0 a0_1 a0_2) else (idiomref03_Places.j0 k a1 a2 (decide (a2 > 40)) a0_0 a0_1 a0_2)) else (some (false, (⟨#[]⟩ : ByteArray), (⟨#[]⟩ : ByteArray), t193))) = some (r1, r2, r3, r4) := H
 have A4 := Aside0.mk A40
 clear A40
 by_cases c5 : t193 = 0
 · rw [if_pos c5] at H
   have c5b0 : (t193 == 0) = true := beq_iff_eq.mpr c5
   have c5b1 : (t193 != 0) = false := bne_eq_false_iff_eq.mpr c5
   try have c5b1z := c5b1
   (try simp only [bne] at c5b1z)
   clear c5
   have HC6 := Aside0.mk H
   clear H
   go_enter Tryd.func11, Tryd.ntmps11
   go_upto_region 4 with (first | ((with_reducible refine gate_dst (N := 3) rfl ?_); refine qx 3 #[.bool a0_0, .string a0_1, .string a0_2] 23 ?_; intro gb191 hg w7 hbox hb; have BK191 := Aside0.mk (hbox); have GW191 := qs hg HB; have GE191 := GW191; replace HB := qn HB hb; clear hb hbox hg) | ((with_reducible refine gate_dst (N := 6) rfl ?_); refine qx 6 #[.bool false, .string (⟨#[]⟩ : ByteArray), .string (⟨#[]⟩ : ByteArray)] 23 ?_; intro gb192 hg w8 hbox hb; have BK192 := Aside0.mk (hbox); have GW192 := qs hg HB; have GE192 := GW192; have NB191_192 := ql_ hg BK191; have NB192_191 := qg_ hg BK191; replace BK191 := qb BK191 hb; replace HB := qn HB hb; clear hb hbox hg; have hnb9 := NB191_192.out; have hnc9 := NB192_191.out; obtain ⟨hcz10_0, hcz10_1, hcz10_2, hfz10_0, hfz10_1, hfz10_2⟩ := q3 BK191) | ((with_reducible refine gate_callee (f := 26) rfl ?_); refine goesL_ (some 13) rfl rfl Tryd.func26 (by kernel_rfl) rfl #[.agg #[.bool a0_0, .string a0_1, .string a0_2], .int .i64 a1] rfl ql ?_; (with_reducible refine (idiomref03_asked.calls k a0_0 a0_1 a0_2 a1 t193 _ A4.out).mono ?_); rintro e w11 ⟨rfl, hb⟩; refine ⟨_, rfl, ?_⟩; replace BK191 := qb BK191 hb; replace BK192 := qb BK192 hb; replace HB := qn HB hb; (try clear hb); (try clear hb2); (try clear hk); (try clear hi)))
   (try simp only [Act.put, List.setIfInBounds_toArray, List.set_cons_zero, List.set_cons_succ])
   go_cut [23] (fun v23 wc => ∃ (kq : Nat) (x23_5 : Bool), v23 = .bool x23_5 ∧ Aside0 (idiomref03_Places.j0 kq a1 a2 x23_5 a0_0 a0_1 a0_2 = some (r1, r2, r3, r4)) ∧ Aside0 (kq ≤ k) ∧ Aside0 (wc.heap[gb191]? = some (.cells #[.bool a0_0, .string a0_1, .string a0_2] 23 (0, 0))) ∧ Aside0 (wc.heap[gb192]? = some (.cells #[.bool false, .string (⟨#[]⟩ : ByteArray), .string (⟨#[]⟩ : ByteArray)] 23 (0, 0))) ∧ Aside0 (Below w.heap.size w wc))
   case first =>
    have H := HC6.out
    clear HC6
    by_cases c12 : a2 < 0
    · rw [if_pos c12] at H
      have c12b0 : decide (a2 < 0) = true := decide_eq_true c12
      clear c12
      (first | rw [c12b0] | (simp only [i64_w, i32_w]; rw [c12b0]) | skip)
      have H' := Aside0.mk H
      clear H
      go_wp2
      go_meet
      case rel => exact ⟨_, (true), (by first | rfl | (simp; done) | (simp [*]; done)), H', ⟨by first | omega | exact Nat.le_refl _⟩, ⟨qk BK191⟩, ⟨qk BK192⟩, ⟨qh HB⟩⟩
    · rw [if_neg c12] at H
      have c12b0 : decide (a2 < 0) = false := decide_eq_false c12
      clear c12
      (first | rw [c12b0] | (simp only [i64_w, i32_w]; rw [c12b0]) | skip)
      have H' := Aside0.mk H
      clear H
      go_wp2
      go_meet
      case rel => exact ⟨_, (decide (a2 > 40)), (by first | rfl | (simp; done) | (simp [*]; done)), H', ⟨by first | omega | exact Nat.le_refl _⟩, ⟨qk BK191⟩, ⟨qk BK192⟩, ⟨qh HB⟩⟩
   case rest =>
    clear HC6
    try clear c1
    try clear c2
    try clear p2
    try clear c5
    try clear c5b0
    try clear c5b1
    try clear c9
    try clear c11
    try clear c12
    try clear c12b0
    try clear hcz10_0
    try clear hcz10_1
    try clear hcz10_2
    try clear hfz10_0
    try clear hfz10_1
    try clear hfz10_2
    obtain ⟨kq, x23_5, rfl, HA, HJ5, BK191, BK192, HB⟩ := hcut
    cases kq with
    | zero => exact absurd HA.out (by simp [idiomref03_Places.j0])
    | succ kj5 =>
     have H := HA.out
     clear HA
     simp only [idiomref03_Places.j0] at H
     by_cases c13 : x23_5 = true
     · subst c13
       have H1 : (some (false, (⟨#[]⟩ : ByteArray), (⟨#[]⟩ : ByteArray), 1)) = some (r1, r2, r3, r4) := by rw [if_pos rfl] at H; exact H
       clear H
       have H := H1
       clear H1
       simp only [Option.some.injEq, Prod.mk.injEq] at H
       obtain ⟨rfl, rfl, rfl, rfl⟩ := H
       have hnb14 := NB192_191.out
       have hnc14 := NB191_192.out
       obtain ⟨hcz15_0, hcz15_1, hcz15_2, hfz15_0, hfz15_1, hfz15_2⟩ := q3 BK192
       go_wp2
       refine bodyPost_ret (results_ct rfl _ _ gb192 23 #[.bool false, .string (⟨#[]⟩ : ByteArray), .string (⟨#[]⟩ : ByteArray)] (0, 0) _ rfl (by refine qp 2 #[.bool false, .string (⟨#[]⟩ : ByteArray), .string (⟨#[]⟩ : ByteArray)] ?_; refine qp 1 #[.bool false, .string (⟨#[]⟩ : ByteArray), .string (⟨#[]⟩ : ByteArray)] ?_; refine qp 0 #[.bool false, .string (⟨#[]⟩ : ByteArray), .string (⟨#[]⟩ : ByteArray)] ?_; exact qk BK192) Tryd.underlying23 rfl (by kernel_rfl)) rfl ?_
       exact ⟨qe, qh HB⟩
     · replace c13 := Bool.eq_false_iff.mpr c13
       subst c13
       have H1 : (if (a0_2.size : Int) ≤ a2 then (some (a0_0, a0_1, a0_2, 0)) else (if a0_1.size + a0_2.size ≤ 9223372036854775807 then ((idiomref03_Noughts.f kj5 (wrap64 ((a0_2.size : Int) - a2))).bind fun t194 => (if 1 + t194.size ≤ 9223372036854775807 then ((idiomref03_turned.f kj5 a1 a0_0 (a0_1 ++ a0_2) ((⟨#[49]⟩ : ByteArray) ++ t194)).bind fun bt195 => (if bt195.2 = 0 then ((idiomref03_Made.f kj5 a0_0 bt195.1 a2).bind fun bt197 => (some (bt197.1, bt197.2.1, bt197.2.2, 0))) else (some (false, (⟨#[]⟩ : ByteArray), (⟨#[]⟩ : ByteArray), bt195.2)))) else (none))) else (none))) = some (r1, r2, r3, r4) := by rw [if_neg (show ¬ (false = true) by decide)] at H; exact H
       clear H
       have H := H1
       clear H1
       by_cases c16 : (a0_2.size : Int) ≤ a2
       · rw [if_pos c16] at H
         have c16b0 : decide ((a0_2.size : Int) ≤ a2) = true := decide_eq_true c16
         clear c16
         simp only [Option.some.injEq, Prod.mk.injEq] at H
         obtain ⟨rfl, rfl, rfl, rfl⟩ := H
         have hnb17 := NB191_192.out
         have hnc17 := NB192_191.out
         obtain ⟨hcz18_0, hcz18_1, hcz18_2, hfz18_0, hfz18_1, hfz18_2⟩ := q3 BK191
         obtain ⟨hcz19_0, hcz19_1, hcz19_2, hfz19_0, hfz19_1, hfz19_2⟩ := q3 BK192
         go_wp2
         refine bodyPost_ret (results_ct rfl _ _ gb192 23 #[.bool a0_0, .string a0_1, .string a0_2] (0, 0) _ rfl (by refine qp 2 #[.bool a0_0, .string a0_1, .string (⟨#[]⟩ : ByteArray)] ?_; refine qp 1 #[.bool a0_0, .string (⟨#[]⟩ : ByteArray), .string (⟨#[]⟩ : ByteArray)] ?_; refine qp 0 #[.bool false, .string (⟨#[]⟩ : ByteArray), .string (⟨#[]⟩ : ByteArray)] ?_; exact qk BK192) Tryd.underlying23 rfl (by kernel_rfl)) rfl ?_
         exact ⟨qe, qh HB⟩
       · rw [if_neg c16] at H
         have c16b0 : decide ((a0_2.size : Int) ≤ a2) = false := decide_eq_false c16
         clear c16
         by_cases c20 : a0_1.size + a0_2.size ≤ 9223372036854775807
         · rw [if_pos c20] at H
           have c20b0 := eq_true c20
           have c20b1 : decide (a0_1.size + a0_2.size ≤ 9223372036854775807) = true := decide_eq_true c20
           try have c20b2 : (9223372036854775807 < a0_1.size + a0_2.size) = False := eq_false (Nat.not_lt.2 c20)
           replace H := Option.bind_eq_some_iff.mp H
           obtain ⟨t194, A210, H⟩ := H
           replace H : (if 1 + t194.size ≤ 9223372036854775807 then ((idiomref03_turned.f kj5 a1 a0_0 (a0_1 ++ a0_2) ((⟨#[49]⟩ : ByteArray) ++ t194)).bind fun bt195 => (if bt195.2 = 0 then ((idiomref03_Made.f kj5 a0_0 bt195.1 a2).bind fun bt197 => (some (bt197.1, bt197.2.1, bt197.2.2, 0))) else (some (false, (⟨#[]⟩ : ByteArray), (⟨#[]⟩ : ByteArray), bt195.2)))) else (none)) = some (r1, r2, r3, r4) := H
           have A21 := Aside0.mk A210
           clear A210
           by_cases c22 : 1 + t194.size ≤ 9223372036854775807
           · rw [if_pos c22] at H
             have c22b0 := eq_true c22
             have c22b1 : decide (1 + t194.size ≤ 9223372036854775807) = true := decide_eq_true c22
             try have c22b2 : (9223372036854775807 < 1 + t194.size) = False := eq_false (Nat.not_lt.2 c22)
             replace H := Option.bind_eq_some_iff.mp H
             obtain ⟨⟨t195, t196⟩, A230, H⟩ := H
             replace H : (if t196 = 0 then ((idiomref03_Made.f kj5 a0_0 t195 a2).bind fun bt197 => (some (bt197.1, bt197.2.1, bt197.2.2, 0))) else (some (false, (⟨#[]⟩ : ByteArray), (⟨#[]⟩ : ByteArray), t196))) = some (r1, r2, r3, r4) := H
             have A23 := Aside0.mk A230
             clear A230
             by_cases c24 : t196 = 0
             · rw [if_pos c24] at H
               have c24b0 : (t196 == 0) = true := beq_iff_eq.mpr c24
               have c24b1 : (t196 != 0) = false := bne_eq_false_iff_eq.mpr c24
               try have c24b1z := c24b1
               (try simp only [bne] at c24b1z)
               clear c24
               replace H := Option.bind_eq_some_iff.mp H
               obtain ⟨⟨t197, t198, t199⟩, A250, H⟩ := H
               replace H : (some (t197, t198, t199, 0)) = some (r1, r2, r3, r4) := H
               have A25 := Aside0.mk A250
               clear A250
               simp only [Option.some.injEq, Prod.mk.injEq] at H
               obtain ⟨rfl, rfl, rfl, rfl⟩ := H
               have hnb26 := NB191_192.out
               have hnc26 := NB192_191.out
               obtain ⟨hcz27_0, hcz27_1, hcz27_2, hfz27_0, hfz27_1, hfz27_2⟩ := q3 BK191
               try go_wp2
               replace BK191 := Aside0.mk (blk_drew BK191.out)
               replace BK192 := Aside0.mk (blk_drew BK192.out)
               replace HB := Aside0.mk (below_drew1 HB.out)
               refine start_ (n := 21) (S := fun w' => w'.cell? ⟨gb191, 0, none⟩ = some (.bool a0_0) ∧ w'.cell? ⟨gb191, 1, none⟩ = some (.string a0_1) ∧ w'.cell? ⟨gb191, 2, none⟩ = some (.string a0_2)) (ds := []) #[false, false, false, false, false, false, false, false, false, false, false, false, false, false, false, false, false, false, false, false, false] (by kernel_rfl) rfl rfl ⟨c_ BK191 0, c_ BK191 1, c_ BK191 2⟩ (fun hHeld => ?_); refine with_tabW idiomref03_Places.tab8 idiomref03_Places.bits8 (fun HT_ HW_ => ?_)
               generalize wc.drew = w28 at BK191 BK192 HB hHeld ⊢
               refine pz 0 (some 32) #[true, false, false, false, false, false, false, false, false, false, false, false, false, false, false, false, false, false, false, false, false] HT_ ?_
               refine pz 1 (some 33) #[true, true, false, false, false, false, false, false, false, false, false, false, false, false, false, false, false, false, false, false, false] HT_ ?_
               refine pz 3 (some 35) #[true, true, false, true, false, false, false, false, false, false, false, false, false, false, false, false, false, false, false, false, false] HT_ ?_
               refine pz 5 (some 37) #[true, true, false, true, false, true, false, false, false, false, false, false, false, false, false, false, false, false, false, false, false] HT_ ?_
               refine pz 8 (some 40) #[true, true, false, true, false, true, false, false, true, false, false, false, false, false, false, false, false, false, false, false, false] HT_ ?_
               refine pz 11 (some 43) #[true, true, false, true, false, true, false, false, true, false, false, true, false, false, false, false, false, false, false, false, false] HT_ ?_
               refine tw3 2 (some 34) #[true, true, true, true, false, true, false, false, true, false, false, true, false, false, false, false, false, false, false, false, false] HT_ HW_ hHeld ?_
               refine tw3 4 (some 36) #[true, true, true, true, true, true, false, false, true, false, false, true, false, false, false, false, false, false, false, false, false] HT_ HW_ hHeld ?_
               refine tw3 6 (some 38) #[true, true, true, true, true, true, true, false, true, false, false, true, false, false, false, false, false, false, false, false, false] HT_ HW_ hHeld ?_
               refine pz 7 (some 39) #[true, true, true, true, true, true, true, true, true, false, false, true, false, false, false, false, false, false, false, false, false] HT_ ?_
               refine tw3 9 (some 41) #[true, true, true, true, true, true, true, true, true, true, false, true, false, false, false, false, false, false, false, false, false] HT_ HW_ hHeld ?_
               refine pz 10 (some 42) #[true, true, true, true, true, true, true, true, true, true, true, true, false, false, false, false, false, false, false, false, false] HT_ ?_
               refine pz 12 (some 44) #[true, true, true, true, true, true, true, true, true, true, true, true, true, false, false, false, false, false, false, false, false] HT_ ?_
               refine one_ (i := 13) (N := some 45) #[true, true, true, true, true, true, true, true, true, true, true, true, true, true, false, false, false, false, false, false, false] rfl rfl (one_of HT_.out (by kernel_rfl)) (by decide) (fun K hK => ?_)
               refine goes_ Tryd.func28 (by kernel_rfl) rfl #[.int .i64 (wrap64 ((a0_2.size : Int) - a2))] (by rfl) rfl rfl ql ?_
               with_reducible refine (idiomref03_Noughts.calls kj5 (wrap64 ((a0_2.size : Int) - a2)) t194 _ A21.out).mono ?_
               rintro e w29 ⟨rfl, hb⟩
               refine ⟨_, rfl, ?_⟩
               replace BK191 := qb BK191 hb
               replace BK192 := qb BK192 hb
               replace HB := qn HB hb
               (try clear hb)
               (try clear hb2)
               (try clear hk)
               (try clear hi)
               refine hK.out _ _ ⟨c_ BK191 0, c_ BK191 1, c_ BK191 2⟩ (fun hHeld => ?_)
               clear hK K
               refine nz (some 45) ?_
               refine pz 14 (some 46) #[true, true, true, true, true, true, true, true, true, true, true, true, true, true, true, false, false, false, false, false, false] HT_ ?_
               refine one_ (i := 15) (N := some 47) #[true, true, true, true, true, true, true, true, true, true, true, true, true, true, true, true, false, false, false, false, false] rfl rfl (one_of HT_.out (by kernel_rfl)) (by decide) (fun K hK => ?_)
               refine goes_ Tryd.func27 (by kernel_rfl) rfl #[.int .i64 a1, .bool a0_0, .string (a0_1 ++ a0_2), .string ((⟨#[49]⟩ : ByteArray) ++ t194)] (by rfl) rfl rfl ql ?_
               with_reducible refine (idiomref03_turned.calls kj5 a1 a0_0 (a0_1 ++ a0_2) ((⟨#[49]⟩ : ByteArray) ++ t194) t195 t196 _ A23.out).mono ?_
               rintro e w30 ⟨rfl, hb⟩
               refine ⟨_, rfl, ?_⟩
               replace BK191 := qb BK191 hb
               replace BK192 := qb BK192 hb
               replace HB := qn HB hb
               (try clear hb)
               (try clear hb2)
               (try clear hk)
               (try clear hi)
               refine hK.out _ _ ⟨c_ BK191 0, c_ BK191 1, c_ BK191 2⟩ (fun hHeld => ?_)
               clear hK K
               refine nz (some 47) ?_
               refine pz 16 (some 31) #[true, true, true, true, true, true, true, true, true, true, true, true, true, true, true, true, true, false, false, false, false] HT_ ?_
               refine pz 17 (some 48) #[true, true, true, true, true, true, true, true, true, true, true, true, true, true, true, true, true, true, false, false, false] HT_ ?_
               refine pz 18 (some 49) #[true, true, true, true, true, true, true, true, true, true, true, true, true, true, true, true, true, true, true, false, false] HT_ ?_
               refine pz 19 (some 9) #[true, true, true, true, true, true, true, true, true, true, true, true, true, true, true, true, true, true, true, true, false] HT_ ?_
               refine pz 20 (some 10) #[true, true, true, true, true, true, true, true, true, true, true, true, true, true, true, true, true, true, true, true, true] HT_ ?_
               refine done_ (done_of HT_.out (by kernel_rfl)) ?_
               obtain ⟨hcz31_0, hcz31_1, hcz31_2, hfz31_0, hfz31_1, hfz31_2⟩ := q3 BK191
               try go_wp2_with (first | ((with_reducible refine gate_callee (f := 29) rfl ?_); refine goesL_ (some 58) rfl rfl Tryd.func29 (by kernel_rfl) rfl #[.bool a0_0, .string t195, .int .i64 a2] rfl ql ?_; (with_reducible refine (idiomref03_Made.calls kj5 a0_0 t195 a2 t197 t198 t199 _ A25.out).mono ?_); rintro e w32 ⟨rfl, hb⟩; refine ⟨_, rfl, ?_⟩; replace BK191 := qb BK191 hb; replace BK192 := qb BK192 hb; replace HB := qn HB hb; (try clear hb); (try clear hb2); (try clear hk); (try clear hi); obtain ⟨hcz33_0, hcz33_1, hcz33_2, hfz33_0, hfz33_1, hfz33_2⟩ := q3 BK192))
               refine bodyPost_ret (results_ct rfl _ _ gb192 23 #[.bool t197, .string t198, .string t199] (0, 0) _ rfl (by refine qp 2 #[.bool t197, .string t198, .string (⟨#[]⟩ : ByteArray)] ?_; refine qp 1 #[.bool t197, .string (⟨#[]⟩ : ByteArray), .string (⟨#[]⟩ : ByteArray)] ?_; refine qp 0 #[.bool false, .string (⟨#[]⟩ : ByteArray), .string (⟨#[]⟩ : ByteArray)] ?_; exact qk BK192) Tryd.underlying23 rfl (by kernel_rfl)) rfl ?_
               exact ⟨qe, qh HB⟩
             · rw [if_neg c24] at H
               have c24b0 : (t196 == 0) = false := beq_eq_false_iff_ne.mpr c24
               have c24b1 : (t196 != 0) = true := bne_iff_ne.mpr c24
               try have c24b1z := c24b1
               (try simp only [bne] at c24b1z)
               simp only [Option.some.injEq, Prod.mk.injEq] at H
               obtain ⟨rfl, rfl, rfl, rfl⟩ := H
               have hnb34 := NB191_192.out
               have hnc34 := NB192_191.out
               obtain ⟨hcz35_0, hcz35_1, hcz35_2, hfz35_0, hfz35_1, hfz35_2⟩ := q3 BK191
               try go_wp2
               replace BK191 := Aside0.mk (blk_drew BK191.out)
               replace BK192 := Aside0.mk (blk_drew BK192.out)
               replace HB := Aside0.mk (below_drew1 HB.out)
               refine start_ (n := 21) (S := fun w' => w'.cell? ⟨gb191, 0, none⟩ = some (.bool a0_0) ∧ w'.cell? ⟨gb191, 1, none⟩ = some (.string a0_1) ∧ w'.cell? ⟨gb191, 2, none⟩ = some (.string a0_2)) (ds := []) #[false, false, false, false, false, false, false, false, false, false, false, false, false, false, false, false, false, false, false, false, false] (by kernel_rfl) rfl rfl ⟨c_ BK191 0, c_ BK191 1, c_ BK191 2⟩ (fun hHeld => ?_); refine with_tabW idiomref03_Places.tab8 idiomref03_Places.bits8 (fun HT_ HW_ => ?_)
               generalize wc.drew = w36 at BK191 BK192 HB hHeld ⊢
               refine pz 0 (some 32) #[true, false, false, false, false, false, false, false, false, false, false, false, false, false, false, false, false, false, false, false, false] HT_ ?_
               refine pz 1 (some 33) #[true, true, false, false, false, false, false, false, false, false, false, false, false, false, false, false, false, false, false, false, false] HT_ ?_
               refine pz 3 (some 35) #[true, true, false, true, false, false, false, false, false, false, false, false, false, false, false, false, false, false, false, false, false] HT_ ?_
               refine pz 5 (some 37) #[true, true, false, true, false, true, false, false, false, false, false, false, false, false, false, false, false, false, false, false, false] HT_ ?_
               refine pz 8 (some 40) #[true, true, false, true, false, true, false, false, true, false, false, false, false, false, false, false, false, false, false, false, false] HT_ ?_
               refine pz 11 (some 43) #[true, true, false, true, false, true, false, false, true, false, false, true, false, false, false, false, false, false, false, false, false] HT_ ?_
               refine tw3 2 (some 34) #[true, true, true, true, false, true, false, false, true, false, false, true, false, false, false, false, false, false, false, false, false] HT_ HW_ hHeld ?_
               refine tw3 4 (some 36) #[true, true, true, true, true, true, false, false, true, false, false, true, false, false, false, false, false, false, false, false, false] HT_ HW_ hHeld ?_
               refine tw3 6 (some 38) #[true, true, true, true, true, true, true, false, true, false, false, true, false, false, false, false, false, false, false, false, false] HT_ HW_ hHeld ?_
               refine pz 7 (some 39) #[true, true, true, true, true, true, true, true, true, false, false, true, false, false, false, false, false, false, false, false, false] HT_ ?_
               refine tw3 9 (some 41) #[true, true, true, true, true, true, true, true, true, true, false, true, false, false, false, false, false, false, false, false, false] HT_ HW_ hHeld ?_
               refine pz 10 (some 42) #[true, true, true, true, true, true, true, true, true, true, true, true, false, false, false, false, false, false, false, false, false] HT_ ?_
               refine pz 12 (some 44) #[true, true, true, true, true, true, true, true, true, true, true, true, true, false, false, false, false, false, false, false, false] HT_ ?_
               refine one_ (i := 13) (N := some 45) #[true, true, true, true, true, true, true, true, true, true, true, true, true, true, false, false, false, false, false, false, false] rfl rfl (one_of HT_.out (by kernel_rfl)) (by decide) (fun K hK => ?_)
               refine goes_ Tryd.func28 (by kernel_rfl) rfl #[.int .i64 (wrap64 ((a0_2.size : Int) - a2))] (by rfl) rfl rfl ql ?_
               with_reducible refine (idiomref03_Noughts.calls kj5 (wrap64 ((a0_2.size : Int) - a2)) t194 _ A21.out).mono ?_
               rintro e w37 ⟨rfl, hb⟩
               refine ⟨_, rfl, ?_⟩
               replace BK191 := qb BK191 hb
               replace BK192 := qb BK192 hb
               replace HB := qn HB hb
               (try clear hb)
               (try clear hb2)
               (try clear hk)
               (try clear hi)
               refine hK.out _ _ ⟨c_ BK191 0, c_ BK191 1, c_ BK191 2⟩ (fun hHeld => ?_)
               clear hK K
               refine nz (some 45) ?_
               refine pz 14 (some 46) #[true, true, true, true, true, true, true, true, true, true, true, true, true, true, true, false, false, false, false, false, false] HT_ ?_
               refine one_ (i := 15) (N := some 47) #[true, true, true, true, true, true, true, true, true, true, true, true, true, true, true, true, false, false, false, false, false] rfl rfl (one_of HT_.out (by kernel_rfl)) (by decide) (fun K hK => ?_)
               refine goes_ Tryd.func27 (by kernel_rfl) rfl #[.int .i64 a1, .bool a0_0, .string (a0_1 ++ a0_2), .string ((⟨#[49]⟩ : ByteArray) ++ t194)] (by rfl) rfl rfl ql ?_
               with_reducible refine (idiomref03_turned.calls kj5 a1 a0_0 (a0_1 ++ a0_2) ((⟨#[49]⟩ : ByteArray) ++ t194) t195 t196 _ A23.out).mono ?_
               rintro e w38 ⟨rfl, hb⟩
               refine ⟨_, rfl, ?_⟩
               replace BK191 := qb BK191 hb
               replace BK192 := qb BK192 hb
               replace HB := qn HB hb
               (try clear hb)
               (try clear hb2)
               (try clear hk)
               (try clear hi)
               refine hK.out _ _ ⟨c_ BK191 0, c_ BK191 1, c_ BK191 2⟩ (fun hHeld => ?_)
               clear hK K
               refine nz (some 47) ?_
               refine pz 16 (some 31) #[true, true, true, true, true, true, true, true, true, true, true, true, true, true, true, true, true, false, false, false, false] HT_ ?_
               refine pz 17 (some 48) #[true, true, true, true, true, true, true, true, true, true, true, true, true, true, true, true, true, true, false, false, false] HT_ ?_
               refine pz 18 (some 49) #[true, true, true, true, true, true, true, true, true, true, true, true, true, true, true, true, true, true, true, false, false] HT_ ?_
               refine pz 19 (some 9) #[true, true, true, true, true, true, true, true, true, true, true, true, true, true, true, true, true, true, true, true, false] HT_ ?_
               refine pz 20 (some 10) #[true, true, true, true, true, true, true, true, true, true, true, true, true, true, true, true, true, true, true, true, true] HT_ ?_
               refine done_ (done_of HT_.out (by kernel_rfl)) ?_
               obtain ⟨hcz39_0, hcz39_1, hcz39_2, hfz39_0, hfz39_1, hfz39_2⟩ := q3 BK192
               try go_wp2
               refine bodyPost_ret (results_ct rfl _ _ gb192 23 #[.bool false, .string (⟨#[]⟩ : ByteArray), .string (⟨#[]⟩ : ByteArray)] (0, 0) _ rfl (by refine qp 2 #[.bool false, .string (⟨#[]⟩ : ByteArray), .string (⟨#[]⟩ : ByteArray)] ?_; refine qp 1 #[.bool false, .string (⟨#[]⟩ : ByteArray), .string (⟨#[]⟩ : ByteArray)] ?_; refine qp 0 #[.bool false, .string (⟨#[]⟩ : ByteArray), .string (⟨#[]⟩ : ByteArray)] ?_; exact qk BK192) Tryd.underlying23 rfl (by kernel_rfl)) rfl ?_
               exact ⟨qe, qh HB⟩
           · rw [if_neg c22] at H
             exact absurd H (by simp)
         · rw [if_neg c20] at H
           exact absurd H (by simp)
 · rw [if_neg c5] at H
   have c5b0 : (t193 == 0) = false := beq_eq_false_iff_ne.mpr c5
   have c5b1 : (t193 != 0) = true := bne_iff_ne.mpr c5
   try have c5b1z := c5b1
   (try simp only [bne] at c5b1z)
   simp only [Option.some.injEq, Prod.mk.injEq] at H
   obtain ⟨rfl, rfl, rfl, rfl⟩ := H
   go_enter Tryd.func11, Tryd.ntmps11
   go_wp2_with (first | ((with_reducible refine gate_dst (N := 3) rfl ?_); refine qx 3 #[.bool a0_0, .string a0_1, .string a0_2] 23 ?_; intro gb191 hg w40 hbox hb; have BK191 := Aside0.mk (hbox); have GW191 := qs hg HB; have GE191 := GW191; replace HB := qn HB hb; clear hb hbox hg) | ((with_reducible refine gate_dst (N := 6) rfl ?_); refine qx 6 #[.bool false, .string (⟨#[]⟩ : ByteArray), .string (⟨#[]⟩ : ByteArray)] 23 ?_; intro gb192 hg w41 hbox hb; have BK192 := Aside0.mk (hbox); have GW192 := qs hg HB; have GE192 := GW192; have NB191_192 := ql_ hg BK191; have NB192_191 := qg_ hg BK191; replace BK191 := qb BK191 hb; replace HB := qn HB hb; clear hb hbox hg; have hnb42 := NB191_192.out; have hnc42 := NB192_191.out; obtain ⟨hcz43_0, hcz43_1, hcz43_2, hfz43_0, hfz43_1, hfz43_2⟩ := q3 BK191) | ((with_reducible refine gate_callee (f := 26) rfl ?_); refine goesL_ (some 13) rfl rfl Tryd.func26 (by kernel_rfl) rfl #[.agg #[.bool a0_0, .string a0_1, .string a0_2], .int .i64 a1] rfl ql ?_; (with_reducible refine (idiomref03_asked.calls k a0_0 a0_1 a0_2 a1 t193 _ A4.out).mono ?_); rintro e w44 ⟨rfl, hb⟩; refine ⟨_, rfl, ?_⟩; replace BK191 := qb BK191 hb; replace BK192 := qb BK192 hb; replace HB := qn HB hb; (try clear hb); (try clear hb2); (try clear hk); (try clear hi); obtain ⟨hcz45_0, hcz45_1, hcz45_2, hfz45_0, hfz45_1, hfz45_2⟩ := q3 BK192))
   refine bodyPost_ret (results_ct rfl _ _ gb192 23 #[.bool false, .string (⟨#[]⟩ : ByteArray), .string (⟨#[]⟩ : ByteArray)] (0, 0) _ rfl (by refine qp 2 #[.bool false, .string (⟨#[]⟩ : ByteArray), .string (⟨#[]⟩ : ByteArray)] ?_; refine qp 1 #[.bool false, .string (⟨#[]⟩ : ByteArray), .string (⟨#[]⟩ : ByteArray)] ?_; refine qp 0 #[.bool false, .string (⟨#[]⟩ : ByteArray), .string (⟨#[]⟩ : ByteArray)] ?_; exact qk BK192) Tryd.underlying23 rfl (by kernel_rfl)) rfl ?_
   exact ⟨qe, qh HB⟩

end Go.Proofs.YtpmhebdaphjinaaDoor.F
namespace Go.Proofs.YtpmhebdaphjinaaDoor.F
open Go.RowKit Go.Proofs.YtpmhebdaphjinaaDoorW.PrintWords Go.Proofs.YtpmhebdaphjinaaDoorW.PrintLast Go.Proofs.YtpmhebdaphjinaaDoorW.PrintMore Go.Proofs.YtpmhebdaphjinaaDoor.Q
attribute [local go_sem] max2_int min2_int max_two min_two max_three min_three max_four min_four   -- for this text's walks alone
set_option linter.unusedVariables false
set_option linter.unusedSimpArgs false

attribute [local go_sem high] eqA23
def idiomlaw03_awake.f (k : Nat)  : Option (Bool) := (round_Places.f k false (⟨#[50]⟩ : ByteArray) (⟨#[53]⟩ : ByteArray) 7 0).bind fun bt200 => (if bt200.2.2.2 = 0 then (some (!bt200.1 && (bt200.2.1.toList == ([50] : List UInt8) && (bt200.2.2.1.toList == ([] : List UInt8))))) else (some false))
theorem idiomlaw03_awake.mono : ∀ k, LeO (idiomlaw03_awake.f k ) (idiomlaw03_awake.f (k + 1) ) := by
 intro  k
 unfold idiomlaw03_awake.f
 repeat' first
  | (with_reducible exact round_Places.mono _ _ _ _ _ _)
  | (with_reducible exact LeO.refl _)
  | (with_reducible exact LeO.none _)
  | (with_reducible refine LeO.ite ?_ ?_)
  | (with_reducible refine LeO.bind ?_ (fun _ => ?_))
  | exact round_Places.mono _ _ _ _ _ _
  | exact LeO.none _
  | refine LeO.ite ?_ ?_
  | refine LeO.bind ?_ (fun _ => ?_)
set_option maxHeartbeats 8000000 in
set_option maxRecDepth 100000 in
theorem idiomlaw03_awake.calls (k : Nat)  (r : Bool) (w : World) (h : idiomlaw03_awake.f k  = some r) :
 Calls Tryd.prog 12 #[] w fun e w' => e = .returned (.bool r) ∧ Below w.heap.size w w' := by
 have hu23 := Tryd.underlying23
 have HB := Aside0.mk (Below.refl w.heap.size w)
 have H : ((round_Places.f k false (⟨#[50]⟩ : ByteArray) (⟨#[53]⟩ : ByteArray) 7 0).bind fun bt200 => (if bt200.2.2.2 = 0 then (some (!bt200.1 && (bt200.2.1.toList == ([50] : List UInt8) && (bt200.2.2.1.toList == ([] : List UInt8))))) else (some false))) = some r := h
 clear h
 replace H := Option.bind_eq_some_iff.mp H
 obtain ⟨⟨t200, t201, t202, t203⟩, A10, H⟩ := H
 replace H : (if t203 = 0 then (some (!t200 && (t201.toList == ([50] : List UInt8) && (t202.toList == ([] : List UInt8))))) else (some false)) = some r := H
 have A1 := Aside0.mk A10
 clear A10
 by_cases c2 : t203 = 0
 · rw [if_pos c2] at H
   have c2b0 : (t203 == 0) = true := beq_iff_eq.mpr c2
   have c2b1 : (t203 != 0) = false := bne_eq_false_iff_eq.mpr c2
   try have c2b1z := c2b1
   (try simp only [bne] at c2b1z)
   clear c2
   obtain rfl := Option.some.inj H
   go_enter Tryd.func12, Tryd.ntmps12
   go_wp2_with (first | ((with_reducible refine gate_callee (f := 10) rfl ?_); refine goesL_ (some 5) rfl rfl Tryd.func10 (by kernel_rfl) rfl #[.agg #[.bool false, .string (⟨#[50]⟩ : ByteArray), .string (⟨#[53]⟩ : ByteArray)], .int .i64 7, .int .i64 0] rfl ql ?_; (with_reducible refine (round_Places.calls k false (⟨#[50]⟩ : ByteArray) (⟨#[53]⟩ : ByteArray) 7 0 t200 t201 t202 t203 _ A1.out).mono ?_); rintro e w3 ⟨rfl, hb⟩; refine ⟨_, rfl, ?_⟩; replace HB := qn HB hb; (try clear hb); (try clear hb2); (try clear hk); (try clear hi)) | ((with_reducible refine gate_dst (N := 1) rfl ?_); refine qx 1 #[.bool false, .string (⟨#[]⟩ : ByteArray), .string (⟨#[]⟩ : ByteArray)] 23 ?_; intro gb204 hg w4 hbox hb; have BK204 := Aside0.mk (hbox); have GW204 := qs hg HB; have GE204 := GW204; replace HB := qn HB hb; clear hb hbox hg; obtain ⟨hcz5_0, hcz5_1, hcz5_2, hfz5_0, hfz5_1, hfz5_2⟩ := q3 BK204))
   go_ret
   exact ⟨qe, qh HB⟩
 · rw [if_neg c2] at H
   have c2b0 : (t203 == 0) = false := beq_eq_false_iff_ne.mpr c2
   have c2b1 : (t203 != 0) = true := bne_iff_ne.mpr c2
   try have c2b1z := c2b1
   (try simp only [bne] at c2b1z)
   obtain rfl := Option.some.inj H
   go_enter Tryd.func12, Tryd.ntmps12
   go_wp2_with (first | ((with_reducible refine gate_callee (f := 10) rfl ?_); refine goesL_ (some 5) rfl rfl Tryd.func10 (by kernel_rfl) rfl #[.agg #[.bool false, .string (⟨#[50]⟩ : ByteArray), .string (⟨#[53]⟩ : ByteArray)], .int .i64 7, .int .i64 0] rfl ql ?_; (with_reducible refine (round_Places.calls k false (⟨#[50]⟩ : ByteArray) (⟨#[53]⟩ : ByteArray) 7 0 t200 t201 t202 t203 _ A1.out).mono ?_); rintro e w6 ⟨rfl, hb⟩; refine ⟨_, rfl, ?_⟩; replace HB := qn HB hb; (try clear hb); (try clear hb2); (try clear hk); (try clear hi)) | ((with_reducible refine gate_dst (N := 1) rfl ?_); refine qx 1 #[.bool false, .string (⟨#[]⟩ : ByteArray), .string (⟨#[]⟩ : ByteArray)] 23 ?_; intro gb204 hg w7 hbox hb; have BK204 := Aside0.mk (hbox); have GW204 := qs hg HB; have GE204 := GW204; replace HB := qn HB hb; clear hb hbox hg; obtain ⟨hcz8_0, hcz8_1, hcz8_2, hfz8_0, hfz8_1, hfz8_2⟩ := q3 BK204))
   go_ret
   exact ⟨qe, qh HB⟩

end Go.Proofs.YtpmhebdaphjinaaDoor.F
namespace Go.Proofs.YtpmhebdaphjinaaDoor.F
open Go.RowKit Go.Proofs.YtpmhebdaphjinaaDoorW.PrintWords Go.Proofs.YtpmhebdaphjinaaDoorW.PrintLast Go.Proofs.YtpmhebdaphjinaaDoorW.PrintMore Go.Proofs.YtpmhebdaphjinaaDoor.Q
attribute [local go_sem] max2_int min2_int max_two min_two max_three min_three max_four min_four   -- for this text's walks alone
set_option linter.unusedVariables false
set_option linter.unusedSimpArgs false

def round_bounds.f (a0 : Int) (a1 : Int) (a2 : Int) : Option (Bool) := if a1 ≥ a0 then (if a2 ≥ a0 then (if a1 ≤ 40 then (if a2 ≤ 40 then (some (decide (a1 ≤ a2))) else (some false)) else (some false)) else (some false)) else (some false)
set_option maxHeartbeats 8000000 in
set_option maxRecDepth 100000 in
theorem round_bounds.calls (a0 : Int) (a1 : Int) (a2 : Int) (r : Bool) (w : World) (h : round_bounds.f a0 a1 a2 = some r) :
 Calls Tryd.prog 35 #[.int .i64 a0, .int .i64 a1, .int .i64 a2] w fun e w' => e = .returned (.bool r) ∧ Drawn0 w w' := by
 have H : (if a1 ≥ a0 then (if a2 ≥ a0 then (if a1 ≤ 40 then (if a2 ≤ 40 then (some (decide (a1 ≤ a2))) else (some false)) else (some false)) else (some false)) else (some false)) = some r := h
 clear h
 by_cases c4 : a1 ≥ a0
 · rw [if_pos c4] at H
   have c4b0 : decide (a0 ≤ a1) = true := decide_eq_true c4
   clear c4
   by_cases c5 : a2 ≥ a0
   · rw [if_pos c5] at H
     have c5b0 : decide (a0 ≤ a2) = true := decide_eq_true c5
     clear c5
     by_cases c6 : a1 ≤ 40
     · rw [if_pos c6] at H
       have c6b0 : decide (a1 ≤ 40) = true := decide_eq_true c6
       clear c6
       by_cases c7 : a2 ≤ 40
       · rw [if_pos c7] at H
         have c7b0 : decide (a2 ≤ 40) = true := decide_eq_true c7
         clear c7
         obtain rfl := Option.some.inj H
         go_enter Tryd.func35, Tryd.ntmps35
         go_wp2
         go_ret
         exact ⟨by first | rfl | (simp; done) | (simp [*]; done), by repeat (first | exact Drawn0.refl _ | apply Drawn0.step)⟩
       · rw [if_neg c7] at H
         have c7b0 : decide (a2 ≤ 40) = false := decide_eq_false c7
         clear c7
         obtain rfl := Option.some.inj H
         go_enter Tryd.func35, Tryd.ntmps35
         go_wp2
         go_ret
         exact ⟨by first | rfl | (simp; done) | (simp [*]; done), by repeat (first | exact Drawn0.refl _ | apply Drawn0.step)⟩
     · rw [if_neg c6] at H
       have c6b0 : decide (a1 ≤ 40) = false := decide_eq_false c6
       clear c6
       obtain rfl := Option.some.inj H
       go_enter Tryd.func35, Tryd.ntmps35
       go_wp2
       go_ret
       exact ⟨by first | rfl | (simp; done) | (simp [*]; done), by repeat (first | exact Drawn0.refl _ | apply Drawn0.step)⟩
   · rw [if_neg c5] at H
     have c5b0 : decide (a0 ≤ a2) = false := decide_eq_false c5
     clear c5
     obtain rfl := Option.some.inj H
     go_enter Tryd.func35, Tryd.ntmps35
     go_wp2
     go_ret
     exact ⟨by first | rfl | (simp; done) | (simp [*]; done), by repeat (first | exact Drawn0.refl _ | apply Drawn0.step)⟩
 · rw [if_neg c4] at H
   have c4b0 : decide (a0 ≤ a1) = false := decide_eq_false c4
   clear c4
   obtain rfl := Option.some.inj H
   go_enter Tryd.func35, Tryd.ntmps35
   go_wp2
   go_ret
   exact ⟨by first | rfl | (simp; done) | (simp [*]; done), by repeat (first | exact Drawn0.refl _ | apply Drawn0.step)⟩

def decimal_Pad.j0 : Nat → Int → Bool → Bool → ByteArray → ByteArray → Option (Bool × ByteArray × ByteArray × Int)
 | 0, _, _, _, _, _ => none
 | k + 1, x1, x19, x403000, x403001, x403002 => if x19 = true then (some (false, (⟨#[]⟩ : ByteArray), (⟨#[]⟩ : ByteArray), 1)) else (if (wrap64 (x1 - (x403002.size : Int))) > 0 then (if (wrap64 ((x403001.size : Int) + x1)) > 40 then (some (false, (⟨#[]⟩ : ByteArray), (⟨#[]⟩ : ByteArray), 3)) else ((strings_Repeat.f (⟨#[48]⟩ : ByteArray) (wrap64 (x1 - (x403002.size : Int)))).bind fun t405 => (if x403002.size + t405.size ≤ 9223372036854775807 then (some (x403000, x403001, x403002 ++ t405, 0)) else (none)))) else (some (x403000, x403001, x403002, 0)))
def decimal_Pad.f (k : Nat) (a0_0 : Bool) (a0_1 : ByteArray) (a0_2 : ByteArray) (a1 : Int) : Option (Bool × ByteArray × ByteArray × Int) := (decimal_Check.f k a0_0 a0_1 a0_2).bind fun t404 => (if t404 = 0 then (if a1 < 0 then (decimal_Pad.j0 k a1 true a0_0 a0_1 a0_2) else (decimal_Pad.j0 k a1 (decide (a1 > 40)) a0_0 a0_1 a0_2)) else (some (false, (⟨#[]⟩ : ByteArray), (⟨#[]⟩ : ByteArray), t404)))
theorem decimal_Pad.mono_l : ∀ k, (∀ y0 y1 y2 y3 y4, LeO (decimal_Pad.j0 k y0 y1 y2 y3 y4) (decimal_Pad.j0 (k + 1) y0 y1 y2 y3 y4))
 | 0 => fun _ _ _ _ _ r h => by simp [decimal_Pad.j0] at h
 | k + 1 => by
  have ih0 := decimal_Pad.mono_l k
  · intro y0 y1 y2 y3 y4
    unfold decimal_Pad.j0
    repeat' first
    | (with_reducible exact ih0 _ _ _ _ _)
    | (with_reducible exact decimal_Check.mono _ _ _ _)
    | (with_reducible exact LeO.refl _)
    | (with_reducible exact LeO.none _)
    | (with_reducible refine LeO.ite ?_ ?_)
    | (with_reducible refine LeO.bind ?_ (fun _ => ?_))
    | exact ih0 _ _ _ _ _
    | exact decimal_Check.mono _ _ _ _
    | exact LeO.none _
    | refine LeO.ite ?_ ?_
    | refine LeO.bind ?_ (fun _ => ?_)
theorem decimal_Pad.mono : ∀ a0 a1 a2 a3 k, LeO (decimal_Pad.f k a0 a1 a2 a3) (decimal_Pad.f (k + 1) a0 a1 a2 a3) := by
 intro a0 a1 a2 a3 k
 have ih0 := decimal_Pad.mono_l k
 unfold decimal_Pad.f
 repeat' first
  | (with_reducible exact ih0 _ _ _ _ _)
  | (with_reducible exact decimal_Check.mono _ _ _ _)
  | (with_reducible exact LeO.refl _)
  | (with_reducible exact LeO.none _)
  | (with_reducible refine LeO.ite ?_ ?_)
  | (with_reducible refine LeO.bind ?_ (fun _ => ?_))
  | exact ih0 _ _ _ _ _
  | exact decimal_Check.mono _ _ _ _
  | exact LeO.none _
  | refine LeO.ite ?_ ?_
  | refine LeO.bind ?_ (fun _ => ?_)
set_option maxHeartbeats 8000000 in
set_option maxRecDepth 100000 in
theorem decimal_Pad.calls (k : Nat) (a0_0 : Bool) (a0_1 : ByteArray) (a0_2 : ByteArray) (a1 : Int) (r1 : Bool) (r2 : ByteArray) (r3 : ByteArray) (r4 : Int) (w : World) (h : decimal_Pad.f k a0_0 a0_1 a0_2 a1 = some (r1, r2, r3, r4)) :
 Calls Tryd.prog 36 #[.agg #[.bool a0_0, .string a0_1, .string a0_2], .int .i64 a1] w fun e w' => e = .returned (.tuple #[.agg #[.bool r1, .string r2, .string r3], .int .i64 r4]) ∧ Below w.heap.size w w' := by
 have hu23 := Tryd.underlying23
 have HB := Aside0.mk (Below.refl w.heap.size w)
 have H : ((decimal_Check.f k a0_0 a0_1 a0_2).bind fun t404 => (if t404 = 0 then (if a1 < 0 then (decimal_Pad.j0 k a1 true a0_0 a0_1 a0_2) else (decimal_Pad.j0 k a1 (decide (a1 > 40)) a0_0 a0_1 a0_2)) else (some (false, (⟨#[]⟩ : ByteArray), (⟨#[]⟩ : ByteArray), t404)))) = some (r1, r2, r3, r4) := h
 clear h
 replace H := Option.bind_eq_some_iff.mp H
 obtain ⟨t404, A30, H⟩ := H
 replace H : (if t404 = 0 then (if a1 < 0 then (decimal_Pad.j0 k a1 true a0_0 a0_1 a0_2) else (decimal_Pad.j0 k a1 (decide (a1 > 40)) a0_0 a0_1 a0_2)) else (some (false, (⟨#[]⟩ : ByteArray), (⟨#[]⟩ : ByteArray), t404))) = some (r1, r2, r3, r4) := H
 have A3 := Aside0.mk A30
 clear A30
 by_cases c4 : t404 = 0
 · rw [if_pos c4] at H
   have c4b0 : (t404 == 0) = true := beq_iff_eq.mpr c4
   have c4b1 : (t404 != 0) = false := bne_eq_false_iff_eq.mpr c4
   try have c4b1z := c4b1
   (try simp only [bne] at c4b1z)
   clear c4
   have HC5 := Aside0.mk H
   clear H
   go_enter Tryd.func36, Tryd.ntmps36
   go_upto_region 4 with (first | ((with_reducible refine gate_dst (N := 2) rfl ?_); refine qx 2 #[.bool a0_0, .string a0_1, .string a0_2] 23 ?_; intro gb402 hg w6 hbox hb; have BK402 := Aside0.mk (hbox); have GW402 := qs hg HB; have GE402 := GW402; replace HB := qn HB hb; clear hb hbox hg) | ((with_reducible refine gate_dst (N := 4) rfl ?_); refine qx 4 #[.bool false, .string (⟨#[]⟩ : ByteArray), .string (⟨#[]⟩ : ByteArray)] 23 ?_; intro gb403 hg w7 hbox hb; have BK403 := Aside0.mk (hbox); have GW403 := qs hg HB; have GE403 := GW403; have NB402_403 := ql_ hg BK402; have NB403_402 := qg_ hg BK402; replace BK402 := qb BK402 hb; replace HB := qn HB hb; clear hb hbox hg; have hnb8 := NB402_403.out; have hnc8 := NB403_402.out; obtain ⟨hcz9_0, hcz9_1, hcz9_2, hfz9_0, hfz9_1, hfz9_2⟩ := q3 BK402) | ((with_reducible refine gate_callee (f := 42) rfl ?_); refine goesL_ (some 9) rfl rfl Tryd.func42 (by kernel_rfl) rfl #[.agg #[.bool a0_0, .string a0_1, .string a0_2]] rfl ql ?_; (with_reducible refine (decimal_Check.calls k a0_0 a0_1 a0_2 t404 _ A3.out).mono ?_); rintro e w10 ⟨rfl, hb⟩; refine ⟨_, rfl, ?_⟩; replace BK402 := qb BK402 hb; replace BK403 := qb BK403 hb; replace HB := qn HB hb; (try clear hb); (try clear hb2); (try clear hk); (try clear hi)))
   (try simp only [Act.put, List.setIfInBounds_toArray, List.set_cons_zero, List.set_cons_succ])
   go_cut [19] (fun v19 wc => ∃ (kq : Nat) (x19_4 : Bool), v19 = .bool x19_4 ∧ Aside0 (decimal_Pad.j0 kq a1 x19_4 a0_0 a0_1 a0_2 = some (r1, r2, r3, r4)) ∧ Aside0 (kq ≤ k) ∧ Aside0 (wc.heap[gb402]? = some (.cells #[.bool a0_0, .string a0_1, .string a0_2] 23 (0, 0))) ∧ Aside0 (wc.heap[gb403]? = some (.cells #[.bool false, .string (⟨#[]⟩ : ByteArray), .string (⟨#[]⟩ : ByteArray)] 23 (0, 0))) ∧ Aside0 (Below w.heap.size w wc))
   case first =>
    have H := HC5.out
    clear HC5
    by_cases c11 : a1 < 0
    · rw [if_pos c11] at H
      have c11b0 : decide (a1 < 0) = true := decide_eq_true c11
      clear c11
      (first | rw [c11b0] | (simp only [i64_w, i32_w]; rw [c11b0]) | skip)
      have H' := Aside0.mk H
      clear H
      go_wp2
      go_meet
      case rel => exact ⟨_, (true), (by first | rfl | (simp; done) | (simp [*]; done)), H', ⟨by first | omega | exact Nat.le_refl _⟩, ⟨qk BK402⟩, ⟨qk BK403⟩, ⟨qh HB⟩⟩
    · rw [if_neg c11] at H
      have c11b0 : decide (a1 < 0) = false := decide_eq_false c11
      clear c11
      (first | rw [c11b0] | (simp only [i64_w, i32_w]; rw [c11b0]) | skip)
      have H' := Aside0.mk H
      clear H
      go_wp2
      go_meet
      case rel => exact ⟨_, (decide (a1 > 40)), (by first | rfl | (simp; done) | (simp [*]; done)), H', ⟨by first | omega | exact Nat.le_refl _⟩, ⟨qk BK402⟩, ⟨qk BK403⟩, ⟨qh HB⟩⟩
   case rest =>
    clear HC5
    try clear c1
    try clear p2
    try clear c3
    try clear c4
    try clear c4b0
    try clear c4b1
    try clear c8
    try clear c11
    try clear c11b0
    try clear hcz9_0
    try clear hcz9_1
    try clear hcz9_2
    try clear hfz9_0
    try clear hfz9_1
    try clear hfz9_2
    obtain ⟨kq, x19_4, rfl, HA, HJ4, BK402, BK403, HB⟩ := hcut
    cases kq with
    | zero => exact absurd HA.out (by simp [decimal_Pad.j0])
    | succ kj4 =>
     have H := HA.out
     clear HA
     simp only [decimal_Pad.j0] at H
     by_cases c12 : x19_4 = true
     · subst c12
       have H1 : (some (false, (⟨#[]⟩ : ByteArray), (⟨#[]⟩ : ByteArray), 1)) = some (r1, r2, r3, r4) := by rw [if_pos rfl] at H; exact H
       clear H
       have H := H1
       clear H1
       simp only [Option.some.injEq, Prod.mk.injEq] at H
       obtain ⟨rfl, rfl, rfl, rfl⟩ := H
       have hnb13 := NB403_402.out
       have hnc13 := NB402_403.out
       obtain ⟨hcz14_0, hcz14_1, hcz14_2, hfz14_0, hfz14_1, hfz14_2⟩ := q3 BK403
       go_wp2
       refine bodyPost_ret (results_ct rfl _ _ gb403 23 #[.bool false, .string (⟨#[]⟩ : ByteArray), .string (⟨#[]⟩ : ByteArray)] (0, 0) _ rfl (by refine qp 2 #[.bool false, .string (⟨#[]⟩ : ByteArray), .string (⟨#[]⟩ : ByteArray)] ?_; refine qp 1 #[.bool false, .string (⟨#[]⟩ : ByteArray), .string (⟨#[]⟩ : ByteArray)] ?_; refine qp 0 #[.bool false, .string (⟨#[]⟩ : ByteArray), .string (⟨#[]⟩ : ByteArray)] ?_; exact qk BK403) Tryd.underlying23 rfl (by kernel_rfl)) rfl ?_
       exact ⟨qe, qh HB⟩
     · replace c12 := Bool.eq_false_iff.mpr c12
       subst c12
       have H1 : (if (wrap64 (a1 - (a0_2.size : Int))) > 0 then (if (wrap64 ((a0_1.size : Int) + a1)) > 40 then (some (false, (⟨#[]⟩ : ByteArray), (⟨#[]⟩ : ByteArray), 3)) else ((strings_Repeat.f (⟨#[48]⟩ : ByteArray) (wrap64 (a1 - (a0_2.size : Int)))).bind fun t405 => (if a0_2.size + t405.size ≤ 9223372036854775807 then (some (a0_0, a0_1, a0_2 ++ t405, 0)) else (none)))) else (some (a0_0, a0_1, a0_2, 0))) = some (r1, r2, r3, r4) := by rw [if_neg (show ¬ (false = true) by decide)] at H; exact H
       clear H
       have H := H1
       clear H1
       by_cases c15 : (wrap64 (a1 - (a0_2.size : Int))) > 0
       · rw [if_pos c15] at H
         have c15b0 : decide (0 < (wrap64 (a1 - (a0_2.size : Int)))) = true := decide_eq_true c15
         clear c15
         by_cases c16 : (wrap64 ((a0_1.size : Int) + a1)) > 40
         · rw [if_pos c16] at H
           have c16b0 : decide (40 < (wrap64 ((a0_1.size : Int) + a1))) = true := decide_eq_true c16
           clear c16
           simp only [Option.some.injEq, Prod.mk.injEq] at H
           obtain ⟨rfl, rfl, rfl, rfl⟩ := H
           have hnb17 := NB402_403.out
           have hnc17 := NB403_402.out
           obtain ⟨hcz18_0, hcz18_1, hcz18_2, hfz18_0, hfz18_1, hfz18_2⟩ := q3 BK402
           obtain ⟨hcz19_0, hcz19_1, hcz19_2, hfz19_0, hfz19_1, hfz19_2⟩ := q3 BK403
           go_wp2
           refine bodyPost_ret (results_ct rfl _ _ gb403 23 #[.bool false, .string (⟨#[]⟩ : ByteArray), .string (⟨#[]⟩ : ByteArray)] (0, 0) _ rfl (by refine qp 2 #[.bool false, .string (⟨#[]⟩ : ByteArray), .string (⟨#[]⟩ : ByteArray)] ?_; refine qp 1 #[.bool false, .string (⟨#[]⟩ : ByteArray), .string (⟨#[]⟩ : ByteArray)] ?_; refine qp 0 #[.bool false, .string (⟨#[]⟩ : ByteArray), .string (⟨#[]⟩ : ByteArray)] ?_; exact qk BK403) Tryd.underlying23 rfl (by kernel_rfl)) rfl ?_
           exact ⟨qe, qh HB⟩
         · rw [if_neg c16] at H
           have c16b0 : decide (40 < (wrap64 ((a0_1.size : Int) + a1))) = false := decide_eq_false c16
           clear c16
           replace H := Option.bind_eq_some_iff.mp H
           obtain ⟨t405, A200, H⟩ := H
           replace H : (if a0_2.size + t405.size ≤ 9223372036854775807 then (some (a0_0, a0_1, a0_2 ++ t405, 0)) else (none)) = some (r1, r2, r3, r4) := H
           have A20 := Aside0.mk A200
           clear A200
           by_cases c21 : a0_2.size + t405.size ≤ 9223372036854775807
           · rw [if_pos c21] at H
             have c21b0 := eq_true c21
             have c21b1 : decide (a0_2.size + t405.size ≤ 9223372036854775807) = true := decide_eq_true c21
             try have c21b2 : (9223372036854775807 < a0_2.size + t405.size) = False := eq_false (Nat.not_lt.2 c21)
             simp only [Option.some.injEq, Prod.mk.injEq] at H
             obtain ⟨rfl, rfl, rfl, rfl⟩ := H
             have hnb22 := NB402_403.out
             have hnc22 := NB403_402.out
             obtain ⟨hcz23_0, hcz23_1, hcz23_2, hfz23_0, hfz23_1, hfz23_2⟩ := q3 BK402
             try go_wp2
             replace BK402 := Aside0.mk (blk_drew BK402.out)
             replace BK403 := Aside0.mk (blk_drew BK403.out)
             replace HB := Aside0.mk (below_drew1 HB.out)
             refine start_ (n := 7) (S := fun w' => w'.cell? ⟨gb402, 0, none⟩ = some (.bool a0_0) ∧ w'.cell? ⟨gb402, 1, none⟩ = some (.string a0_1) ∧ w'.cell? ⟨gb402, 2, none⟩ = some (.string a0_2)) (ds := [6]) #[false, false, false, false, false, false, false] (by kernel_rfl) rfl rfl ⟨c_ BK402 0, c_ BK402 1, c_ BK402 2⟩ (fun hHeld => ?_)
             generalize wc.drew = w24 at BK402 BK403 HB hHeld ⊢
             refine pure_ (i := 0) (N := some 35) (v := ?_) (a' := ?_) #[true, false, false, false, false, false, false] rfl rfl (by kernel_rfl) (fun _ _ _ h => h) (Or.inl ⟨by rfl, ?_⟩) ?_ ?_
             rotate_left
             · intro w'
               go_simp
               with_reducible rfl
             rotate_left
             · simp only [Act.put, List.setIfInBounds_toArray, List.set_cons_zero, List.set_cons_succ, i64_w, i32_w]
               rfl
             refine pure_ (i := 2) (N := some 37) (v := ?_) (a' := ?_) #[true, false, true, false, false, false, false] rfl rfl (by kernel_rfl) (fun _ _ _ h => h) (Or.inl ⟨by rfl, ?_⟩) ?_ ?_
             rotate_left
             · intro w'
               go_simp
               with_reducible rfl
             rotate_left
             · simp only [Act.put, List.setIfInBounds_toArray, List.set_cons_zero, List.set_cons_succ, i64_w, i32_w]
               rfl
             refine take_ (i := 1) (N := some 36) (v := ?_) (a' := ?_) #[true, true, true, false, false, false, false] rfl rfl (by kernel_rfl) (fun _ _ _ h => h) (Or.inl ⟨by rfl, ?_⟩) hHeld ?_ ?_
             rotate_left
             · rintro w' ⟨s0, s1, s2⟩
               go_simp
               with_reducible rfl
             rotate_left
             · simp only [Act.put, List.setIfInBounds_toArray, List.set_cons_zero, List.set_cons_succ, i64_w, i32_w]
               rfl
             refine one_ (i := 3) (N := some 38) #[true, true, true, true, false, false, false] rfl rfl (by kernel_rfl) (by decide) (fun K hK => ?_)
             refine goes_ Tryd.func39 (by kernel_rfl) rfl #[.string (⟨#[48]⟩ : ByteArray), .int .i64 (wrap64 (a1 - (a0_2.size : Int)))] (by rfl) rfl rfl ql ?_
             with_reducible refine (strings_Repeat.calls (⟨#[48]⟩ : ByteArray) (wrap64 (a1 - (a0_2.size : Int))) t405 _ A20.out).mono ?_
             rintro e w25 ⟨rfl, hb⟩
             refine ⟨_, rfl, ?_⟩
             replace BK402 := qb BK402 hb
             replace BK403 := qb BK403 hb
             replace HB := qn HB hb
             (try clear hb)
             (try clear hb2)
             (try clear hk)
             (try clear hi)
             refine hK.out _ _ ⟨c_ BK402 0, c_ BK402 1, c_ BK402 2⟩ (fun hHeld => ?_)
             clear hK K
             refine nz (some 38) ?_
             refine pure_ (i := 4) (N := some 39) (v := ?_) (a' := ?_) #[true, true, true, true, true, false, false] rfl rfl (by kernel_rfl) (fun _ _ _ h => h) (Or.inl ⟨by rfl, ?_⟩) ?_ ?_
             rotate_left
             · intro w'
               go_simp
               with_reducible rfl
             rotate_left
             · simp only [Act.put, List.setIfInBounds_toArray, List.set_cons_zero, List.set_cons_succ, i64_w, i32_w]
               rfl
             refine pure_ (i := 5) (N := some 40) (v := ?_) (a' := ?_) #[true, true, true, true, true, true, false] rfl rfl (by kernel_rfl) (fun _ _ _ h => h) (Or.inl ⟨by rfl, ?_⟩) ?_ ?_
             rotate_left
             · intro w'
               go_simp
               with_reducible rfl
             rotate_left
             · simp only [Act.put, List.setIfInBounds_toArray, List.set_cons_zero, List.set_cons_succ, i64_w, i32_w]
               rfl
             refine last_ (i := 6) (N := none) #[true, true, true, true, true, true, true] rfl rfl (by kernel_rfl) (by decide) (fun K hK => ?_)
             have hs26 : w25.cell? ⟨gb402, 2, none⟩ = some (.string a0_2) := c_ BK402 2
             have hfs26 := blk_frozen BK402.out 2
             have hns26_1 := NB403_402.out
             have hms26_1 := NB402_403.out
             refine skip_ (w1 := ?_) (by rfl) rfl ?_ ?_
             rotate_left
             · go_simp
               rfl
             refine hK.out _ _ ?_
             clear hK K
             refine done_ (by kernel_rfl) ?_
             obtain ⟨hcz27_0, hcz27_1, hcz27_2, hfz27_0, hfz27_1, hfz27_2⟩ := q3 BK402
             obtain ⟨hcz28_0, hcz28_1, hcz28_2, hfz28_0, hfz28_1, hfz28_2⟩ := q3 BK403
             try go_wp2
             refine bodyPost_ret (results_ct rfl _ _ gb403 23 #[.bool a0_0, .string a0_1, .string (a0_2 ++ t405)] (0, 0) _ rfl (by refine qp 2 #[.bool a0_0, .string a0_1, .string (⟨#[]⟩ : ByteArray)] ?_; refine qp 1 #[.bool a0_0, .string (⟨#[]⟩ : ByteArray), .string (⟨#[]⟩ : ByteArray)] ?_; refine qp 0 #[.bool false, .string (⟨#[]⟩ : ByteArray), .string (⟨#[]⟩ : ByteArray)] ?_; refine qf NB403_402 ?_; exact qk BK403) Tryd.underlying23 rfl (by kernel_rfl)) rfl ?_
             exact ⟨qe, qh HB⟩
           · rw [if_neg c21] at H
             exact absurd H (by simp)
       · rw [if_neg c15] at H
         have c15b0 : decide (0 < (wrap64 (a1 - (a0_2.size : Int)))) = false := decide_eq_false c15
         clear c15
         simp only [Option.some.injEq, Prod.mk.injEq] at H
         obtain ⟨rfl, rfl, rfl, rfl⟩ := H
         have hnb29 := NB402_403.out
         have hnc29 := NB403_402.out
         obtain ⟨hcz30_0, hcz30_1, hcz30_2, hfz30_0, hfz30_1, hfz30_2⟩ := q3 BK402
         obtain ⟨hcz31_0, hcz31_1, hcz31_2, hfz31_0, hfz31_1, hfz31_2⟩ := q3 BK403
         go_wp2
         refine bodyPost_ret (results_ct rfl _ _ gb403 23 #[.bool a0_0, .string a0_1, .string a0_2] (0, 0) _ rfl (by refine qp 2 #[.bool a0_0, .string a0_1, .string (⟨#[]⟩ : ByteArray)] ?_; refine qp 1 #[.bool a0_0, .string (⟨#[]⟩ : ByteArray), .string (⟨#[]⟩ : ByteArray)] ?_; refine qp 0 #[.bool false, .string (⟨#[]⟩ : ByteArray), .string (⟨#[]⟩ : ByteArray)] ?_; exact qk BK403) Tryd.underlying23 rfl (by kernel_rfl)) rfl ?_
         exact ⟨qe, qh HB⟩
 · rw [if_neg c4] at H
   have c4b0 : (t404 == 0) = false := beq_eq_false_iff_ne.mpr c4
   have c4b1 : (t404 != 0) = true := bne_iff_ne.mpr c4
   try have c4b1z := c4b1
   (try simp only [bne] at c4b1z)
   simp only [Option.some.injEq, Prod.mk.injEq] at H
   obtain ⟨rfl, rfl, rfl, rfl⟩ := H
   go_enter Tryd.func36, Tryd.ntmps36
   go_wp2_with (first | ((with_reducible refine gate_dst (N := 2) rfl ?_); refine qx 2 #[.bool a0_0, .string a0_1, .string a0_2] 23 ?_; intro gb402 hg w32 hbox hb; have BK402 := Aside0.mk (hbox); have GW402 := qs hg HB; have GE402 := GW402; replace HB := qn HB hb; clear hb hbox hg) | ((with_reducible refine gate_dst (N := 4) rfl ?_); refine qx 4 #[.bool false, .string (⟨#[]⟩ : ByteArray), .string (⟨#[]⟩ : ByteArray)] 23 ?_; intro gb403 hg w33 hbox hb; have BK403 := Aside0.mk (hbox); have GW403 := qs hg HB; have GE403 := GW403; have NB402_403 := ql_ hg BK402; have NB403_402 := qg_ hg BK402; replace BK402 := qb BK402 hb; replace HB := qn HB hb; clear hb hbox hg; have hnb34 := NB402_403.out; have hnc34 := NB403_402.out; obtain ⟨hcz35_0, hcz35_1, hcz35_2, hfz35_0, hfz35_1, hfz35_2⟩ := q3 BK402) | ((with_reducible refine gate_callee (f := 42) rfl ?_); refine goesL_ (some 9) rfl rfl Tryd.func42 (by kernel_rfl) rfl #[.agg #[.bool a0_0, .string a0_1, .string a0_2]] rfl ql ?_; (with_reducible refine (decimal_Check.calls k a0_0 a0_1 a0_2 t404 _ A3.out).mono ?_); rintro e w36 ⟨rfl, hb⟩; refine ⟨_, rfl, ?_⟩; replace BK402 := qb BK402 hb; replace BK403 := qb BK403 hb; replace HB := qn HB hb; (try clear hb); (try clear hb2); (try clear hk); (try clear hi); obtain ⟨hcz37_0, hcz37_1, hcz37_2, hfz37_0, hfz37_1, hfz37_2⟩ := q3 BK403))
   refine bodyPost_ret (results_ct rfl _ _ gb403 23 #[.bool false, .string (⟨#[]⟩ : ByteArray), .string (⟨#[]⟩ : ByteArray)] (0, 0) _ rfl (by refine qp 2 #[.bool false, .string (⟨#[]⟩ : ByteArray), .string (⟨#[]⟩ : ByteArray)] ?_; refine qp 1 #[.bool false, .string (⟨#[]⟩ : ByteArray), .string (⟨#[]⟩ : ByteArray)] ?_; refine qp 0 #[.bool false, .string (⟨#[]⟩ : ByteArray), .string (⟨#[]⟩ : ByteArray)] ?_; exact qk BK403) Tryd.underlying23 rfl (by kernel_rfl)) rfl ?_
   exact ⟨qe, qh HB⟩

end Go.Proofs.YtpmhebdaphjinaaDoor.F
namespace Go.Proofs.YtpmhebdaphjinaaDoor.F
open Go.RowKit Go.Proofs.YtpmhebdaphjinaaDoorW.PrintWords Go.Proofs.YtpmhebdaphjinaaDoorW.PrintLast Go.Proofs.YtpmhebdaphjinaaDoorW.PrintMore Go.Proofs.YtpmhebdaphjinaaDoor.Q
attribute [local go_sem] max2_int min2_int max_two min_two max_three min_three max_four min_four   -- for this text's walks alone
set_option linter.unusedVariables false
set_option linter.unusedSimpArgs false

def round_Fix.l0 : Nat → Int → Bool → ByteArray → ByteArray → Option (Bool × ByteArray × ByteArray × Int)
 | 0, _, _, _, _ => none
 | k + 1, x2, x407000, x407001, x407002 => if (x407002.size : Int) > x2 then (if 0 ≤ (wrap64 ((x407002.size : Int) - 1)) then (if (wrap64 ((x407002.size : Int) - 1)) < (x407002.size : Int) then (if (bt x407002 (wrap64 ((x407002.size : Int) - 1))) = 48 then (if (wrap64 ((x407002.size : Int) - 1)) ≤ (x407002.size : Int) then (round_Fix.l0 k x2 x407000 x407001 (x407002.extract 0 ((wrap64 ((x407002.size : Int) - 1)) : Int).toNat)) else (none)) else ((decimal_Pad.f k x407000 x407001 x407002 x2).bind fun bt414 => (some (bt414.1, bt414.2.1, bt414.2.2.1, bt414.2.2.2)))) else (none)) else (none)) else ((decimal_Pad.f k x407000 x407001 x407002 x2).bind fun bt418 => (some (bt418.1, bt418.2.1, bt418.2.2.1, bt418.2.2.2)))
def round_Fix.f (k : Nat) (a0_0 : Bool) (a0_1 : ByteArray) (a0_2 : ByteArray) (a1 : Int) (a2 : Int) (a3 : Int) : Option (Bool × ByteArray × ByteArray × Int) := (round_asked.f k a0_0 a0_1 a0_2 a1).bind fun t408 => (if t408 = 0 then ((round_bounds.f 0 a2 a3).bind fun t409 => (if t409 = true then ((round_Places.f k a0_0 a0_1 a0_2 a1 a3).bind fun bt410 => (if bt410.2.2.2 = 0 then (round_Fix.l0 k a2 bt410.1 bt410.2.1 bt410.2.2.1) else (some (false, (⟨#[]⟩ : ByteArray), (⟨#[]⟩ : ByteArray), bt410.2.2.2)))) else (some (false, (⟨#[]⟩ : ByteArray), (⟨#[]⟩ : ByteArray), 1)))) else (some (false, (⟨#[]⟩ : ByteArray), (⟨#[]⟩ : ByteArray), t408)))
theorem round_Fix.mono_l : ∀ k, (∀ y0 y1 y2 y3, LeO (round_Fix.l0 k y0 y1 y2 y3) (round_Fix.l0 (k + 1) y0 y1 y2 y3))
 | 0 => fun _ _ _ _ r h => by simp [round_Fix.l0] at h
 | k + 1 => by
  have ih0 := round_Fix.mono_l k
  · intro y0 y1 y2 y3
    unfold round_Fix.l0
    repeat' first
    | (with_reducible exact ih0 _ _ _ _)
    | (with_reducible exact decimal_Pad.mono _ _ _ _ _)
    | (with_reducible exact round_Places.mono _ _ _ _ _ _)
    | (with_reducible exact round_asked.mono _ _ _ _ _)
    | (with_reducible exact LeO.refl _)
    | (with_reducible exact LeO.none _)
    | (with_reducible refine LeO.ite ?_ ?_)
    | (with_reducible refine LeO.bind ?_ (fun _ => ?_))
    | exact ih0 _ _ _ _
    | exact decimal_Pad.mono _ _ _ _ _
    | exact round_Places.mono _ _ _ _ _ _
    | exact round_asked.mono _ _ _ _ _
    | exact LeO.none _
    | refine LeO.ite ?_ ?_
    | refine LeO.bind ?_ (fun _ => ?_)
theorem round_Fix.mono : ∀ a0 a1 a2 a3 a4 a5 k, LeO (round_Fix.f k a0 a1 a2 a3 a4 a5) (round_Fix.f (k + 1) a0 a1 a2 a3 a4 a5) := by
 intro a0 a1 a2 a3 a4 a5 k
 have ih0 := round_Fix.mono_l k
 unfold round_Fix.f
 repeat' first
  | (with_reducible exact ih0 _ _ _ _)
  | (with_reducible exact decimal_Pad.mono _ _ _ _ _)
  | (with_reducible exact round_Places.mono _ _ _ _ _ _)
  | (with_reducible exact round_asked.mono _ _ _ _ _)
  | (with_reducible exact LeO.refl _)
  | (with_reducible exact LeO.none _)
  | (with_reducible refine LeO.ite ?_ ?_)
  | (with_reducible refine LeO.bind ?_ (fun _ => ?_))
  | exact ih0 _ _ _ _
  | exact decimal_Pad.mono _ _ _ _ _
  | exact round_Places.mono _ _ _ _ _ _
  | exact round_asked.mono _ _ _ _ _
  | exact LeO.none _
  | refine LeO.ite ?_ ?_
  | refine LeO.bind ?_ (fun _ => ?_)
set_option maxHeartbeats 8000000 in
set_option maxRecDepth 100000 in
theorem round_Fix.calls (k : Nat) (a0_0 : Bool) (a0_1 : ByteArray) (a0_2 : ByteArray) (a1 : Int) (a2 : Int) (a3 : Int) (r1 : Bool) (r2 : ByteArray) (r3 : ByteArray) (r4 : Int) (w : World) (h : round_Fix.f k a0_0 a0_1 a0_2 a1 a2 a3 = some (r1, r2, r3, r4)) :
 Calls Tryd.prog 18 #[.agg #[.bool a0_0, .string a0_1, .string a0_2], .int .i64 a1, .int .i64 a2, .int .i64 a3] w fun e w' => e = .returned (.tuple #[.agg #[.bool r1, .string r2, .string r3], .int .i64 r4]) ∧ Below w.heap.size w w' := by
 have hu23 := Tryd.underlying23
 have HB := Aside0.mk (Below.refl w.heap.size w)
 have H : ((round_asked.f k a0_0 a0_1 a0_2 a1).bind fun t408 => (if t408 = 0 then ((round_bounds.f 0 a2 a3).bind fun t409 => (if t409 = true then ((round_Places.f k a0_0 a0_1 a0_2 a1 a3).bind fun bt410 => (if bt410.2.2.2 = 0 then (round_Fix.l0 k a2 bt410.1 bt410.2.1 bt410.2.2.1) else (some (false, (⟨#[]⟩ : ByteArray), (⟨#[]⟩ : ByteArray), bt410.2.2.2)))) else (some (false, (⟨#[]⟩ : ByteArray), (⟨#[]⟩ : ByteArray), 1)))) else (some (false, (⟨#[]⟩ : ByteArray), (⟨#[]⟩ : ByteArray), t408)))) = some (r1, r2, r3, r4) := h
 clear h
 replace H := Option.bind_eq_some_iff.mp H
 obtain ⟨t408, A50, H⟩ := H
 replace H : (if t408 = 0 then ((round_bounds.f 0 a2 a3).bind fun t409 => (if t409 = true then ((round_Places.f k a0_0 a0_1 a0_2 a1 a3).bind fun bt410 => (if bt410.2.2.2 = 0 then (round_Fix.l0 k a2 bt410.1 bt410.2.1 bt410.2.2.1) else (some (false, (⟨#[]⟩ : ByteArray), (⟨#[]⟩ : ByteArray), bt410.2.2.2)))) else (some (false, (⟨#[]⟩ : ByteArray), (⟨#[]⟩ : ByteArray), 1)))) else (some (false, (⟨#[]⟩ : ByteArray), (⟨#[]⟩ : ByteArray), t408))) = some (r1, r2, r3, r4) := H
 have A5 := Aside0.mk A50
 clear A50
 by_cases c6 : t408 = 0
 · rw [if_pos c6] at H
   have c6b0 : (t408 == 0) = true := beq_iff_eq.mpr c6
   have c6b1 : (t408 != 0) = false := bne_eq_false_iff_eq.mpr c6
   try have c6b1z := c6b1
   (try simp only [bne] at c6b1z)
   clear c6
   replace H := Option.bind_eq_some_iff.mp H
   obtain ⟨t409, A70, H⟩ := H
   replace H : (if t409 = true then ((round_Places.f k a0_0 a0_1 a0_2 a1 a3).bind fun bt410 => (if bt410.2.2.2 = 0 then (round_Fix.l0 k a2 bt410.1 bt410.2.1 bt410.2.2.1) else (some (false, (⟨#[]⟩ : ByteArray), (⟨#[]⟩ : ByteArray), bt410.2.2.2)))) else (some (false, (⟨#[]⟩ : ByteArray), (⟨#[]⟩ : ByteArray), 1))) = some (r1, r2, r3, r4) := H
   have A7 := Aside0.mk A70
   clear A70
   by_cases c8 : t409 = true
   · subst c8
     have H1 : ((round_Places.f k a0_0 a0_1 a0_2 a1 a3).bind fun bt410 => (if bt410.2.2.2 = 0 then (round_Fix.l0 k a2 bt410.1 bt410.2.1 bt410.2.2.1) else (some (false, (⟨#[]⟩ : ByteArray), (⟨#[]⟩ : ByteArray), bt410.2.2.2)))) = some (r1, r2, r3, r4) := by rw [if_pos rfl] at H; exact H
     clear H
     have H := H1
     clear H1
     replace H := Option.bind_eq_some_iff.mp H
     obtain ⟨⟨t410, t411, t412, t413⟩, A90, H⟩ := H
     replace H : (if t413 = 0 then (round_Fix.l0 k a2 t410 t411 t412) else (some (false, (⟨#[]⟩ : ByteArray), (⟨#[]⟩ : ByteArray), t413))) = some (r1, r2, r3, r4) := H
     have A9 := Aside0.mk A90
     clear A90
     by_cases c10 : t413 = 0
     · rw [if_pos c10] at H
       have c10b0 : (t413 == 0) = true := beq_iff_eq.mpr c10
       have c10b1 : (t413 != 0) = false := bne_eq_false_iff_eq.mpr c10
       try have c10b1z := c10b1
       (try simp only [bne] at c10b1z)
       clear c10
       have H' := Aside0.mk H
       clear H
       go_enter Tryd.func18, Tryd.ntmps18
       go_wp2_with (first | ((with_reducible refine gate_dst (N := 4) rfl ?_); (try (refine gate_guard (by rfl) ?_; dsimp only)); refine qx 4 #[.bool a0_0, .string a0_1, .string a0_2] 23 ?_; intro gb406 hg w11 hbox hb; have BK406 := Aside0.mk (hbox); have GW406 := qs hg HB; have GE406 := GW406; replace HB := qn HB hb; clear hb hbox hg) | ((with_reducible refine gate_dst (N := 8) rfl ?_); (try (refine gate_guard (by rfl) ?_; dsimp only)); refine qx 8 #[.bool false, .string (⟨#[]⟩ : ByteArray), .string (⟨#[]⟩ : ByteArray)] 23 ?_; intro gb407 hg w12 hbox hb; have BK407 := Aside0.mk (hbox); have GW407 := qs hg HB; have GE407 := GW407; have NB406_407 := ql_ hg BK406; have NB407_406 := qg_ hg BK406; replace BK406 := qb BK406 hb; replace HB := qn HB hb; clear hb hbox hg; have hnb13 := NB406_407.out; have hnc13 := NB407_406.out; obtain ⟨hcz14_0, hcz14_1, hcz14_2, hfz14_0, hfz14_1, hfz14_2⟩ := q3 BK406) | ((with_reducible refine gate_callee (f := 24) rfl ?_); refine goesL_ (some 14) rfl rfl Tryd.func24 (by kernel_rfl) rfl #[.agg #[.bool a0_0, .string a0_1, .string a0_2], .int .i64 a1] rfl ql ?_; (with_reducible refine (round_asked.calls k a0_0 a0_1 a0_2 a1 t408 _ A5.out).mono ?_); rintro e w15 ⟨rfl, hb⟩; refine ⟨_, rfl, ?_⟩; replace BK406 := qb BK406 hb; replace BK407 := qb BK407 hb; replace HB := qn HB hb; (try clear hb); (try clear hb2); (try clear hk); (try clear hi)) | ((with_reducible refine gate_callee (f := 35) rfl ?_); refine goesL_ (some 21) rfl rfl Tryd.func35 (by kernel_rfl) rfl #[.int .i64 0, .int .i64 a2, .int .i64 a3] rfl ql ?_; (with_reducible refine (round_bounds.calls 0 a2 a3 true _ A7.out).mono ?_); rintro e w' ⟨rfl, ⟨nd, rfl⟩⟩; refine ⟨_, rfl, ?_⟩; (try (rw [drewN_self w15]; generalize hq_ : World.drewN w15 _ = w15; have n0_ : Aside0 (w15.heap[gb406]? = some (.cells #[.bool a0_0, .string a0_1, .string a0_2] 23 (0, 0))) := ⟨by rw [← hq_]; exact (qk BK406)⟩; have n1_ : Aside0 (w15.heap[gb407]? = some (.cells #[.bool false, .string (⟨#[]⟩ : ByteArray), .string (⟨#[]⟩ : ByteArray)] 23 (0, 0))) := ⟨by rw [← hq_]; exact (qk BK407)⟩; have n2_ : Aside0 (Below w.heap.size w w15) := ⟨by rw [← hq_]; exact (qh HB)⟩; clear BK406 BK407 HB hq_; have BK406 := n0_; have BK407 := n1_; have HB := n2_; clear n0_ n1_ n2_; (try have hcy407_0 : w15.cell? ⟨gb407, 0, none⟩ = some (.bool false) := c_ BK407 0); (try have hfy407_0 := blk_frozen BK407.out 0); (try have hcy407_1 : w15.cell? ⟨gb407, 1, none⟩ = some (.string (⟨#[]⟩ : ByteArray)) := c_ BK407 1); (try have hfy407_1 := blk_frozen BK407.out 1); (try have hcy407_2 : w15.cell? ⟨gb407, 2, none⟩ = some (.string (⟨#[]⟩ : ByteArray)) := c_ BK407 2); (try have hfy407_2 := blk_frozen BK407.out 2))); obtain ⟨hcz16_0, hcz16_1, hcz16_2, hfz16_0, hfz16_1, hfz16_2⟩ := q3 BK406) | ((with_reducible refine gate_callee (f := 10) rfl ?_); refine goesL_ (some 28) rfl rfl Tryd.func10 (by kernel_rfl) rfl #[.agg #[.bool a0_0, .string a0_1, .string a0_2], .int .i64 a1, .int .i64 a3] rfl ql ?_; (with_reducible refine (round_Places.calls k a0_0 a0_1 a0_2 a1 a3 t410 t411 t412 t413 _ A9.out).mono ?_); rintro e w17 ⟨rfl, hb⟩; refine ⟨_, rfl, ?_⟩; replace BK406 := qb BK406 hb; replace BK407 := qb BK407 hb; replace HB := qn HB hb; (try clear hb); (try clear hb2); (try clear hk); (try clear hi); obtain ⟨hcz18_0, hcz18_1, hcz18_2, hfz18_0, hfz18_1, hfz18_2⟩ := q3 BK406))
       (try simp only [Act.put, List.setIfInBounds_toArray, List.set_cons_zero, List.set_cons_succ])
       go_loopg [] k (fun kq w' => ∃ (x407002_1 : ByteArray), Aside0 (round_Fix.l0 kq a2 t410 t411 x407002_1 = some (r1, r2, r3, r4)) ∧ Aside0 (kq ≤ k) ∧ Aside0 (w'.heap[gb406]? = some (.cells #[.bool t410, .string t411, .string x407002_1] 23 (0, 0))) ∧ Aside0 (w'.heap[gb407]? = some (.cells #[.bool false, .string (⟨#[]⟩ : ByteArray), .string (⟨#[]⟩ : ByteArray)] 23 (0, 0))) ∧ Aside0 (Below w.heap.size w w'))
       case atStart => exact ⟨(t412), H', ⟨Nat.le_refl _⟩, ⟨by refine qp 2 #[.bool t410, .string t411, .string a0_2] ?_; refine qp 1 #[.bool t410, .string a0_1, .string a0_2] ?_; refine qp 0 #[.bool a0_0, .string a0_1, .string a0_2] ?_; exact qk BK406⟩, ⟨by refine qf NB407_406 ?_; refine qf NB407_406 ?_; refine qf NB407_406 ?_; exact qk BK407⟩, ⟨qh HB⟩⟩
       case round =>
        clear H'
        try clear c1
        try clear c2
        try clear p2
        try clear c3
        try clear c6
        try clear c6b0
        try clear c6b1
        try clear c8
        try clear c10
        try clear c10b0
        try clear c10b1
        try clear c13
        try clear c18
        try clear hcz14_0
        try clear hcz14_1
        try clear hcz14_2
        try clear hcz16_0
        try clear hcz16_1
        try clear hcz16_2
        try clear hcz18_0
        try clear hcz18_1
        try clear hcz18_2
        try clear hfz14_0
        try clear hfz14_1
        try clear hfz14_2
        try clear hfz16_0
        try clear hfz16_1
        try clear hfz16_2
        try clear hfz18_0
        try clear hfz18_1
        try clear hfz18_2
        obtain ⟨x407002_1, HA, HK1, BK406, BK407, HB⟩ := hrel
        cases gk with
        | zero => exact absurd HA.out (by simp [round_Fix.l0])
        | succ k1 =>
         have H := HA.out
         clear HA
         simp only [round_Fix.l0] at H
         by_cases c19 : (x407002_1.size : Int) > a2
         · rw [if_pos c19] at H
           have c19b0 : decide (a2 < (x407002_1.size : Int)) = true := decide_eq_true c19
           clear c19
           obtain ⟨ji20, hji20⟩ : ∃ j_ : Int, (wrap64 ((x407002_1.size : Int) - 1)) = j_ := ⟨_, rfl⟩
           replace H : (if 0 ≤ (ji20) then (if (ji20) < (x407002_1.size : Int) then (if (bt x407002_1 (ji20)) = 48 then (if (ji20) ≤ (x407002_1.size : Int) then (round_Fix.l0 k1 a2 t410 t411 (x407002_1.extract 0 ((ji20) : Int).toNat)) else (none)) else ((decimal_Pad.f k1 t410 t411 x407002_1 a2).bind fun bt414 => (some (bt414.1, bt414.2.1, bt414.2.2.1, bt414.2.2.2)))) else (none)) else (none)) = some (r1, r2, r3, r4) := by first | (rw [hji20] at H; exact H) | (simp only [hji20] at H ⊢; exact H)
           have hji20w : (IntKind.i64.wrap ((x407002_1.size : Int) - 1)) = ji20 := (i64_w _).trans hji20
           by_cases c21 : 0 ≤ (ji20)
           · rw [if_pos c21] at H
             have c21b0 : decide (0 ≤ (ji20)) = true := decide_eq_true c21
             clear c21
             by_cases c22 : (ji20) < (x407002_1.size : Int)
             · rw [if_pos c22] at H
               have c22b0 : decide ((ji20) < (x407002_1.size : Int)) = true := decide_eq_true c22
               clear c22
               by_cases c24 : (bt x407002_1 (ji20)) = 48
               · rw [if_pos c24] at H
                 have c24b0 : ((bt x407002_1 (ji20)) == 48) = true := beq_iff_eq.mpr c24
                 have c24b1 : ((bt x407002_1 (ji20)) != 48) = false := bne_eq_false_iff_eq.mpr c24
                 clear c24
                 have c25b0 := eq_true (of_decide_eq_true qa : 0 ≤ (ji20))
                 by_cases c26 : (ji20) ≤ (x407002_1.size : Int)
                 · rw [if_pos c26] at H
                   have c26b0 := eq_true c26
                   have c26b1 : decide ((ji20) ≤ (x407002_1.size : Int)) = true := decide_eq_true c26
                   clear c26
                   have H' := Aside0.mk H
                   clear H
                   have hnb27 := NB406_407.out
                   have hnc27 := NB407_406.out
                   obtain ⟨hcz28_0, hcz28_1, hcz28_2, hfz28_0, hfz28_1, hfz28_2⟩ := q3 BK406
                   have p23 : 0 ≤ ((ji20) : Int) := of_decide_eq_true qa
                   have q23 : (ji20) < (x407002_1.size : Int) := of_decide_eq_true qa
                   have hx23 := bt_at x407002_1 (ji20)
                   replace p23 := eq_true p23
                   replace q23 := eq_true q23
                   go_wp2
                   go_roundg k1
                   case measure => have := HK1.out; omega
                   case rel => exact ⟨(x407002_1.extract 0 ((ji20) : Int).toNat), H', ⟨by have := HK1.out; omega⟩, ⟨by refine qp 2 #[.bool t410, .string t411, .string x407002_1] ?_; exact qk BK406⟩, ⟨by refine qf NB407_406 ?_; exact qk BK407⟩, ⟨qh HB⟩⟩
                 · rw [if_neg c26] at H
                   exact absurd H (by simp)
               · rw [if_neg c24] at H
                 have c24b0 : ((bt x407002_1 (ji20)) == 48) = false := beq_eq_false_iff_ne.mpr c24
                 have c24b1 : ((bt x407002_1 (ji20)) != 48) = true := bne_iff_ne.mpr c24
                 replace H := Option.bind_eq_some_iff.mp H
                 obtain ⟨⟨t414, t415, t416, t417⟩, A290, H⟩ := H
                 replace H : (some (t414, t415, t416, t417)) = some (r1, r2, r3, r4) := H
                 have A29 := Aside0.mk A290
                 clear A290
                 simp only [Option.some.injEq, Prod.mk.injEq] at H
                 obtain ⟨rfl, rfl, rfl, rfl⟩ := H
                 have hnb30 := NB406_407.out
                 have hnc30 := NB407_406.out
                 obtain ⟨hcz31_0, hcz31_1, hcz31_2, hfz31_0, hfz31_1, hfz31_2⟩ := q3 BK406
                 have p23 : 0 ≤ ((ji20) : Int) := of_decide_eq_true qa
                 have q23 : (ji20) < (x407002_1.size : Int) := of_decide_eq_true qa
                 have hx23 := bt_at x407002_1 (ji20)
                 replace p23 := eq_true p23
                 replace q23 := eq_true q23
                 go_wp2_with (first | ((with_reducible refine gate_callee (f := 36) rfl ?_); refine goesL_ (some 60) rfl rfl Tryd.func36 (by kernel_rfl) rfl #[.agg #[.bool t410, .string t411, .string x407002_1], .int .i64 a2] rfl ql ?_; (with_reducible refine (decimal_Pad.calls k1 t410 t411 x407002_1 a2 t414 t415 t416 t417 _ A29.out).mono ?_); rintro e w32 ⟨rfl, hb⟩; refine ⟨_, rfl, ?_⟩; replace BK406 := qb BK406 hb; replace BK407 := qb BK407 hb; replace HB := qn HB hb; (try clear hb); (try clear hb2); (try clear hk); (try clear hi); obtain ⟨hcz33_0, hcz33_1, hcz33_2, hfz33_0, hfz33_1, hfz33_2⟩ := q3 BK407))
                 refine bodyPost_ret (results_ct rfl _ _ gb407 23 #[.bool t414, .string t415, .string t416] (0, 0) _ rfl (by refine qp 2 #[.bool t414, .string t415, .string (⟨#[]⟩ : ByteArray)] ?_; refine qp 1 #[.bool t414, .string (⟨#[]⟩ : ByteArray), .string (⟨#[]⟩ : ByteArray)] ?_; refine qp 0 #[.bool false, .string (⟨#[]⟩ : ByteArray), .string (⟨#[]⟩ : ByteArray)] ?_; exact qk BK407) Tryd.underlying23 rfl (by kernel_rfl)) rfl ?_
                 exact ⟨by first | rfl | (exact congrArg (fun b => Ending.returned (.bool b)) (Aid.bne_nil _)) | (exact congrArg (fun b => Ending.returned (.bool b)) (Aid.eq_nil _)) | (simp [errW_none, errW_some] <;> rfl) | (simp only [← hji20]; first | rfl | (simp [errW_none, errW_some] <;> rfl)) | (simp [*, errW_none, errW_some] <;> rfl), qh HB⟩
             · rw [if_neg c22] at H
               exact absurd H (by simp)
           · rw [if_neg c21] at H
             exact absurd H (by simp)
         · rw [if_neg c19] at H
           have c19b0 : decide (a2 < (x407002_1.size : Int)) = false := decide_eq_false c19
           clear c19
           replace H := Option.bind_eq_some_iff.mp H
           obtain ⟨⟨t418, t419, t420, t421⟩, A340, H⟩ := H
           replace H : (some (t418, t419, t420, t421)) = some (r1, r2, r3, r4) := H
           have A34 := Aside0.mk A340
           clear A340
           simp only [Option.some.injEq, Prod.mk.injEq] at H
           obtain ⟨rfl, rfl, rfl, rfl⟩ := H
           have hnb35 := NB406_407.out
           have hnc35 := NB407_406.out
           obtain ⟨hcz36_0, hcz36_1, hcz36_2, hfz36_0, hfz36_1, hfz36_2⟩ := q3 BK406
           go_wp2_with (first | ((with_reducible refine gate_callee (f := 36) rfl ?_); refine goesL_ (some 60) rfl rfl Tryd.func36 (by kernel_rfl) rfl #[.agg #[.bool t410, .string t411, .string x407002_1], .int .i64 a2] rfl ql ?_; (with_reducible refine (decimal_Pad.calls k1 t410 t411 x407002_1 a2 t418 t419 t420 t421 _ A34.out).mono ?_); rintro e w37 ⟨rfl, hb⟩; refine ⟨_, rfl, ?_⟩; replace BK406 := qb BK406 hb; replace BK407 := qb BK407 hb; replace HB := qn HB hb; (try clear hb); (try clear hb2); (try clear hk); (try clear hi); obtain ⟨hcz38_0, hcz38_1, hcz38_2, hfz38_0, hfz38_1, hfz38_2⟩ := q3 BK407))
           refine bodyPost_ret (results_ct rfl _ _ gb407 23 #[.bool t418, .string t419, .string t420] (0, 0) _ rfl (by refine qp 2 #[.bool t418, .string t419, .string (⟨#[]⟩ : ByteArray)] ?_; refine qp 1 #[.bool t418, .string (⟨#[]⟩ : ByteArray), .string (⟨#[]⟩ : ByteArray)] ?_; refine qp 0 #[.bool false, .string (⟨#[]⟩ : ByteArray), .string (⟨#[]⟩ : ByteArray)] ?_; exact qk BK407) Tryd.underlying23 rfl (by kernel_rfl)) rfl ?_
           exact ⟨qe, qh HB⟩
     · rw [if_neg c10] at H
       have c10b0 : (t413 == 0) = false := beq_eq_false_iff_ne.mpr c10
       have c10b1 : (t413 != 0) = true := bne_iff_ne.mpr c10
       try have c10b1z := c10b1
       (try simp only [bne] at c10b1z)
       simp only [Option.some.injEq, Prod.mk.injEq] at H
       obtain ⟨rfl, rfl, rfl, rfl⟩ := H
       go_enter Tryd.func18, Tryd.ntmps18
       go_wp2_with (first | ((with_reducible refine gate_dst (N := 4) rfl ?_); (try (refine gate_guard (by rfl) ?_; dsimp only)); refine qx 4 #[.bool a0_0, .string a0_1, .string a0_2] 23 ?_; intro gb406 hg w39 hbox hb; have BK406 := Aside0.mk (hbox); have GW406 := qs hg HB; have GE406 := GW406; replace HB := qn HB hb; clear hb hbox hg) | ((with_reducible refine gate_dst (N := 8) rfl ?_); (try (refine gate_guard (by rfl) ?_; dsimp only)); refine qx 8 #[.bool false, .string (⟨#[]⟩ : ByteArray), .string (⟨#[]⟩ : ByteArray)] 23 ?_; intro gb407 hg w40 hbox hb; have BK407 := Aside0.mk (hbox); have GW407 := qs hg HB; have GE407 := GW407; have NB406_407 := ql_ hg BK406; have NB407_406 := qg_ hg BK406; replace BK406 := qb BK406 hb; replace HB := qn HB hb; clear hb hbox hg; have hnb41 := NB406_407.out; have hnc41 := NB407_406.out; obtain ⟨hcz42_0, hcz42_1, hcz42_2, hfz42_0, hfz42_1, hfz42_2⟩ := q3 BK406) | ((with_reducible refine gate_callee (f := 24) rfl ?_); refine goesL_ (some 14) rfl rfl Tryd.func24 (by kernel_rfl) rfl #[.agg #[.bool a0_0, .string a0_1, .string a0_2], .int .i64 a1] rfl ql ?_; (with_reducible refine (round_asked.calls k a0_0 a0_1 a0_2 a1 t408 _ A5.out).mono ?_); rintro e w43 ⟨rfl, hb⟩; refine ⟨_, rfl, ?_⟩; replace BK406 := qb BK406 hb; replace BK407 := qb BK407 hb; replace HB := qn HB hb; (try clear hb); (try clear hb2); (try clear hk); (try clear hi)) | ((with_reducible refine gate_callee (f := 35) rfl ?_); refine goesL_ (some 21) rfl rfl Tryd.func35 (by kernel_rfl) rfl #[.int .i64 0, .int .i64 a2, .int .i64 a3] rfl ql ?_; (with_reducible refine (round_bounds.calls 0 a2 a3 true _ A7.out).mono ?_); rintro e w' ⟨rfl, ⟨nd, rfl⟩⟩; refine ⟨_, rfl, ?_⟩; (try (rw [drewN_self w43]; generalize hq_ : World.drewN w43 _ = w43; have n0_ : Aside0 (w43.heap[gb406]? = some (.cells #[.bool a0_0, .string a0_1, .string a0_2] 23 (0, 0))) := ⟨by rw [← hq_]; exact (qk BK406)⟩; have n1_ : Aside0 (w43.heap[gb407]? = some (.cells #[.bool false, .string (⟨#[]⟩ : ByteArray), .string (⟨#[]⟩ : ByteArray)] 23 (0, 0))) := ⟨by rw [← hq_]; exact (qk BK407)⟩; have n2_ : Aside0 (Below w.heap.size w w43) := ⟨by rw [← hq_]; exact (qh HB)⟩; clear BK406 BK407 HB hq_; have BK406 := n0_; have BK407 := n1_; have HB := n2_; clear n0_ n1_ n2_; (try have hcy407_0 : w43.cell? ⟨gb407, 0, none⟩ = some (.bool false) := c_ BK407 0); (try have hfy407_0 := blk_frozen BK407.out 0); (try have hcy407_1 : w43.cell? ⟨gb407, 1, none⟩ = some (.string (⟨#[]⟩ : ByteArray)) := c_ BK407 1); (try have hfy407_1 := blk_frozen BK407.out 1); (try have hcy407_2 : w43.cell? ⟨gb407, 2, none⟩ = some (.string (⟨#[]⟩ : ByteArray)) := c_ BK407 2); (try have hfy407_2 := blk_frozen BK407.out 2))); obtain ⟨hcz44_0, hcz44_1, hcz44_2, hfz44_0, hfz44_1, hfz44_2⟩ := q3 BK406) | ((with_reducible refine gate_callee (f := 10) rfl ?_); refine goesL_ (some 28) rfl rfl Tryd.func10 (by kernel_rfl) rfl #[.agg #[.bool a0_0, .string a0_1, .string a0_2], .int .i64 a1, .int .i64 a3] rfl ql ?_; (with_reducible refine (round_Places.calls k a0_0 a0_1 a0_2 a1 a3 t410 t411 t412 t413 _ A9.out).mono ?_); rintro e w45 ⟨rfl, hb⟩; refine ⟨_, rfl, ?_⟩; replace BK406 := qb BK406 hb; replace BK407 := qb BK407 hb; replace HB := qn HB hb; (try clear hb); (try clear hb2); (try clear hk); (try clear hi); obtain ⟨hcz46_0, hcz46_1, hcz46_2, hfz46_0, hfz46_1, hfz46_2⟩ := q3 BK406; obtain ⟨hcz47_0, hcz47_1, hcz47_2, hfz47_0, hfz47_1, hfz47_2⟩ := q3 BK407))
       refine bodyPost_ret (results_ct rfl _ _ gb407 23 #[.bool false, .string (⟨#[]⟩ : ByteArray), .string (⟨#[]⟩ : ByteArray)] (0, 0) _ rfl (by refine qp 2 #[.bool false, .string (⟨#[]⟩ : ByteArray), .string (⟨#[]⟩ : ByteArray)] ?_; refine qp 1 #[.bool false, .string (⟨#[]⟩ : ByteArray), .string (⟨#[]⟩ : ByteArray)] ?_; refine qp 0 #[.bool false, .string (⟨#[]⟩ : ByteArray), .string (⟨#[]⟩ : ByteArray)] ?_; refine qf NB407_406 ?_; refine qf NB407_406 ?_; refine qf NB407_406 ?_; exact qk BK407) Tryd.underlying23 rfl (by kernel_rfl)) rfl ?_
       exact ⟨qe, qh HB⟩
   · replace c8 := Bool.eq_false_iff.mpr c8
     subst c8
     have H1 : (some (false, (⟨#[]⟩ : ByteArray), (⟨#[]⟩ : ByteArray), 1)) = some (r1, r2, r3, r4) := by rw [if_neg (show ¬ (false = true) by decide)] at H; exact H
     clear H
     have H := H1
     clear H1
     simp only [Option.some.injEq, Prod.mk.injEq] at H
     obtain ⟨rfl, rfl, rfl, rfl⟩ := H
     go_enter Tryd.func18, Tryd.ntmps18
     go_wp2_with (first | ((with_reducible refine gate_dst (N := 4) rfl ?_); (try (refine gate_guard (by rfl) ?_; dsimp only)); refine qx 4 #[.bool a0_0, .string a0_1, .string a0_2] 23 ?_; intro gb406 hg w48 hbox hb; have BK406 := Aside0.mk (hbox); have GW406 := qs hg HB; have GE406 := GW406; replace HB := qn HB hb; clear hb hbox hg) | ((with_reducible refine gate_dst (N := 8) rfl ?_); (try (refine gate_guard (by rfl) ?_; dsimp only)); refine qx 8 #[.bool false, .string (⟨#[]⟩ : ByteArray), .string (⟨#[]⟩ : ByteArray)] 23 ?_; intro gb407 hg w49 hbox hb; have BK407 := Aside0.mk (hbox); have GW407 := qs hg HB; have GE407 := GW407; have NB406_407 := ql_ hg BK406; have NB407_406 := qg_ hg BK406; replace BK406 := qb BK406 hb; replace HB := qn HB hb; clear hb hbox hg; have hnb50 := NB406_407.out; have hnc50 := NB407_406.out; obtain ⟨hcz51_0, hcz51_1, hcz51_2, hfz51_0, hfz51_1, hfz51_2⟩ := q3 BK406) | ((with_reducible refine gate_callee (f := 24) rfl ?_); refine goesL_ (some 14) rfl rfl Tryd.func24 (by kernel_rfl) rfl #[.agg #[.bool a0_0, .string a0_1, .string a0_2], .int .i64 a1] rfl ql ?_; (with_reducible refine (round_asked.calls k a0_0 a0_1 a0_2 a1 t408 _ A5.out).mono ?_); rintro e w52 ⟨rfl, hb⟩; refine ⟨_, rfl, ?_⟩; replace BK406 := qb BK406 hb; replace BK407 := qb BK407 hb; replace HB := qn HB hb; (try clear hb); (try clear hb2); (try clear hk); (try clear hi)) | ((with_reducible refine gate_callee (f := 35) rfl ?_); refine goesL_ (some 21) rfl rfl Tryd.func35 (by kernel_rfl) rfl #[.int .i64 0, .int .i64 a2, .int .i64 a3] rfl ql ?_; (with_reducible refine (round_bounds.calls 0 a2 a3 false _ A7.out).mono ?_); rintro e w' ⟨rfl, ⟨nd, rfl⟩⟩; refine ⟨_, rfl, ?_⟩; (try (rw [drewN_self w52]; generalize hq_ : World.drewN w52 _ = w52; have n0_ : Aside0 (w52.heap[gb406]? = some (.cells #[.bool a0_0, .string a0_1, .string a0_2] 23 (0, 0))) := ⟨by rw [← hq_]; exact (qk BK406)⟩; have n1_ : Aside0 (w52.heap[gb407]? = some (.cells #[.bool false, .string (⟨#[]⟩ : ByteArray), .string (⟨#[]⟩ : ByteArray)] 23 (0, 0))) := ⟨by rw [← hq_]; exact (qk BK407)⟩; have n2_ : Aside0 (Below w.heap.size w w52) := ⟨by rw [← hq_]; exact (qh HB)⟩; clear BK406 BK407 HB hq_; have BK406 := n0_; have BK407 := n1_; have HB := n2_; clear n0_ n1_ n2_; (try have hcy406_0 : w52.cell? ⟨gb406, 0, none⟩ = some (.bool a0_0) := c_ BK406 0); (try have hfy406_0 := blk_frozen BK406.out 0); (try have hcy406_1 : w52.cell? ⟨gb406, 1, none⟩ = some (.string a0_1) := c_ BK406 1); (try have hfy406_1 := blk_frozen BK406.out 1); (try have hcy406_2 : w52.cell? ⟨gb406, 2, none⟩ = some (.string a0_2) := c_ BK406 2); (try have hfy406_2 := blk_frozen BK406.out 2))); obtain ⟨hcz53_0, hcz53_1, hcz53_2, hfz53_0, hfz53_1, hfz53_2⟩ := q3 BK407))
     refine bodyPost_ret (results_ct rfl _ _ gb407 23 #[.bool false, .string (⟨#[]⟩ : ByteArray), .string (⟨#[]⟩ : ByteArray)] (0, 0) _ rfl (by refine qp 2 #[.bool false, .string (⟨#[]⟩ : ByteArray), .string (⟨#[]⟩ : ByteArray)] ?_; refine qp 1 #[.bool false, .string (⟨#[]⟩ : ByteArray), .string (⟨#[]⟩ : ByteArray)] ?_; refine qp 0 #[.bool false, .string (⟨#[]⟩ : ByteArray), .string (⟨#[]⟩ : ByteArray)] ?_; exact qk BK407) Tryd.underlying23 rfl (by kernel_rfl)) rfl ?_
     exact ⟨qe, qh HB⟩
 · rw [if_neg c6] at H
   have c6b0 : (t408 == 0) = false := beq_eq_false_iff_ne.mpr c6
   have c6b1 : (t408 != 0) = true := bne_iff_ne.mpr c6
   try have c6b1z := c6b1
   (try simp only [bne] at c6b1z)
   simp only [Option.some.injEq, Prod.mk.injEq] at H
   obtain ⟨rfl, rfl, rfl, rfl⟩ := H
   go_enter Tryd.func18, Tryd.ntmps18
   go_wp2_with (first | ((with_reducible refine gate_dst (N := 4) rfl ?_); (try (refine gate_guard (by rfl) ?_; dsimp only)); refine qx 4 #[.bool a0_0, .string a0_1, .string a0_2] 23 ?_; intro gb406 hg w54 hbox hb; have BK406 := Aside0.mk (hbox); have GW406 := qs hg HB; have GE406 := GW406; replace HB := qn HB hb; clear hb hbox hg) | ((with_reducible refine gate_dst (N := 8) rfl ?_); (try (refine gate_guard (by rfl) ?_; dsimp only)); refine qx 8 #[.bool false, .string (⟨#[]⟩ : ByteArray), .string (⟨#[]⟩ : ByteArray)] 23 ?_; intro gb407 hg w55 hbox hb; have BK407 := Aside0.mk (hbox); have GW407 := qs hg HB; have GE407 := GW407; have NB406_407 := ql_ hg BK406; have NB407_406 := qg_ hg BK406; replace BK406 := qb BK406 hb; replace HB := qn HB hb; clear hb hbox hg; have hnb56 := NB406_407.out; have hnc56 := NB407_406.out; obtain ⟨hcz57_0, hcz57_1, hcz57_2, hfz57_0, hfz57_1, hfz57_2⟩ := q3 BK406) | ((with_reducible refine gate_callee (f := 24) rfl ?_); refine goesL_ (some 14) rfl rfl Tryd.func24 (by kernel_rfl) rfl #[.agg #[.bool a0_0, .string a0_1, .string a0_2], .int .i64 a1] rfl ql ?_; (with_reducible refine (round_asked.calls k a0_0 a0_1 a0_2 a1 t408 _ A5.out).mono ?_); rintro e w58 ⟨rfl, hb⟩; refine ⟨_, rfl, ?_⟩; replace BK406 := qb BK406 hb; replace BK407 := qb BK407 hb; replace HB := qn HB hb; (try clear hb); (try clear hb2); (try clear hk); (try clear hi); obtain ⟨hcz59_0, hcz59_1, hcz59_2, hfz59_0, hfz59_1, hfz59_2⟩ := q3 BK407))
   refine bodyPost_ret (results_ct rfl _ _ gb407 23 #[.bool false, .string (⟨#[]⟩ : ByteArray), .string (⟨#[]⟩ : ByteArray)] (0, 0) _ rfl (by refine qp 2 #[.bool false, .string (⟨#[]⟩ : ByteArray), .string (⟨#[]⟩ : ByteArray)] ?_; refine qp 1 #[.bool false, .string (⟨#[]⟩ : ByteArray), .string (⟨#[]⟩ : ByteArray)] ?_; refine qp 0 #[.bool false, .string (⟨#[]⟩ : ByteArray), .string (⟨#[]⟩ : ByteArray)] ?_; exact qk BK407) Tryd.underlying23 rfl (by kernel_rfl)) rfl ?_
   exact ⟨qe, qh HB⟩

def idiomref03_bound.f (a0_0 : Bool) (a0_1 : ByteArray) (a0_2 : ByteArray) : Option (Bool × ByteArray × ByteArray × Int) := if (wrap64 ((a0_1.size : Int) + (a0_2.size : Int))) > 40 then (some (false, (⟨#[]⟩ : ByteArray), (⟨#[]⟩ : ByteArray), 3)) else (some (a0_0, a0_1, a0_2, 0))
set_option maxHeartbeats 8000000 in
set_option maxRecDepth 100000 in
theorem idiomref03_bound.calls (a0_0 : Bool) (a0_1 : ByteArray) (a0_2 : ByteArray) (r1 : Bool) (r2 : ByteArray) (r3 : ByteArray) (r4 : Int) (w : World) (h : idiomref03_bound.f a0_0 a0_1 a0_2 = some (r1, r2, r3, r4)) :
 Calls Tryd.prog 37 #[.agg #[.bool a0_0, .string a0_1, .string a0_2]] w fun e w' => e = .returned (.tuple #[.agg #[.bool r1, .string r2, .string r3], .int .i64 r4]) ∧ Below w.heap.size w w' := by
 have hu23 := Tryd.underlying23
 have HB := Aside0.mk (Below.refl w.heap.size w)
 have H : (if (wrap64 ((a0_1.size : Int) + (a0_2.size : Int))) > 40 then (some (false, (⟨#[]⟩ : ByteArray), (⟨#[]⟩ : ByteArray), 3)) else (some (a0_0, a0_1, a0_2, 0))) = some (r1, r2, r3, r4) := h
 clear h
 by_cases c2 : (wrap64 ((a0_1.size : Int) + (a0_2.size : Int))) > 40
 · rw [if_pos c2] at H
   have c2b0 : decide (40 < (wrap64 ((a0_1.size : Int) + (a0_2.size : Int)))) = true := decide_eq_true c2
   clear c2
   simp only [Option.some.injEq, Prod.mk.injEq] at H
   obtain ⟨rfl, rfl, rfl, rfl⟩ := H
   go_enter Tryd.func37, Tryd.ntmps37
   go_wp2_with (first | ((with_reducible refine gate_dst (N := 1) rfl ?_); refine qx 1 #[.bool a0_0, .string a0_1, .string a0_2] 23 ?_; intro gb422 hg w3 hbox hb; have BK422 := Aside0.mk (hbox); have GW422 := qs hg HB; have GE422 := GW422; replace HB := qn HB hb; clear hb hbox hg) | ((with_reducible refine gate_dst (N := 2) rfl ?_); refine qx 2 #[.bool false, .string (⟨#[]⟩ : ByteArray), .string (⟨#[]⟩ : ByteArray)] 23 ?_; intro gb423 hg w4 hbox hb; have BK423 := Aside0.mk (hbox); have GW423 := qs hg HB; have GE423 := GW423; have NB422_423 := ql_ hg BK422; have NB423_422 := qg_ hg BK422; replace BK422 := qb BK422 hb; replace HB := qn HB hb; clear hb hbox hg; have hnb5 := NB422_423.out; have hnc5 := NB423_422.out; obtain ⟨hcz6_0, hcz6_1, hcz6_2, hfz6_0, hfz6_1, hfz6_2⟩ := q3 BK422; obtain ⟨hcz7_0, hcz7_1, hcz7_2, hfz7_0, hfz7_1, hfz7_2⟩ := q3 BK423))
   refine bodyPost_ret (results_ct rfl _ _ gb423 23 #[.bool false, .string (⟨#[]⟩ : ByteArray), .string (⟨#[]⟩ : ByteArray)] (0, 0) _ rfl (by refine qp 2 #[.bool false, .string (⟨#[]⟩ : ByteArray), .string (⟨#[]⟩ : ByteArray)] ?_; refine qp 1 #[.bool false, .string (⟨#[]⟩ : ByteArray), .string (⟨#[]⟩ : ByteArray)] ?_; refine qp 0 #[.bool false, .string (⟨#[]⟩ : ByteArray), .string (⟨#[]⟩ : ByteArray)] ?_; exact qk BK423) Tryd.underlying23 rfl (by kernel_rfl)) rfl ?_
   exact ⟨qe, qh HB⟩
 · rw [if_neg c2] at H
   have c2b0 : decide (40 < (wrap64 ((a0_1.size : Int) + (a0_2.size : Int)))) = false := decide_eq_false c2
   clear c2
   simp only [Option.some.injEq, Prod.mk.injEq] at H
   obtain ⟨rfl, rfl, rfl, rfl⟩ := H
   go_enter Tryd.func37, Tryd.ntmps37
   go_wp2_with (first | ((with_reducible refine gate_dst (N := 1) rfl ?_); refine qx 1 #[.bool a0_0, .string a0_1, .string a0_2] 23 ?_; intro gb422 hg w8 hbox hb; have BK422 := Aside0.mk (hbox); have GW422 := qs hg HB; have GE422 := GW422; replace HB := qn HB hb; clear hb hbox hg) | ((with_reducible refine gate_dst (N := 2) rfl ?_); refine qx 2 #[.bool false, .string (⟨#[]⟩ : ByteArray), .string (⟨#[]⟩ : ByteArray)] 23 ?_; intro gb423 hg w9 hbox hb; have BK423 := Aside0.mk (hbox); have GW423 := qs hg HB; have GE423 := GW423; have NB422_423 := ql_ hg BK422; have NB423_422 := qg_ hg BK422; replace BK422 := qb BK422 hb; replace HB := qn HB hb; clear hb hbox hg; have hnb10 := NB422_423.out; have hnc10 := NB423_422.out; obtain ⟨hcz11_0, hcz11_1, hcz11_2, hfz11_0, hfz11_1, hfz11_2⟩ := q3 BK422; obtain ⟨hcz12_0, hcz12_1, hcz12_2, hfz12_0, hfz12_1, hfz12_2⟩ := q3 BK423))
   refine bodyPost_ret (results_ct rfl _ _ gb423 23 #[.bool a0_0, .string a0_1, .string a0_2] (0, 0) _ rfl (by refine qp 2 #[.bool a0_0, .string a0_1, .string (⟨#[]⟩ : ByteArray)] ?_; refine qp 1 #[.bool a0_0, .string (⟨#[]⟩ : ByteArray), .string (⟨#[]⟩ : ByteArray)] ?_; refine qp 0 #[.bool false, .string (⟨#[]⟩ : ByteArray), .string (⟨#[]⟩ : ByteArray)] ?_; exact qk BK423) Tryd.underlying23 rfl (by kernel_rfl)) rfl ?_
   exact ⟨qe, qh HB⟩

end Go.Proofs.YtpmhebdaphjinaaDoor.F
namespace Go.Proofs.YtpmhebdaphjinaaDoor.F
open Go.RowKit Go.Proofs.YtpmhebdaphjinaaDoorW.PrintWords Go.Proofs.YtpmhebdaphjinaaDoorW.PrintLast Go.Proofs.YtpmhebdaphjinaaDoorW.PrintMore Go.Proofs.YtpmhebdaphjinaaDoor.Q
attribute [local go_sem] max2_int min2_int max_two min_two max_three min_three max_four min_four   -- for this text's walks alone
set_option linter.unusedVariables false
set_option linter.unusedSimpArgs false

mutual
def idiomref03_Fix.j0 : Nat → Int → Int → Int → Bool → Bool → ByteArray → ByteArray → Option (Bool × ByteArray × ByteArray × Int)
 | 0, _, _, _, _, _, _, _ => none
 | k + 1, x1, x2, x3, x33, x425000, x425001, x425002 => if x33 = true then (some (false, (⟨#[]⟩ : ByteArray), (⟨#[]⟩ : ByteArray), 1)) else ((idiomref03_Places.f k x425000 x425001 x425002 x1 x3).bind fun bt427 => (if bt427.2.2.2 = 0 then (idiomref03_Fix.l0 k x2 bt427.1 bt427.2.1 bt427.2.2.1) else (some (false, (⟨#[]⟩ : ByteArray), (⟨#[]⟩ : ByteArray), bt427.2.2.2))))
def idiomref03_Fix.j2 : Nat → Int → Bool → ByteArray → ByteArray → Option (Bool × ByteArray × ByteArray × Int)
 | 0, _, _, _, _ => none
 | k + 1, x2, x425000, x425001, x425002 => if (x425002.size : Int) < x2 then ((idiomref03_Noughts.f k (wrap64 (x2 - (x425002.size : Int)))).bind fun t431 => (if x425002.size + t431.size ≤ 9223372036854775807 then ((idiomref03_bound.f x425000 x425001 (x425002 ++ t431)).bind fun bt432 => (some (bt432.1, bt432.2.1, bt432.2.2.1, bt432.2.2.2))) else (none))) else ((idiomref03_bound.f x425000 x425001 x425002).bind fun bt436 => (some (bt436.1, bt436.2.1, bt436.2.2.1, bt436.2.2.2)))
def idiomref03_Fix.l0 : Nat → Int → Bool → ByteArray → ByteArray → Option (Bool × ByteArray × ByteArray × Int)
 | 0, _, _, _, _ => none
 | k + 1, x2, x425000, x425001, x425002 => if (x425002.size : Int) > x2 then (if 0 ≤ (wrap64 ((x425002.size : Int) - 1)) then (if (wrap64 ((x425002.size : Int) - 1)) < (x425002.size : Int) then (if (bt x425002 (wrap64 ((x425002.size : Int) - 1))) = 48 then (if (wrap64 ((x425002.size : Int) - 1)) ≤ (x425002.size : Int) then (idiomref03_Fix.l0 k x2 x425000 x425001 (x425002.extract 0 ((wrap64 ((x425002.size : Int) - 1)) : Int).toNat)) else (none)) else (idiomref03_Fix.j2 k x2 x425000 x425001 x425002)) else (none)) else (none)) else (idiomref03_Fix.j2 k x2 x425000 x425001 x425002)
end
def idiomref03_Fix.f (k : Nat) (a0_0 : Bool) (a0_1 : ByteArray) (a0_2 : ByteArray) (a1 : Int) (a2 : Int) (a3 : Int) : Option (Bool × ByteArray × ByteArray × Int) := (idiomref03_asked.f k a0_0 a0_1 a0_2 a1).bind fun t426 => (if t426 = 0 then (if a2 < 0 then (idiomref03_Fix.j0 k a1 a2 a3 true a0_0 a0_1 a0_2) else (if a2 > 40 then (idiomref03_Fix.j0 k a1 a2 a3 true a0_0 a0_1 a0_2) else (if a3 < a2 then (idiomref03_Fix.j0 k a1 a2 a3 true a0_0 a0_1 a0_2) else (idiomref03_Fix.j0 k a1 a2 a3 (decide (a3 > 40)) a0_0 a0_1 a0_2)))) else (some (false, (⟨#[]⟩ : ByteArray), (⟨#[]⟩ : ByteArray), t426)))
theorem idiomref03_Fix.mono_l : ∀ k, (∀ y0 y1 y2 y3 y4 y5 y6, LeO (idiomref03_Fix.j0 k y0 y1 y2 y3 y4 y5 y6) (idiomref03_Fix.j0 (k + 1) y0 y1 y2 y3 y4 y5 y6)) ∧ (∀ y0 y1 y2 y3, LeO (idiomref03_Fix.j2 k y0 y1 y2 y3) (idiomref03_Fix.j2 (k + 1) y0 y1 y2 y3)) ∧ (∀ y0 y1 y2 y3, LeO (idiomref03_Fix.l0 k y0 y1 y2 y3) (idiomref03_Fix.l0 (k + 1) y0 y1 y2 y3))
 | 0 => ⟨fun _ _ _ _ _ _ _ r h => by simp [idiomref03_Fix.j0] at h, fun _ _ _ _ r h => by simp [idiomref03_Fix.j2] at h, fun _ _ _ _ r h => by simp [idiomref03_Fix.l0] at h⟩
 | k + 1 => by
  obtain ⟨ih0, ih1, ih2⟩ := idiomref03_Fix.mono_l k
  refine ⟨?_, ?_, ?_⟩
  · intro y0 y1 y2 y3 y4 y5 y6
    unfold idiomref03_Fix.j0
    repeat' first
    | (with_reducible exact ih0 _ _ _ _ _ _ _)
    | (with_reducible exact ih1 _ _ _ _)
    | (with_reducible exact ih2 _ _ _ _)
    | (with_reducible exact idiomref03_Noughts.mono _ _)
    | (with_reducible exact idiomref03_Places.mono _ _ _ _ _ _)
    | (with_reducible exact idiomref03_asked.mono _ _ _ _ _)
    | (with_reducible exact LeO.refl _)
    | (with_reducible exact LeO.none _)
    | (with_reducible refine LeO.ite ?_ ?_)
    | (with_reducible refine LeO.bind ?_ (fun _ => ?_))
    | exact ih0 _ _ _ _ _ _ _
    | exact ih1 _ _ _ _
    | exact ih2 _ _ _ _
    | exact idiomref03_Noughts.mono _ _
    | exact idiomref03_Places.mono _ _ _ _ _ _
    | exact idiomref03_asked.mono _ _ _ _ _
    | exact LeO.none _
    | refine LeO.ite ?_ ?_
    | refine LeO.bind ?_ (fun _ => ?_)
  · intro y0 y1 y2 y3
    unfold idiomref03_Fix.j2
    repeat' first
    | (with_reducible exact ih0 _ _ _ _ _ _ _)
    | (with_reducible exact ih1 _ _ _ _)
    | (with_reducible exact ih2 _ _ _ _)
    | (with_reducible exact idiomref03_Noughts.mono _ _)
    | (with_reducible exact idiomref03_Places.mono _ _ _ _ _ _)
    | (with_reducible exact idiomref03_asked.mono _ _ _ _ _)
    | (with_reducible exact LeO.refl _)
    | (with_reducible exact LeO.none _)
    | (with_reducible refine LeO.ite ?_ ?_)
    | (with_reducible refine LeO.bind ?_ (fun _ => ?_))
    | exact ih0 _ _ _ _ _ _ _
    | exact ih1 _ _ _ _
    | exact ih2 _ _ _ _
    | exact idiomref03_Noughts.mono _ _
    | exact idiomref03_Places.mono _ _ _ _ _ _
    | exact idiomref03_asked.mono _ _ _ _ _
    | exact LeO.none _
    | refine LeO.ite ?_ ?_
    | refine LeO.bind ?_ (fun _ => ?_)
  · intro y0 y1 y2 y3
    unfold idiomref03_Fix.l0
    repeat' first
    | (with_reducible exact ih0 _ _ _ _ _ _ _)
    | (with_reducible exact ih1 _ _ _ _)
    | (with_reducible exact ih2 _ _ _ _)
    | (with_reducible exact idiomref03_Noughts.mono _ _)
    | (with_reducible exact idiomref03_Places.mono _ _ _ _ _ _)
    | (with_reducible exact idiomref03_asked.mono _ _ _ _ _)
    | (with_reducible exact LeO.refl _)
    | (with_reducible exact LeO.none _)
    | (with_reducible refine LeO.ite ?_ ?_)
    | (with_reducible refine LeO.bind ?_ (fun _ => ?_))
    | exact ih0 _ _ _ _ _ _ _
    | exact ih1 _ _ _ _
    | exact ih2 _ _ _ _
    | exact idiomref03_Noughts.mono _ _
    | exact idiomref03_Places.mono _ _ _ _ _ _
    | exact idiomref03_asked.mono _ _ _ _ _
    | exact LeO.none _
    | refine LeO.ite ?_ ?_
    | refine LeO.bind ?_ (fun _ => ?_)
theorem idiomref03_Fix.mono : ∀ a0 a1 a2 a3 a4 a5 k, LeO (idiomref03_Fix.f k a0 a1 a2 a3 a4 a5) (idiomref03_Fix.f (k + 1) a0 a1 a2 a3 a4 a5) := by
 intro a0 a1 a2 a3 a4 a5 k
 obtain ⟨ih0, ih1, ih2⟩ := idiomref03_Fix.mono_l k
 unfold idiomref03_Fix.f
 repeat' first
  | (with_reducible exact ih0 _ _ _ _ _ _ _)
  | (with_reducible exact ih1 _ _ _ _)
  | (with_reducible exact ih2 _ _ _ _)
  | (with_reducible exact idiomref03_Noughts.mono _ _)
  | (with_reducible exact idiomref03_Places.mono _ _ _ _ _ _)
  | (with_reducible exact idiomref03_asked.mono _ _ _ _ _)
  | (with_reducible exact LeO.refl _)
  | (with_reducible exact LeO.none _)
  | (with_reducible refine LeO.ite ?_ ?_)
  | (with_reducible refine LeO.bind ?_ (fun _ => ?_))
  | exact ih0 _ _ _ _ _ _ _
  | exact ih1 _ _ _ _
  | exact ih2 _ _ _ _
  | exact idiomref03_Noughts.mono _ _
  | exact idiomref03_Places.mono _ _ _ _ _ _
  | exact idiomref03_asked.mono _ _ _ _ _
  | exact LeO.none _
  | refine LeO.ite ?_ ?_
  | refine LeO.bind ?_ (fun _ => ?_)
def idiomref03_Fix.T12 : Bool × List (List Nat × List Nat) := (true, [([], []), ([0], [0]), ([], []), ([], []), ([3], [3]), ([4], [4]), ([2, 5], [2, 5]), ([6], [6]), ([1, 7], [1, 7]), ([0, 1, 2, 3, 4, 5, 6, 7, 8], []), ([9, 8, 7, 0, 1, 2, 3, 4, 5, 6, 7, 8], [8, 9])])
def idiomref03_Fix.B12 : List Nat := [0, 1, 0, 0, 8, 24, 60, 124, 255, 511, 1023]
theorem idiomref03_Fix.tab12 : rtab .any (opsOf Tryd.f19 12) = idiomref03_Fix.T12 := by kernel_rfl
theorem idiomref03_Fix.bits12 : waitsOk idiomref03_Fix.T12.2 idiomref03_Fix.B12 = true := by kernel_rfl
set_option maxHeartbeats 8000000 in
set_option maxRecDepth 100000 in
theorem idiomref03_Fix.calls (k : Nat) (a0_0 : Bool) (a0_1 : ByteArray) (a0_2 : ByteArray) (a1 : Int) (a2 : Int) (a3 : Int) (r1 : Bool) (r2 : ByteArray) (r3 : ByteArray) (r4 : Int) (w : World) (h : idiomref03_Fix.f k a0_0 a0_1 a0_2 a1 a2 a3 = some (r1, r2, r3, r4)) :
 Calls Tryd.prog 19 #[.agg #[.bool a0_0, .string a0_1, .string a0_2], .int .i64 a1, .int .i64 a2, .int .i64 a3] w fun e w' => e = .returned (.tuple #[.agg #[.bool r1, .string r2, .string r3], .int .i64 r4]) ∧ Below w.heap.size w w' := by
 have hu23 := Tryd.underlying23
 have HB := Aside0.mk (Below.refl w.heap.size w)
 have H : ((idiomref03_asked.f k a0_0 a0_1 a0_2 a1).bind fun t426 => (if t426 = 0 then (if a2 < 0 then (idiomref03_Fix.j0 k a1 a2 a3 true a0_0 a0_1 a0_2) else (if a2 > 40 then (idiomref03_Fix.j0 k a1 a2 a3 true a0_0 a0_1 a0_2) else (if a3 < a2 then (idiomref03_Fix.j0 k a1 a2 a3 true a0_0 a0_1 a0_2) else (idiomref03_Fix.j0 k a1 a2 a3 (decide (a3 > 40)) a0_0 a0_1 a0_2)))) else (some (false, (⟨#[]⟩ : ByteArray), (⟨#[]⟩ : ByteArray), t426)))) = some (r1, r2, r3, r4) := h
 clear h
 replace H := Option.bind_eq_some_iff.mp H
 obtain ⟨t426, A50, H⟩ := H
 replace H : (if t426 = 0 then (if a2 < 0 then (idiomref03_Fix.j0 k a1 a2 a3 true a0_0 a0_1 a0_2) else (if a2 > 40 then (idiomref03_Fix.j0 k a1 a2 a3 true a0_0 a0_1 a0_2) else (if a3 < a2 then (idiomref03_Fix.j0 k a1 a2 a3 true a0_0 a0_1 a0_2) else (idiomref03_Fix.j0 k a1 a2 a3 (decide (a3 > 40)) a0_0 a0_1 a0_2)))) else (some (false, (⟨#[]⟩ : ByteArray), (⟨#[]⟩ : ByteArray), t426))) = some (r1, r2, r3, r4) := H
 have A5 := Aside0.mk A50
 clear A50
 by_cases c6 : t426 = 0
 · rw [if_pos c6] at H
   have c6b0 : (t426 == 0) = true := beq_iff_eq.mpr c6
   have c6b1 : (t426 != 0) = false := bne_eq_false_iff_eq.mpr c6
   try have c6b1z := c6b1
   (try simp only [bne] at c6b1z)
   clear c6
   have HC7 := Aside0.mk H
   clear H
   go_enter Tryd.func19, Tryd.ntmps19
   go_upto_region 4 with (first | ((with_reducible refine gate_dst (N := 4) rfl ?_); (try (refine gate_guard (by rfl) ?_; dsimp only)); refine qx 4 #[.bool a0_0, .string a0_1, .string a0_2] 23 ?_; intro gb424 hg w8 hbox hb; have BK424 := Aside0.mk (hbox); have GW424 := qs hg HB; have GE424 := GW424; replace HB := qn HB hb; clear hb hbox hg) | ((with_reducible refine gate_dst (N := 8) rfl ?_); (try (refine gate_guard (by rfl) ?_; dsimp only)); refine qx 8 #[.bool false, .string (⟨#[]⟩ : ByteArray), .string (⟨#[]⟩ : ByteArray)] 23 ?_; intro gb425 hg w9 hbox hb; have BK425 := Aside0.mk (hbox); have GW425 := qs hg HB; have GE425 := GW425; have NB424_425 := ql_ hg BK424; have NB425_424 := qg_ hg BK424; replace BK424 := qb BK424 hb; replace HB := qn HB hb; clear hb hbox hg; have hnb10 := NB424_425.out; have hnc10 := NB425_424.out; obtain ⟨hcz11_0, hcz11_1, hcz11_2, hfz11_0, hfz11_1, hfz11_2⟩ := q3 BK424) | ((with_reducible refine gate_callee (f := 26) rfl ?_); refine goesL_ (some 14) rfl rfl Tryd.func26 (by kernel_rfl) rfl #[.agg #[.bool a0_0, .string a0_1, .string a0_2], .int .i64 a1] rfl ql ?_; (with_reducible refine (idiomref03_asked.calls k a0_0 a0_1 a0_2 a1 t426 _ A5.out).mono ?_); rintro e w12 ⟨rfl, hb⟩; refine ⟨_, rfl, ?_⟩; replace BK424 := qb BK424 hb; replace BK425 := qb BK425 hb; replace HB := qn HB hb; (try clear hb); (try clear hb2); (try clear hk); (try clear hi)))
   (try simp only [Act.put, List.setIfInBounds_toArray, List.set_cons_zero, List.set_cons_succ])
   go_cut [33] (fun v33 wc => ∃ (kq : Nat) (x33_6 : Bool), v33 = .bool x33_6 ∧ Aside0 (idiomref03_Fix.j0 kq a1 a2 a3 x33_6 a0_0 a0_1 a0_2 = some (r1, r2, r3, r4)) ∧ Aside0 (kq ≤ k) ∧ Aside0 (wc.heap[gb424]? = some (.cells #[.bool a0_0, .string a0_1, .string a0_2] 23 (0, 0))) ∧ Aside0 (wc.heap[gb425]? = some (.cells #[.bool false, .string (⟨#[]⟩ : ByteArray), .string (⟨#[]⟩ : ByteArray)] 23 (0, 0))) ∧ Aside0 (Below w.heap.size w wc))
   case first =>
    have H := HC7.out
    clear HC7
    by_cases c13 : a2 < 0
    · rw [if_pos c13] at H
      have c13b0 : decide (a2 < 0) = true := decide_eq_true c13
      clear c13
      (first | rw [c13b0] | (simp only [i64_w, i32_w]; rw [c13b0]) | skip)
      have H' := Aside0.mk H
      clear H
      go_wp2
      go_meet
      case rel => exact ⟨_, (true), (by first | rfl | (simp; done) | (simp [*]; done)), H', ⟨by first | omega | exact Nat.le_refl _⟩, ⟨qk BK424⟩, ⟨qk BK425⟩, ⟨qh HB⟩⟩
    · rw [if_neg c13] at H
      have c13b0 : decide (a2 < 0) = false := decide_eq_false c13
      clear c13
      (first | rw [c13b0] | (simp only [i64_w, i32_w]; rw [c13b0]) | skip)
      by_cases c14 : a2 > 40
      · rw [if_pos c14] at H
        have c14b0 : decide (40 < a2) = true := decide_eq_true c14
        clear c14
        have H' := Aside0.mk H
        clear H
        go_wp2
        go_meet
        case rel => exact ⟨_, (true), (by first | rfl | (simp; done) | (simp [*]; done)), H', ⟨by first | omega | exact Nat.le_refl _⟩, ⟨qk BK424⟩, ⟨qk BK425⟩, ⟨qh HB⟩⟩
      · rw [if_neg c14] at H
        have c14b0 : decide (40 < a2) = false := decide_eq_false c14
        clear c14
        by_cases c15 : a3 < a2
        · rw [if_pos c15] at H
          have c15b0 : decide (a3 < a2) = true := decide_eq_true c15
          clear c15
          have H' := Aside0.mk H
          clear H
          go_wp2
          go_meet
          case rel => exact ⟨_, (true), (by first | rfl | (simp; done) | (simp [*]; done)), H', ⟨by first | omega | exact Nat.le_refl _⟩, ⟨qk BK424⟩, ⟨qk BK425⟩, ⟨qh HB⟩⟩
        · rw [if_neg c15] at H
          have c15b0 : decide (a3 < a2) = false := decide_eq_false c15
          clear c15
          have H' := Aside0.mk H
          clear H
          go_wp2
          go_meet
          case rel => exact ⟨_, (decide (a3 > 40)), (by first | rfl | (simp; done) | (simp [*]; done)), H', ⟨by first | omega | exact Nat.le_refl _⟩, ⟨qk BK424⟩, ⟨qk BK425⟩, ⟨qh HB⟩⟩
   case rest =>
    clear HC7
    try clear c1
    try clear c2
    try clear p2
    try clear c6
    try clear c6b0
    try clear c6b1
    try clear c10
    try clear c13
    try clear c13b0
    try clear c14
    try clear c14b0
    try clear c15
    try clear c15b0
    try clear hcz11_0
    try clear hcz11_1
    try clear hcz11_2
    try clear hfz11_0
    try clear hfz11_1
    try clear hfz11_2
    obtain ⟨kq, x33_6, rfl, HA, HJ6, BK424, BK425, HB⟩ := hcut
    cases kq with
    | zero => exact absurd HA.out (by simp [idiomref03_Fix.j0])
    | succ kj6 =>
     have H := HA.out
     clear HA
     simp only [idiomref03_Fix.j0] at H
     by_cases c16 : x33_6 = true
     · subst c16
       have H1 : (some (false, (⟨#[]⟩ : ByteArray), (⟨#[]⟩ : ByteArray), 1)) = some (r1, r2, r3, r4) := by rw [if_pos rfl] at H; exact H
       clear H
       have H := H1
       clear H1
       simp only [Option.some.injEq, Prod.mk.injEq] at H
       obtain ⟨rfl, rfl, rfl, rfl⟩ := H
       have hnb17 := NB425_424.out
       have hnc17 := NB424_425.out
       obtain ⟨hcz18_0, hcz18_1, hcz18_2, hfz18_0, hfz18_1, hfz18_2⟩ := q3 BK425
       go_wp2
       refine bodyPost_ret (results_ct rfl _ _ gb425 23 #[.bool false, .string (⟨#[]⟩ : ByteArray), .string (⟨#[]⟩ : ByteArray)] (0, 0) _ rfl (by refine qp 2 #[.bool false, .string (⟨#[]⟩ : ByteArray), .string (⟨#[]⟩ : ByteArray)] ?_; refine qp 1 #[.bool false, .string (⟨#[]⟩ : ByteArray), .string (⟨#[]⟩ : ByteArray)] ?_; refine qp 0 #[.bool false, .string (⟨#[]⟩ : ByteArray), .string (⟨#[]⟩ : ByteArray)] ?_; exact qk BK425) Tryd.underlying23 rfl (by kernel_rfl)) rfl ?_
       exact ⟨qe, qh HB⟩
     · replace c16 := Bool.eq_false_iff.mpr c16
       subst c16
       have H1 : ((idiomref03_Places.f kj6 a0_0 a0_1 a0_2 a1 a3).bind fun bt427 => (if bt427.2.2.2 = 0 then (idiomref03_Fix.l0 kj6 a2 bt427.1 bt427.2.1 bt427.2.2.1) else (some (false, (⟨#[]⟩ : ByteArray), (⟨#[]⟩ : ByteArray), bt427.2.2.2)))) = some (r1, r2, r3, r4) := by rw [if_neg (show ¬ (false = true) by decide)] at H; exact H
       clear H
       have H := H1
       clear H1
       replace H := Option.bind_eq_some_iff.mp H
       obtain ⟨⟨t427, t428, t429, t430⟩, A190, H⟩ := H
       replace H : (if t430 = 0 then (idiomref03_Fix.l0 kj6 a2 t427 t428 t429) else (some (false, (⟨#[]⟩ : ByteArray), (⟨#[]⟩ : ByteArray), t430))) = some (r1, r2, r3, r4) := H
       have A19 := Aside0.mk A190
       clear A190
       by_cases c20 : t430 = 0
       · rw [if_pos c20] at H
         have c20b0 : (t430 == 0) = true := beq_iff_eq.mpr c20
         have c20b1 : (t430 != 0) = false := bne_eq_false_iff_eq.mpr c20
         try have c20b1z := c20b1
         (try simp only [bne] at c20b1z)
         clear c20
         have HC21 := Aside0.mk H
         clear H
         have hnb22 := NB424_425.out
         have hnc22 := NB425_424.out
         obtain ⟨hcz23_0, hcz23_1, hcz23_2, hfz23_0, hfz23_1, hfz23_2⟩ := q3 BK424
         go_upto_block 0 with (first | ((with_reducible refine gate_callee (f := 11) rfl ?_); refine goesL_ (some 39) rfl rfl Tryd.func11 (by kernel_rfl) rfl #[.agg #[.bool a0_0, .string a0_1, .string a0_2], .int .i64 a1, .int .i64 a3] rfl ql ?_; (with_reducible refine (idiomref03_Places.calls kj6 a0_0 a0_1 a0_2 a1 a3 t427 t428 t429 t430 _ A19.out).mono ?_); rintro e w24 ⟨rfl, hb⟩; refine ⟨_, rfl, ?_⟩; replace BK424 := qb BK424 hb; replace BK425 := qb BK425 hb; replace HB := qn HB hb; (try clear hb); (try clear hb2); (try clear hk); (try clear hi); obtain ⟨hcz25_0, hcz25_1, hcz25_2, hfz25_0, hfz25_1, hfz25_2⟩ := q3 BK424))
         (try simp only [Act.put, List.setIfInBounds_toArray, List.set_cons_zero, List.set_cons_succ])
         go_cut [] (fun wc => ∃ (kq : Nat) (x425002_20 : ByteArray), Aside0 (idiomref03_Fix.j2 kq a2 t427 t428 x425002_20 = some (r1, r2, r3, r4)) ∧ Aside0 (kq ≤ kj6) ∧ Aside0 (wc.heap[gb424]? = some (.cells #[.bool t427, .string t428, .string x425002_20] 23 (0, 0))) ∧ Aside0 (wc.heap[gb425]? = some (.cells #[.bool false, .string (⟨#[]⟩ : ByteArray), .string (⟨#[]⟩ : ByteArray)] 23 (0, 0))) ∧ Aside0 (Below w.heap.size w wc))
         case first =>
          have H := HC21.out
          clear HC21
          have H' := Aside0.mk H
          clear H
          go_wp2
          (try simp only [Act.put, List.setIfInBounds_toArray, List.set_cons_zero, List.set_cons_succ])
          go_loopg [] kj6 (fun kq w' => ∃ (x425002_2 : ByteArray), Aside0 (idiomref03_Fix.l0 kq a2 t427 t428 x425002_2 = some (r1, r2, r3, r4)) ∧ Aside0 (kq ≤ kj6) ∧ Aside0 (w'.heap[gb424]? = some (.cells #[.bool t427, .string t428, .string x425002_2] 23 (0, 0))) ∧ Aside0 (w'.heap[gb425]? = some (.cells #[.bool false, .string (⟨#[]⟩ : ByteArray), .string (⟨#[]⟩ : ByteArray)] 23 (0, 0))) ∧ Aside0 (Below w.heap.size w w'))
          case atStart => exact ⟨(t429), H', ⟨Nat.le_refl _⟩, ⟨by refine qp 2 #[.bool t427, .string t428, .string a0_2] ?_; refine qp 1 #[.bool t427, .string a0_1, .string a0_2] ?_; refine qp 0 #[.bool a0_0, .string a0_1, .string a0_2] ?_; exact qk BK424⟩, ⟨by refine qf NB425_424 ?_; refine qf NB425_424 ?_; refine qf NB425_424 ?_; exact qk BK425⟩, ⟨qh HB⟩⟩
          case round =>
           clear H'
           try clear c1
           try clear c2
           try clear p2
           try clear c6
           try clear c6b0
           try clear c6b1
           try clear c10
           try clear c11
           try clear c13
           try clear c13b0
           try clear c14
           try clear c14b0
           try clear c15
           try clear c15b0
           try clear c16
           try clear c17
           try clear c19
           try clear c20
           try clear c20b0
           try clear c20b1
           try clear c22
           try clear hcz11_0
           try clear hcz11_1
           try clear hcz11_2
           try clear hcz18_0
           try clear hcz18_1
           try clear hcz18_2
           try clear hcz23_0
           try clear hcz23_1
           try clear hcz23_2
           try clear hcz25_0
           try clear hcz25_1
           try clear hcz25_2
           try clear hfz11_0
           try clear hfz11_1
           try clear hfz11_2
           try clear hfz18_0
           try clear hfz18_1
           try clear hfz18_2
           try clear hfz23_0
           try clear hfz23_1
           try clear hfz23_2
           try clear hfz25_0
           try clear hfz25_1
           try clear hfz25_2
           try clear p2
           obtain ⟨x425002_2, HA, HK2, BK424, BK425, HB⟩ := hrel
           cases gk with
           | zero => exact absurd HA.out (by simp [idiomref03_Fix.l0])
           | succ k2 =>
            have H := HA.out
            clear HA
            simp only [idiomref03_Fix.l0] at H
            by_cases c26 : (x425002_2.size : Int) > a2
            · rw [if_pos c26] at H
              have c26b0 : decide (a2 < (x425002_2.size : Int)) = true := decide_eq_true c26
              clear c26
              (first | rw [c26b0] | (simp only [i64_w, i32_w]; rw [c26b0]) | skip)
              obtain ⟨ji27, hji27⟩ : ∃ j_ : Int, (wrap64 ((x425002_2.size : Int) - 1)) = j_ := ⟨_, rfl⟩
              replace H : (if 0 ≤ (ji27) then (if (ji27) < (x425002_2.size : Int) then (if (bt x425002_2 (ji27)) = 48 then (if (ji27) ≤ (x425002_2.size : Int) then (idiomref03_Fix.l0 k2 a2 t427 t428 (x425002_2.extract 0 ((ji27) : Int).toNat)) else (none)) else (idiomref03_Fix.j2 k2 a2 t427 t428 x425002_2)) else (none)) else (none)) = some (r1, r2, r3, r4) := by first | (rw [hji27] at H; exact H) | (simp only [hji27] at H ⊢; exact H)
              have hji27w : (IntKind.i64.wrap ((x425002_2.size : Int) - 1)) = ji27 := (i64_w _).trans hji27
              by_cases c28 : 0 ≤ (ji27)
              · rw [if_pos c28] at H
                have c28b0 : decide (0 ≤ (ji27)) = true := decide_eq_true c28
                clear c28
                by_cases c29 : (ji27) < (x425002_2.size : Int)
                · rw [if_pos c29] at H
                  have c29b0 : decide ((ji27) < (x425002_2.size : Int)) = true := decide_eq_true c29
                  clear c29
                  by_cases c31 : (bt x425002_2 (ji27)) = 48
                  · rw [if_pos c31] at H
                    have c31b0 : ((bt x425002_2 (ji27)) == 48) = true := beq_iff_eq.mpr c31
                    have c31b1 : ((bt x425002_2 (ji27)) != 48) = false := bne_eq_false_iff_eq.mpr c31
                    clear c31
                    have c32b0 := eq_true (of_decide_eq_true qa : 0 ≤ (ji27))
                    by_cases c33 : (ji27) ≤ (x425002_2.size : Int)
                    · rw [if_pos c33] at H
                      have c33b0 := eq_true c33
                      have c33b1 : decide ((ji27) ≤ (x425002_2.size : Int)) = true := decide_eq_true c33
                      clear c33
                      have H' := Aside0.mk H
                      clear H
                      have hnb34 := NB424_425.out
                      have hnc34 := NB425_424.out
                      obtain ⟨hcz35_0, hcz35_1, hcz35_2, hfz35_0, hfz35_1, hfz35_2⟩ := q3 BK424
                      have p30 : 0 ≤ ((ji27) : Int) := of_decide_eq_true qa
                      have q30 : (ji27) < (x425002_2.size : Int) := of_decide_eq_true qa
                      have hx30 := bt_at x425002_2 (ji27)
                      replace p30 := eq_true p30
                      replace q30 := eq_true q30
                      go_wp2
                      go_roundg k2
                      case measure => have := HJ6.out; have := HK2.out; omega
                      case rel => exact ⟨(x425002_2.extract 0 ((ji27) : Int).toNat), H', ⟨by have := HJ6.out; have := HK2.out; omega⟩, ⟨by refine qp 2 #[.bool t427, .string t428, .string x425002_2] ?_; exact qk BK424⟩, ⟨by refine qf NB425_424 ?_; exact qk BK425⟩, ⟨qh HB⟩⟩
                    · rw [if_neg c33] at H
                      exact absurd H (by simp)
                  · rw [if_neg c31] at H
                    have c31b0 : ((bt x425002_2 (ji27)) == 48) = false := beq_eq_false_iff_ne.mpr c31
                    have c31b1 : ((bt x425002_2 (ji27)) != 48) = true := bne_iff_ne.mpr c31
                    have H' := Aside0.mk H
                    clear H
                    have hnb36 := NB424_425.out
                    have hnc36 := NB425_424.out
                    obtain ⟨hcz37_0, hcz37_1, hcz37_2, hfz37_0, hfz37_1, hfz37_2⟩ := q3 BK424
                    have p30 : 0 ≤ ((ji27) : Int) := of_decide_eq_true qa
                    have q30 : (ji27) < (x425002_2.size : Int) := of_decide_eq_true qa
                    have hx30 := bt_at x425002_2 (ji27)
                    replace p30 := eq_true p30
                    replace q30 := eq_true q30
                    go_wp2
                    go_meet
                    case rel => exact ⟨_, (x425002_2), H', ⟨by have := HJ6.out; have := HK2.out; first | omega | exact Nat.le_refl _⟩, ⟨qk BK424⟩, ⟨qk BK425⟩, ⟨qh HB⟩⟩
                · rw [if_neg c29] at H
                  exact absurd H (by simp)
              · rw [if_neg c28] at H
                exact absurd H (by simp)
            · rw [if_neg c26] at H
              have c26b0 : decide (a2 < (x425002_2.size : Int)) = false := decide_eq_false c26
              clear c26
              (first | rw [c26b0] | (simp only [i64_w, i32_w]; rw [c26b0]) | skip)
              have H' := Aside0.mk H
              clear H
              have hnb38 := NB424_425.out
              have hnc38 := NB425_424.out
              obtain ⟨hcz39_0, hcz39_1, hcz39_2, hfz39_0, hfz39_1, hfz39_2⟩ := q3 BK424
              go_wp2
              go_meet
              case rel => exact ⟨_, (x425002_2), H', ⟨by have := HJ6.out; have := HK2.out; first | omega | exact Nat.le_refl _⟩, ⟨qk BK424⟩, ⟨qk BK425⟩, ⟨qh HB⟩⟩
         case rest =>
          clear HC21
          try clear c1
          try clear c2
          try clear p2
          try clear c3
          try clear p3
          try clear q3
          try clear hx3
          try clear c6
          try clear c6b0
          try clear c6b1
          try clear p6
          try clear c10
          try clear c11
          try clear c13
          try clear c13b0
          try clear c14
          try clear c14b0
          try clear c15
          try clear c15b0
          try clear c16
          try clear c17
          try clear c19
          try clear c20
          try clear c20b0
          try clear c20b1
          try clear c22
          try clear c26
          try clear c26b0
          try clear c28
          try clear c28b0
          try clear c29
          try clear c29b0
          try clear p30
          try clear q30
          try clear hx30
          try clear c31
          try clear c31b0
          try clear c31b1
          try clear c32
          try clear c32b0
          try clear c33
          try clear c33b0
          try clear c33b1
          try clear c34
          try clear c36
          try clear c38
          try clear hcz11_0
          try clear hcz11_1
          try clear hcz11_2
          try clear hcz18_0
          try clear hcz18_1
          try clear hcz18_2
          try clear hcz23_0
          try clear hcz23_1
          try clear hcz23_2
          try clear hcz25_0
          try clear hcz25_1
          try clear hcz25_2
          try clear hcz35_0
          try clear hcz35_1
          try clear hcz35_2
          try clear hcz37_0
          try clear hcz37_1
          try clear hcz37_2
          try clear hcz39_0
          try clear hcz39_1
          try clear hcz39_2
          try clear hfz11_0
          try clear hfz11_1
          try clear hfz11_2
          try clear hfz18_0
          try clear hfz18_1
          try clear hfz18_2
          try clear hfz23_0
          try clear hfz23_1
          try clear hfz23_2
          try clear hfz25_0
          try clear hfz25_1
          try clear hfz25_2
          try clear hfz35_0
          try clear hfz35_1
          try clear hfz35_2
          try clear hfz37_0
          try clear hfz37_1
          try clear hfz37_2
          try clear hfz39_0
          try clear hfz39_1
          try clear hfz39_2
          try clear p2
          try clear p30
          try clear q30
          obtain ⟨kq, x425002_20, HA, HJ20, BK424, BK425, HB⟩ := hcut
          cases kq with
          | zero => exact absurd HA.out (by simp [idiomref03_Fix.j2])
          | succ kj20 =>
           have H := HA.out
           clear HA
           simp only [idiomref03_Fix.j2] at H
           by_cases c40 : (x425002_20.size : Int) < a2
           · rw [if_pos c40] at H
             have c40b0 : decide ((x425002_20.size : Int) < a2) = true := decide_eq_true c40
             clear c40
             replace H := Option.bind_eq_some_iff.mp H
             obtain ⟨t431, A410, H⟩ := H
             replace H : (if x425002_20.size + t431.size ≤ 9223372036854775807 then ((idiomref03_bound.f t427 t428 (x425002_20 ++ t431)).bind fun bt432 => (some (bt432.1, bt432.2.1, bt432.2.2.1, bt432.2.2.2))) else (none)) = some (r1, r2, r3, r4) := H
             have A41 := Aside0.mk A410
             clear A410
             by_cases c42 : x425002_20.size + t431.size ≤ 9223372036854775807
             · rw [if_pos c42] at H
               have c42b0 := eq_true c42
               have c42b1 : decide (x425002_20.size + t431.size ≤ 9223372036854775807) = true := decide_eq_true c42
               try have c42b2 : (9223372036854775807 < x425002_20.size + t431.size) = False := eq_false (Nat.not_lt.2 c42)
               replace H := Option.bind_eq_some_iff.mp H
               obtain ⟨⟨t432, t433, t434, t435⟩, A430, H⟩ := H
               replace H : (some (t432, t433, t434, t435)) = some (r1, r2, r3, r4) := H
               have A43 := Aside0.mk A430
               clear A430
               simp only [Option.some.injEq, Prod.mk.injEq] at H
               obtain ⟨rfl, rfl, rfl, rfl⟩ := H
               have hnb44 := NB424_425.out
               have hnc44 := NB425_424.out
               obtain ⟨hcz45_0, hcz45_1, hcz45_2, hfz45_0, hfz45_1, hfz45_2⟩ := q3 BK424
               try go_wp2
               replace BK424 := Aside0.mk (blk_drew BK424.out)
               replace BK425 := Aside0.mk (blk_drew BK425.out)
               replace HB := Aside0.mk (below_drew1 HB.out)
               refine start_ (n := 11) (S := fun w' => w'.cell? ⟨gb424, 0, none⟩ = some (.bool t427) ∧ w'.cell? ⟨gb424, 1, none⟩ = some (.string t428) ∧ w'.cell? ⟨gb424, 2, none⟩ = some (.string x425002_20)) (ds := [10]) #[false, false, false, false, false, false, false, false, false, false, false] (by kernel_rfl) rfl rfl ⟨c_ BK424 0, c_ BK424 1, c_ BK424 2⟩ (fun hHeld => ?_); refine with_tabW idiomref03_Fix.tab12 idiomref03_Fix.bits12 (fun HT_ HW_ => ?_)
               generalize wc.drew = w46 at BK424 BK425 HB hHeld ⊢
               refine pz 0 (some 74) #[true, false, false, false, false, false, false, false, false, false, false] HT_ ?_
               refine pz 2 (some 76) #[true, false, true, false, false, false, false, false, false, false, false] HT_ ?_
               refine pz 3 (some 77) #[true, false, true, true, false, false, false, false, false, false, false] HT_ ?_
               refine tw3 1 (some 75) #[true, true, true, true, false, false, false, false, false, false, false] HT_ HW_ hHeld ?_
               refine tw3 4 (some 78) #[true, true, true, true, true, false, false, false, false, false, false] HT_ HW_ hHeld ?_
               refine pz 5 (some 79) #[true, true, true, true, true, true, false, false, false, false, false] HT_ ?_
               refine pz 6 (some 80) #[true, true, true, true, true, true, true, false, false, false, false] HT_ ?_
               refine one_ (i := 7) (N := some 81) #[true, true, true, true, true, true, true, true, false, false, false] rfl rfl (one_of HT_.out (by kernel_rfl)) (by decide) (fun K hK => ?_)
               refine goes_ Tryd.func28 (by kernel_rfl) rfl #[.int .i64 (wrap64 (a2 - (x425002_20.size : Int)))] (by rfl) rfl rfl ql ?_
               with_reducible refine (idiomref03_Noughts.calls kj20 (wrap64 (a2 - (x425002_20.size : Int))) t431 _ A41.out).mono ?_
               rintro e w47 ⟨rfl, hb⟩
               refine ⟨_, rfl, ?_⟩
               replace BK424 := qb BK424 hb
               replace BK425 := qb BK425 hb
               replace HB := qn HB hb
               (try clear hb)
               (try clear hb2)
               (try clear hk)
               (try clear hi)
               refine hK.out _ _ ⟨c_ BK424 0, c_ BK424 1, c_ BK424 2⟩ (fun hHeld => ?_)
               clear hK K
               refine nz (some 81) ?_
               refine pz 8 (some 82) #[true, true, true, true, true, true, true, true, true, false, false] HT_ ?_
               refine pz 9 (some 83) #[true, true, true, true, true, true, true, true, true, true, false] HT_ ?_
               refine last_ (i := 10) (N := none) #[true, true, true, true, true, true, true, true, true, true, true] rfl rfl (one_of HT_.out (by kernel_rfl)) (by decide) (fun K hK => ?_)
               have hs48 : w47.cell? ⟨gb424, 2, none⟩ = some (.string x425002_20) := c_ BK424 2
               have hfs48 := blk_frozen BK424.out 2
               have hns48_1 := NB425_424.out
               have hms48_1 := NB424_425.out
               refine skip_ (w1 := ?_) (by rfl) rfl ?_ ?_
               rotate_left
               · go_simp
                 rfl
               refine hK.out _ _ ?_
               clear hK K
               refine done_ (done_of HT_.out (by kernel_rfl)) ?_
               obtain ⟨hcz49_0, hcz49_1, hcz49_2, hfz49_0, hfz49_1, hfz49_2⟩ := q3 BK424
               try go_wp2_with (first | ((with_reducible refine gate_callee (f := 37) rfl ?_); refine goesL_ (some 85) rfl rfl Tryd.func37 (by kernel_rfl) rfl #[.agg #[.bool t427, .string t428, .string (x425002_20 ++ t431)]] rfl ql ?_; (with_reducible refine (idiomref03_bound.calls t427 t428 (x425002_20 ++ t431) t432 t433 t434 t435 _ A43.out).mono ?_); rintro e w50 ⟨rfl, hb⟩; refine ⟨_, rfl, ?_⟩; replace BK424 := Aside0.mk (blk_below (g := gb424) (o := .cells #[.bool t427, .string t428, .string (x425002_20 ++ t431)] 23 (0, 0)) (by refine qp 2 #[.bool t427, .string t428, .string x425002_20] ?_; exact qk BK424) hb); replace BK425 := Aside0.mk (blk_below (g := gb425) (o := .cells #[.bool false, .string (⟨#[]⟩ : ByteArray), .string (⟨#[]⟩ : ByteArray)] 23 (0, 0)) (by refine qf NB425_424 ?_; exact qk BK425) hb); replace HB := qn HB hb; (try clear hb); (try clear hb2); (try clear hk); (try clear hi); obtain ⟨hcz51_0, hcz51_1, hcz51_2, hfz51_0, hfz51_1, hfz51_2⟩ := q3 BK425))
               refine bodyPost_ret (results_ct rfl _ _ gb425 23 #[.bool t432, .string t433, .string t434] (0, 0) _ rfl (by refine qp 2 #[.bool t432, .string t433, .string (⟨#[]⟩ : ByteArray)] ?_; refine qp 1 #[.bool t432, .string (⟨#[]⟩ : ByteArray), .string (⟨#[]⟩ : ByteArray)] ?_; refine qp 0 #[.bool false, .string (⟨#[]⟩ : ByteArray), .string (⟨#[]⟩ : ByteArray)] ?_; exact qk BK425) Tryd.underlying23 rfl (by kernel_rfl)) rfl ?_
               exact ⟨qe, qh HB⟩
             · rw [if_neg c42] at H
               exact absurd H (by simp)
           · rw [if_neg c40] at H
             have c40b0 : decide ((x425002_20.size : Int) < a2) = false := decide_eq_false c40
             clear c40
             replace H := Option.bind_eq_some_iff.mp H
             obtain ⟨⟨t436, t437, t438, t439⟩, A520, H⟩ := H
             replace H : (some (t436, t437, t438, t439)) = some (r1, r2, r3, r4) := H
             have A52 := Aside0.mk A520
             clear A520
             simp only [Option.some.injEq, Prod.mk.injEq] at H
             obtain ⟨rfl, rfl, rfl, rfl⟩ := H
             have hnb53 := NB424_425.out
             have hnc53 := NB425_424.out
             obtain ⟨hcz54_0, hcz54_1, hcz54_2, hfz54_0, hfz54_1, hfz54_2⟩ := q3 BK424
             go_wp2_with (first | ((with_reducible refine gate_callee (f := 37) rfl ?_); refine goesL_ (some 85) rfl rfl Tryd.func37 (by kernel_rfl) rfl #[.agg #[.bool t427, .string t428, .string x425002_20]] rfl ql ?_; (with_reducible refine (idiomref03_bound.calls t427 t428 x425002_20 t436 t437 t438 t439 _ A52.out).mono ?_); rintro e w55 ⟨rfl, hb⟩; refine ⟨_, rfl, ?_⟩; replace BK424 := qb BK424 hb; replace BK425 := qb BK425 hb; replace HB := qn HB hb; (try clear hb); (try clear hb2); (try clear hk); (try clear hi); obtain ⟨hcz56_0, hcz56_1, hcz56_2, hfz56_0, hfz56_1, hfz56_2⟩ := q3 BK425))
             refine bodyPost_ret (results_ct rfl _ _ gb425 23 #[.bool t436, .string t437, .string t438] (0, 0) _ rfl (by refine qp 2 #[.bool t436, .string t437, .string (⟨#[]⟩ : ByteArray)] ?_; refine qp 1 #[.bool t436, .string (⟨#[]⟩ : ByteArray), .string (⟨#[]⟩ : ByteArray)] ?_; refine qp 0 #[.bool false, .string (⟨#[]⟩ : ByteArray), .string (⟨#[]⟩ : ByteArray)] ?_; exact qk BK425) Tryd.underlying23 rfl (by kernel_rfl)) rfl ?_
             exact ⟨qe, qh HB⟩
       · rw [if_neg c20] at H
         have c20b0 : (t430 == 0) = false := beq_eq_false_iff_ne.mpr c20
         have c20b1 : (t430 != 0) = true := bne_iff_ne.mpr c20
         try have c20b1z := c20b1
         (try simp only [bne] at c20b1z)
         simp only [Option.some.injEq, Prod.mk.injEq] at H
         obtain ⟨rfl, rfl, rfl, rfl⟩ := H
         have hnb57 := NB424_425.out
         have hnc57 := NB425_424.out
         obtain ⟨hcz58_0, hcz58_1, hcz58_2, hfz58_0, hfz58_1, hfz58_2⟩ := q3 BK424
         go_wp2_with (first | ((with_reducible refine gate_callee (f := 11) rfl ?_); refine goesL_ (some 39) rfl rfl Tryd.func11 (by kernel_rfl) rfl #[.agg #[.bool a0_0, .string a0_1, .string a0_2], .int .i64 a1, .int .i64 a3] rfl ql ?_; (with_reducible refine (idiomref03_Places.calls kj6 a0_0 a0_1 a0_2 a1 a3 t427 t428 t429 t430 _ A19.out).mono ?_); rintro e w59 ⟨rfl, hb⟩; refine ⟨_, rfl, ?_⟩; replace BK424 := qb BK424 hb; replace BK425 := qb BK425 hb; replace HB := qn HB hb; (try clear hb); (try clear hb2); (try clear hk); (try clear hi); obtain ⟨hcz60_0, hcz60_1, hcz60_2, hfz60_0, hfz60_1, hfz60_2⟩ := q3 BK424; obtain ⟨hcz61_0, hcz61_1, hcz61_2, hfz61_0, hfz61_1, hfz61_2⟩ := q3 BK425))
         refine bodyPost_ret (results_ct rfl _ _ gb425 23 #[.bool false, .string (⟨#[]⟩ : ByteArray), .string (⟨#[]⟩ : ByteArray)] (0, 0) _ rfl (by refine qp 2 #[.bool false, .string (⟨#[]⟩ : ByteArray), .string (⟨#[]⟩ : ByteArray)] ?_; refine qp 1 #[.bool false, .string (⟨#[]⟩ : ByteArray), .string (⟨#[]⟩ : ByteArray)] ?_; refine qp 0 #[.bool false, .string (⟨#[]⟩ : ByteArray), .string (⟨#[]⟩ : ByteArray)] ?_; refine qf NB425_424 ?_; refine qf NB425_424 ?_; refine qf NB425_424 ?_; exact qk BK425) Tryd.underlying23 rfl (by kernel_rfl)) rfl ?_
         exact ⟨qe, qh HB⟩
 · rw [if_neg c6] at H
   have c6b0 : (t426 == 0) = false := beq_eq_false_iff_ne.mpr c6
   have c6b1 : (t426 != 0) = true := bne_iff_ne.mpr c6
   try have c6b1z := c6b1
   (try simp only [bne] at c6b1z)
   simp only [Option.some.injEq, Prod.mk.injEq] at H
   obtain ⟨rfl, rfl, rfl, rfl⟩ := H
   go_enter Tryd.func19, Tryd.ntmps19
   go_wp2_with (first | ((with_reducible refine gate_dst (N := 4) rfl ?_); (try (refine gate_guard (by rfl) ?_; dsimp only)); refine qx 4 #[.bool a0_0, .string a0_1, .string a0_2] 23 ?_; intro gb424 hg w62 hbox hb; have BK424 := Aside0.mk (hbox); have GW424 := qs hg HB; have GE424 := GW424; replace HB := qn HB hb; clear hb hbox hg) | ((with_reducible refine gate_dst (N := 8) rfl ?_); (try (refine gate_guard (by rfl) ?_; dsimp only)); refine qx 8 #[.bool false, .string (⟨#[]⟩ : ByteArray), .string (⟨#[]⟩ : ByteArray)] 23 ?_; intro gb425 hg w63 hbox hb; have BK425 := Aside0.mk (hbox); have GW425 := qs hg HB; have GE425 := GW425; have NB424_425 := ql_ hg BK424; have NB425_424 := qg_ hg BK424; replace BK424 := qb BK424 hb; replace HB := qn HB hb; clear hb hbox hg; have hnb64 := NB424_425.out; have hnc64 := NB425_424.out; obtain ⟨hcz65_0, hcz65_1, hcz65_2, hfz65_0, hfz65_1, hfz65_2⟩ := q3 BK424) | ((with_reducible refine gate_callee (f := 26) rfl ?_); refine goesL_ (some 14) rfl rfl Tryd.func26 (by kernel_rfl) rfl #[.agg #[.bool a0_0, .string a0_1, .string a0_2], .int .i64 a1] rfl ql ?_; (with_reducible refine (idiomref03_asked.calls k a0_0 a0_1 a0_2 a1 t426 _ A5.out).mono ?_); rintro e w66 ⟨rfl, hb⟩; refine ⟨_, rfl, ?_⟩; replace BK424 := qb BK424 hb; replace BK425 := qb BK425 hb; replace HB := qn HB hb; (try clear hb); (try clear hb2); (try clear hk); (try clear hi); obtain ⟨hcz67_0, hcz67_1, hcz67_2, hfz67_0, hfz67_1, hfz67_2⟩ := q3 BK425))
   refine bodyPost_ret (results_ct rfl _ _ gb425 23 #[.bool false, .string (⟨#[]⟩ : ByteArray), .string (⟨#[]⟩ : ByteArray)] (0, 0) _ rfl (by refine qp 2 #[.bool false, .string (⟨#[]⟩ : ByteArray), .string (⟨#[]⟩ : ByteArray)] ?_; refine qp 1 #[.bool false, .string (⟨#[]⟩ : ByteArray), .string (⟨#[]⟩ : ByteArray)] ?_; refine qp 0 #[.bool false, .string (⟨#[]⟩ : ByteArray), .string (⟨#[]⟩ : ByteArray)] ?_; exact qk BK425) Tryd.underlying23 rfl (by kernel_rfl)) rfl ?_
   exact ⟨qe, qh HB⟩

end Go.Proofs.YtpmhebdaphjinaaDoor.F
namespace Go.Proofs.YtpmhebdaphjinaaDoor.F
open Go.RowKit Go.Proofs.YtpmhebdaphjinaaDoorW.PrintWords Go.Proofs.YtpmhebdaphjinaaDoorW.PrintLast Go.Proofs.YtpmhebdaphjinaaDoorW.PrintMore Go.Proofs.YtpmhebdaphjinaaDoor.Q
attribute [local go_sem] max2_int min2_int max_two min_two max_three min_three max_four min_four   -- for this text's walks alone
set_option linter.unusedVariables false
set_option linter.unusedSimpArgs false

attribute [local go_sem high] eqA23
def round_count.f (a0_0 : Bool) (a0_1 : ByteArray) (a0_2 : ByteArray) : Option (Int) := if a0_1.size + a0_2.size ≤ 9223372036854775807 then ((strings_TrimLeft.f (a0_1 ++ a0_2) (⟨#[48]⟩ : ByteArray)).bind fun t454 => (if t454.toList = ([] : List UInt8) then (some ((a0_1 ++ a0_2).size : Int)) else (some (t454.size : Int)))) else (none)
set_option maxHeartbeats 8000000 in
set_option maxRecDepth 100000 in
theorem round_count.calls (a0_0 : Bool) (a0_1 : ByteArray) (a0_2 : ByteArray) (r : Int) (w : World) (h : round_count.f a0_0 a0_1 a0_2 = some r) :
 Calls Tryd.prog 38 #[.agg #[.bool a0_0, .string a0_1, .string a0_2]] w fun e w' => e = .returned (.int .i64 r) ∧ Below w.heap.size w w' := by
 have hu23 := Tryd.underlying23
 have HB := Aside0.mk (Below.refl w.heap.size w)
 have H : (if a0_1.size + a0_2.size ≤ 9223372036854775807 then ((strings_TrimLeft.f (a0_1 ++ a0_2) (⟨#[48]⟩ : ByteArray)).bind fun t454 => (if t454.toList = ([] : List UInt8) then (some ((a0_1 ++ a0_2).size : Int)) else (some (t454.size : Int)))) else (none)) = some r := h
 clear h
 by_cases c2 : a0_1.size + a0_2.size ≤ 9223372036854775807
 · rw [if_pos c2] at H
   have c2b0 := eq_true c2
   have c2b1 : decide (a0_1.size + a0_2.size ≤ 9223372036854775807) = true := decide_eq_true c2
   try have c2b2 : (9223372036854775807 < a0_1.size + a0_2.size) = False := eq_false (Nat.not_lt.2 c2)
   replace H := Option.bind_eq_some_iff.mp H
   obtain ⟨t454, A30, H⟩ := H
   replace H : (if t454.toList = ([] : List UInt8) then (some ((a0_1 ++ a0_2).size : Int)) else (some (t454.size : Int))) = some r := H
   have A3 := Aside0.mk A30
   clear A30
   by_cases c4 : t454.toList = ([] : List UInt8)
   · rw [if_pos c4] at H
     have c4b0 : (t454.toList == ([] : List UInt8)) = true := beq_iff_eq.mpr c4
     try have c4b0z := Aid.empty_of c4b0
     have c4b1 : (t454.toList != ([] : List UInt8)) = false := bne_eq_false_iff_eq.mpr c4
     clear c4
     obtain rfl := Option.some.inj H
     go_enter Tryd.func38, Tryd.ntmps38
     go_wp2_with (first | ((with_reducible refine gate_dst (N := 1) rfl ?_); refine qx 1 #[.bool a0_0, .string a0_1, .string a0_2] 23 ?_; intro gb453 hg w5 hbox hb; have BK453 := Aside0.mk (hbox); have GW453 := qs hg HB; have GE453 := GW453; replace HB := qn HB hb; clear hb hbox hg; obtain ⟨hcz6_0, hcz6_1, hcz6_2, hfz6_0, hfz6_1, hfz6_2⟩ := q3 BK453) | ((with_reducible refine gate_callee (f := 64) rfl ?_); refine goesL_ (some 11) rfl rfl Tryd.func64 (by kernel_rfl) rfl #[.string (a0_1 ++ a0_2), .string (⟨#[48]⟩ : ByteArray)] rfl ql ?_; (with_reducible refine (strings_TrimLeft.calls (a0_1 ++ a0_2) (⟨#[48]⟩ : ByteArray) t454 _ A3.out).mono ?_); rintro e w' ⟨rfl, ⟨nd, rfl⟩⟩; refine ⟨_, rfl, ?_⟩))
     go_ret
     exact ⟨qe, qh HB⟩
   · rw [if_neg c4] at H
     have c4b0 : (t454.toList == ([] : List UInt8)) = false := beq_eq_false_iff_ne.mpr c4
     try have c4b0z := Aid.empty_of c4b0
     have c4b1 : (t454.toList != ([] : List UInt8)) = true := bne_iff_ne.mpr c4
     obtain rfl := Option.some.inj H
     go_enter Tryd.func38, Tryd.ntmps38
     go_wp2_with (first | ((with_reducible refine gate_dst (N := 1) rfl ?_); refine qx 1 #[.bool a0_0, .string a0_1, .string a0_2] 23 ?_; intro gb453 hg w7 hbox hb; have BK453 := Aside0.mk (hbox); have GW453 := qs hg HB; have GE453 := GW453; replace HB := qn HB hb; clear hb hbox hg; obtain ⟨hcz8_0, hcz8_1, hcz8_2, hfz8_0, hfz8_1, hfz8_2⟩ := q3 BK453) | ((with_reducible refine gate_callee (f := 64) rfl ?_); refine goesL_ (some 11) rfl rfl Tryd.func64 (by kernel_rfl) rfl #[.string (a0_1 ++ a0_2), .string (⟨#[48]⟩ : ByteArray)] rfl ql ?_; (with_reducible refine (strings_TrimLeft.calls (a0_1 ++ a0_2) (⟨#[48]⟩ : ByteArray) t454 _ A3.out).mono ?_); rintro e w' ⟨rfl, ⟨nd, rfl⟩⟩; refine ⟨_, rfl, ?_⟩))
     go_ret
     exact ⟨qe, qh HB⟩
 · rw [if_neg c2] at H
   exact absurd H (by simp)

end Go.Proofs.YtpmhebdaphjinaaDoor.F
