/- Part 4 of 7 of the proof of the law RoundModes: it is true at every input. Conditions: those of the given row, no others. -/
import Derived.Test.YtpmhebdaphjinaaDoorPkRoundModes0
import Derived.Test.YtpmhebdaphjinaaDoorPkRoundModes1
import Derived.Test.YtpmhebdaphjinaaDoorPkRoundModes2
namespace Go.Proofs.YtpmhebdaphjinaaDoor.F
open Go.RowKit Go.Proofs.YtpmhebdaphjinaaDoorW.PrintWords Go.Proofs.YtpmhebdaphjinaaDoorW.PrintLast Go.Proofs.YtpmhebdaphjinaaDoorW.PrintMore Go.Proofs.YtpmhebdaphjinaaDoor.Q
attribute [local go_sem] max2_int min2_int max_two min_two max_three min_three max_four min_four   -- for this text's walks alone
set_option linter.unusedVariables false
set_option linter.unusedSimpArgs false

def idiomref03_Places.j0 : Nat → Int → Int → Bool → Bool → ByteArray → ByteArray → Option (Bool × ByteArray × ByteArray × Int)
 | 0, _, _, _, _, _, _ => none
 | k + 1, x1, x2, x23, x192000, x192001, x192002 => if x23 = true then (some (false, (⟨#[]⟩ : ByteArray), (⟨#[]⟩ : ByteArray), 1)) else (if (x192002.size : Int) ≤ x2 then (some (x192000, x192001, x192002, 0)) else (if x192001.size + x192002.size ≤ 9223372036854775807 then ((idiomref03_Noughts.f k (wrap64 ((x192002.size : Int) - x2))).bind fun t194 => (if 1 + t194.size ≤ 9223372036854775807 then ((idiomref03_turned.f k x1 x192000 (x192001 ++ x192002) ((⟨#[49]⟩ : ByteArray) ++ t194)).bind fun bt195 => (if bt195.2 = 0 then ((idiomref03_Made.f k x192000 bt195.1 x2).bind fun bt197 => (some (bt197.1, bt197.2.1, bt197.2.2, 0))) else (some (false, (⟨#[]⟩ : ByteArray), (⟨#[]⟩ : ByteArray), bt195.2)))) else (none))) else (none)))
def idiomref03_Places.f (k : Nat) (a0_0 : Bool) (a0_1 : ByteArray) (a0_2 : ByteArray) (a1 : Int) (a2 : Int) : Option (Bool × ByteArray × ByteArray × Int) := (idiomref03_asked.f k a0_0 a0_1 a0_2 a1).bind fun t193 => (if t193 = 0 then (if a2 < 0 then (idiomref03_Places.j0 k a1 a2 true a0_0 a0_1 a0_2) else (idiomref03_Places.j0 k a1 a2 (decide (a2 > 40)) a0_0 a0_1 a0_2)) else (some (false, (⟨#[]⟩ : ByteArray), (⟨#[]⟩ : ByteArray), t193)))
theorem idiomref03_Places.mono_l : ∀ k, (∀ y0 y1 y2 y3 y4 y5, LeO (idiomref03_Places.j0 k y0 y1 y2 y3 y4 y5) (idiomref03_Places.j0 (k + 1) y0 y1 y2 y3 y4 y5))
 | 0 => fun _ _ _ _ _ _ r h => by simp [idiomref03_Places.j0] at h
 | k + 1 => by
  have ih0 := idiomref03_Places.mono_l k
  · intro y0 y1 y2 y3 y4 y5
    unfold idiomref03_Places.j0
    repeat' first
    | (with_reducible exact ih0 _ _ _ _ _ _)
    | (with_reducible exact idiomref03_Made.mono _ _ _ _)
    | (with_reducible exact idiomref03_Noughts.mono _ _)
    | (with_reducible exact idiomref03_asked.mono _ _ _ _ _)
    | (with_reducible exact idiomref03_turned.mono _ _ _ _ _)
    | (with_reducible exact LeO.refl _)
    | (with_reducible exact LeO.none _)
    | (with_reducible refine LeO.ite ?_ ?_)
    | (with_reducible refine LeO.bind ?_ (fun _ => ?_))
    | exact ih0 _ _ _ _ _ _
    | exact idiomref03_Made.mono _ _ _ _
    | exact idiomref03_Noughts.mono _ _
    | exact idiomref03_asked.mono _ _ _ _ _
    | exact idiomref03_turned.mono _ _ _ _ _
    | exact LeO.none _
    | refine LeO.ite ?_ ?_
    | refine LeO.bind ?_ (fun _ => ?_)
theorem idiomref03_Places.mono : ∀ a0 a1 a2 a3 a4 k, LeO (idiomref03_Places.f k a0 a1 a2 a3 a4) (idiomref03_Places.f (k + 1) a0 a1 a2 a3 a4) := by
 intro a0 a1 a2 a3 a4 k
 have ih0 := idiomref03_Places.mono_l k
 unfold idiomref03_Places.f
 repeat' first
  | (with_reducible exact ih0 _ _ _ _ _ _)
  | (with_reducible exact idiomref03_Made.mono _ _ _ _)
  | (with_reducible exact idiomref03_Noughts.mono _ _)
  | (with_reducible exact idiomref03_asked.mono _ _ _ _ _)
  | (with_reducible exact idiomref03_turned.mono _ _ _ _ _)
  | (with_reducible exact LeO.refl _)
  | (with_reducible exact LeO.none _)
  | (with_reducible refine LeO.ite ?_ ?_)
  | (with_reducible refine LeO.bind ?_ (fun _ => ?_))
  | exact ih0 _ _ _ _ _ _
  | exact idiomref03_Made.mono _ _ _ _
  | exact idiomref03_Noughts.mono _ _
  | exact idiomref03_asked.mono _ _ _ _ _
  | exact idiomref03_turned.mono _ _ _ _ _
  | exact LeO.none _
  | refine LeO.ite ?_ ?_
  | refine LeO.bind ?_ (fun _ => ?_)
def idiomref03_Places.T8 : Bool × List (List Nat × List Nat) := (true, [([], []), ([], []), ([1], [1]), ([], []), ([3], [3]), ([], []), ([5], [5]), ([4, 6], [4, 6]), ([], []), ([8], [8]), ([9], [9]), ([], []), ([10, 11], [10, 11]), ([12], [12]), ([13], [13]), ([0, 2, 7, 14, 13], [0, 2, 7, 14]), ([15], [15]), ([16], [16]), ([16], [16]), ([17, 15, 0, 1, 2, 3, 4, 5, 6, 7, 8, 9, 10, 11, 12, 13, 14, 15, 16, 17], [17]), ([18, 19, 0, 1, 2, 3, 4, 5, 6, 7, 8, 9, 10, 11, 12, 13, 14, 15, 16, 17, 18, 19], [18])])
def idiomref03_Places.B8 : List Nat := [0, 0, 2, 0, 8, 0, 32, 120, 0, 256, 768, 0, 3840, 7936, 16128, 32767, 65535, 131071, 131071, 262143, 1048575]
theorem idiomref03_Places.tab8 : rtab .any (opsOf Tryd.f11 8) = idiomref03_Places.T8 := by kernel_rfl
theorem idiomref03_Places.bits8 : waitsOk idiomref03_Places.T8.2 idiomref03_Places.B8 = true := by kernel_rfl
set_option maxHeartbeats 8000000 in
set_option maxRecDepth 100000 in
theorem idiomref03_Places.calls (k : Nat) (a0_0 : Bool) (a0_1 : ByteArray) (a0_2 : ByteArray) (a1 : Int) (a2 : Int) (r1 : Bool) (r2 : ByteArray) (r3 : ByteArray) (r4 : Int) (w : World) (h : idiomref03_Places.f k a0_0 a0_1 a0_2 a1 a2 = some (r1, r2, r3, r4)) :
 Calls Tryd.prog 11 #[.agg #[.bool a0_0, .string a0_1, .string a0_2], .int .i64 a1, .int .i64 a2] w fun e w' => e = .returned (.tuple #[.agg #[.bool r1, .string r2, .string r3], .int .i64 r4]) ∧ Below w.heap.size w w' := by
 have hu23 := Tryd.underlying23
 have HB := Aside0.mk (Below.refl w.heap.size w)
 have H : ((idiomref03_asked.f k a0_0 a0_1 a0_2 a1).bind fun t193 => (if t193 = 0 then (if a2 < 0 then (idiomref03_Places.j0 k a1 a2 true a0_0 a0_1 a0_2) else (idiomref03_Places.j0 k a1 a2 (decide (a2 > 40)) a0_0 a0_1 a0_2)) else (some (false, (⟨#[]⟩ : ByteArray), (⟨#[]⟩ : ByteArray), t193)))) = some (r1, r2, r3, r4) := h
 clear h
 replace H := Option.bind_eq_some_iff.mp H
 obtain ⟨t193, A40, H⟩ := H
 replace H : (if t193 = 0 then (if a2 < 0 then (idiomref03_Places.j0 k a1 a2 true a0_0 a0_1 a0_2) else (idiomref03_Places.j0 k a1 a2 (decide (a2 > 40)) a0_0 a0_1 a0_2)) else (some (false, (⟨#[]⟩ : ByteArray), (⟨#[]⟩ : ByteArray), t193))) = some (r1, r2, r3, r4) := H
 have A4 := Aside0.mk A40
 clear A40
 by_cases c5 : t193 = 0
 · rw [if_pos c5] at H
   have c5b0 : (t193 == 0) = true := beq_iff_eq.mpr c5
   have c5b1 : (t193 != 0) = false := bne_eq_false_iff_eq.mpr c5
   try have c5b1z := c5b1
   (try simp only [bne] at c5b1z)
   clear c5
   have HC6 := Aside0.mk H
   clear H
   go_enter Tryd.func11, Tryd.ntmps11
   go_upto_region 4 with (first | ((with_reducible refine gate_dst (N := 3) rfl ?_); refine qx 3 #[.bool a0_0, .string a0_1, .string a0_2] 23 ?_; intro gb191 hg w7 hbox hb; have BK191 := Aside0.mk (hbox); have GW191 := qs hg HB; have GE191 := GW191; replace HB := qn HB hb; clear hb hbox hg) | ((with_reducible refine gate_dst (N := 6) rfl ?_); refine qx 6 #[.bool false, .string (⟨#[]⟩ : ByteArray), .string (⟨#[]⟩ : ByteArray)] 23 ?_; intro gb192 hg w8 hbox hb; have BK192 := Aside0.mk (hbox); have GW192 := qs hg HB; have GE192 := GW192; have NB191_192 := ql_ hg BK191; have NB192_191 := qg_ hg BK191; replace BK191 := qb BK191 hb; replace HB := qn HB hb; clear hb hbox hg; have hnb9 := NB191_192.out; have hnc9 := NB192_191.out; obtain ⟨hcz10_0, hcz10_1, hcz10_2, hfz10_0, hfz10_1, hfz10_2⟩ := q3 BK191) | ((with_reducible refine gate_callee (f := 26) rfl ?_); refine goesL_ (some 13) rfl rfl Tryd.func26 (by kernel_rfl) rfl #[.agg #[.bool a0_0, .string a0_1, .string a0_2], .int .i64 a1] rfl ql ?_; (with_reducible refine (idiomref03_asked.calls k a0_0 a0_1 a0_2 a1 t193 _ A4.out).mono ?_); rintro e w11 ⟨rfl, hb⟩; refine ⟨_, rfl, ?_⟩; replace BK191 := qb BK191 hb; replace BK192 := qb BK192 hb; replace HB := qn HB hb; (try clear hb); (try clear hb2); (try clear hk); (try clear hi)))
   (try simp only [Act.put, List.setIfInBounds_toArray, List.set_cons_zero, List.set_cons_succ])
   go_cut [23] (fun v23 wc => ∃ (kq : Nat) (x23_5 : Bool), v23 = .bool x23_5 ∧ Aside0 (idiomref03_Places.j0 kq a1 a2 x23_5 a0_0 a0_1 a0_2 = some (r1, r2, r3, r4)) ∧ Aside0 (kq ≤ k) ∧ Aside0 (wc.heap[gb191]? = some (.cells #[.bool a0_0, .string a0_1, .string a0_2] 23 (0, 0))) ∧ Aside0 (wc.heap[gb192]? = some (.cells #[.bool false, .string (⟨#[]⟩ : ByteArray), .string (⟨#[]⟩ : ByteArray)] 23 (0, 0))) ∧ Aside0 (Below w.heap.size w wc))
   case first =>
    have H := HC6.out
    clear HC6
    by_cases c12 : a2 < 0
    · rw [if_pos c12] at H
      have c12b0 : decide (a2 < 0) = true := decide_eq_true c12
      clear c12
      (first | rw [c12b0] | (simp only [i64_w, i32_w]; rw [c12b0]) | skip)
      have H' := Aside0.mk H
      clear H
      go_wp2
      go_meet
      case rel => exact ⟨_, (true), (by first | rfl | (simp; done) | (simp [*]; done)), H', ⟨by first | omega | exact Nat.le_refl _⟩, ⟨qk BK191⟩, ⟨qk BK192⟩, ⟨qh HB⟩⟩
    · rw [if_neg c12] at H
      have c12b0 : decide (a2 < 0) = false := decide_eq_false c12
      clear c12
      (first | rw [c12b0] | (simp only [i64_w, i32_w]; rw [c12b0]) | skip)
      have H' := Aside0.mk H
      clear H
      go_wp2
      go_meet
      case rel => exact ⟨_, (decide (a2 > 40)), (by first | rfl | (simp; done) | (simp [*]; done)), H', ⟨by first | omega | exact Nat.le_refl _⟩, ⟨qk BK191⟩, ⟨qk BK192⟩, ⟨qh HB⟩⟩
   case rest =>
    clear HC6
    try clear c1
    try clear c2
    try clear p2
    try clear c5
    try clear c5b0
    try clear c5b1
    try clear c9
    try clear c11
    try clear c12
    try clear c12b0
    try clear hcz10_0
    try clear hcz10_1
    try clear hcz10_2
    try clear hfz10_0
    try clear hfz10_1
    try clear hfz10_2
    obtain ⟨kq, x23_5, rfl, HA, HJ5, BK191, BK192, HB⟩ := hcut
    cases kq with
    | zero => exact absurd HA.out (by simp [idiomref03_Places.j0])
    | succ kj5 =>
     have H := HA.out
     clear HA
     simp only [idiomref03_Places.j0] at H
     by_cases c13 : x23_5 = true
     · subst c13
       have H1 : (some (false, (⟨#[]⟩ : ByteArray), (⟨#[]⟩ : ByteArray), 1)) = some (r1, r2, r3, r4) := by rw [if_pos rfl] at H; exact H
       clear H
       have H := H1
       clear H1
       simp only [Option.some.injEq, Prod.mk.injEq] at H
       obtain ⟨rfl, rfl, rfl, rfl⟩ := H
       have hnb14 := NB192_191.out
       have hnc14 := NB191_192.out
       obtain ⟨hcz15_0, hcz15_1, hcz15_2, hfz15_0, hfz15_1, hfz15_2⟩ := q3 BK192
       go_wp2
       refine bodyPost_ret (results_ct rfl _ _ gb192 23 #[.bool false, .string (⟨#[]⟩ : ByteArray), .string (⟨#[]⟩ : ByteArray)] (0, 0) _ rfl (by refine qp 2 #[.bool false, .string (⟨#[]⟩ : ByteArray), .string (⟨#[]⟩ : ByteArray)] ?_; refine qp 1 #[.bool false, .string (⟨#[]⟩ : ByteArray), .string (⟨#[]⟩ : ByteArray)] ?_; refine qp 0 #[.bool false, .string (⟨#[]⟩ : ByteArray), .string (⟨#[]⟩ : ByteArray)] ?_; exact qk BK192) Tryd.underlying23 rfl (by kernel_rfl)) rfl ?_
       exact ⟨qe, qh HB⟩
     · replace c13 := Bool.eq_false_iff.mpr c13
       subst c13
       have H1 : (if (a0_2.size : Int) ≤ a2 then (some (a0_0, a0_1, a0_2, 0)) else (if a0_1.size + a0_2.size ≤ 9223372036854775807 then ((idiomref03_Noughts.f kj5 (wrap64 ((a0_2.size : Int) - a2))).bind fun t194 => (if 1 + t194.size ≤ 9223372036854775807 then ((idiomref03_turned.f kj5 a1 a0_0 (a0_1 ++ a0_2) ((⟨#[49]⟩ : ByteArray) ++ t194)).bind fun bt195 => (if bt195.2 = 0 then ((idiomref03_Made.f kj5 a0_0 bt195.1 a2).bind fun bt197 => (some (bt197.1, bt197.2.1, bt197.2.2, 0))) else (some (false, (⟨#[]⟩ : ByteArray), (⟨#[]⟩ : ByteArray), bt195.2)))) else (none))) else (none))) = some (r1, r2, r3, r4) := by rw [if_neg (show ¬ (false = true) by decide)] at H; exact H
       clear H
       have H := H1
       clear H1
       by_cases c16 : (a0_2.size : Int) ≤ a2
       · rw [if_pos c16] at H
         have c16b0 : decide ((a0_2.size : Int) ≤ a2) = true := decide_eq_true c16
         clear c16
         simp only [Option.some.injEq, Prod.mk.injEq] at H
         obtain ⟨rfl, rfl, rfl, rfl⟩ := H
         have hnb17 := NB191_192.out
         have hnc17 := NB192_191.out
         obtain ⟨hcz18_0, hcz18_1, hcz18_2, hfz18_0, hfz18_1, hfz18_2⟩ := q3 BK191
         obtain ⟨hcz19_0, hcz19_1, hcz19_2, hfz19_0, hfz19_1, hfz19_2⟩ := q3 BK192
         go_wp2
         refine bodyPost_ret (results_ct rfl _ _ gb192 23 #[.bool a0_0, .string a0_1, .string a0_2] (0, 0) _ rfl (by refine qp 2 #[.bool a0_0, .string a0_1, .string (⟨#[]⟩ : ByteArray)] ?_; refine qp 1 #[.bool a0_0, .string (⟨#[]⟩ : ByteArray), .string (⟨#[]⟩ : ByteArray)] ?_; refine qp 0 #[.bool false, .string (⟨#[]⟩ : ByteArray), .string (⟨#[]⟩ : ByteArray)] ?_; exact qk BK192) Tryd.underlying23 rfl (by kernel_rfl)) rfl ?_
         exact ⟨qe, qh HB⟩
       · rw [if_neg c16] at H
         have c16b0 : decide ((a0_2.size : Int) ≤ a2) = false := decide_eq_false c16
         clear c16
         by_cases c20 : a0_1.size + a0_2.size ≤ 9223372036854775807
         · rw [if_pos c20] at H
           have c20b0 := eq_true c20
           have c20b1 : decide (a0_1.size + a0_2.size ≤ 9223372036854775807) = true := decide_eq_true c20
           try have c20b2 : (9223372036854775807 < a0_1.size + a0_2.size) = False := eq_false (Nat.not_lt.2 c20)
           replace H := Option.bind_eq_some_iff.mp H
           obtain ⟨t194, A210, H⟩ := H
           replace H : (if 1 + t194.size ≤ 9223372036854775807 then ((idiomref03_turned.f kj5 a1 a0_0 (a0_1 ++ a0_2) ((⟨#[49]⟩ : ByteArray) ++ t194)).bind fun bt195 => (if bt195.2 = 0 then ((idiomref03_Made.f kj5 a0_0 bt195.1 a2).bind fun bt197 => (some (bt197.1, bt197.2.1, bt197.2.2, 0))) else (some (false, (⟨#[]⟩ : ByteArray), (⟨#[]⟩ : ByteArray), bt195.2)))) else (none)) = some (r1, r2, r3, r4) := H
           have A21 := Aside0.mk A210
           clear A210
           by_cases c22 : 1 + t194.size ≤ 9223372036854775807
           · rw [if_pos c22] at H
             have c22b0 := eq_true c22
             have c22b1 : decide (1 + t194.size ≤ 9223372036854775807) = true := decide_eq_true c22
             try have c22b2 : (9223372036854775807 < 1 + t194.size) = False := eq_false (Nat.not_lt.2 c22)
             replace H := Option.bind_eq_some_iff.mp H
             obtain ⟨⟨t195, t196⟩, A230, H⟩ := H
             replace H : (if t196 = 0 then ((idiomref03_Made.f kj5 a0_0 t195 a2).bind fun bt197 => (some (bt197.1, bt197.2.1, bt197.2.2, 0))) else (some (false, (⟨#[]⟩ : ByteArray), (⟨#[]⟩ : ByteArray), t196))) = some (r1, r2, r3, r4) := H
             have A23 := Aside0.mk A230
             clear A230
             by_cases c24 : t196 = 0
             · rw [if_pos c24] at H
               have c24b0 : (t196 == 0) = true := beq_iff_eq.mpr c24
               have c24b1 : (t196 != 0) = false := bne_eq_false_iff_eq.mpr c24
               try have c24b1z := c24b1
               (try simp only [bne] at c24b1z)
               clear c24
               replace H := Option.bind_eq_some_iff.mp H
               obtain ⟨⟨t197, t198, t199⟩, A250, H⟩ := H
               replace H : (some (t197, t198, t199, 0)) = some (r1, r2, r3, r4) := H
               have A25 := Aside0.mk A250
               clear A250
               simp only [Option.some.injEq, Prod.mk.injEq] at H
               obtain ⟨rfl, rfl, rfl, rfl⟩ := H
               have hnb26 := NB191_192.out
               have hnc26 := NB192_191.out
               obtain ⟨hcz27_0, hcz27_1, hcz27_2, hfz27_0, hfz27_1, hfz27_2⟩ := q3 BK191
               try go_wp2
               replace BK191 := Aside0.mk (blk_drew BK191.out)
               replace BK192 := Aside0.mk (blk_drew BK192.out)
               replace HB := Aside0.mk (below_drew1 HB.out)
               refine start_ (n := 21) (S := fun w' => w'.cell? ⟨gb191, 0, none⟩ = some (.bool a0_0) ∧ w'.cell? ⟨gb191, 1, none⟩ = some (.string a0_1) ∧ w'.cell? ⟨gb191, 2, none⟩ = some (.string a0_2)) (ds := []) #[false, false, false, false, false, false, false, false, false, false, false, false, false, false, false, false, false, false, false, false, false] (by kernel_rfl) rfl rfl ⟨c_ BK191 0, c_ BK191 1, c_ BK191 2⟩ (fun hHeld => ?_); refine with_tabW idiomref03_Places.tab8 idiomref03_Places.bits8 (fun HT_ HW_ => ?_)
               generalize wc.drew = w28 at BK191 BK192 HB hHeld ⊢
               refine pz 0 (some 32) #[true, false, false, false, false, false, false, false, false, false, false, false, false, false, false, false, false, false, false, false, false] HT_ ?_
               refine pz 1 (some 33) #[true, true, false, false, false, false, false, false, false, false, false, false, false, false, false, false, false, false, false, false, false] HT_ ?_
               refine pz 3 (some 35) #[true, true, false, true, false, false, false, false, false, false, false, false, false, false, false, false, false, false, false, false, false] HT_ ?_
               refine pz 5 (some 37) #[true, true, false, true, false, true, false, false, false, false, false, false, false, false, false, false, false, false, false, false, false] HT_ ?_
               refine pz 8 (some 40) #[true, true, false, true, false, true, false, false, true, false, false, false, false, false, false, false, false, false, false, false, false] HT_ ?_
               refine pz 11 (some 43) #[true, true, false, true, false, true, false, false, true, false, false, true, false, false, false, false, false, false, false, false, false] HT_ ?_
               refine tw3 2 (some 34) #[true, true, true, true, false, true, false, false, true, false, false, true, false, false, false, false, false, false, false, false, false] HT_ HW_ hHeld ?_
               refine tw3 4 (some 36) #[true, true, true, true, true, true, false, false, true, false, false, true, false, false, false, false, false, false, false, false, false] HT_ HW_ hHeld ?_
               refine tw3 6 (some 38) #[true, true, true, true, true, true, true, false, true, false, false, true, false, false, false, false, false, false, false, false, false] HT_ HW_ hHeld ?_
               refine pz 7 (some 39) #[true, true, true, true, true, true, true, true, true, false, false, true, false, false, false, false, false, false, false, false, false] HT_ ?_
               refine tw3 9 (some 41) #[true, true, true, true, true, true, true, true, true, true, false, true, false, false, false, false, false, false, false, false, false] HT_ HW_ hHeld ?_
               refine pz 10 (some 42) #[true, true, true, true, true, true, true, true, true, true, true, true, false, false, false, false, false, false, false, false, false] HT_ ?_
               refine pz 12 (some 44) #[true, true, true, true, true, true, true, true, true, true, true, true, true, false, false, false, false, false, false, false, false] HT_ ?_
               refine one_ (i := 13) (N := some 45) #[true, true, true, true, true, true, true, true, true, true, true, true, true, true, false, false, false, false, false, false, false] rfl rfl (one_of HT_.out (by kernel_rfl)) (by decide) (fun K hK => ?_)
               refine goes_ Tryd.func28 (by kernel_rfl) rfl #[.int .i64 (wrap64 ((a0_2.size : Int) - a2))] (by rfl) rfl rfl ql ?_
               with_reducible refine (idiomref03_Noughts.calls kj5 (wrap64 ((a0_2.size : Int) - a2)) t194 _ A21.out).mono ?_
               rintro e w29 ⟨rfl, hb⟩
               refine ⟨_, rfl, ?_⟩
               replace BK191 := qb BK191 hb
               replace BK192 := qb BK192 hb
               replace HB := qn HB hb
               (try clear hb)
               (try clear hb2)
               (try clear hk)
               (try clear hi)
               refine hK.out _ _ ⟨c_ BK191 0, c_ BK191 1, c_ BK191 2⟩ (fun hHeld => ?_)
               clear hK K
               refine nz (some 45) ?_
               refine pz 14 (some 46) #[true, true, true, true, true, true, true, true, true, true, true, true, true, true, true, false, false, false, false, false, false] HT_ ?_
               refine one_ (i := 15) (N := some 47) #[true, true, true, true, true, true, true, true, true, true, true, true, true, true, true, true, false, false, false, false, false] rfl rfl (one_of HT_.out (by kernel_rfl)) (by decide) (fun K hK => ?_)
               refine goes_ Tryd.func27 (by kernel_rfl) rfl #[.int .i64 a1, .bool a0_0, .string (a0_1 ++ a0_2), .string ((⟨#[49]⟩ : ByteArray) ++ t194)] (by rfl) rfl rfl ql ?_
               with_reducible refine (idiomref03_turned.calls kj5 a1 a0_0 (a0_1 ++ a0_2) ((⟨#[49]⟩ : ByteArray) ++ t194) t195 t196 _ A23.out).mono ?_
               rintro e w30 ⟨rfl, hb⟩
               refine ⟨_, rfl, ?_⟩
               replace BK191 := qb BK191 hb
               replace BK192 := qb BK192 hb
               replace HB := qn HB hb
               (try clear hb)
               (try clear hb2)
               (try clear hk)
               (try clear hi)
               refine hK.out _ _ ⟨c_ BK191 0, c_ BK191 1, c_ BK191 2⟩ (fun hHeld => ?_)
               clear hK K
               refine nz (some 47) ?_
               refine pz 16 (some 31) #[true, true, true, true, true, true, true, true, true, true, true, true, true, true, true, true, true, false, false, false, false] HT_ ?_
               refine pz 17 (some 48) #[true, true, true, true, true, true, true, true, true, true, true, true, true, true, true, true, true, true, false, false, false] HT_ ?_
               refine pz 18 (some 49) #[true, true, true, true, true, true, true, true, true, true, true, true, true, true, true, true, true, true, true, false, false] HT_ ?_
               refine pz 19 (some 9) #[true, true, true, true, true, true, true, true, true, true, true, true, true, true, true, true, true, true, true, true, false] HT_ ?_
               refine pz 20 (some 10) #[true, true, true, true, true, true, true, true, true, true, true, true, true, true, true, true, true, true, true, true, true] HT_ ?_
               refine done_ (done_of HT_.out (by kernel_rfl)) ?_
               obtain ⟨hcz31_0, hcz31_1, hcz31_2, hfz31_0, hfz31_1, hfz31_2⟩ := q3 BK191
               try go_wp2_with (first | ((with_reducible refine gate_callee (f := 29) rfl ?_); refine goesL_ (some 58) rfl rfl Tryd.func29 (by kernel_rfl) rfl #[.bool a0_0, .string t195, .int .i64 a2] rfl ql ?_; (with_reducible refine (idiomref03_Made.calls kj5 a0_0 t195 a2 t197 t198 t199 _ A25.out).mono ?_); rintro e w32 ⟨rfl, hb⟩; refine ⟨_, rfl, ?_⟩; replace BK191 := qb BK191 hb; replace BK192 := qb BK192 hb; replace HB := qn HB hb; (try clear hb); (try clear hb2); (try clear hk); (try clear hi); obtain ⟨hcz33_0, hcz33_1, hcz33_2, hfz33_0, hfz33_1, hfz33_2⟩ := q3 BK192))
               refine bodyPost_ret (results_ct rfl _ _ gb192 23 #[.bool t197, .string t198, .string t199] (0, 0) _ rfl (by refine qp 2 #[.bool t197, .string t198, .string (⟨#[]⟩ : ByteArray)] ?_; refine qp 1 #[.bool t197, .string (⟨#[]⟩ : ByteArray), .string (⟨#[]⟩ : ByteArray)] ?_; refine qp 0 #[.bool false, .string (⟨#[]⟩ : ByteArray), .string (⟨#[]⟩ : ByteArray)] ?_; exact qk BK192) Tryd.underlying23 rfl (by kernel_rfl)) rfl ?_
               exact ⟨qe, qh HB⟩
             · rw [if_neg c24] at H
               have c24b0 : (t196 == 0) = false := beq_eq_false_iff_ne.mpr c24
               have c24b1 : (t196 != 0) = true := bne_iff_ne.mpr c24
               try have c24b1z := c24b1
               (try simp only [bne] at c24b1z)
               simp only [Option.some.injEq, Prod.mk.injEq] at H
               obtain ⟨rfl, rfl, rfl, rfl⟩ := H
               have hnb34 := NB191_192.out
               have hnc34 := NB192_191.out
               obtain ⟨hcz35_0, hcz35_1, hcz35_2, hfz35_0, hfz35_1, hfz35_2⟩ := q3 BK191
               try go_wp2
               replace BK191 := Aside0.mk (blk_drew BK191.out)
               replace BK192 := Aside0.mk (blk_drew BK192.out)
               replace HB := Aside0.mk (below_drew1 HB.out)
               refine start_ (n := 21) (S := fun w' => w'.cell? ⟨gb191, 0, none⟩ = some (.bool a0_0) ∧ w'.cell? ⟨gb191, 1, none⟩ = some (.string a0_1) ∧ w'.cell? ⟨gb191, 2, none⟩ = some (.string a0_2)) (ds := []) #[false, false, false, false, false, false, false, false, false, false, false, false, false, false, false, false, false, false, false, false, false] (by kernel_rfl) rfl rfl ⟨c_ BK191 0, c_ BK191 1, c_ BK191 2⟩ (fun hHeld => ?_); refine with_tabW idiomref03_Places.tab8 idiomref03_Places.bits8 (fun HT_ HW_ => ?_)
               generalize wc.drew = w36 at BK191 BK192 HB hHeld ⊢
               refine pz 0 (some 32) #[true, false, false, false, false, false, false, false, false, false, false, false, false, false, false, false, false, false, false, false, false] HT_ ?_
               refine pz 1 (some 33) #[true, true, false, false, false, false, false, false, false, false, false, false, false, false, false, false, false, false, false, false, false] HT_ ?_
               refine pz 3 (some 35) #[true, true, false, true, false, false, false, false, false, false, false, false, false, false, false, false, false, false, false, false, false] HT_ ?_
               refine pz 5 (some 37) #[true, true, false, true, false, true, false, false, false, false, false, false, false, false, false, false, false, false, false, false, false] HT_ ?_
               refine pz 8 (some 40) #[true, true, false, true, false, true, false, false, true, false, false, false, false, false, false, false, false, false, false, false, false] HT_ ?_
               refine pz 11 (some 43) #[true, true, false, true, false, true, false, false, true, false, false, true, false, false, false, false, false, false, false, false, false] HT_ ?_
               refine tw3 2 (some 34) #[true, true, true, true, false, true, false, false, true, false, false, true, false, false, false, false, false, false, false, false, false] HT_ HW_ hHeld ?_
               refine tw3 4 (some 36) #[true, true, true, true, true, true, false, false, true, false, false, true, false, false, false, false, false, false, false, false, false] HT_ HW_ hHeld ?_
               refine tw3 6 (some 38) #[true, true, true, true, true, true, true, false, true, false, false, true, false, false, false, false, false, false, false, false, false] HT_ HW_ hHeld ?_
               refine pz 7 (some 39) #[true, true, true, true, true, true, true, true, true, false, false, true, false, false, false, false, false, false, false, false, false] HT_ ?_
               refine tw3 9 (some 41) #[true, true, true, true, true, true, true, true, true, true, false, true, false, false, false, false, false, false, false, false, false] HT_ HW_ hHeld ?_
               refine pz 10 (some 42) #[true, true, true, true, true, true, true, true, true, true, true, true, false, false, false, false, false, false, false, false, false] HT_ ?_
               refine pz 12 (some 44) #[true, true, true, true, true, true, true, true, true, true, true, true, true, false, false, false, false, false, false, false, false] HT_ ?_
               refine one_ (i := 13) (N := some 45) #[true, true, true, true, true, true, true, true, true, true, true, true, true, true, false, false, false, false, false, false, false] rfl rfl (one_of HT_.out (by kernel_rfl)) (by decide) (fun K hK => ?_)
               refine goes_ Tryd.func28 (by kernel_rfl) rfl #[.int .i64 (wrap64 ((a0_2.size : Int) - a2))] (by rfl) rfl rfl ql ?_
               with_reducible refine (idiomref03_Noughts.calls kj5 (wrap64 ((a0_2.size : Int) - a2)) t194 _ A21.out).mono ?_
               rintro e w37 ⟨rfl, hb⟩
               refine ⟨_, rfl, ?_⟩
               replace BK191 := qb BK191 hb
               replace BK192 := qb BK192 hb
               replace HB := qn HB hb
               (try clear hb)
               (try clear hb2)
               (try clear hk)
               (try clear hi)
               refine hK.out _ _ ⟨c_ BK191 0, c_ BK191 1, c_ BK191 2⟩ (fun hHeld => ?_)
               clear hK K
               refine nz (some 45) ?_
               refine pz 14 (some 46) #[true, true, true, true, true, true, true, true, true, true, true, true, true, true, true, false, false, false, false, false, false] HT_ ?_
               refine one_ (i := 15) (N := some 47) #[true, true, true, true, true, true, true, true, true, true, true, true, true, true, true, true, false, false, false, false, false] rfl rfl (one_of HT_.out (by kernel_rfl)) (by decide) (fun K hK => ?_)
               refine goes_ Tryd.func27 (by kernel_rfl) rfl #[.int .i64 a1, .bool a0_0, .string (a0_1 ++ a0_2), .string ((⟨#[49]⟩ : ByteArray) ++ t194)] (by rfl) rfl rfl ql ?_
               with_reducible refine (idiomref03_turned.calls kj5 a1 a0_0 (a0_1 ++ a0_2) ((⟨#[49]⟩ : ByteArray) ++ t194) t195 t196 _ A23.out).mono ?_
               rintro e w38 ⟨rfl, hb⟩
               refine ⟨_, rfl, ?_⟩
               replace BK191 := qb BK191 hb
               replace BK192 := qb BK192 hb
               replace HB := qn HB hb
               (try clear hb)
               (try clear hb2)
               (try clear hk)
               (try clear hi)
               refine hK.out _ _ ⟨c_ BK191 0, c_ BK191 1, c_ BK191 2⟩ (fun hHeld => ?_)
               clear hK K
               refine nz (some 47) ?_
               refine pz 16 (some 31) #[true, true, true, true, true, true, true, true, true, true, true, true, true, true, true, true, true, false, false, false, false] HT_ ?_
               refine pz 17 (some 48) #[true, true, true, true, true, true, true, true, true, true, true, true, true, true, true, true, true, true, false, false, false] HT_ ?_
               refine pz 18 (some 49) #[true, true, true, true, true, true, true, true, true, true, true, true, true, true, true, true, true, true, true, false, false] HT_ ?_
               refine pz 19 (some 9) #[true, true, true, true, true, true, true, true, true, true, true, true, true, true, true, true, true, true, true, true, false] HT_ ?_
               refine pz 20 (some 10) #[true, true, true, true, true, true, true, true, true, true, true, true, true, true, true, true, true, true, true, true, true] HT_ ?_
               refine done_ (done_of HT_.out (by kernel_rfl)) ?_
               obtain ⟨hcz39_0, hcz39_1, hcz39_2, hfz39_0, hfz39_1, hfz39_2⟩ := q3 BK192
               try go_wp2
               refine bodyPost_ret (results_ct rfl _ _ gb192 23 #[.bool false, .string (⟨#[]⟩ : ByteArray), .string (⟨#[]⟩ : ByteArray)] (0, 0) _ rfl (by refine qp 2 #[.bool false, .string (⟨#[]⟩ : ByteArray), .string (⟨#[]⟩ : ByteArray)] ?_; refine qp 1 #[.bool false, .string (⟨#[]⟩ : ByteArray), .string (⟨#[]⟩ : ByteArray)] ?_; refine qp 0 #[.bool false, .string (⟨#[]⟩ : ByteArray), .string (⟨#[]⟩ : ByteArray)] ?_; exact qk BK192) Tryd.underlying23 rfl (by kernel_rfl)) rfl ?_
               exact ⟨qe, qh HB⟩
           · rw [if_neg c22] at H
             exact absurd H (by simp)
         · rw [if_neg c20] at H
           exact absurd H (by simp)
 · rw [if_neg c5] at H
   have c5b0 : (t193 == 0) = false := beq_eq_false_iff_ne.mpr c5
   have c5b1 : (t193 != 0) = true := bne_iff_ne.mpr c5
   try have c5b1z := c5b1
   (try simp only [bne] at c5b1z)
   simp only [Option.some.injEq, Prod.mk.injEq] at H
   obtain ⟨rfl, rfl, rfl, rfl⟩ := H
   go_enter Tryd.func11, Tryd.ntmps11
   go_wp2_with (first | ((with_reducible refine gate_dst (N := 3) rfl ?_); refine qx 3 #[.bool a0_0, .string a0_1, .string a0_2] 23 ?_; intro gb191 hg w40 hbox hb; have BK191 := Aside0.mk (hbox); have GW191 := qs hg HB; have GE191 := GW191; replace HB := qn HB hb; clear hb hbox hg) | ((with_reducible refine gate_dst (N := 6) rfl ?_); refine qx 6 #[.bool false, .string (⟨#[]⟩ : ByteArray), .string (⟨#[]⟩ : ByteArray)] 23 ?_; intro gb192 hg w41 hbox hb; have BK192 := Aside0.mk (hbox); have GW192 := qs hg HB; have GE192 := GW192; have NB191_192 := ql_ hg BK191; have NB192_191 := qg_ hg BK191; replace BK191 := qb BK191 hb; replace HB := qn HB hb; clear hb hbox hg; have hnb42 := NB191_192.out; have hnc42 := NB192_191.out; obtain ⟨hcz43_0, hcz43_1, hcz43_2, hfz43_0, hfz43_1, hfz43_2⟩ := q3 BK191) | ((with_reducible refine gate_callee (f := 26) rfl ?_); refine goesL_ (some 13) rfl rfl Tryd.func26 (by kernel_rfl) rfl #[.agg #[.bool a0_0, .string a0_1, .string a0_2], .int .i64 a1] rfl ql ?_; (with_reducible refine (idiomref03_asked.calls k a0_0 a0_1 a0_2 a1 t193 _ A4.out).mono ?_); rintro e w44 ⟨rfl, hb⟩; refine ⟨_, rfl, ?_⟩; replace BK191 := qb BK191 hb; replace BK192 := qb BK192 hb; replace HB := qn HB hb; (try clear hb); (try clear hb2); (try clear hk); (try clear hi); obtain ⟨hcz45_0, hcz45_1, hcz45_2, hfz45_0, hfz45_1, hfz45_2⟩ := q3 BK192))
   refine bodyPost_ret (results_ct rfl _ _ gb192 23 #[.bool false, .string (⟨#[]⟩ : ByteArray), .string (⟨#[]⟩ : ByteArray)] (0, 0) _ rfl (by refine qp 2 #[.bool false, .string (⟨#[]⟩ : ByteArray), .string (⟨#[]⟩ : ByteArray)] ?_; refine qp 1 #[.bool false, .string (⟨#[]⟩ : ByteArray), .string (⟨#[]⟩ : ByteArray)] ?_; refine qp 0 #[.bool false, .string (⟨#[]⟩ : ByteArray), .string (⟨#[]⟩ : ByteArray)] ?_; exact qk BK192) Tryd.underlying23 rfl (by kernel_rfl)) rfl ?_
   exact ⟨qe, qh HB⟩

end Go.Proofs.YtpmhebdaphjinaaDoor.F
namespace Go.Proofs.YtpmhebdaphjinaaDoor.F
open Go.RowKit Go.Proofs.YtpmhebdaphjinaaDoorW.PrintWords Go.Proofs.YtpmhebdaphjinaaDoorW.PrintLast Go.Proofs.YtpmhebdaphjinaaDoorW.PrintMore Go.Proofs.YtpmhebdaphjinaaDoor.Q
attribute [local go_sem] max2_int min2_int max_two min_two max_three min_three max_four min_four   -- for this text's walks alone
set_option linter.unusedVariables false
set_option linter.unusedSimpArgs false

attribute [local go_sem high] eqA23
def idiomlaw03_awake.f (k : Nat)  : Option (Bool) := (round_Places.f k false (⟨#[50]⟩ : ByteArray) (⟨#[53]⟩ : ByteArray) 7 0).bind fun bt200 => (if bt200.2.2.2 = 0 then (some (!bt200.1 && (bt200.2.1.toList == ([50] : List UInt8) && (bt200.2.2.1.toList == ([] : List UInt8))))) else (some false))
theorem idiomlaw03_awake.mono : ∀ k, LeO (idiomlaw03_awake.f k ) (idiomlaw03_awake.f (k + 1) ) := by
 intro  k
 unfold idiomlaw03_awake.f
 repeat' first
  | (with_reducible exact round_Places.mono _ _ _ _ _ _)
  | (with_reducible exact LeO.refl _)
  | (with_reducible exact LeO.none _)
  | (with_reducible refine LeO.ite ?_ ?_)
  | (with_reducible refine LeO.bind ?_ (fun _ => ?_))
  | exact round_Places.mono _ _ _ _ _ _
  | exact LeO.none _
  | refine LeO.ite ?_ ?_
  | refine LeO.bind ?_ (fun _ => ?_)
set_option maxHeartbeats 8000000 in
set_option maxRecDepth 100000 in
theorem idiomlaw03_awake.calls (k : Nat)  (r : Bool) (w : World) (h : idiomlaw03_awake.f k  = some r) :
 Calls Tryd.prog 12 #[] w fun e w' => e = .returned (.bool r) ∧ Below w.heap.size w w' := by
 have hu23 := Tryd.underlying23
 have HB := Aside0.mk (Below.refl w.heap.size w)
 have H : ((round_Places.f k false (⟨#[50]⟩ : ByteArray) (⟨#[53]⟩ : ByteArray) 7 0).bind fun bt200 => (if bt200.2.2.2 = 0 then (some (!bt200.1 && (bt200.2.1.toList == ([50] : List UInt8) && (bt200.2.2.1.toList == ([] : List UInt8))))) else (some false))) = some r := h
 clear h
 replace H := Option.bind_eq_some_iff.mp H
 obtain ⟨⟨t200, t201, t202, t203⟩, A10, H⟩ := H
 replace H : (if t203 = 0 then (some (!t200 && (t201.toList == ([50] : List UInt8) && (t202.toList == ([] : List UInt8))))) else (some false)) = some r := H
 have A1 := Aside0.mk A10
 clear A10
 by_cases c2 : t203 = 0
 · rw [if_pos c2] at H
   have c2b0 : (t203 == 0) = true := beq_iff_eq.mpr c2
   have c2b1 : (t203 != 0) = false := bne_eq_false_iff_eq.mpr c2
   try have c2b1z := c2b1
   (try simp only [bne] at c2b1z)
   clear c2
   obtain rfl := Option.some.inj H
   go_enter Tryd.func12, Tryd.ntmps12
   go_wp2_with (first | ((with_reducible refine gate_callee (f := 10) rfl ?_); refine goesL_ (some 5) rfl rfl Tryd.func10 (by kernel_rfl) rfl #[.agg #[.bool false, .string (⟨#[50]⟩ : ByteArray), .string (⟨#[53]⟩ : ByteArray)], .int .i64 7, .int .i64 0] rfl ql ?_; (with_reducible refine (round_Places.calls k false (⟨#[50]⟩ : ByteArray) (⟨#[53]⟩ : ByteArray) 7 0 t200 t201 t202 t203 _ A1.out).mono ?_); rintro e w3 ⟨rfl, hb⟩; refine ⟨_, rfl, ?_⟩; replace HB := qn HB hb; (try clear hb); (try clear hb2); (try clear hk); (try clear hi)) | ((with_reducible refine gate_dst (N := 1) rfl ?_); refine qx 1 #[.bool false, .string (⟨#[]⟩ : ByteArray), .string (⟨#[]⟩ : ByteArray)] 23 ?_; intro gb204 hg w4 hbox hb; have BK204 := Aside0.mk (hbox); have GW204 := qs hg HB; have GE204 := GW204; replace HB := qn HB hb; clear hb hbox hg; obtain ⟨hcz5_0, hcz5_1, hcz5_2, hfz5_0, hfz5_1, hfz5_2⟩ := q3 BK204))
   go_ret
   exact ⟨qe, qh HB⟩
 · rw [if_neg c2] at H
   have c2b0 : (t203 == 0) = false := beq_eq_false_iff_ne.mpr c2
   have c2b1 : (t203 != 0) = true := bne_iff_ne.mpr c2
   try have c2b1z := c2b1
   (try simp only [bne] at c2b1z)
   obtain rfl := Option.some.inj H
   go_enter Tryd.func12, Tryd.ntmps12
   go_wp2_with (first | ((with_reducible refine gate_callee (f := 10) rfl ?_); refine goesL_ (some 5) rfl rfl Tryd.func10 (by kernel_rfl) rfl #[.agg #[.bool false, .string (⟨#[50]⟩ : ByteArray), .string (⟨#[53]⟩ : ByteArray)], .int .i64 7, .int .i64 0] rfl ql ?_; (with_reducible refine (round_Places.calls k false (⟨#[50]⟩ : ByteArray) (⟨#[53]⟩ : ByteArray) 7 0 t200 t201 t202 t203 _ A1.out).mono ?_); rintro e w6 ⟨rfl, hb⟩; refine ⟨_, rfl, ?_⟩; replace HB := qn HB hb; (try clear hb); (try clear hb2); (try clear hk); (try clear hi)) | ((with_reducible refine gate_dst (N := 1) rfl ?_); refine qx 1 #[.bool false, .string (⟨#[]⟩ : ByteArray), .string (⟨#[]⟩ : ByteArray)] 23 ?_; intro gb204 hg w7 hbox hb; have BK204 := Aside0.mk (hbox); have GW204 := qs hg HB; have GE204 := GW204; replace HB := qn HB hb; clear hb hbox hg; obtain ⟨hcz8_0, hcz8_1, hcz8_2, hfz8_0, hfz8_1, hfz8_2⟩ := q3 BK204))
   go_ret
   exact ⟨qe, qh HB⟩

def idiomref02_First.l0 : Nat → List Int → Int → Option (Int)
 | 0, _, _ => none
 | k + 1, x0, x3 => if x3 < (x0.length : Int) then (if 0 ≤ x3 then (if (rd x0 x3) = 0 then (idiomref02_First.l0 k x0 (wrap64 (x3 + 1))) else (some (rd x0 x3))) else (none)) else (some 0)
def idiomref02_First.f (k : Nat) (l0 : List Int) : Option (Int) := idiomref02_First.l0 k l0 0
theorem idiomref02_First.mono_l : ∀ k, (∀ y0 y1, LeO (idiomref02_First.l0 k y0 y1) (idiomref02_First.l0 (k + 1) y0 y1))
 | 0 => fun _ _ r h => by simp [idiomref02_First.l0] at h
 | k + 1 => by
  have ih0 := idiomref02_First.mono_l k
  · intro y0 y1
    unfold idiomref02_First.l0
    repeat' first
    | (with_reducible exact ih0 _ _)
    | (with_reducible exact LeO.refl _)
    | (with_reducible exact LeO.none _)
    | (with_reducible refine LeO.ite ?_ ?_)
    | (with_reducible refine LeO.bind ?_ (fun _ => ?_))
    | exact ih0 _ _
    | exact LeO.none _
    | refine LeO.ite ?_ ?_
    | refine LeO.bind ?_ (fun _ => ?_)
theorem idiomref02_First.mono : ∀ a0 k, LeO (idiomref02_First.f k a0) (idiomref02_First.f (k + 1) a0) := by
 intro a0 k
 have ih0 := idiomref02_First.mono_l k
 unfold idiomref02_First.f
 repeat' first
  | (with_reducible exact ih0 _ _)
  | (with_reducible exact LeO.refl _)
  | (with_reducible exact LeO.none _)
  | (with_reducible refine LeO.ite ?_ ?_)
  | (with_reducible refine LeO.bind ?_ (fun _ => ?_))
  | exact ih0 _ _
  | exact LeO.none _
  | refine LeO.ite ?_ ?_
  | refine LeO.bind ?_ (fun _ => ?_)
set_option maxHeartbeats 8000000 in
set_option maxRecDepth 100000 in
theorem idiomref02_First.calls (k : Nat) (A0 : Option Addr) (c0 : Nat) (l0 : List Int) (r : Int) (w : World) (hr0 : Kd.C (Kd.int .i64) w A0 l0.length l0) (hc0 : l0.length ≤ c0) (h : idiomref02_First.f k l0 = some r) :
 Calls Tryd.prog 31 #[.slice A0 l0.length c0] w fun e w' => e = .returned (.int .i64 r) ∧ Drawn0 w w' := by
 have HR0 := Aside0.mk hr0
 have HC0 := Aside0.mk hc0
 clear hr0 hc0
 have H : (idiomref02_First.l0 k l0 0) = some r := h
 clear h
 have H' := Aside0.mk H
 clear H
 go_enter Tryd.func31, Tryd.ntmps31
 go_wp2
 (try simp only [Act.put, List.setIfInBounds_toArray, List.set_cons_zero, List.set_cons_succ])
 go_loopg [3] k (fun kq v3 w' => ∃ (x3_1 : Int), v3 = .int .i64 x3_1 ∧ Aside0 (idiomref02_First.l0 kq l0 x3_1 = some r) ∧ Aside0 (kq ≤ k) ∧ Drawn0 w w')
 case atStart => exact ⟨(0), (by first | rfl | (simp; done) | (simp [*]; done)), H', ⟨Nat.le_refl _⟩, by repeat (first | exact Drawn0.refl _ | apply Drawn0.step)⟩
 case round =>
  clear H'
  obtain ⟨x3_1, rfl, HA, HK1, ⟨m1, rfl⟩⟩ := hrel
  cases gk with
  | zero => exact absurd HA.out (by simp [idiomref02_First.l0])
  | succ k1 =>
   have H := HA.out
   clear HA
   simp only [idiomref02_First.l0] at H
   by_cases c2 : x3_1 < (l0.length : Int)
   · rw [if_pos c2] at H
     have c2b0 : decide (x3_1 < (l0.length : Int)) = true := decide_eq_true c2
     clear c2
     by_cases c3 : 0 ≤ x3_1
     · rw [if_pos c3] at H
       have c3b0 : decide (0 ≤ x3_1) = true := decide_eq_true c3
       clear c3
       by_cases c4 : (rd l0 x3_1) = 0
       · rw [if_pos c4] at H
         have c4b0 : ((rd l0 x3_1) == 0) = true := beq_iff_eq.mpr c4
         have c4b1 : ((rd l0 x3_1) != 0) = false := bne_eq_false_iff_eq.mpr c4
         clear c4
         have H' := Aside0.mk H
         clear H
         have p217 : 0 ≤ (x3_1 : Int) := of_decide_eq_true qa
         have q217 : x3_1 < (l0.length : Int) := of_decide_eq_true qa
         obtain ⟨ad217, e217, hx217_0⟩ := Kd.at_int HR0.out x3_1 p217 q217
         cases e217
         replace p217 := eq_true p217
         replace q217 := eq_true q217
         go_wp2
         go_roundg k1
         case measure => have := HK1.out; omega
         case rel => exact ⟨(wrap64 (x3_1 + 1)), (by first | rfl | (simp; done) | (simp [*]; done)), H', ⟨by have := HK1.out; omega⟩, by repeat (first | exact Drawn0.refl _ | apply Drawn0.step)⟩
       · rw [if_neg c4] at H
         have c4b0 : ((rd l0 x3_1) == 0) = false := beq_eq_false_iff_ne.mpr c4
         have c4b1 : ((rd l0 x3_1) != 0) = true := bne_iff_ne.mpr c4
         obtain rfl := Option.some.inj H
         have p217 : 0 ≤ (x3_1 : Int) := of_decide_eq_true qa
         have q217 : x3_1 < (l0.length : Int) := of_decide_eq_true qa
         obtain ⟨ad217, e217, hx217_0⟩ := Kd.at_int HR0.out x3_1 p217 q217
         cases e217
         replace p217 := eq_true p217
         replace q217 := eq_true q217
         have p218 : 0 ≤ (x3_1 : Int) := of_decide_eq_true qa
         have q218 : x3_1 < (l0.length : Int) := of_decide_eq_true qa
         obtain ⟨ad218, e218, hx218_0⟩ := Kd.at_int HR0.out x3_1 p218 q218
         obtain rfl : ad217 = ad218 := (by injection e218)
         replace p218 := eq_true p218
         replace q218 := eq_true q218
         go_wp2
         go_ret
         exact ⟨by first | rfl | (simp; done) | (simp [*]; done), by repeat (first | exact Drawn0.refl _ | apply Drawn0.step)⟩
     · rw [if_neg c3] at H
       exact absurd H (by simp)
   · rw [if_neg c2] at H
     have c2b0 : decide (x3_1 < (l0.length : Int)) = false := decide_eq_false c2
     clear c2
     obtain rfl := Option.some.inj H
     go_wp2
     go_ret
     exact ⟨by first | rfl | (simp; done) | (simp [*]; done), by repeat (first | exact Drawn0.refl _ | apply Drawn0.step)⟩

def idiomref02_Cmp.j0 : Nat → ByteArray → ByteArray → Bool → Option (Int)
 | 0, _, _, _ => none
 | k + 1, x0, x1, x5 => if x5 = true then (some (-1)) else (if x0.toList = x1.toList then (some 0) else (some 1))
def idiomref02_Cmp.f (k : Nat) (a0 : ByteArray) (a1 : ByteArray) : Option (Int) := if (a0.size : Int) < (a1.size : Int) then (idiomref02_Cmp.j0 k a0 a1 true) else (if (a0.size : Int) = (a1.size : Int) then (idiomref02_Cmp.j0 k a0 a1 (Op.bytesLess a0.toList a1.toList)) else (idiomref02_Cmp.j0 k a0 a1 false))
theorem idiomref02_Cmp.mono_l : ∀ k, (∀ y0 y1 y2, LeO (idiomref02_Cmp.j0 k y0 y1 y2) (idiomref02_Cmp.j0 (k + 1) y0 y1 y2))
 | 0 => fun _ _ _ r h => by simp [idiomref02_Cmp.j0] at h
 | k + 1 => by
  have ih0 := idiomref02_Cmp.mono_l k
  · intro y0 y1 y2
    unfold idiomref02_Cmp.j0
    repeat' first
    | (with_reducible exact ih0 _ _ _)
    | (with_reducible exact LeO.refl _)
    | (with_reducible exact LeO.none _)
    | (with_reducible refine LeO.ite ?_ ?_)
    | (with_reducible refine LeO.bind ?_ (fun _ => ?_))
    | exact ih0 _ _ _
    | exact LeO.none _
    | refine LeO.ite ?_ ?_
    | refine LeO.bind ?_ (fun _ => ?_)
theorem idiomref02_Cmp.mono : ∀ a0 a1 k, LeO (idiomref02_Cmp.f k a0 a1) (idiomref02_Cmp.f (k + 1) a0 a1) := by
 intro a0 a1 k
 have ih0 := idiomref02_Cmp.mono_l k
 unfold idiomref02_Cmp.f
 repeat' first
  | (with_reducible exact ih0 _ _ _)
  | (with_reducible exact LeO.refl _)
  | (with_reducible exact LeO.none _)
  | (with_reducible refine LeO.ite ?_ ?_)
  | (with_reducible refine LeO.bind ?_ (fun _ => ?_))
  | exact ih0 _ _ _
  | exact LeO.none _
  | refine LeO.ite ?_ ?_
  | refine LeO.bind ?_ (fun _ => ?_)
set_option maxHeartbeats 8000000 in
set_option maxRecDepth 100000 in
theorem idiomref02_Cmp.calls (k : Nat) (a0 : ByteArray) (a1 : ByteArray) (r : Int) (w : World) (h : idiomref02_Cmp.f k a0 a1 = some r) :
 Calls Tryd.prog 33 #[.string a0, .string a1] w fun e w' => e = .returned (.int .i64 r) ∧ Drawn0 w w' := by
 have H : (if (a0.size : Int) < (a1.size : Int) then (idiomref02_Cmp.j0 k a0 a1 true) else (if (a0.size : Int) = (a1.size : Int) then (idiomref02_Cmp.j0 k a0 a1 (Op.bytesLess a0.toList a1.toList)) else (idiomref02_Cmp.j0 k a0 a1 false))) = some r := h
 clear h
 have HC3 := Aside0.mk H
 clear H
 go_enter Tryd.func33, Tryd.ntmps33
 go_upto_region 1 with (fail)
 go_cut [5] (fun v5 wc => ∃ (kq : Nat) (x5_2 : Bool), v5 = .bool x5_2 ∧ Aside0 (idiomref02_Cmp.j0 kq a0 a1 x5_2 = some r) ∧ Aside0 (kq ≤ k) ∧ Drawn0 w wc)
 case first =>
  have H := HC3.out
  clear HC3
  by_cases c4 : (a0.size : Int) < (a1.size : Int)
  · rw [if_pos c4] at H
    have c4b0 : decide ((a0.size : Int) < (a1.size : Int)) = true := decide_eq_true c4
    have c4b1 : decide (a0.size < a1.size) = true := decide_eq_true (Int.ofNat_lt.mp c4)
    clear c4
    (first | rw [c4b0] | (simp only [i64_w, i32_w]; rw [c4b0]) | skip)
    have H' := Aside0.mk H
    clear H
    go_wp2
    go_meet
    case rel => exact ⟨_, (true), (by first | rfl | (simp; done) | (simp [*]; done)), H', ⟨by first | omega | exact Nat.le_refl _⟩, by repeat (first | exact Drawn0.refl _ | apply Drawn0.step)⟩
  · rw [if_neg c4] at H
    have c4b0 : decide ((a0.size : Int) < (a1.size : Int)) = false := decide_eq_false c4
    have c4b1 : decide (a0.size < a1.size) = false := decide_eq_false (fun h => c4 (Int.ofNat_lt.mpr h))
    clear c4
    (first | rw [c4b0] | (simp only [i64_w, i32_w]; rw [c4b0]) | skip)
    by_cases c5 : (a0.size : Int) = (a1.size : Int)
    · rw [if_pos c5] at H
      have c5b0 : ((a0.size : Int) == (a1.size : Int)) = true := beq_iff_eq.mpr c5
      have c5b1 : ((a0.size : Int) != (a1.size : Int)) = false := bne_eq_false_iff_eq.mpr c5
      try have c5b1z := c5b1
      (try simp only [bne] at c5b1z)
      have c5b2 : (a0.size == a1.size) = true := by first | simpa using c5 | (simp at c5 ⊢; omega)
      clear c5
      have H' := Aside0.mk H
      clear H
      go_wp2
      go_meet
      case rel => exact ⟨_, ((Op.bytesLess a0.toList a1.toList)), (by first | rfl | (simp; done) | (simp [*]; done)), H', ⟨by first | omega | exact Nat.le_refl _⟩, by repeat (first | exact Drawn0.refl _ | apply Drawn0.step)⟩
    · rw [if_neg c5] at H
      have c5b0 : ((a0.size : Int) == (a1.size : Int)) = false := beq_eq_false_iff_ne.mpr c5
      have c5b1 : ((a0.size : Int) != (a1.size : Int)) = true := bne_iff_ne.mpr c5
      try have c5b1z := c5b1
      (try simp only [bne] at c5b1z)
      have c5b2 : (a0.size == a1.size) = false := by first | simpa using c5 | (simp at c5 ⊢; omega)
      have H' := Aside0.mk H
      clear H
      go_wp2
      go_meet
      case rel => exact ⟨_, (false), (by first | rfl | (simp; done) | (simp [*]; done)), H', ⟨by first | omega | exact Nat.le_refl _⟩, by repeat (first | exact Drawn0.refl _ | apply Drawn0.step)⟩
 case rest =>
  clear HC3
  try clear p2
  try clear c3
  try clear c4
  try clear c4b0
  try clear c4b1
  try clear c5
  try clear c5b0
  try clear c5b1
  try clear c5b2
  obtain ⟨kq, x5_2, rfl, HA, HJ2, ⟨mc2, rfl⟩⟩ := hcut
  cases kq with
  | zero => exact absurd HA.out (by simp [idiomref02_Cmp.j0])
  | succ kj2 =>
   have H := HA.out
   clear HA
   simp only [idiomref02_Cmp.j0] at H
   by_cases c6 : x5_2 = true
   · subst c6
     have H1 : (some (-1)) = some r := by rw [if_pos rfl] at H; exact H
     clear H
     have H := H1
     clear H1
     obtain rfl := Option.some.inj H
     go_wp2
     go_ret
     exact ⟨by first | rfl | (simp; done) | (simp [*]; done), by repeat (first | exact Drawn0.refl _ | apply Drawn0.step)⟩
   · replace c6 := Bool.eq_false_iff.mpr c6
     subst c6
     have H1 : (if a0.toList = a1.toList then (some 0) else (some 1)) = some r := by rw [if_neg (show ¬ (false = true) by decide)] at H; exact H
     clear H
     have H := H1
     clear H1
     by_cases c7 : a0.toList = a1.toList
     · rw [if_pos c7] at H
       have c7b0 : (a0.toList == a1.toList) = true := beq_iff_eq.mpr c7
       have c7b1 : (a0.toList != a1.toList) = false := bne_eq_false_iff_eq.mpr c7
       clear c7
       obtain rfl := Option.some.inj H
       go_wp2
       go_ret
       exact ⟨by first | rfl | (simp; done) | (simp [*]; done), by repeat (first | exact Drawn0.refl _ | apply Drawn0.step)⟩
     · rw [if_neg c7] at H
       have c7b0 : (a0.toList == a1.toList) = false := beq_eq_false_iff_ne.mpr c7
       have c7b1 : (a0.toList != a1.toList) = true := bne_iff_ne.mpr c7
       obtain rfl := Option.some.inj H
       go_wp2
       go_ret
       exact ⟨by first | rfl | (simp; done) | (simp [*]; done), by repeat (first | exact Drawn0.refl _ | apply Drawn0.step)⟩

end Go.Proofs.YtpmhebdaphjinaaDoor.F
namespace Go.Proofs.YtpmhebdaphjinaaDoor.F
open Go.RowKit Go.Proofs.YtpmhebdaphjinaaDoorW.PrintWords Go.Proofs.YtpmhebdaphjinaaDoorW.PrintLast Go.Proofs.YtpmhebdaphjinaaDoorW.PrintMore Go.Proofs.YtpmhebdaphjinaaDoor.Q
attribute [local go_sem] max2_int min2_int max_two min_two max_three min_three max_four min_four   -- for this text's walks alone
set_option linter.unusedVariables false
set_option linter.unusedSimpArgs false

def idiomref02_Lead.l0 : Nat → ByteArray → Option (ByteArray)
 | 0, _ => none
 | k + 1, x0 => if (x0.size : Int) > 1 then (if 0 < (x0.size : Int) then (if (bt x0 0) = 48 then (if 1 ≤ (x0.size : Int) then (idiomref02_Lead.l0 k (x0.extract 1 x0.size)) else (none)) else (if x0.toList = ([] : List UInt8) then (some (⟨#[48]⟩ : ByteArray)) else (some x0))) else (none)) else (if x0.toList = ([] : List UInt8) then (some (⟨#[48]⟩ : ByteArray)) else (some x0))
def idiomref02_Lead.f (k : Nat) (a0 : ByteArray) : Option (ByteArray) := idiomref02_Lead.l0 k a0
theorem idiomref02_Lead.mono_l : ∀ k, (∀ y0, LeO (idiomref02_Lead.l0 k y0) (idiomref02_Lead.l0 (k + 1) y0))
 | 0 => fun _ r h => by simp [idiomref02_Lead.l0] at h
 | k + 1 => by
  have ih0 := idiomref02_Lead.mono_l k
  · intro y0
    unfold idiomref02_Lead.l0
    repeat' first
    | (with_reducible exact ih0 _)
    | (with_reducible exact LeO.refl _)
    | (with_reducible exact LeO.none _)
    | (with_reducible refine LeO.ite ?_ ?_)
    | (with_reducible refine LeO.bind ?_ (fun _ => ?_))
    | exact ih0 _
    | exact LeO.none _
    | refine LeO.ite ?_ ?_
    | refine LeO.bind ?_ (fun _ => ?_)
theorem idiomref02_Lead.mono : ∀ a0 k, LeO (idiomref02_Lead.f k a0) (idiomref02_Lead.f (k + 1) a0) := by
 intro a0 k
 have ih0 := idiomref02_Lead.mono_l k
 unfold idiomref02_Lead.f
 repeat' first
  | (with_reducible exact ih0 _)
  | (with_reducible exact LeO.refl _)
  | (with_reducible exact LeO.none _)
  | (with_reducible refine LeO.ite ?_ ?_)
  | (with_reducible refine LeO.bind ?_ (fun _ => ?_))
  | exact ih0 _
  | exact LeO.none _
  | refine LeO.ite ?_ ?_
  | refine LeO.bind ?_ (fun _ => ?_)
set_option maxHeartbeats 8000000 in
set_option maxRecDepth 100000 in
theorem idiomref02_Lead.calls (k : Nat) (a0 : ByteArray) (r : ByteArray) (w : World) (h : idiomref02_Lead.f k a0 = some r) :
 Calls Tryd.prog 62 #[.string a0] w fun e w' => e = .returned (.string r) ∧ Drawn0 w w' := by
 have H : (idiomref02_Lead.l0 k a0) = some r := h
 clear h
 have H' := Aside0.mk H
 clear H
 go_enter Tryd.func62, Tryd.ntmps62
 go_wp2
 (try simp only [Act.put, List.setIfInBounds_toArray, List.set_cons_zero, List.set_cons_succ])
 go_loopg [0] k (fun kq v0 w' => ∃ (x0_1 : ByteArray), v0 = .string x0_1 ∧ Aside0 (idiomref02_Lead.l0 kq x0_1 = some r) ∧ Aside0 (kq ≤ k) ∧ Drawn0 w w')
 case atStart => exact ⟨(a0), (by first | rfl | (simp; done) | (simp [*]; done)), H', ⟨Nat.le_refl _⟩, by repeat (first | exact Drawn0.refl _ | apply Drawn0.step)⟩
 case round =>
  clear H'
  obtain ⟨x0_1, rfl, HA, HK1, ⟨m1, rfl⟩⟩ := hrel
  cases gk with
  | zero => exact absurd HA.out (by simp [idiomref02_Lead.l0])
  | succ k1 =>
   have H := HA.out
   clear HA
   simp only [idiomref02_Lead.l0] at H
   by_cases c2 : (x0_1.size : Int) > 1
   · rw [if_pos c2] at H
     have c2b0 : decide (1 < (x0_1.size : Int)) = true := decide_eq_true c2
     have c2b1 : decide (1 < x0_1.size) = true := decide_eq_true (by omega)
     clear c2
     by_cases c3 : 0 < (x0_1.size : Int)
     · rw [if_pos c3] at H
       have c3b0 : decide (0 < (x0_1.size : Int)) = true := decide_eq_true c3
       have c3b1 : decide (0 < x0_1.size) = true := decide_eq_true (by omega)
       clear c3
       by_cases c5 : (bt x0_1 0) = 48
       · rw [if_pos c5] at H
         have c5b0 : ((bt x0_1 0) == 48) = true := beq_iff_eq.mpr c5
         have c5b1 : ((bt x0_1 0) != 48) = false := bne_eq_false_iff_eq.mpr c5
         clear c5
         by_cases c6 : 1 ≤ (x0_1.size : Int)
         · rw [if_pos c6] at H
           have c6b0 := eq_true c6
           have c6b1 : decide (1 ≤ (x0_1.size : Int)) = true := decide_eq_true c6
           clear c6
           have H' := Aside0.mk H
           clear H
           have p4 : 0 ≤ (0 : Int) := (by omega)
           have q4 : 0 < x0_1.size := (by have : (0 : Int) < (x0_1.size : Int) := of_decide_eq_true qa; omega)
           have hx4 : ∀ h : 0 < x0_1.size, ((x0_1[0]'h).toNat : Int) = bt x0_1 0 := bt_at x0_1 0
           clear p4
           have qi4 : (0 < (x0_1.size : Int)) = True := eq_true (of_decide_eq_true qa)
           replace q4 := eq_true q4
           go_wp2
           go_roundg k1
           case measure => have := HK1.out; omega
           case rel => exact ⟨(x0_1.extract 1 x0_1.size), (by first | rfl | (simp; done) | (simp [*]; done)), H', ⟨by have := HK1.out; omega⟩, by repeat (first | exact Drawn0.refl _ | apply Drawn0.step)⟩
         · rw [if_neg c6] at H
           exact absurd H (by simp)
       · rw [if_neg c5] at H
         have c5b0 : ((bt x0_1 0) == 48) = false := beq_eq_false_iff_ne.mpr c5
         have c5b1 : ((bt x0_1 0) != 48) = true := bne_iff_ne.mpr c5
         by_cases c7 : x0_1.toList = ([] : List UInt8)
         · rw [if_pos c7] at H
           have c7b0 : (x0_1.toList == ([] : List UInt8)) = true := beq_iff_eq.mpr c7
           try have c7b0z := Aid.empty_of c7b0
           have c7b1 : (x0_1.toList != ([] : List UInt8)) = false := bne_eq_false_iff_eq.mpr c7
           clear c7
           obtain rfl := Option.some.inj H
           have p4 : 0 ≤ (0 : Int) := (by omega)
           have q4 : 0 < x0_1.size := (by have : (0 : Int) < (x0_1.size : Int) := of_decide_eq_true qa; omega)
           have hx4 : ∀ h : 0 < x0_1.size, ((x0_1[0]'h).toNat : Int) = bt x0_1 0 := bt_at x0_1 0
           clear p4
           have qi4 : (0 < (x0_1.size : Int)) = True := eq_true (of_decide_eq_true qa)
           replace q4 := eq_true q4
           go_wp2
           go_ret
           exact ⟨by first | rfl | (simp; done) | (simp [*]; done), by repeat (first | exact Drawn0.refl _ | apply Drawn0.step)⟩
         · rw [if_neg c7] at H
           have c7b0 : (x0_1.toList == ([] : List UInt8)) = false := beq_eq_false_iff_ne.mpr c7
           try have c7b0z := Aid.empty_of c7b0
           have c7b1 : (x0_1.toList != ([] : List UInt8)) = true := bne_iff_ne.mpr c7
           obtain rfl := Option.some.inj H
           have p4 : 0 ≤ (0 : Int) := (by omega)
           have q4 : 0 < x0_1.size := (by have : (0 : Int) < (x0_1.size : Int) := of_decide_eq_true qa; omega)
           have hx4 : ∀ h : 0 < x0_1.size, ((x0_1[0]'h).toNat : Int) = bt x0_1 0 := bt_at x0_1 0
           clear p4
           have qi4 : (0 < (x0_1.size : Int)) = True := eq_true (of_decide_eq_true qa)
           replace q4 := eq_true q4
           go_wp2
           go_ret
           exact ⟨by first | rfl | (simp; done) | (simp [*]; done), by repeat (first | exact Drawn0.refl _ | apply Drawn0.step)⟩
     · rw [if_neg c3] at H
       exact absurd H (by simp)
   · rw [if_neg c2] at H
     have c2b0 : decide (1 < (x0_1.size : Int)) = false := decide_eq_false c2
     have c2b1 : decide (1 < x0_1.size) = false := decide_eq_false (by omega)
     clear c2
     by_cases c8 : x0_1.toList = ([] : List UInt8)
     · rw [if_pos c8] at H
       have c8b0 : (x0_1.toList == ([] : List UInt8)) = true := beq_iff_eq.mpr c8
       try have c8b0z := Aid.empty_of c8b0
       have c8b1 : (x0_1.toList != ([] : List UInt8)) = false := bne_eq_false_iff_eq.mpr c8
       clear c8
       obtain rfl := Option.some.inj H
       go_wp2
       go_ret
       exact ⟨by first | rfl | (simp; done) | (simp [*]; done), by repeat (first | exact Drawn0.refl _ | apply Drawn0.step)⟩
     · rw [if_neg c8] at H
       have c8b0 : (x0_1.toList == ([] : List UInt8)) = false := beq_eq_false_iff_ne.mpr c8
       try have c8b0z := Aid.empty_of c8b0
       have c8b1 : (x0_1.toList != ([] : List UInt8)) = true := bne_iff_ne.mpr c8
       obtain rfl := Option.some.inj H
       go_wp2
       go_ret
       exact ⟨by first | rfl | (simp; done) | (simp [*]; done), by repeat (first | exact Drawn0.refl _ | apply Drawn0.step)⟩

def idiomref02_Zeros.l0 : Nat → Int → List Int → Int → Option (ByteArray)
 | 0, _, _, _ => none
 | k + 1, x0, x3, x4 => if x4 < x0 then (if 0 ≤ x4 then (if x4 < (x3.length : Int) then (idiomref02_Zeros.l0 k x0 (x3.set (x4 : Int).toNat 48) (wrap64 (x4 + 1))) else (none)) else (none)) else (some (strOfNums x3))
def idiomref02_Zeros.f (k : Nat) (a0 : Int) : Option (ByteArray) := if 0 ≤ a0 then (if (a0 : Int).toNat ≤ 281474976710656 then (idiomref02_Zeros.l0 k a0 (List.replicate (a0 : Int).toNat 0) 0) else (none)) else (none)
theorem idiomref02_Zeros.mono_l : ∀ k, (∀ y0 y1 y2, LeO (idiomref02_Zeros.l0 k y0 y1 y2) (idiomref02_Zeros.l0 (k + 1) y0 y1 y2))
 | 0 => fun _ _ _ r h => by simp [idiomref02_Zeros.l0] at h
 | k + 1 => by
  have ih0 := idiomref02_Zeros.mono_l k
  · intro y0 y1 y2
    unfold idiomref02_Zeros.l0
    repeat' first
    | (with_reducible exact ih0 _ _ _)
    | (with_reducible exact LeO.refl _)
    | (with_reducible exact LeO.none _)
    | (with_reducible refine LeO.ite ?_ ?_)
    | (with_reducible refine LeO.bind ?_ (fun _ => ?_))
    | exact ih0 _ _ _
    | exact LeO.none _
    | refine LeO.ite ?_ ?_
    | refine LeO.bind ?_ (fun _ => ?_)
theorem idiomref02_Zeros.mono : ∀ a0 k, LeO (idiomref02_Zeros.f k a0) (idiomref02_Zeros.f (k + 1) a0) := by
 intro a0 k
 have ih0 := idiomref02_Zeros.mono_l k
 unfold idiomref02_Zeros.f
 repeat' first
  | (with_reducible exact ih0 _ _ _)
  | (with_reducible exact LeO.refl _)
  | (with_reducible exact LeO.none _)
  | (with_reducible refine LeO.ite ?_ ?_)
  | (with_reducible refine LeO.bind ?_ (fun _ => ?_))
  | exact ih0 _ _ _
  | exact LeO.none _
  | refine LeO.ite ?_ ?_
  | refine LeO.bind ?_ (fun _ => ?_)
set_option maxHeartbeats 8000000 in
set_option maxRecDepth 100000 in
theorem idiomref02_Zeros.calls (k : Nat) (a0 : Int) (r : ByteArray) (w : World) (h : idiomref02_Zeros.f k a0 = some r) :
 Calls Tryd.prog 63 #[.int .i64 a0] w fun e w' => e = .returned (.string r) ∧ Below w.heap.size w w' := by
 have HB := Aside0.mk (Below.refl w.heap.size w)
 have H : (if 0 ≤ a0 then (if (a0 : Int).toNat ≤ 281474976710656 then (idiomref02_Zeros.l0 k a0 (List.replicate (a0 : Int).toNat 0) 0) else (none)) else (none)) = some r := h
 clear h
 by_cases c2 : 0 ≤ a0
 · rw [if_pos c2] at H
   have c2b0 := eq_true c2
   have c2b1 : decide (0 ≤ a0) = true := decide_eq_true c2
   clear c2
   by_cases c3 : (a0 : Int).toNat ≤ 281474976710656
   · rw [if_pos c3] at H
     have c3b0 := eq_true c3
     have c3b1 : decide ((a0 : Int).toNat ≤ 281474976710656) = true := decide_eq_true c3
     clear c3
     obtain ⟨y219, hy219⟩ : ∃ y_ : List Int, y_ = (List.replicate (a0 : Int).toNat 0) := ⟨_, rfl⟩
     replace H : (idiomref02_Zeros.l0 k a0 y219 0) = some r := by first | (rw [hy219]; with_reducible exact H) | (have H2_ := (Option.bind_some _ _).symm.trans H; rw [hy219]; with_reducible exact H2_) | (have H2_ := (Option.bind_some _ _).symm.trans H; with_reducible exact H2_) | with_reducible exact H | (rw [hy219]; exact H) | exact H
     have Ny219 := Aside0.mk hy219
     clear hy219
     have H' := Aside0.mk H
     clear H
     go_enter Tryd.func63, Tryd.ntmps63
     go_wp2_with (first | ((with_reducible refine gate_dst (N := 6) rfl ?_); refine Kd.R_make (Kd.int .u8) _ 5 rfl (N := 6) rfl 69 _ _ rfl a0 rfl rfl Tryd.underlying69 (.int .u8 0) 1 info5 rfl (by decide) (by omega) 0 (ok := fun _ => True) (okp := fun _ => True) rfl (fun _ hk => hk) trivial (of_decide_eq_true qa) (Nat.le_trans (Nat.mul_le_mul_right _ (of_decide_eq_true qa : a0.toNat ≤ 281474976710656)) (by omega)) (Below.refl _ _) (Nat.le_refl _) ?_; intro v220 w4 ho5 hb hg_ hnew_; clear hg_ hnew_; (first | rw [← Ny219.out] at ho5 | (simp only [Int.reduceToNat] at ho5; rw [← Ny219.out] at ho5)); have HO221 := Aside0.mk (Kd.R_lower ho5 (below_size (qh HB))); replace HB := qn HB hb; clear hb ho5))
     (try simp only [Act.put, List.setIfInBounds_toArray, List.set_cons_zero, List.set_cons_succ])
     go_loopg [4] k (fun kq v4 w' => ∃ (x3_1 : List Int) (x4_1 : Int), v4 = .int .i64 x4_1 ∧ Aside0 (idiomref02_Zeros.l0 kq a0 x3_1 x4_1 = some r) ∧ Aside0 (kq ≤ k) ∧ Aside0 (Kd.R (Kd.int .u8) 5 w' w.heap.size (fun _ => True) v220 x3_1) ∧ Aside0 (Below w.heap.size w w'))
     case atStart => exact ⟨(y219), (0), (by first | rfl | (simp; done) | (simp [*]; done)), H', ⟨Nat.le_refl _⟩, ⟨by (with_reducible repeat (first | apply Kd.R_alloc | apply Kd.R_drewN | apply Kd.R_drew)); exact HO221.out⟩, ⟨qh HB⟩⟩
     case round =>
      clear H'
      try clear c2
      try clear c2b0
      try clear c2b1
      try clear p2
      try clear c3
      try clear c3b0
      try clear c3b1
      obtain ⟨x3_1, x4_1, rfl, HA, HK1, HO_3, HB⟩ := hrel
      cases gk with
      | zero => exact absurd HA.out (by simp [idiomref02_Zeros.l0])
      | succ k1 =>
       have H := HA.out
       clear HA
       simp only [idiomref02_Zeros.l0] at H
       by_cases c6 : x4_1 < a0
       · rw [if_pos c6] at H
         have c6b0 : decide (x4_1 < a0) = true := decide_eq_true c6
         clear c6
         by_cases c7 : 0 ≤ x4_1
         · rw [if_pos c7] at H
           have c7b0 : decide (0 ≤ x4_1) = true := decide_eq_true c7
           clear c7
           by_cases c8 : x4_1 < (x3_1.length : Int)
           · rw [if_pos c8] at H
             have c8b0 : decide (x4_1 < (x3_1.length : Int)) = true := decide_eq_true c8
             clear c8
             obtain ⟨y222, hy222⟩ : ∃ y_ : List Int, y_ = (x3_1.set (x4_1 : Int).toNat 48) := ⟨_, rfl⟩
             replace H : (idiomref02_Zeros.l0 k1 a0 y222 (wrap64 (x4_1 + 1))) = some r := by first | (rw [hy222]; with_reducible exact H) | (have H2_ := (Option.bind_some _ _).symm.trans H; rw [hy222]; with_reducible exact H2_) | (have H2_ := (Option.bind_some _ _).symm.trans H; with_reducible exact H2_) | with_reducible exact H | (rw [hy222]; exact H) | exact H
             have Ny222 := Aside0.mk hy222
             clear hy222
             have H' := Aside0.mk H
             clear H
             have p9 : 0 ≤ (x4_1 : Int) := of_decide_eq_true qa
             have q9 : (x4_1 : Int) < ((x3_1.length : Int) : Int) := of_decide_eq_true qa
             obtain ⟨go9, co9, eo9, gb9, gl9, cl9, HG9⟩ := Kd.R_form HO_3.out (by omega)
             (first | cases eo9 | (injection eo9 with ea_ en_ ec_; (first | subst ea_ | (injection ea_ with ea_; subst ea_)); subst ec_; clear en_))
             have GB9 := Aside0.mk gb9
             have GG9 := Aside0.mk HG9
             clear gb9 gl9 HG9
             obtain ⟨hx9_0, hf9_0⟩ := Kd.R_celln 0 HO_3.out (x4_1 : Int) p9 q9
             replace p9 := eq_true p9
             replace q9 := eq_true q9
             have HP10 := Kd.R_putg HO_3.out (x4_1 : Int) 48
             go_wp2_with (first | ((with_reducible refine gate_store (t := 5) (p := 14) rfl ?_); refine store_event (t := 5) (p := 14) (v := ?vo_w11) (w1 := (wr.setCell ⟨go9, (x4_1 : Int).toNat, none⟩ (.int .u8 48))) ?hg ?ho ?hn ?hr ?_; (case ho => rfl); (case hg => rfl); (case hn => rfl); (case hr => first | (go_simp; done) | (go_simp; rfl)); intro w11 hw; have hg : wr.grownBy w11 (some go9) := (by rw [hw]; exact HP10.2); have hp_ : Kd.R (Kd.int .u8) 5 w11 w.heap.size (fun _ => True) (.slice (some ⟨go9, 0, none⟩) x3_1.length co9) y222 := (by rw [hw, Ny222.out]; exact HP10.1); clear HP10; replace HO_3 := Aside0.mk (hp_); replace HB := Aside0.mk ((by rw [hw]; exact below_set (HB.out) GB9.out : Below w.heap.size w w11)); clear hg hw hp_))
             go_roundg k1
             case measure => have := HK1.out; omega
             case rel => exact ⟨(y222), (wrap64 (x4_1 + 1)), (by first | rfl | (simp; done) | (simp [*]; done)), H', ⟨by have := HK1.out; omega⟩, ⟨by (with_reducible repeat (first | apply Kd.R_alloc | apply Kd.R_drewN | apply Kd.R_drew)); first | exact HO_3.out | (rw [Ny222.out]; exact Aid.R_set_drew HP10.1)⟩, ⟨by repeat (first | (with_reducible first | exact HB.out | apply below_alloc | apply pw_below_drewN | apply below_drew1) | refine below_set ?_ GB9.out | exact HB.out)⟩⟩
           · rw [if_neg c8] at H
             exact absurd H (by simp)
         · rw [if_neg c7] at H
           exact absurd H (by simp)
       · rw [if_neg c6] at H
         have c6b0 : decide (x4_1 < a0) = false := decide_eq_false c6
         clear c6
         obtain rfl := Option.some.inj H
         have hcv12 := own_string (P := Tryd.prog) Tryd.underlying69 Tryd.underlying5 Tryd.underlying9 (Kd.own_of_R HO_3.out)
         go_wp2
         go_ret
         exact ⟨qe, qh HB⟩
   · rw [if_neg c3] at H
     exact absurd H (by simp)
 · rw [if_neg c2] at H
   exact absurd H (by simp)

end Go.Proofs.YtpmhebdaphjinaaDoor.F
namespace Go.Proofs.YtpmhebdaphjinaaDoor.F
open Go.RowKit Go.Proofs.YtpmhebdaphjinaaDoorW.PrintWords Go.Proofs.YtpmhebdaphjinaaDoorW.PrintLast Go.Proofs.YtpmhebdaphjinaaDoorW.PrintMore Go.Proofs.YtpmhebdaphjinaaDoor.Q
attribute [local go_sem] max2_int min2_int max_two min_two max_three min_three max_four min_four   -- for this text's walks alone
set_option linter.unusedVariables false
set_option linter.unusedSimpArgs false

def idiomref02_raised.f (k : Nat) (a0_0 : Bool) (a0_1 : ByteArray) (a0_2 : ByteArray) (a1 : Int) : Option (ByteArray) := if a0_1.size + a0_2.size ≤ 9223372036854775807 then ((idiomref02_Zeros.f k (wrap64 (a1 - (a0_2.size : Int)))).bind fun t224 => (if (a0_1 ++ a0_2).size + t224.size ≤ 9223372036854775807 then ((idiomref02_Lead.f k ((a0_1 ++ a0_2) ++ t224)).bind fun t225 => (some t225)) else (none))) else (none)
theorem idiomref02_raised.mono : ∀ a0 a1 a2 a3 k, LeO (idiomref02_raised.f k a0 a1 a2 a3) (idiomref02_raised.f (k + 1) a0 a1 a2 a3) := by
 intro a0 a1 a2 a3 k
 unfold idiomref02_raised.f
 repeat' first
  | (with_reducible exact idiomref02_Lead.mono _ _)
  | (with_reducible exact idiomref02_Zeros.mono _ _)
  | (with_reducible exact LeO.refl _)
  | (with_reducible exact LeO.none _)
  | (with_reducible refine LeO.ite ?_ ?_)
  | (with_reducible refine LeO.bind ?_ (fun _ => ?_))
  | exact idiomref02_Lead.mono _ _
  | exact idiomref02_Zeros.mono _ _
  | exact LeO.none _
  | refine LeO.ite ?_ ?_
  | refine LeO.bind ?_ (fun _ => ?_)
def idiomref02_raised.T1 : Bool × List (List Nat × List Nat) := (true, [([], []), ([0], [0]), ([], []), ([2], [2]), ([1, 3], [1, 3]), ([], []), ([], []), ([6], [6]), ([7], [7]), ([5, 8], [5, 8]), ([9], [9]), ([4, 10], [4, 10]), ([11, 10], [11]), ([12, 12, 0, 1, 2, 3, 4, 5, 6, 7, 8, 9, 10, 11, 12], [12])])
def idiomref02_raised.B1 : List Nat := [0, 1, 0, 4, 15, 0, 0, 64, 192, 480, 992, 2047, 4095, 8191]
theorem idiomref02_raised.tab1 : rtab .any (opsOf Tryd.f34 1) = idiomref02_raised.T1 := by kernel_rfl
theorem idiomref02_raised.bits1 : waitsOk idiomref02_raised.T1.2 idiomref02_raised.B1 = true := by kernel_rfl
set_option maxHeartbeats 8000000 in
set_option maxRecDepth 100000 in
theorem idiomref02_raised.calls (k : Nat) (a0_0 : Bool) (a0_1 : ByteArray) (a0_2 : ByteArray) (a1 : Int) (r : ByteArray) (w : World) (h : idiomref02_raised.f k a0_0 a0_1 a0_2 a1 = some r) :
 Calls Tryd.prog 34 #[.agg #[.bool a0_0, .string a0_1, .string a0_2], .int .i64 a1] w fun e w' => e = .returned (.string r) ∧ Below w.heap.size w w' := by
 have hu23 := Tryd.underlying23
 have HB := Aside0.mk (Below.refl w.heap.size w)
 have H : (if a0_1.size + a0_2.size ≤ 9223372036854775807 then ((idiomref02_Zeros.f k (wrap64 (a1 - (a0_2.size : Int)))).bind fun t224 => (if (a0_1 ++ a0_2).size + t224.size ≤ 9223372036854775807 then ((idiomref02_Lead.f k ((a0_1 ++ a0_2) ++ t224)).bind fun t225 => (some t225)) else (none))) else (none)) = some r := h
 clear h
 by_cases c3 : a0_1.size + a0_2.size ≤ 9223372036854775807
 · rw [if_pos c3] at H
   have c3b0 := eq_true c3
   have c3b1 : decide (a0_1.size + a0_2.size ≤ 9223372036854775807) = true := decide_eq_true c3
   try have c3b2 : (9223372036854775807 < a0_1.size + a0_2.size) = False := eq_false (Nat.not_lt.2 c3)
   replace H := Option.bind_eq_some_iff.mp H
   obtain ⟨t224, A40, H⟩ := H
   replace H : (if (a0_1 ++ a0_2).size + t224.size ≤ 9223372036854775807 then ((idiomref02_Lead.f k ((a0_1 ++ a0_2) ++ t224)).bind fun t225 => (some t225)) else (none)) = some r := H
   have A4 := Aside0.mk A40
   clear A40
   by_cases c5 : (a0_1 ++ a0_2).size + t224.size ≤ 9223372036854775807
   · rw [if_pos c5] at H
     have c5b0 := eq_true c5
     try have c5b0z := c5b0
     (try simp only [go_sem, ByteArray.size_extract, ByteArray.size_append, Nat.min_self, Int.natCast_add] at c5b0z)
     have c5b1 : decide ((a0_1 ++ a0_2).size + t224.size ≤ 9223372036854775807) = true := decide_eq_true c5
     try have c5b1z := c5b1
     (try simp only [go_sem, ByteArray.size_extract, ByteArray.size_append, Nat.min_self, Int.natCast_add] at c5b1z)
     try have c5b2 : (9223372036854775807 < (a0_1 ++ a0_2).size + t224.size) = False := eq_false (Nat.not_lt.2 c5)
     try have c5b2z := c5b2
     (try simp only [go_sem, ByteArray.size_extract, ByteArray.size_append, Nat.min_self, Int.natCast_add] at c5b2z)
     replace H := Option.bind_eq_some_iff.mp H
     obtain ⟨t225, A60, H⟩ := H
     replace H : (some t225) = some r := H
     have A6 := Aside0.mk A60
     clear A60
     obtain rfl := Option.some.inj H
     go_enter Tryd.func34, Tryd.ntmps34
     try go_wp2_with (first | ((with_reducible refine gate_dst (N := 2) rfl ?_); refine qx 2 #[.bool a0_0, .string a0_1, .string a0_2] 23 ?_; intro gb223 hg w7 hbox hb; have BK223 := Aside0.mk (hbox); have GW223 := qs hg HB; have GE223 := GW223; replace HB := qn HB hb; clear hb hbox hg))
     replace BK223 := Aside0.mk (blk_drew BK223.out)
     replace HB := Aside0.mk (below_drew1 HB.out)
     refine start_ (n := 14) (S := fun w' => w'.cell? ⟨gb223, 0, none⟩ = some (.bool a0_0) ∧ w'.cell? ⟨gb223, 1, none⟩ = some (.string a0_1) ∧ w'.cell? ⟨gb223, 2, none⟩ = some (.string a0_2)) (ds := []) #[false, false, false, false, false, false, false, false, false, false, false, false, false, false] (by kernel_rfl) rfl rfl ⟨c_ BK223 0, c_ BK223 1, c_ BK223 2⟩ (fun hHeld => ?_); refine with_tabW idiomref02_raised.tab1 idiomref02_raised.bits1 (fun HT_ HW_ => ?_)
     generalize w7.drew = w8 at BK223 HB hHeld ⊢
     refine pz 0 (some 5) #[true, false, false, false, false, false, false, false, false, false, false, false, false, false] HT_ ?_
     refine pz 2 (some 7) #[true, false, true, false, false, false, false, false, false, false, false, false, false, false] HT_ ?_
     refine pz 5 (some 10) #[true, false, true, false, false, true, false, false, false, false, false, false, false, false] HT_ ?_
     refine pz 6 (some 11) #[true, false, true, false, false, true, true, false, false, false, false, false, false, false] HT_ ?_
     refine tw3 1 (some 6) #[true, true, true, false, false, true, true, false, false, false, false, false, false, false] HT_ HW_ hHeld ?_
     refine tw3 3 (some 8) #[true, true, true, true, false, true, true, false, false, false, false, false, false, false] HT_ HW_ hHeld ?_
     refine pz 4 (some 9) #[true, true, true, true, true, true, true, false, false, false, false, false, false, false] HT_ ?_
     refine tw3 7 (some 12) #[true, true, true, true, true, true, true, true, false, false, false, false, false, false] HT_ HW_ hHeld ?_
     refine pz 8 (some 13) #[true, true, true, true, true, true, true, true, true, false, false, false, false, false] HT_ ?_
     refine pz 9 (some 14) #[true, true, true, true, true, true, true, true, true, true, false, false, false, false] HT_ ?_
     refine one_ (i := 10) (N := some 15) #[true, true, true, true, true, true, true, true, true, true, true, false, false, false] rfl rfl (one_of HT_.out (by kernel_rfl)) (by decide) (fun K hK => ?_)
     refine goes_ Tryd.func63 (by kernel_rfl) rfl #[.int .i64 (wrap64 (a1 - (a0_2.size : Int)))] (by rfl) rfl rfl ql ?_
     with_reducible refine (idiomref02_Zeros.calls k (wrap64 (a1 - (a0_2.size : Int))) t224 _ A4.out).mono ?_
     rintro e w9 ⟨rfl, hb⟩
     refine ⟨_, rfl, ?_⟩
     replace BK223 := qb BK223 hb
     replace HB := qn HB hb
     (try clear hb)
     (try clear hb2)
     (try clear hk)
     (try clear hi)
     refine hK.out _ _ ⟨c_ BK223 0, c_ BK223 1, c_ BK223 2⟩ (fun hHeld => ?_)
     clear hK K
     refine nz (some 15) ?_
     refine pz 11 (some 16) #[true, true, true, true, true, true, true, true, true, true, true, true, false, false] HT_ ?_
     refine one_ (i := 12) (N := some 17) #[true, true, true, true, true, true, true, true, true, true, true, true, true, false] rfl rfl (one_of HT_.out (by kernel_rfl)) (by decide) (fun K hK => ?_)
     refine goes_ Tryd.func62 (by kernel_rfl) rfl #[.string ((a0_1 ++ a0_2) ++ t224)] (by rfl) rfl rfl ql ?_
     with_reducible refine (idiomref02_Lead.calls k ((a0_1 ++ a0_2) ++ t224) t225 _ A6.out).mono ?_
     rintro e w' ⟨rfl, ⟨nd, rfl⟩⟩
     refine ⟨_, rfl, ?_⟩
     refine hK.out _ _ ⟨c_ BK223 0, c_ BK223 1, c_ BK223 2⟩ (fun hHeld => ?_)
     clear hK K
     refine nz (some 17) ?_
     refine pz 13 (some 4) #[true, true, true, true, true, true, true, true, true, true, true, true, true, true] HT_ ?_
     refine done_ (done_of HT_.out (by kernel_rfl)) ?_
     try go_wp2
     go_ret
     exact ⟨qe, qh HB⟩
   · rw [if_neg c5] at H
     exact absurd H (by simp)
 · rw [if_neg c3] at H
   exact absurd H (by simp)

end Go.Proofs.YtpmhebdaphjinaaDoor.F
namespace Go.Proofs.YtpmhebdaphjinaaDoor.F
open Go.RowKit Go.Proofs.YtpmhebdaphjinaaDoorW.PrintWords Go.Proofs.YtpmhebdaphjinaaDoorW.PrintLast Go.Proofs.YtpmhebdaphjinaaDoorW.PrintMore Go.Proofs.YtpmhebdaphjinaaDoor.Q
attribute [local go_sem] max2_int min2_int max_two min_two max_three min_three max_four min_four   -- for this text's walks alone
set_option linter.unusedVariables false
set_option linter.unusedSimpArgs false

def idiomlaw03_worth.f (a0_0 : Bool) (a0_1 : ByteArray) (a0_2 : ByteArray) : Option (Bool × ByteArray × ByteArray) := some (false, a0_1, a0_2)
set_option maxHeartbeats 8000000 in
set_option maxRecDepth 100000 in
theorem idiomlaw03_worth.calls (a0_0 : Bool) (a0_1 : ByteArray) (a0_2 : ByteArray) (r1 : Bool) (r2 : ByteArray) (r3 : ByteArray) (w : World) (h : idiomlaw03_worth.f a0_0 a0_1 a0_2 = some (r1, r2, r3)) :
 Calls Tryd.prog 14 #[.agg #[.bool a0_0, .string a0_1, .string a0_2]] w fun e w' => e = .returned (.agg #[.bool r1, .string r2, .string r3]) ∧ Below w.heap.size w w' := by
 have hu23 := Tryd.underlying23
 have HB := Aside0.mk (Below.refl w.heap.size w)
 have H : (some (false, a0_1, a0_2)) = some (r1, r2, r3) := h
 clear h
 simp only [Option.some.injEq, Prod.mk.injEq] at H
 obtain ⟨rfl, rfl, rfl⟩ := H
 go_enter Tryd.func14, Tryd.ntmps14
 go_wp2_with (first | ((with_reducible refine gate_dst (N := 1) rfl ?_); refine qx 1 #[.bool a0_0, .string a0_1, .string a0_2] 23 ?_; intro gb284 hg w2 hbox hb; have BK284 := Aside0.mk (hbox); have GW284 := qs hg HB; have GE284 := GW284; replace HB := qn HB hb; clear hb hbox hg) | ((with_reducible refine gate_dst (N := 2) rfl ?_); refine qx 2 #[.bool false, .string (⟨#[]⟩ : ByteArray), .string (⟨#[]⟩ : ByteArray)] 23 ?_; intro gb285 hg w3 hbox hb; have BK285 := Aside0.mk (hbox); have GW285 := qs hg HB; have GE285 := GW285; have NB284_285 := ql_ hg BK284; have NB285_284 := qg_ hg BK284; replace BK284 := qb BK284 hb; replace HB := qn HB hb; clear hb hbox hg; have hnb4 := NB284_285.out; have hnc4 := NB285_284.out; obtain ⟨hcz5_0, hcz5_1, hcz5_2, hfz5_0, hfz5_1, hfz5_2⟩ := q3 BK284; obtain ⟨hcz6_0, hcz6_1, hcz6_2, hfz6_0, hfz6_1, hfz6_2⟩ := q3 BK285))
 refine bodyPost_ret (results_cell_row rfl _ _ gb285 23 #[.bool false, .string a0_1, .string a0_2] (0, 0) _ rfl (by refine qp 2 #[.bool false, .string a0_1, .string (⟨#[]⟩ : ByteArray)] ?_; refine qp 1 #[.bool false, .string (⟨#[]⟩ : ByteArray), .string (⟨#[]⟩ : ByteArray)] ?_; refine qp 0 #[.bool false, .string (⟨#[]⟩ : ByteArray), .string (⟨#[]⟩ : ByteArray)] ?_; refine qf NB285_284 ?_; exact qk BK285) Tryd.underlying23 rfl (by kernel_rfl)) rfl ?_
 exact ⟨qe, qh HB⟩

end Go.Proofs.YtpmhebdaphjinaaDoor.F
namespace Go.Proofs.YtpmhebdaphjinaaDoor.F
open Go.RowKit Go.Proofs.YtpmhebdaphjinaaDoorW.PrintWords Go.Proofs.YtpmhebdaphjinaaDoorW.PrintLast Go.Proofs.YtpmhebdaphjinaaDoorW.PrintMore Go.Proofs.YtpmhebdaphjinaaDoor.Q
attribute [local go_sem] max2_int min2_int max_two min_two max_three min_three max_four min_four   -- for this text's walks alone
set_option linter.unusedVariables false
set_option linter.unusedSimpArgs false

def idiomref02_Compare.j0 : Nat → Int → Bool → Bool → ByteArray → ByteArray → Bool → ByteArray → ByteArray → Option (Int × Int)
 | 0, _, _, _, _, _, _, _, _ => none
 | k + 1, x8, x32, x287000, x287001, x287002, x288000, x288001, x288002 => if x32 = true then (some (wrap64 (-x8), 0)) else (if x287000 = true then (some ((-1), 0)) else (if x288000 = true then (some (1, 0)) else (some (x8, 0))))
def idiomref02_Compare.f (k : Nat) (a0_0 : Bool) (a0_1 : ByteArray) (a0_2 : ByteArray) (a1_0 : Bool) (a1_1 : ByteArray) (a1_2 : ByteArray) : Option (Int × Int) := (idiomref02_Check.f k a0_0 a0_1 a0_2).bind fun t288 => ((idiomref02_Check.f k a1_0 a1_1 a1_2).bind fun t289 => ((idiomref02_First.f k (([t288, t289] : List Int))).bind fun t293 => (if t293 = 0 then ((idiomref02_raised.f k a0_0 a0_1 a0_2 (mx (a0_2.size : Int) (a1_2.size : Int))).bind fun t294 => ((idiomref02_raised.f k a1_0 a1_1 a1_2 (mx (a0_2.size : Int) (a1_2.size : Int))).bind fun t295 => ((idiomref02_Cmp.f k t294 t295).bind fun t296 => (if a0_0 = true then (idiomref02_Compare.j0 k t296 a1_0 a0_0 a0_1 a0_2 a1_0 a1_1 a1_2) else (idiomref02_Compare.j0 k t296 false a0_0 a0_1 a0_2 a1_0 a1_1 a1_2))))) else (some (0, t293)))))
theorem idiomref02_Compare.mono_l : ∀ k, (∀ y0 y1 y2 y3 y4 y5 y6 y7, LeO (idiomref02_Compare.j0 k y0 y1 y2 y3 y4 y5 y6 y7) (idiomref02_Compare.j0 (k + 1) y0 y1 y2 y3 y4 y5 y6 y7))
 | 0 => fun _ _ _ _ _ _ _ _ r h => by simp [idiomref02_Compare.j0] at h
 | k + 1 => by
  have ih0 := idiomref02_Compare.mono_l k
  · intro y0 y1 y2 y3 y4 y5 y6 y7
    unfold idiomref02_Compare.j0
    repeat' first
    | (with_reducible exact ih0 _ _ _ _ _ _ _ _)
    | (with_reducible exact idiomref02_Check.mono _ _ _ _)
    | (with_reducible exact idiomref02_Cmp.mono _ _ _)
    | (with_reducible exact idiomref02_First.mono _ _)
    | (with_reducible exact idiomref02_raised.mono _ _ _ _ _)
    | (with_reducible exact LeO.refl _)
    | (with_reducible exact LeO.none _)
    | (with_reducible refine LeO.ite ?_ ?_)
    | (with_reducible refine LeO.bind ?_ (fun _ => ?_))
    | exact ih0 _ _ _ _ _ _ _ _
    | exact idiomref02_Check.mono _ _ _ _
    | exact idiomref02_Cmp.mono _ _ _
    | exact idiomref02_First.mono _ _
    | exact idiomref02_raised.mono _ _ _ _ _
    | exact LeO.none _
    | refine LeO.ite ?_ ?_
    | refine LeO.bind ?_ (fun _ => ?_)
theorem idiomref02_Compare.mono : ∀ a0 a1 a2 a3 a4 a5 k, LeO (idiomref02_Compare.f k a0 a1 a2 a3 a4 a5) (idiomref02_Compare.f (k + 1) a0 a1 a2 a3 a4 a5) := by
 intro a0 a1 a2 a3 a4 a5 k
 have ih0 := idiomref02_Compare.mono_l k
 unfold idiomref02_Compare.f
 repeat' first
  | (with_reducible exact ih0 _ _ _ _ _ _ _ _)
  | (with_reducible exact idiomref02_Check.mono _ _ _ _)
  | (with_reducible exact idiomref02_Cmp.mono _ _ _)
  | (with_reducible exact idiomref02_First.mono _ _)
  | (with_reducible exact idiomref02_raised.mono _ _ _ _ _)
  | (with_reducible exact LeO.refl _)
  | (with_reducible exact LeO.none _)
  | (with_reducible refine LeO.ite ?_ ?_)
  | (with_reducible refine LeO.bind ?_ (fun _ => ?_))
  | exact ih0 _ _ _ _ _ _ _ _
  | exact idiomref02_Check.mono _ _ _ _
  | exact idiomref02_Cmp.mono _ _ _
  | exact idiomref02_First.mono _ _
  | exact idiomref02_raised.mono _ _ _ _ _
  | exact LeO.none _
  | refine LeO.ite ?_ ?_
  | refine LeO.bind ?_ (fun _ => ?_)
def idiomref02_Compare.T5 : Bool × List (List Nat × List Nat) := (true, [([], []), ([], []), ([0, 1], [0, 1]), ([], []), ([], []), ([3, 4, 2], [3, 4]), ([2, 5, 5], [2, 5]), ([6, 6, 0, 1, 2, 3, 4, 5, 6], [6])])
def idiomref02_Compare.B5 : List Nat := [0, 0, 3, 0, 0, 31, 63, 127]
theorem idiomref02_Compare.tab5 : rtab .any (opsOf Tryd.f15 5) = idiomref02_Compare.T5 := by kernel_rfl
theorem idiomref02_Compare.bits5 : waitsOk idiomref02_Compare.T5.2 idiomref02_Compare.B5 = true := by kernel_rfl
set_option maxHeartbeats 8000000 in
set_option maxRecDepth 100000 in
theorem idiomref02_Compare.calls (k : Nat) (a0_0 : Bool) (a0_1 : ByteArray) (a0_2 : ByteArray) (a1_0 : Bool) (a1_1 : ByteArray) (a1_2 : ByteArray) (r1 : Int) (r2 : Int) (w : World) (h : idiomref02_Compare.f k a0_0 a0_1 a0_2 a1_0 a1_1 a1_2 = some (r1, r2)) :
 Calls Tryd.prog 15 #[.agg #[.bool a0_0, .string a0_1, .string a0_2], .agg #[.bool a1_0, .string a1_1, .string a1_2]] w fun e w' => e = .returned (.tuple #[.int .i64 r1, .int .i64 r2]) ∧ Below w.heap.size w w' := by
 have hu23 := Tryd.underlying23
 have HB := Aside0.mk (Below.refl w.heap.size w)
 have H : ((idiomref02_Check.f k a0_0 a0_1 a0_2).bind fun t288 => ((idiomref02_Check.f k a1_0 a1_1 a1_2).bind fun t289 => ((idiomref02_First.f k (([t288, t289] : List Int))).bind fun t293 => (if t293 = 0 then ((idiomref02_raised.f k a0_0 a0_1 a0_2 (mx (a0_2.size : Int) (a1_2.size : Int))).bind fun t294 => ((idiomref02_raised.f k a1_0 a1_1 a1_2 (mx (a0_2.size : Int) (a1_2.size : Int))).bind fun t295 => ((idiomref02_Cmp.f k t294 t295).bind fun t296 => (if a0_0 = true then (idiomref02_Compare.j0 k t296 a1_0 a0_0 a0_1 a0_2 a1_0 a1_1 a1_2) else (idiomref02_Compare.j0 k t296 false a0_0 a0_1 a0_2 a1_0 a1_1 a1_2))))) else (some (0, t293)))))) = some (r1, r2) := h
 clear h
 replace H := Option.bind_eq_some_iff.mp H
 obtain ⟨t288, A30, H⟩ := H
 replace H : ((idiomref02_Check.f k a1_0 a1_1 a1_2).bind fun t289 => ((idiomref02_First.f k (([t288, t289] : List Int))).bind fun t293 => (if t293 = 0 then ((idiomref02_raised.f k a0_0 a0_1 a0_2 (mx (a0_2.size : Int) (a1_2.size : Int))).bind fun t294 => ((idiomref02_raised.f k a1_0 a1_1 a1_2 (mx (a0_2.size : Int) (a1_2.size : Int))).bind fun t295 => ((idiomref02_Cmp.f k t294 t295).bind fun t296 => (if a0_0 = true then (idiomref02_Compare.j0 k t296 a1_0 a0_0 a0_1 a0_2 a1_0 a1_1 a1_2) else (idiomref02_Compare.j0 k t296 false a0_0 a0_1 a0_2 a1_0 a1_1 a1_2))))) else (some (0, t293))))) = some (r1, r2) := H
 have A3 := Aside0.mk A30
 clear A30
 replace H := Option.bind_eq_some_iff.mp H
 obtain ⟨t289, A40, H⟩ := H
 replace H : ((idiomref02_First.f k (([t288, t289] : List Int))).bind fun t293 => (if t293 = 0 then ((idiomref02_raised.f k a0_0 a0_1 a0_2 (mx (a0_2.size : Int) (a1_2.size : Int))).bind fun t294 => ((idiomref02_raised.f k a1_0 a1_1 a1_2 (mx (a0_2.size : Int) (a1_2.size : Int))).bind fun t295 => ((idiomref02_Cmp.f k t294 t295).bind fun t296 => (if a0_0 = true then (idiomref02_Compare.j0 k t296 a1_0 a0_0 a0_1 a0_2 a1_0 a1_1 a1_2) else (idiomref02_Compare.j0 k t296 false a0_0 a0_1 a0_2 a1_0 a1_1 a1_2))))) else (some (0, t293)))) = some (r1, r2) := H
 have A4 := Aside0.mk A40
 clear A40
 obtain ⟨y290, hy290⟩ : ∃ y_ : List Int, y_ = (([t288, t289] : List Int)) := ⟨_, rfl⟩
 replace H : ((idiomref02_First.f k y290).bind fun t293 => (if t293 = 0 then ((idiomref02_raised.f k a0_0 a0_1 a0_2 (mx (a0_2.size : Int) (a1_2.size : Int))).bind fun t294 => ((idiomref02_raised.f k a1_0 a1_1 a1_2 (mx (a0_2.size : Int) (a1_2.size : Int))).bind fun t295 => ((idiomref02_Cmp.f k t294 t295).bind fun t296 => (if a0_0 = true then (idiomref02_Compare.j0 k t296 a1_0 a0_0 a0_1 a0_2 a1_0 a1_1 a1_2) else (idiomref02_Compare.j0 k t296 false a0_0 a0_1 a0_2 a1_0 a1_1 a1_2))))) else (some (0, t293)))) = some (r1, r2) := by first | (rw [hy290]; with_reducible exact H) | (have H2_ := (Option.bind_some _ _).symm.trans H; rw [hy290]; with_reducible exact H2_) | (have H2_ := (Option.bind_some _ _).symm.trans H; with_reducible exact H2_) | with_reducible exact H | (rw [hy290]; exact H) | exact H
 have Ny290 := Aside0.mk hy290
 clear hy290
 replace H := Option.bind_eq_some_iff.mp H
 obtain ⟨t293, A50, H⟩ := H
 replace H : (if t293 = 0 then ((idiomref02_raised.f k a0_0 a0_1 a0_2 (mx (a0_2.size : Int) (a1_2.size : Int))).bind fun t294 => ((idiomref02_raised.f k a1_0 a1_1 a1_2 (mx (a0_2.size : Int) (a1_2.size : Int))).bind fun t295 => ((idiomref02_Cmp.f k t294 t295).bind fun t296 => (if a0_0 = true then (idiomref02_Compare.j0 k t296 a1_0 a0_0 a0_1 a0_2 a1_0 a1_1 a1_2) else (idiomref02_Compare.j0 k t296 false a0_0 a0_1 a0_2 a1_0 a1_1 a1_2))))) else (some (0, t293))) = some (r1, r2) := H
 have A5 := Aside0.mk A50
 clear A50
 by_cases c6 : t293 = 0
 · rw [if_pos c6] at H
   have c6b0 : (t293 == 0) = true := beq_iff_eq.mpr c6
   have c6b1 : (t293 != 0) = false := bne_eq_false_iff_eq.mpr c6
   try have c6b1z := c6b1
   (try simp only [bne] at c6b1z)
   clear c6
   obtain ⟨ji7, hji7⟩ : ∃ j_ : Int, (mx (a0_2.size : Int) (a1_2.size : Int)) = j_ := ⟨_, rfl⟩
   replace H : ((idiomref02_raised.f k a0_0 a0_1 a0_2 (ji7)).bind fun t294 => ((idiomref02_raised.f k a1_0 a1_1 a1_2 (ji7)).bind fun t295 => ((idiomref02_Cmp.f k t294 t295).bind fun t296 => (if a0_0 = true then (idiomref02_Compare.j0 k t296 a1_0 a0_0 a0_1 a0_2 a1_0 a1_1 a1_2) else (idiomref02_Compare.j0 k t296 false a0_0 a0_1 a0_2 a1_0 a1_1 a1_2))))) = some (r1, r2) := by first | (rw [hji7] at H; exact H) | (simp only [hji7] at H ⊢; exact H)
   (try rw [hji7] at A3)
   (try rw [hji7] at A4)
   (try rw [hji7] at A5)
   (try (have hji7l : 0 ≤ ji7 := by (rw [← hji7]; unfold mx; (repeat' split) <;> omega)))
   (try (have hji7m : 0 ≤ ji7 := by omega))
   have hji7_ : (if (a0_2.size : Int) < (a1_2.size : Int) then (a1_2.size : Int) else (a0_2.size : Int)) = ji7 := hji7
   try have hji7_z := hji7_
   (try simp only [go_sem, Int.ofNat_lt, ByteArray.size_extract, ByteArray.size_append, Nat.min_self, Int.natCast_add] at hji7_z)
   replace H := Option.bind_eq_some_iff.mp H
   obtain ⟨t294, A80, H⟩ := H
   replace H : ((idiomref02_raised.f k a1_0 a1_1 a1_2 (ji7)).bind fun t295 => ((idiomref02_Cmp.f k t294 t295).bind fun t296 => (if a0_0 = true then (idiomref02_Compare.j0 k t296 a1_0 a0_0 a0_1 a0_2 a1_0 a1_1 a1_2) else (idiomref02_Compare.j0 k t296 false a0_0 a0_1 a0_2 a1_0 a1_1 a1_2)))) = some (r1, r2) := H
   have A8 := Aside0.mk A80
   clear A80
   replace H := Option.bind_eq_some_iff.mp H
   obtain ⟨t295, A90, H⟩ := H
   replace H : ((idiomref02_Cmp.f k t294 t295).bind fun t296 => (if a0_0 = true then (idiomref02_Compare.j0 k t296 a1_0 a0_0 a0_1 a0_2 a1_0 a1_1 a1_2) else (idiomref02_Compare.j0 k t296 false a0_0 a0_1 a0_2 a1_0 a1_1 a1_2))) = some (r1, r2) := H
   have A9 := Aside0.mk A90
   clear A90
   replace H := Option.bind_eq_some_iff.mp H
   obtain ⟨t296, A100, H⟩ := H
   replace H : (if a0_0 = true then (idiomref02_Compare.j0 k t296 a1_0 a0_0 a0_1 a0_2 a1_0 a1_1 a1_2) else (idiomref02_Compare.j0 k t296 false a0_0 a0_1 a0_2 a1_0 a1_1 a1_2)) = some (r1, r2) := H
   have A10 := Aside0.mk A100
   clear A100
   have HC11 := Aside0.mk H
   clear H
   go_enter Tryd.func15, Tryd.ntmps15
   try go_wp2_with (first | ((with_reducible refine gate_dst (N := 2) rfl ?_); refine qx 2 #[.bool a0_0, .string a0_1, .string a0_2] 23 ?_; intro gb286 hg w12 hbox hb; have BK286 := Aside0.mk (hbox); have GW286 := qs hg HB; have GE286 := GW286; replace HB := qn HB hb; clear hb hbox hg) | ((with_reducible refine gate_dst (N := 3) rfl ?_); refine qx 3 #[.bool a1_0, .string a1_1, .string a1_2] 23 ?_; intro gb287 hg w13 hbox hb; have BK287 := Aside0.mk (hbox); have GW287 := qs hg HB; have GE287 := GW287; have NB286_287 := ql_ hg BK286; have NB287_286 := qg_ hg BK286; replace BK286 := qb BK286 hb; replace HB := qn HB hb; clear hb hbox hg))
   replace BK286 := Aside0.mk (blk_drew BK286.out)
   replace BK287 := Aside0.mk (blk_drew BK287.out)
   replace HB := Aside0.mk (below_drew1 HB.out)
   refine start_ (n := 7) (S := fun w' => w'.cell? ⟨gb286, 0, none⟩ = some (.bool a0_0) ∧ w'.cell? ⟨gb286, 1, none⟩ = some (.string a0_1) ∧ w'.cell? ⟨gb286, 2, none⟩ = some (.string a0_2) ∧ w'.cell? ⟨gb287, 0, none⟩ = some (.bool a1_0) ∧ w'.cell? ⟨gb287, 1, none⟩ = some (.string a1_1) ∧ w'.cell? ⟨gb287, 2, none⟩ = some (.string a1_2)) (ds := []) #[false, false, false, false, false, false, false] (by kernel_rfl) rfl rfl ⟨c_ BK286 0, c_ BK286 1, c_ BK286 2, c_ BK287 0, c_ BK287 1, c_ BK287 2⟩ (fun hHeld => ?_)
   generalize w13.drew = w14 at BK286 BK287 HB hHeld ⊢
   refine take_ (i := 0) (N := some 9) (v := ?_) (a' := ?_) #[true, false, false, false, false, false, false] rfl rfl (by kernel_rfl) (fun _ _ _ h => h) (Or.inl ⟨by rfl, ?_⟩) hHeld ?_ ?_
   rotate_left
   · rintro w' ⟨s0, s1, s2, s3, s4, s5⟩
     go_simp
     with_reducible rfl
   rotate_left
   · simp only [Act.put, List.setIfInBounds_toArray, List.set_cons_zero, List.set_cons_succ, i64_w, i32_w]
     rfl
   refine take_ (i := 2) (N := some 11) (v := ?_) (a' := ?_) #[true, false, true, false, false, false, false] rfl rfl (by kernel_rfl) (fun _ _ _ h => h) (Or.inl ⟨by rfl, ?_⟩) hHeld ?_ ?_
   rotate_left
   · rintro w' ⟨s0, s1, s2, s3, s4, s5⟩
     go_simp
     with_reducible rfl
   rotate_left
   · simp only [Act.put, List.setIfInBounds_toArray, List.set_cons_zero, List.set_cons_succ, i64_w, i32_w]
     rfl
   refine one_ (i := 1) (N := some 10) #[true, true, true, false, false, false, false] rfl rfl (by kernel_rfl) (by decide) (fun K hK => ?_)
   refine goes_ Tryd.func32 (by kernel_rfl) rfl #[.agg #[.bool a0_0, .string a0_1, .string a0_2]] (by rfl) rfl rfl ql ?_
   with_reducible refine (idiomref02_Check.calls k a0_0 a0_1 a0_2 t288 _ A3.out).mono ?_
   rintro e w15 ⟨rfl, hb⟩
   refine ⟨_, rfl, ?_⟩
   replace BK286 := qb BK286 hb
   replace BK287 := qb BK287 hb
   replace HB := qn HB hb
   (try clear hb)
   (try clear hb2)
   (try clear hk)
   (try clear hi)
   refine hK.out _ _ ⟨c_ BK286 0, c_ BK286 1, c_ BK286 2, c_ BK287 0, c_ BK287 1, c_ BK287 2⟩ (fun hHeld => ?_)
   clear hK K
   refine nz (some 10) ?_
   refine one_ (i := 3) (N := some 12) #[true, true, true, true, false, false, false] rfl rfl (by kernel_rfl) (by decide) (fun K hK => ?_)
   refine goes_ Tryd.func32 (by kernel_rfl) rfl #[.agg #[.bool a1_0, .string a1_1, .string a1_2]] (by rfl) rfl rfl ql ?_
   with_reducible refine (idiomref02_Check.calls k a1_0 a1_1 a1_2 t289 _ A4.out).mono ?_
   rintro e w16 ⟨rfl, hb⟩
   refine ⟨_, rfl, ?_⟩
   replace BK286 := qb BK286 hb
   replace BK287 := qb BK287 hb
   replace HB := qn HB hb
   (try clear hb)
   (try clear hb2)
   (try clear hk)
   (try clear hi)
   refine hK.out _ _ ⟨c_ BK286 0, c_ BK286 1, c_ BK286 2, c_ BK287 0, c_ BK287 1, c_ BK287 2⟩ (fun hHeld => ?_)
   clear hK K
   refine nz (some 12) ?_
   refine one_ (i := 4) (N := some 13) #[true, true, true, true, true, false, false] rfl rfl (by kernel_rfl) (by decide) (fun K hK => ?_)
   refine Kd.R_lit_step (Kd.int .i64) _ 24 ?hg (N := 13) ?hd (xs := ([t288, t289] : List Int)) (inner := [.int .i64 t288, .int .i64 t289]) (ok := fun _ => True) (okp := fun _ => True) ?hr ?hp (fun _ hk => hk) trivial (Below.refl _ _) (Nat.le_refl _) (by simp) ?_; (case hd => rfl); (case hg => rfl); (case hr => first | (go_simp; done) | (go_simp; rfl)); (case hp => exact (Reps.one (show Kd.M (Kd.int .i64) _ _ _ t288 [.int .i64 t288] from rfl) (Reps.one (show Kd.M (Kd.int .i64) _ _ _ t289 [.int .i64 t289] from rfl) (Reps.none _ _))))
   intro v291 w17 ho18 hb hg_ hnew_
   clear hg_ hnew_
   (first | rw [← Ny290.out] at ho18 | (simp only [Int.reduceToNat] at ho18; rw [← Ny290.out] at ho18))
   have HO292 := Aside0.mk (Kd.R_lower ho18 (below_size (qh HB)))
   replace BK286 := qb BK286 hb
   replace BK287 := qb BK287 hb
   replace HB := qn HB hb
   clear hb ho18
   obtain ⟨Ao19, co19, eo19⟩ := Kd.R_slice HO292.out
   (first | subst eo19 | (injection eo19 with f1_ f2_ f3_; have f4_ := f1_.symm; have f5_ := f3_.symm; clear f1_ f2_ f3_; subst f4_; subst f5_))
   refine hK.out _ _ ⟨c_ BK286 0, c_ BK286 1, c_ BK286 2, c_ BK287 0, c_ BK287 1, c_ BK287 2⟩ (fun hHeld => ?_)
   clear hK K
   refine nz (some 13) ?_
   refine one_ (i := 5) (N := some 14) #[true, true, true, true, true, true, false] rfl rfl (by kernel_rfl) (by decide) (fun K hK => ?_)
   refine goes_ Tryd.func31 (by kernel_rfl) rfl #[.slice Ao19 y290.length co19] (by rfl) rfl rfl ql ?_
   with_reducible refine (idiomref02_First.calls k _ _ y290 t293 _ ?side1 ?side2 A5.out).mono ?_
   (case side1 => repeat (first | exact (Kd.R_reads' HO292.out).2.2 | (with_reducible refine Kd.C_alloc ?_ _) | (with_reducible refine Kd.C_drewN ?_ _) | (with_reducible refine Kd.C_drew ?_)))
   (case side2 => exact (Kd.R_reads' HO292.out).2.1)
   rintro e w' ⟨rfl, ⟨nd, rfl⟩⟩
   refine ⟨_, rfl, ?_⟩
   refine hK.out _ _ ⟨c_ BK286 0, c_ BK286 1, c_ BK286 2, c_ BK287 0, c_ BK287 1, c_ BK287 2⟩ (fun hHeld => ?_)
   clear hK K
   refine nz (some 14) ?_
   refine pure_ (i := 6) (N := some 6) (v := ?_) (a' := ?_) #[true, true, true, true, true, true, true] rfl rfl (by kernel_rfl) (fun _ _ _ h => h) (Or.inl ⟨by rfl, ?_⟩) ?_ ?_
   rotate_left
   · intro w'
     go_simp
     with_reducible rfl
   rotate_left
   · simp only [Act.put, List.setIfInBounds_toArray, List.set_cons_zero, List.set_cons_succ, i64_w, i32_w]
     rfl
   refine done_ (by kernel_rfl) ?_
   have hnb20 := NB286_287.out
   have hnc20 := NB287_286.out
   obtain ⟨hcz21_0, hcz21_1, hcz21_2, hfz21_0, hfz21_1, hfz21_2⟩ := q3 BK286
   obtain ⟨hcz22_0, hcz22_1, hcz22_2, hfz22_0, hfz22_1, hfz22_2⟩ := q3 BK287
   try go_wp2
   (try (rw [drewN_self w17]; generalize hq_ : World.drewN w17 _ = w17; have n0_ : Aside0 (Kd.R (Kd.int .i64) 24 w17 w.heap.size (fun _ => True) (.slice Ao19 y290.length co19) y290) := ⟨by rw [← hq_]; exact (by (with_reducible repeat (first | apply Kd.R_alloc | apply Kd.R_drewN | apply Kd.R_drew)); exact HO292.out)⟩; have n1_ : Aside0 (w17.heap[gb286]? = some (.cells #[.bool a0_0, .string a0_1, .string a0_2] 23 (0, 0))) := ⟨by rw [← hq_]; exact (qk BK286)⟩; have n2_ : Aside0 (w17.heap[gb287]? = some (.cells #[.bool a1_0, .string a1_1, .string a1_2] 23 (0, 0))) := ⟨by rw [← hq_]; exact (qk BK287)⟩; have n3_ : Aside0 (Below w.heap.size w w17) := ⟨by rw [← hq_]; exact (qh HB)⟩; clear HO292 BK286 BK287 HB hq_; have HO292 := n0_; have BK286 := n1_; have BK287 := n2_; have HB := n3_; clear n0_ n1_ n2_ n3_; (try have hcy286_0 : w17.cell? ⟨gb286, 0, none⟩ = some (.bool a0_0) := c_ BK286 0); (try have hfy286_0 := blk_frozen BK286.out 0); (try have hcy286_1 : w17.cell? ⟨gb286, 1, none⟩ = some (.string a0_1) := c_ BK286 1); (try have hfy286_1 := blk_frozen BK286.out 1); (try have hcy286_2 : w17.cell? ⟨gb286, 2, none⟩ = some (.string a0_2) := c_ BK286 2); (try have hfy286_2 := blk_frozen BK286.out 2); (try have hcy287_0 : w17.cell? ⟨gb287, 0, none⟩ = some (.bool a1_0) := c_ BK287 0); (try have hfy287_0 := blk_frozen BK287.out 0); (try have hcy287_1 : w17.cell? ⟨gb287, 1, none⟩ = some (.string a1_1) := c_ BK287 1); (try have hfy287_1 := blk_frozen BK287.out 1); (try have hcy287_2 : w17.cell? ⟨gb287, 2, none⟩ = some (.string a1_2) := c_ BK287 2); (try have hfy287_2 := blk_frozen BK287.out 2)))
   replace HO292 := Aside0.mk (Kd.R_drew HO292.out)
   replace BK286 := Aside0.mk (blk_drew BK286.out)
   replace BK287 := Aside0.mk (blk_drew BK287.out)
   replace HB := Aside0.mk (below_drew1 HB.out)
   refine start_ (n := 8) (S := fun w' => w'.cell? ⟨gb286, 0, none⟩ = some (.bool a0_0) ∧ w'.cell? ⟨gb286, 1, none⟩ = some (.string a0_1) ∧ w'.cell? ⟨gb286, 2, none⟩ = some (.string a0_2) ∧ w'.cell? ⟨gb287, 0, none⟩ = some (.bool a1_0) ∧ w'.cell? ⟨gb287, 1, none⟩ = some (.string a1_1) ∧ w'.cell? ⟨gb287, 2, none⟩ = some (.string a1_2)) (ds := []) #[false, false, false, false, false, false, false, false] (by kernel_rfl) rfl rfl ⟨c_ BK286 0, c_ BK286 1, c_ BK286 2, c_ BK287 0, c_ BK287 1, c_ BK287 2⟩ (fun hHeld => ?_); refine with_tabW idiomref02_Compare.tab5 idiomref02_Compare.bits5 (fun HT_ HW_ => ?_)
   generalize w17.drew = w23 at HO292 BK286 BK287 HB hHeld ⊢
   refine pz 1 (some 26) #[false, true, false, false, false, false, false, false] HT_ ?_
   refine pz 4 (some 29) #[false, true, false, false, true, false, false, false] HT_ ?_
   refine tw6 0 (some 25) #[true, true, false, false, true, false, false, false] HT_ HW_ hHeld ?_
   refine tw6 3 (some 28) #[true, true, false, true, true, false, false, false] HT_ HW_ hHeld ?_
   refine one_ (i := 2) (N := some 27) #[true, true, true, true, true, false, false, false] rfl rfl (one_of HT_.out (by kernel_rfl)) (by decide) (fun K hK => ?_)
   refine goes_ Tryd.func34 (by kernel_rfl) rfl #[.agg #[.bool a0_0, .string a0_1, .string a0_2], .int .i64 ji7] (by rfl) rfl rfl (by (try simp only [List.map_toArray, List.map_cons, List.map_nil]); first | done | (simp only [hji7]; rfl) | rfl | (simp only [List.length_drop, List.length_take]; rfl)) ?_
   with_reducible refine (idiomref02_raised.calls k a0_0 a0_1 a0_2 ji7 t294 _ A8.out).mono ?_
   rintro e w24 ⟨rfl, hb⟩
   refine ⟨_, rfl, ?_⟩
   replace HO292 := Aside0.mk (Kd.R_below (by (with_reducible repeat (first | apply Kd.R_alloc | apply Kd.R_drewN | apply Kd.R_drew)); exact HO292.out) hb)
   replace BK286 := qb BK286 hb
   replace BK287 := qb BK287 hb
   replace HB := qn HB hb
   (try clear hb)
   (try clear hb2)
   (try clear hk)
   (try clear hi)
   refine hK.out _ _ ⟨c_ BK286 0, c_ BK286 1, c_ BK286 2, c_ BK287 0, c_ BK287 1, c_ BK287 2⟩ (fun hHeld => ?_)
   clear hK K
   refine nz (some 27) ?_
   refine one_ (i := 5) (N := some 30) #[true, true, true, true, true, true, false, false] rfl rfl (one_of HT_.out (by kernel_rfl)) (by decide) (fun K hK => ?_)
   refine goes_ Tryd.func34 (by kernel_rfl) rfl #[.agg #[.bool a1_0, .string a1_1, .string a1_2], .int .i64 ji7] (by rfl) rfl rfl (by (try simp only [List.map_toArray, List.map_cons, List.map_nil]); first | done | (simp only [hji7]; rfl) | rfl | (simp only [List.length_drop, List.length_take]; rfl)) ?_
   with_reducible refine (idiomref02_raised.calls k a1_0 a1_1 a1_2 ji7 t295 _ A9.out).mono ?_
   rintro e w25 ⟨rfl, hb⟩
   refine ⟨_, rfl, ?_⟩
   replace HO292 := Aside0.mk (Kd.R_below (by (with_reducible repeat (first | apply Kd.R_alloc | apply Kd.R_drewN | apply Kd.R_drew)); exact HO292.out) hb)
   replace BK286 := qb BK286 hb
   replace BK287 := qb BK287 hb
   replace HB := qn HB hb
   (try clear hb)
   (try clear hb2)
   (try clear hk)
   (try clear hi)
   refine hK.out _ _ ⟨c_ BK286 0, c_ BK286 1, c_ BK286 2, c_ BK287 0, c_ BK287 1, c_ BK287 2⟩ (fun hHeld => ?_)
   clear hK K
   refine nz (some 30) ?_
   refine one_ (i := 6) (N := some 31) #[true, true, true, true, true, true, true, false] rfl rfl (one_of HT_.out (by kernel_rfl)) (by decide) (fun K hK => ?_)
   refine goes_ Tryd.func33 (by kernel_rfl) rfl #[.string t294, .string t295] (by rfl) rfl rfl ql ?_
   with_reducible refine (idiomref02_Cmp.calls k t294 t295 t296 _ A10.out).mono ?_
   rintro e w' ⟨rfl, ⟨nd, rfl⟩⟩
   refine ⟨_, rfl, ?_⟩
   refine hK.out _ _ ⟨c_ BK286 0, c_ BK286 1, c_ BK286 2, c_ BK287 0, c_ BK287 1, c_ BK287 2⟩ (fun hHeld => ?_)
   clear hK K
   refine nz (some 31) ?_
   refine pz 7 (some 8) #[true, true, true, true, true, true, true, true] HT_ ?_
   refine done_ (done_of HT_.out (by kernel_rfl)) ?_
   go_upto_region 6 with (fail)
   go_cut [32] (fun v32 wc => ∃ (kq : Nat) (x32_10 : Bool), v32 = .bool x32_10 ∧ Aside0 (idiomref02_Compare.j0 kq t296 x32_10 a0_0 a0_1 a0_2 a1_0 a1_1 a1_2 = some (r1, r2)) ∧ Aside0 (kq ≤ k) ∧ Aside0 (wc.heap[gb286]? = some (.cells #[.bool a0_0, .string a0_1, .string a0_2] 23 (0, 0))) ∧ Aside0 (wc.heap[gb287]? = some (.cells #[.bool a1_0, .string a1_1, .string a1_2] 23 (0, 0))) ∧ Aside0 (Below w.heap.size w wc))
   case first =>
    have H := HC11.out
    clear HC11
    by_cases c26 : a0_0 = true
    · subst c26
      have H1 : (idiomref02_Compare.j0 k t296 a1_0 true a0_1 a0_2 a1_0 a1_1 a1_2) = some (r1, r2) := by rw [if_pos rfl] at H; exact H
      clear H
      have H := H1
      clear H1
      have H' := Aside0.mk H
      clear H
      have hnb27 := NB286_287.out
      have hnc27 := NB287_286.out
      obtain ⟨hcz28_0, hcz28_1, hcz28_2, hfz28_0, hfz28_1, hfz28_2⟩ := q3 BK286
      obtain ⟨hcz29_0, hcz29_1, hcz29_2, hfz29_0, hfz29_1, hfz29_2⟩ := q3 BK287
      go_wp2
      go_meet
      case rel => exact ⟨_, (a1_0), (by first | rfl | (simp; done) | (simp [*]; done)), H', ⟨by first | omega | exact Nat.le_refl _⟩, ⟨qk BK286⟩, ⟨qk BK287⟩, ⟨qh HB⟩⟩
    · replace c26 := Bool.eq_false_iff.mpr c26
      subst c26
      have H1 : (idiomref02_Compare.j0 k t296 false false a0_1 a0_2 a1_0 a1_1 a1_2) = some (r1, r2) := by rw [if_neg (show ¬ (false = true) by decide)] at H; exact H
      clear H
      have H := H1
      clear H1
      have H' := Aside0.mk H
      clear H
      have hnb30 := NB286_287.out
      have hnc30 := NB287_286.out
      obtain ⟨hcz31_0, hcz31_1, hcz31_2, hfz31_0, hfz31_1, hfz31_2⟩ := q3 BK286
      go_wp2
      go_meet
      case rel => exact ⟨_, (false), (by first | rfl | (simp; done) | (simp [*]; done)), H', ⟨by first | omega | exact Nat.le_refl _⟩, ⟨qk BK286⟩, ⟨qk BK287⟩, ⟨qh HB⟩⟩
   case rest =>
    clear HC11
    try clear c1
    try clear c2
    try clear p2
    try clear c3
    try clear c6
    try clear c6b0
    try clear c6b1
    try clear c15
    try clear c20
    try clear c26
    try clear c27
    try clear c30
    try clear c31
    try clear hcz21_0
    try clear hcz21_1
    try clear hcz21_2
    try clear hcz22_0
    try clear hcz22_1
    try clear hcz22_2
    try clear hcz28_0
    try clear hcz28_1
    try clear hcz28_2
    try clear hcz29_0
    try clear hcz29_1
    try clear hcz29_2
    try clear hcz31_0
    try clear hcz31_1
    try clear hcz31_2
    try clear hfz21_0
    try clear hfz21_1
    try clear hfz21_2
    try clear hfz22_0
    try clear hfz22_1
    try clear hfz22_2
    try clear hfz28_0
    try clear hfz28_1
    try clear hfz28_2
    try clear hfz29_0
    try clear hfz29_1
    try clear hfz29_2
    try clear hfz31_0
    try clear hfz31_1
    try clear hfz31_2
    obtain ⟨kq, x32_10, rfl, HA, HJ10, BK286, BK287, HB⟩ := hcut
    cases kq with
    | zero => exact absurd HA.out (by simp [idiomref02_Compare.j0])
    | succ kj10 =>
     have H := HA.out
     clear HA
     simp only [idiomref02_Compare.j0] at H
     by_cases c32 : x32_10 = true
     · subst c32
       have H1 : (some (wrap64 (-t296), 0)) = some (r1, r2) := by rw [if_pos rfl] at H; exact H
       clear H
       have H := H1
       clear H1
       simp only [Option.some.injEq, Prod.mk.injEq] at H
       obtain ⟨rfl, rfl⟩ := H
       go_wp2
       go_ret2
       exact ⟨by first | rfl | (exact congrArg (fun b => Ending.returned (.bool b)) (Aid.bne_nil _)) | (exact congrArg (fun b => Ending.returned (.bool b)) (Aid.eq_nil _)) | (simp [errW_none, errW_some] <;> rfl) | (simp only [← hji7]; first | rfl | (simp [errW_none, errW_some] <;> rfl)) | (simp [*, errW_none, errW_some] <;> rfl), qh HB⟩
     · replace c32 := Bool.eq_false_iff.mpr c32
       subst c32
       have H1 : (if a0_0 = true then (some ((-1), 0)) else (if a1_0 = true then (some (1, 0)) else (some (t296, 0)))) = some (r1, r2) := by rw [if_neg (show ¬ (false = true) by decide)] at H; exact H
       clear H
       have H := H1
       clear H1
       by_cases c33 : a0_0 = true
       · subst c33
         have H1 : (some ((-1), 0)) = some (r1, r2) := by rw [if_pos rfl] at H; exact H
         clear H
         have H := H1
         clear H1
         simp only [Option.some.injEq, Prod.mk.injEq] at H
         obtain ⟨rfl, rfl⟩ := H
         have hnb34 := NB286_287.out
         have hnc34 := NB287_286.out
         obtain ⟨hcz35_0, hcz35_1, hcz35_2, hfz35_0, hfz35_1, hfz35_2⟩ := q3 BK286
         go_wp2
         go_ret2
         exact ⟨by first | rfl | (exact congrArg (fun b => Ending.returned (.bool b)) (Aid.bne_nil _)) | (exact congrArg (fun b => Ending.returned (.bool b)) (Aid.eq_nil _)) | (simp [errW_none, errW_some] <;> rfl) | (simp only [← hji7]; first | rfl | (simp [errW_none, errW_some] <;> rfl)) | (simp [*, errW_none, errW_some] <;> rfl), qh HB⟩
       · replace c33 := Bool.eq_false_iff.mpr c33
         subst c33
         have H1 : (if a1_0 = true then (some (1, 0)) else (some (t296, 0))) = some (r1, r2) := by rw [if_neg (show ¬ (false = true) by decide)] at H; exact H
         clear H
         have H := H1
         clear H1
         by_cases c36 : a1_0 = true
         · subst c36
           have H1 : (some (1, 0)) = some (r1, r2) := by rw [if_pos rfl] at H; exact H
           clear H
           have H := H1
           clear H1
           simp only [Option.some.injEq, Prod.mk.injEq] at H
           obtain ⟨rfl, rfl⟩ := H
           have hnb37 := NB286_287.out
           have hnc37 := NB287_286.out
           obtain ⟨hcz38_0, hcz38_1, hcz38_2, hfz38_0, hfz38_1, hfz38_2⟩ := q3 BK286
           obtain ⟨hcz39_0, hcz39_1, hcz39_2, hfz39_0, hfz39_1, hfz39_2⟩ := q3 BK287
           go_wp2
           go_ret2
           exact ⟨by first | rfl | (exact congrArg (fun b => Ending.returned (.bool b)) (Aid.bne_nil _)) | (exact congrArg (fun b => Ending.returned (.bool b)) (Aid.eq_nil _)) | (simp [errW_none, errW_some] <;> rfl) | (simp only [← hji7]; first | rfl | (simp [errW_none, errW_some] <;> rfl)) | (simp [*, errW_none, errW_some] <;> rfl), qh HB⟩
         · replace c36 := Bool.eq_false_iff.mpr c36
           subst c36
           have H1 : (some (t296, 0)) = some (r1, r2) := by rw [if_neg (show ¬ (false = true) by decide)] at H; exact H
           clear H
           have H := H1
           clear H1
           simp only [Option.some.injEq, Prod.mk.injEq] at H
           obtain ⟨rfl, rfl⟩ := H
           have hnb40 := NB286_287.out
           have hnc40 := NB287_286.out
           obtain ⟨hcz41_0, hcz41_1, hcz41_2, hfz41_0, hfz41_1, hfz41_2⟩ := q3 BK286
           obtain ⟨hcz42_0, hcz42_1, hcz42_2, hfz42_0, hfz42_1, hfz42_2⟩ := q3 BK287
           go_wp2
           go_ret2
           exact ⟨by first | rfl | (exact congrArg (fun b => Ending.returned (.bool b)) (Aid.bne_nil _)) | (exact congrArg (fun b => Ending.returned (.bool b)) (Aid.eq_nil _)) | (simp [errW_none, errW_some] <;> rfl) | (simp only [← hji7]; first | rfl | (simp [errW_none, errW_some] <;> rfl)) | (simp [*, errW_none, errW_some] <;> rfl), qh HB⟩
 · rw [if_neg c6] at H
   have c6b0 : (t293 == 0) = false := beq_eq_false_iff_ne.mpr c6
   have c6b1 : (t293 != 0) = true := bne_iff_ne.mpr c6
   try have c6b1z := c6b1
   (try simp only [bne] at c6b1z)
   simp only [Option.some.injEq, Prod.mk.injEq] at H
   obtain ⟨rfl, rfl⟩ := H
   go_enter Tryd.func15, Tryd.ntmps15
   try go_wp2_with (first | ((with_reducible refine gate_dst (N := 2) rfl ?_); refine qx 2 #[.bool a0_0, .string a0_1, .string a0_2] 23 ?_; intro gb286 hg w43 hbox hb; have BK286 := Aside0.mk (hbox); have GW286 := qs hg HB; have GE286 := GW286; replace HB := qn HB hb; clear hb hbox hg) | ((with_reducible refine gate_dst (N := 3) rfl ?_); refine qx 3 #[.bool a1_0, .string a1_1, .string a1_2] 23 ?_; intro gb287 hg w44 hbox hb; have BK287 := Aside0.mk (hbox); have GW287 := qs hg HB; have GE287 := GW287; have NB286_287 := ql_ hg BK286; have NB287_286 := qg_ hg BK286; replace BK286 := qb BK286 hb; replace HB := qn HB hb; clear hb hbox hg))
   replace BK286 := Aside0.mk (blk_drew BK286.out)
   replace BK287 := Aside0.mk (blk_drew BK287.out)
   replace HB := Aside0.mk (below_drew1 HB.out)
   refine start_ (n := 7) (S := fun w' => w'.cell? ⟨gb286, 0, none⟩ = some (.bool a0_0) ∧ w'.cell? ⟨gb286, 1, none⟩ = some (.string a0_1) ∧ w'.cell? ⟨gb286, 2, none⟩ = some (.string a0_2) ∧ w'.cell? ⟨gb287, 0, none⟩ = some (.bool a1_0) ∧ w'.cell? ⟨gb287, 1, none⟩ = some (.string a1_1) ∧ w'.cell? ⟨gb287, 2, none⟩ = some (.string a1_2)) (ds := []) #[false, false, false, false, false, false, false] (by kernel_rfl) rfl rfl ⟨c_ BK286 0, c_ BK286 1, c_ BK286 2, c_ BK287 0, c_ BK287 1, c_ BK287 2⟩ (fun hHeld => ?_)
   generalize w44.drew = w45 at BK286 BK287 HB hHeld ⊢
   refine take_ (i := 0) (N := some 9) (v := ?_) (a' := ?_) #[true, false, false, false, false, false, false] rfl rfl (by kernel_rfl) (fun _ _ _ h => h) (Or.inl ⟨by rfl, ?_⟩) hHeld ?_ ?_
   rotate_left
   · rintro w' ⟨s0, s1, s2, s3, s4, s5⟩
     go_simp
     with_reducible rfl
   rotate_left
   · simp only [Act.put, List.setIfInBounds_toArray, List.set_cons_zero, List.set_cons_succ, i64_w, i32_w]
     rfl
   refine take_ (i := 2) (N := some 11) (v := ?_) (a' := ?_) #[true, false, true, false, false, false, false] rfl rfl (by kernel_rfl) (fun _ _ _ h => h) (Or.inl ⟨by rfl, ?_⟩) hHeld ?_ ?_
   rotate_left
   · rintro w' ⟨s0, s1, s2, s3, s4, s5⟩
     go_simp
     with_reducible rfl
   rotate_left
   · simp only [Act.put, List.setIfInBounds_toArray, List.set_cons_zero, List.set_cons_succ, i64_w, i32_w]
     rfl
   refine one_ (i := 1) (N := some 10) #[true, true, true, false, false, false, false] rfl rfl (by kernel_rfl) (by decide) (fun K hK => ?_)
   refine goes_ Tryd.func32 (by kernel_rfl) rfl #[.agg #[.bool a0_0, .string a0_1, .string a0_2]] (by rfl) rfl rfl ql ?_
   with_reducible refine (idiomref02_Check.calls k a0_0 a0_1 a0_2 t288 _ A3.out).mono ?_
   rintro e w46 ⟨rfl, hb⟩
   refine ⟨_, rfl, ?_⟩
   replace BK286 := qb BK286 hb
   replace BK287 := qb BK287 hb
   replace HB := qn HB hb
   (try clear hb)
   (try clear hb2)
   (try clear hk)
   (try clear hi)
   refine hK.out _ _ ⟨c_ BK286 0, c_ BK286 1, c_ BK286 2, c_ BK287 0, c_ BK287 1, c_ BK287 2⟩ (fun hHeld => ?_)
   clear hK K
   refine nz (some 10) ?_
   refine one_ (i := 3) (N := some 12) #[true, true, true, true, false, false, false] rfl rfl (by kernel_rfl) (by decide) (fun K hK => ?_)
   refine goes_ Tryd.func32 (by kernel_rfl) rfl #[.agg #[.bool a1_0, .string a1_1, .string a1_2]] (by rfl) rfl rfl ql ?_
   with_reducible refine (idiomref02_Check.calls k a1_0 a1_1 a1_2 t289 _ A4.out).mono ?_
   rintro e w47 ⟨rfl, hb⟩
   refine ⟨_, rfl, ?_⟩
   replace BK286 := qb BK286 hb
   replace BK287 := qb BK287 hb
   replace HB := qn HB hb
   (try clear hb)
   (try clear hb2)
   (try clear hk)
   (try clear hi)
   refine hK.out _ _ ⟨c_ BK286 0, c_ BK286 1, c_ BK286 2, c_ BK287 0, c_ BK287 1, c_ BK287 2⟩ (fun hHeld => ?_)
   clear hK K
   refine nz (some 12) ?_
   refine one_ (i := 4) (N := some 13) #[true, true, true, true, true, false, false] rfl rfl (by kernel_rfl) (by decide) (fun K hK => ?_)
   refine Kd.R_lit_step (Kd.int .i64) _ 24 ?hg (N := 13) ?hd (xs := ([t288, t289] : List Int)) (inner := [.int .i64 t288, .int .i64 t289]) (ok := fun _ => True) (okp := fun _ => True) ?hr ?hp (fun _ hk => hk) trivial (Below.refl _ _) (Nat.le_refl _) (by simp) ?_; (case hd => rfl); (case hg => rfl); (case hr => first | (go_simp; done) | (go_simp; rfl)); (case hp => exact (Reps.one (show Kd.M (Kd.int .i64) _ _ _ t288 [.int .i64 t288] from rfl) (Reps.one (show Kd.M (Kd.int .i64) _ _ _ t289 [.int .i64 t289] from rfl) (Reps.none _ _))))
   intro v291 w48 ho49 hb hg_ hnew_
   clear hg_ hnew_
   (first | rw [← Ny290.out] at ho49 | (simp only [Int.reduceToNat] at ho49; rw [← Ny290.out] at ho49))
   have HO292 := Aside0.mk (Kd.R_lower ho49 (below_size (qh HB)))
   replace BK286 := qb BK286 hb
   replace BK287 := qb BK287 hb
   replace HB := qn HB hb
   clear hb ho49
   obtain ⟨Ao50, co50, eo50⟩ := Kd.R_slice HO292.out
   (first | subst eo50 | (injection eo50 with f1_ f2_ f3_; have f4_ := f1_.symm; have f5_ := f3_.symm; clear f1_ f2_ f3_; subst f4_; subst f5_))
   refine hK.out _ _ ⟨c_ BK286 0, c_ BK286 1, c_ BK286 2, c_ BK287 0, c_ BK287 1, c_ BK287 2⟩ (fun hHeld => ?_)
   clear hK K
   refine nz (some 13) ?_
   refine one_ (i := 5) (N := some 14) #[true, true, true, true, true, true, false] rfl rfl (by kernel_rfl) (by decide) (fun K hK => ?_)
   refine goes_ Tryd.func31 (by kernel_rfl) rfl #[.slice Ao50 y290.length co50] (by rfl) rfl rfl ql ?_
   with_reducible refine (idiomref02_First.calls k _ _ y290 t293 _ ?side1 ?side2 A5.out).mono ?_
   (case side1 => repeat (first | exact (Kd.R_reads' HO292.out).2.2 | (with_reducible refine Kd.C_alloc ?_ _) | (with_reducible refine Kd.C_drewN ?_ _) | (with_reducible refine Kd.C_drew ?_)))
   (case side2 => exact (Kd.R_reads' HO292.out).2.1)
   rintro e w' ⟨rfl, ⟨nd, rfl⟩⟩
   refine ⟨_, rfl, ?_⟩
   refine hK.out _ _ ⟨c_ BK286 0, c_ BK286 1, c_ BK286 2, c_ BK287 0, c_ BK287 1, c_ BK287 2⟩ (fun hHeld => ?_)
   clear hK K
   refine nz (some 14) ?_
   refine pure_ (i := 6) (N := some 6) (v := ?_) (a' := ?_) #[true, true, true, true, true, true, true] rfl rfl (by kernel_rfl) (fun _ _ _ h => h) (Or.inl ⟨by rfl, ?_⟩) ?_ ?_
   rotate_left
   · intro w'
     go_simp
     with_reducible rfl
   rotate_left
   · simp only [Act.put, List.setIfInBounds_toArray, List.set_cons_zero, List.set_cons_succ, i64_w, i32_w]
     rfl
   refine done_ (by kernel_rfl) ?_
   try go_wp2
   go_ret2
   exact ⟨qe, qh HB⟩

end Go.Proofs.YtpmhebdaphjinaaDoor.F
