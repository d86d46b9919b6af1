-- Printed by this session's hookprint.py (over the kit's print.py, with hooks). Lean checks it.
import Derived.Test.YtpmhebdaphjinaaDoorF0
import Derived.Test.YtpmhebdaphjinaaDoorF11
namespace Go.Proofs.YtpmhebdaphjinaaDoor.F
open Go.RowKit Go.Proofs.YtpmhebdaphjinaaDoorW.PrintWords Go.Proofs.YtpmhebdaphjinaaDoorW.PrintLast Go.Proofs.YtpmhebdaphjinaaDoorW.PrintMore
attribute [local go_sem] max2_int min2_int max_two min_two max_three min_three max_four min_four   -- for this text's walks alone
set_option linter.unusedVariables false
set_option linter.unusedSimpArgs false

/-! ### idiomref03_sub: function 88 -/
mutual
def idiomref03_sub.l0 : Nat → ByteArray → ByteArray → Option (ByteArray)
 | 0, _, _ => none
 | k + 1, x0, x1 => if (x1.size : Int) < (x0.size : Int) then (if 1 + x1.size ≤ 9223372036854775807 then (idiomref03_sub.l0 k x0 ((⟨#[48]⟩ : ByteArray) ++ x1)) else (none)) else (if 0 ≤ (x0.size : Int) then (if ((x0.size : Int) : Int).toNat ≤ 281474976710656 then (idiomref03_sub.l1 k x0 x1 (List.replicate ((x0.size : Int) : Int).toNat 0) 0 (wrap64 ((x0.size : Int) - 1))) else (none)) else (none))
def idiomref03_sub.l1 : Nat → ByteArray → ByteArray → List Int → Int → Int → Option (ByteArray)
 | 0, _, _, _, _, _ => none
 | k + 1, x0, x1, x5, x6, x7 => if x7 ≥ 0 then (if 0 ≤ x7 then (if x7 < (x0.size : Int) then (if x7 < (x1.size : Int) then (if (wrap64 ((wrap64 ((wrap64 (bt x0 x7)) - (wrap64 (bt x1 x7)))) - x6)) < 0 then (if x7 < (x5.length : Int) then (idiomref03_sub.l1 k x0 x1 (x5.set (x7 : Int).toNat ((wrap64 (48 + (wrap64 ((wrap64 ((wrap64 ((wrap64 (bt x0 x7)) - (wrap64 (bt x1 x7)))) - x6)) + 10)))) % 256)) 1 (wrap64 (x7 - 1))) else (none)) else (if x7 < (x5.length : Int) then (idiomref03_sub.l1 k x0 x1 (x5.set (x7 : Int).toNat ((wrap64 (48 + (wrap64 ((wrap64 ((wrap64 (bt x0 x7)) - (wrap64 (bt x1 x7)))) - x6)))) % 256)) 0 (wrap64 (x7 - 1))) else (none))) else (none)) else (none)) else (none)) else ((idiomref03_Lead.f k (strOfNums x5)).bind fun t158 => (some t158))
end
def idiomref03_sub.f (k : Nat) (a0 : ByteArray) (a1 : ByteArray) : Option (ByteArray) := idiomref03_sub.l0 k a0 a1
theorem idiomref03_sub.mono_l : ∀ k, (∀ y0 y1, LeO (idiomref03_sub.l0 k y0 y1) (idiomref03_sub.l0 (k + 1) y0 y1)) ∧ (∀ y0 y1 y2 y3 y4, LeO (idiomref03_sub.l1 k y0 y1 y2 y3 y4) (idiomref03_sub.l1 (k + 1) y0 y1 y2 y3 y4))
 | 0 => ⟨fun _ _ r h => by simp [idiomref03_sub.l0] at h, fun _ _ _ _ _ r h => by simp [idiomref03_sub.l1] at h⟩
 | k + 1 => by
  obtain ⟨ih0, ih1⟩ := idiomref03_sub.mono_l k
  refine ⟨?_, ?_⟩
  · intro y0 y1
    unfold idiomref03_sub.l0
    repeat' first
    | (with_reducible exact ih0 _ _)
    | (with_reducible exact ih1 _ _ _ _ _)
    | (with_reducible exact idiomref03_Lead.mono _ _)
    | (with_reducible exact LeO.refl _)
    | (with_reducible exact LeO.none _)
    | (with_reducible refine LeO.ite ?_ ?_)
    | (with_reducible refine LeO.bind ?_ (fun _ => ?_))
    | exact ih0 _ _
    | exact ih1 _ _ _ _ _
    | exact idiomref03_Lead.mono _ _
    | exact LeO.none _
    | refine LeO.ite ?_ ?_
    | refine LeO.bind ?_ (fun _ => ?_)
  · intro y0 y1 y2 y3 y4
    unfold idiomref03_sub.l1
    repeat' first
    | (with_reducible exact ih0 _ _)
    | (with_reducible exact ih1 _ _ _ _ _)
    | (with_reducible exact idiomref03_Lead.mono _ _)
    | (with_reducible exact LeO.refl _)
    | (with_reducible exact LeO.none _)
    | (with_reducible refine LeO.ite ?_ ?_)
    | (with_reducible refine LeO.bind ?_ (fun _ => ?_))
    | exact ih0 _ _
    | exact ih1 _ _ _ _ _
    | exact idiomref03_Lead.mono _ _
    | exact LeO.none _
    | refine LeO.ite ?_ ?_
    | refine LeO.bind ?_ (fun _ => ?_)
theorem idiomref03_sub.mono : ∀ a0 a1 k, LeO (idiomref03_sub.f k a0 a1) (idiomref03_sub.f (k + 1) a0 a1) := by
 intro a0 a1 k
 obtain ⟨ih0, ih1⟩ := idiomref03_sub.mono_l k
 unfold idiomref03_sub.f
 repeat' first
  | (with_reducible exact ih0 _ _)
  | (with_reducible exact ih1 _ _ _ _ _)
  | (with_reducible exact idiomref03_Lead.mono _ _)
  | (with_reducible exact LeO.refl _)
  | (with_reducible exact LeO.none _)
  | (with_reducible refine LeO.ite ?_ ?_)
  | (with_reducible refine LeO.bind ?_ (fun _ => ?_))
  | exact ih0 _ _
  | exact ih1 _ _ _ _ _
  | exact idiomref03_Lead.mono _ _
  | exact LeO.none _
  | refine LeO.ite ?_ ?_
  | refine LeO.bind ?_ (fun _ => ?_)
set_option maxHeartbeats 8000000 in
set_option maxRecDepth 100000 in
theorem idiomref03_sub.calls (k : Nat) (a0 : ByteArray) (a1 : ByteArray) (r : ByteArray) (w : World) (h : idiomref03_sub.f k a0 a1 = some r) :
 Calls Tryd.prog 88 #[.string a0, .string a1] w fun e w' => e = .returned (.string r) ∧ Below w.heap.size w w' := by
 have HB := Aside0.mk (Below.refl w.heap.size w)
 have H : (idiomref03_sub.l0 k a0 a1) = some r := h
 clear h
 have H' := Aside0.mk H
 clear H
 go_enter Tryd.func88, Tryd.ntmps88
 go_wp2
 repeat (go_quiet (fail); try go_wp2)
 (try simp only [Act.put, List.setIfInBounds_toArray, List.set_cons_zero, List.set_cons_succ])
 go_loopg [1] k (fun kq v1 w' => ∃ (x1_1 : ByteArray), v1 = .string x1_1 ∧ Aside0 (idiomref03_sub.l0 kq a0 x1_1 = some r) ∧ Aside0 (kq ≤ k) ∧ Aside0 (Below w.heap.size w w'))
 case atStart => exact ⟨(a1), (by first | rfl | (simp; done) | (simp [*]; done)), H', ⟨Nat.le_refl _⟩, ⟨by repeat (first | (with_reducible first | exact HB.out | apply below_alloc | apply pw_below_drewN | apply below_drew1) | exact HB.out)⟩⟩
 case round =>
  clear H'
  try clear p2
  obtain ⟨x1_1, rfl, HA, HK1, HB⟩ := hrel
  cases gk with
  | zero => exact absurd HA.out (by simp [idiomref03_sub.l0])
  | succ k1 =>
   have H := HA.out
   clear HA
   simp only [idiomref03_sub.l0] at H
   by_cases c3 : (x1_1.size : Int) < (a0.size : Int)
   · rw [if_pos c3] at H
     have c3b0 : decide ((x1_1.size : Int) < (a0.size : Int)) = true := decide_eq_true c3
     have c3b1 : decide (x1_1.size < a0.size) = true := decide_eq_true (Int.ofNat_lt.mp c3)
     clear c3
     by_cases c4 : 1 + x1_1.size ≤ 9223372036854775807
     · rw [if_pos c4] at H
       have c4b0 := eq_true c4
       have c4b1 : decide (1 + x1_1.size ≤ 9223372036854775807) = true := decide_eq_true c4
       try have c4b2 : (9223372036854775807 < 1 + x1_1.size) = False := eq_false (Nat.not_lt.2 c4)
       have H' := Aside0.mk H
       clear H
       go_wp2
       repeat (go_quiet (fail); try go_wp2)
       go_roundg k1
       case measure => have := HK1.out; omega
       case rel => exact ⟨((⟨#[48]⟩ : ByteArray) ++ x1_1), (by first | rfl | (simp; done) | (simp [*]; done)), H', ⟨by have := HK1.out; omega⟩, ⟨by repeat (first | (with_reducible first | exact HB.out | apply below_alloc | apply pw_below_drewN | apply below_drew1) | exact HB.out)⟩⟩
     · rw [if_neg c4] at H
       exact absurd H (by simp)
   · rw [if_neg c3] at H
     have c3b0 : decide ((x1_1.size : Int) < (a0.size : Int)) = false := decide_eq_false c3
     have c3b1 : decide (x1_1.size < a0.size) = false := decide_eq_false (fun h => c3 (Int.ofNat_lt.mpr h))
     clear c3
     by_cases c5 : 0 ≤ (a0.size : Int)
     · rw [if_pos c5] at H
       have c5b0 := eq_true c5
       have c5b1 : decide (0 ≤ (a0.size : Int)) = true := decide_eq_true c5
       clear c5
       by_cases c6 : ((a0.size : Int) : Int).toNat ≤ 281474976710656
       · rw [if_pos c6] at H
         have c6b0 := eq_true c6
         have c6b1 : decide (((a0.size : Int) : Int).toNat ≤ 281474976710656) = true := decide_eq_true c6
         clear c6
         obtain ⟨y153, hy153⟩ : ∃ y_ : List Int, y_ = (List.replicate ((a0.size : Int) : Int).toNat 0) := ⟨_, rfl⟩
         replace H : (idiomref03_sub.l1 k1 a0 x1_1 y153 0 (wrap64 ((a0.size : Int) - 1))) = some r := by first | (rw [hy153]; with_reducible exact H) | (have H2_ := (Option.bind_some _ _).symm.trans H; rw [hy153]; with_reducible exact H2_) | (have H2_ := (Option.bind_some _ _).symm.trans H; with_reducible exact H2_) | with_reducible exact H | (rw [hy153]; exact H) | exact H
         have Ny153 := Aside0.mk hy153
         clear hy153
         have H' := Aside0.mk H
         clear H
         go_wp2_with ((with_reducible refine gate_dst (N := 18) rfl ?_); refine Kd.R_make (Kd.int .u8) _ 5 rfl (N := 18) rfl 69 _ _ rfl (a0.size : Int) rfl rfl Tryd.underlying69 (.int .u8 0) 1 info5 rfl (by decide) (by omega) 0 (ok := fun _ => True) (okp := fun _ => True) rfl (fun _ hk => hk) trivial (of_decide_eq_true (by first | (with_reducible assumption) | assumption)) (Nat.le_trans (Nat.mul_le_mul_right _ (of_decide_eq_true (by first | (with_reducible assumption) | assumption) : (a0.size : Int).toNat ≤ 281474976710656)) (by omega)) (Below.refl _ _) (Nat.le_refl _) ?_; intro v154 w7 ho8 hb hg_ hnew_; clear hg_ hnew_; (first | rw [← Ny153.out] at ho8 | (simp only [Int.reduceToNat] at ho8; rw [← Ny153.out] at ho8)); have n0_ := Aside0.mk (Kd.R_lower ho8 (below_size (by repeat (first | (with_reducible first | exact HB.out | apply below_alloc | apply pw_below_drewN | apply below_drew1) | exact HB.out)))); have n1_ := Aside0.mk (below_step (by repeat (first | (with_reducible first | exact HB.out | apply below_alloc | apply pw_below_drewN | apply below_drew1) | exact HB.out)) hb); clear HB; have HO155 := n0_; have HB := n1_; clear n0_ n1_; clear hb ho8)
         repeat (go_quiet (fail); try go_wp2_with (fail))
         (try simp only [Act.put, List.setIfInBounds_toArray, List.set_cons_zero, List.set_cons_succ])
         go_loopg [6, 7] k1 (fun kq v6 v7 w' => ∃ (x5_2 : List Int) (x6_2 : Int) (x7_2 : Int), v6 = .int .i64 x6_2 ∧ v7 = .int .i64 x7_2 ∧ Aside0 (idiomref03_sub.l1 kq a0 x1_1 x5_2 x6_2 x7_2 = some r) ∧ Aside0 (kq ≤ k1) ∧ Aside0 (Kd.R (Kd.int .u8) 5 w' w.heap.size (fun _ => True) v154 x5_2) ∧ Aside0 (Below w.heap.size w w'))
         case atStart => exact ⟨(y153), (0), (wrap64 ((a0.size : Int) - 1)), (by first | rfl | (simp; done) | (simp [*]; done)), (by first | rfl | (simp; done) | (simp [*]; done)), H', ⟨Nat.le_refl _⟩, ⟨by (with_reducible repeat (first | apply Kd.R_alloc | apply Kd.R_drewN | apply Kd.R_drew)); exact HO155.out⟩, ⟨by repeat (first | (with_reducible first | exact HB.out | apply below_alloc | apply pw_below_drewN | apply below_drew1) | exact HB.out)⟩⟩
         case round =>
          clear H'
          try clear p2
          try clear c3
          try clear c3b0
          try clear c3b1
          try clear c4
          try clear c4b0
          try clear c4b1
          try clear c4b2
          try clear c5
          try clear c5b0
          try clear c5b1
          try clear c6
          try clear c6b0
          try clear c6b1
          try clear p6
          try clear c8
          try clear p2
          obtain ⟨x5_2, x6_2, x7_2, rfl, rfl, HA, HK2, HO_5, HB⟩ := hrel
          cases gk with
          | zero => exact absurd HA.out (by simp [idiomref03_sub.l1])
          | succ k2 =>
           have H := HA.out
           clear HA
           simp only [idiomref03_sub.l1] at H
           by_cases c9 : x7_2 ≥ 0
           · rw [if_pos c9] at H
             have c9b0 : decide (0 ≤ x7_2) = true := decide_eq_true c9
             clear c9
             by_cases c10 : 0 ≤ x7_2
             · rw [if_pos c10] at H
               have c10b0 : decide (0 ≤ x7_2) = true := decide_eq_true c10
               clear c10
               by_cases c11 : x7_2 < (a0.size : Int)
               · rw [if_pos c11] at H
                 have c11b0 : decide (x7_2 < (a0.size : Int)) = true := decide_eq_true c11
                 clear c11
                 by_cases c13 : x7_2 < (x1_1.size : Int)
                 · rw [if_pos c13] at H
                   have c13b0 : decide (x7_2 < (x1_1.size : Int)) = true := decide_eq_true c13
                   clear c13
                   by_cases c15 : (wrap64 ((wrap64 ((wrap64 (bt a0 x7_2)) - (wrap64 (bt x1_1 x7_2)))) - x6_2)) < 0
                   · rw [if_pos c15] at H
                     have c15b0 : decide ((wrap64 ((wrap64 ((wrap64 (bt a0 x7_2)) - (wrap64 (bt x1_1 x7_2)))) - x6_2)) < 0) = true := decide_eq_true c15
                     clear c15
                     by_cases c16 : x7_2 < (x5_2.length : Int)
                     · rw [if_pos c16] at H
                       have c16b0 : decide (x7_2 < (x5_2.length : Int)) = true := decide_eq_true c16
                       clear c16
                       obtain ⟨y156, hy156⟩ : ∃ y_ : List Int, y_ = (x5_2.set (x7_2 : Int).toNat ((wrap64 (48 + (wrap64 ((wrap64 ((wrap64 ((wrap64 (bt a0 x7_2)) - (wrap64 (bt x1_1 x7_2)))) - x6_2)) + 10)))) % 256)) := ⟨_, rfl⟩
                       replace H : (idiomref03_sub.l1 k2 a0 x1_1 y156 1 (wrap64 (x7_2 - 1))) = some r := by first | (rw [hy156]; with_reducible exact H) | (have H2_ := (Option.bind_some _ _).symm.trans H; rw [hy156]; with_reducible exact H2_) | (have H2_ := (Option.bind_some _ _).symm.trans H; with_reducible exact H2_) | with_reducible exact H | (rw [hy156]; exact H) | exact H
                       have Ny156 := Aside0.mk hy156
                       clear hy156
                       have H' := Aside0.mk H
                       clear H
                       have p12 : 0 ≤ (x7_2 : Int) := of_decide_eq_true (by first | (with_reducible assumption) | assumption)
                       have q12 : x7_2 < (a0.size : Int) := of_decide_eq_true (by first | (with_reducible assumption) | assumption)
                       have hx12 := bt_at a0 x7_2
                       replace p12 := eq_true p12
                       replace q12 := eq_true q12
                       have p14 : 0 ≤ (x7_2 : Int) := of_decide_eq_true (by first | (with_reducible assumption) | assumption)
                       have q14 : x7_2 < (x1_1.size : Int) := of_decide_eq_true (by first | (with_reducible assumption) | assumption)
                       have hx14 := bt_at x1_1 x7_2
                       replace p14 := eq_true p14
                       replace q14 := eq_true q14
                       have p17 : 0 ≤ (x7_2 : Int) := of_decide_eq_true (by first | (with_reducible assumption) | assumption)
                       have q17 : (x7_2 : Int) < ((x5_2.length : Int) : Int) := of_decide_eq_true (by first | (with_reducible assumption) | assumption)
                       obtain ⟨go17, co17, eo17, gb17, gl17, cl17, HG17⟩ := Kd.R_form HO_5.out (by omega)
                       (first | cases eo17 | (injection eo17 with ea_ en_ ec_; (first | subst ea_ | (injection ea_ with ea_; subst ea_)); subst ec_; clear en_))
                       have GB17 := Aside0.mk gb17
                       have GG17 := Aside0.mk HG17
                       clear gb17 gl17 HG17
                       obtain ⟨hx17_0, hf17_0⟩ := Kd.R_celln 0 HO_5.out (x7_2 : Int) p17 q17
                       replace p17 := eq_true p17
                       replace q17 := eq_true q17
                       have HP18 := Kd.R_putg HO_5.out (x7_2 : Int) ((wrap64 (48 + (wrap64 ((wrap64 ((wrap64 ((wrap64 (bt a0 x7_2)) - (wrap64 (bt x1_1 x7_2)))) - x6_2)) + 10)))) % 256)
                       go_wp2_with (fail)
                       repeat (go_quiet (fail); try go_wp2_with (fail))
                       go_roundg k2
                       case measure => have := HK1.out; have := HK2.out; omega
                       case rel => exact ⟨(y156), (1), (wrap64 (x7_2 - 1)), (by first | rfl | (simp; done) | (simp [*]; done)), (by first | rfl | (simp; done) | (simp [*]; done)), H', ⟨by have := HK1.out; have := HK2.out; omega⟩, ⟨by (with_reducible repeat (first | apply Kd.R_alloc | apply Kd.R_drewN | apply Kd.R_drew)); first | exact HO_5.out | (rw [Ny156.out]; exact Aid.R_set_drew HP18.1)⟩, ⟨by repeat (first | (with_reducible first | exact HB.out | apply below_alloc | apply pw_below_drewN | apply below_drew1) | refine below_set ?_ GB17.out | exact HB.out)⟩⟩
                     · rw [if_neg c16] at H
                       exact absurd H (by simp)
                   · rw [if_neg c15] at H
                     have c15b0 : decide ((wrap64 ((wrap64 ((wrap64 (bt a0 x7_2)) - (wrap64 (bt x1_1 x7_2)))) - x6_2)) < 0) = false := decide_eq_false c15
                     clear c15
                     by_cases c20 : x7_2 < (x5_2.length : Int)
                     · rw [if_pos c20] at H
                       have c20b0 : decide (x7_2 < (x5_2.length : Int)) = true := decide_eq_true c20
                       clear c20
                       obtain ⟨y157, hy157⟩ : ∃ y_ : List Int, y_ = (x5_2.set (x7_2 : Int).toNat ((wrap64 (48 + (wrap64 ((wrap64 ((wrap64 (bt a0 x7_2)) - (wrap64 (bt x1_1 x7_2)))) - x6_2)))) % 256)) := ⟨_, rfl⟩
                       replace H : (idiomref03_sub.l1 k2 a0 x1_1 y157 0 (wrap64 (x7_2 - 1))) = some r := by first | (rw [hy157]; with_reducible exact H) | (have H2_ := (Option.bind_some _ _).symm.trans H; rw [hy157]; with_reducible exact H2_) | (have H2_ := (Option.bind_some _ _).symm.trans H; with_reducible exact H2_) | with_reducible exact H | (rw [hy157]; exact H) | exact H
                       have Ny157 := Aside0.mk hy157
                       clear hy157
                       have H' := Aside0.mk H
                       clear H
                       have p12 : 0 ≤ (x7_2 : Int) := of_decide_eq_true (by first | (with_reducible assumption) | assumption)
                       have q12 : x7_2 < (a0.size : Int) := of_decide_eq_true (by first | (with_reducible assumption) | assumption)
                       have hx12 := bt_at a0 x7_2
                       replace p12 := eq_true p12
                       replace q12 := eq_true q12
                       have p14 : 0 ≤ (x7_2 : Int) := of_decide_eq_true (by first | (with_reducible assumption) | assumption)
                       have q14 : x7_2 < (x1_1.size : Int) := of_decide_eq_true (by first | (with_reducible assumption) | assumption)
                       have hx14 := bt_at x1_1 x7_2
                       replace p14 := eq_true p14
                       replace q14 := eq_true q14
                       have p21 : 0 ≤ (x7_2 : Int) := of_decide_eq_true (by first | (with_reducible assumption) | assumption)
                       have q21 : (x7_2 : Int) < ((x5_2.length : Int) : Int) := of_decide_eq_true (by first | (with_reducible assumption) | assumption)
                       obtain ⟨go21, co21, eo21, gb21, gl21, cl21, HG21⟩ := Kd.R_form HO_5.out (by omega)
                       (first | cases eo21 | (injection eo21 with ea_ en_ ec_; (first | subst ea_ | (injection ea_ with ea_; subst ea_)); subst ec_; clear en_))
                       have GB21 := Aside0.mk gb21
                       have GG21 := Aside0.mk HG21
                       clear gb21 gl21 HG21
                       obtain ⟨hx21_0, hf21_0⟩ := Kd.R_celln 0 HO_5.out (x7_2 : Int) p21 q21
                       replace p21 := eq_true p21
                       replace q21 := eq_true q21
                       have HP22 := Kd.R_putg HO_5.out (x7_2 : Int) ((wrap64 (48 + (wrap64 ((wrap64 ((wrap64 (bt a0 x7_2)) - (wrap64 (bt x1_1 x7_2)))) - x6_2)))) % 256)
                       go_wp2_with (fail)
                       repeat (go_quiet (fail); try go_wp2_with (fail))
                       go_roundg k2
                       case measure => have := HK1.out; have := HK2.out; omega
                       case rel => exact ⟨(y157), (0), (wrap64 (x7_2 - 1)), (by first | rfl | (simp; done) | (simp [*]; done)), (by first | rfl | (simp; done) | (simp [*]; done)), H', ⟨by have := HK1.out; have := HK2.out; omega⟩, ⟨by (with_reducible repeat (first | apply Kd.R_alloc | apply Kd.R_drewN | apply Kd.R_drew)); first | exact HO_5.out | (rw [Ny157.out]; exact Aid.R_set_drew HP22.1)⟩, ⟨by repeat (first | (with_reducible first | exact HB.out | apply below_alloc | apply pw_below_drewN | apply below_drew1) | refine below_set ?_ GB21.out | exact HB.out)⟩⟩
                     · rw [if_neg c20] at H
                       exact absurd H (by simp)
                 · rw [if_neg c13] at H
                   exact absurd H (by simp)
               · rw [if_neg c11] at H
                 exact absurd H (by simp)
             · rw [if_neg c10] at H
               exact absurd H (by simp)
           · rw [if_neg c9] at H
             have c9b0 : decide (0 ≤ x7_2) = false := decide_eq_false c9
             clear c9
             replace H := Option.bind_eq_some_iff.mp H
             obtain ⟨t158, A240, H⟩ := H
             replace H : (some t158) = some r := H
             have A24 := Aside0.mk A240
             clear A240
             obtain rfl := Option.some.inj H
             have hcv25 := own_string (P := Tryd.prog) Tryd.underlying69 Tryd.underlying5 Tryd.underlying9 (Kd.own_of_R HO_5.out)
             go_wp2_with (go_at_call 41; (with_reducible refine (idiomref03_Lead.calls k2 (strOfNums x5_2) t158 _ A24.out).mono ?_); rintro e w' ⟨rfl, ⟨nd, rfl⟩⟩; (try first | exact ⟨rfl, _, World.drewN_drewN _ _ _⟩ | exact ⟨rfl, _, Eq.trans (World.drewN_drewN _ _ _) (congrArg (World.drewN _) (Nat.add_assoc _ _ _))⟩))
             repeat (go_quiet (fail); try go_wp2_with (fail))
             go_ret
             exact ⟨by first | rfl | (exact congrArg (fun b => Ending.returned (.bool b)) (Aid.bne_nil _)) | (exact congrArg (fun b => Ending.returned (.bool b)) (Aid.eq_nil _)) | (simp [errW_none, errW_some] <;> rfl) | (simp [*, errW_none, errW_some] <;> rfl), by repeat (first | (with_reducible first | exact HB.out | apply below_alloc | apply pw_below_drewN | apply below_drew1) | exact HB.out)⟩
       · rw [if_neg c6] at H
         exact absurd H (by simp)
     · rw [if_neg c5] at H
       exact absurd H (by simp)

end Go.Proofs.YtpmhebdaphjinaaDoor.F
