-- Printed by this session's hookprint.py (over the kit's print.py, with hooks). Lean checks it.
import Derived.Test.YtpmhebdaphjinaaDoorF0
import Derived.Test.YtpmhebdaphjinaaDoorF11
namespace Go.Proofs.YtpmhebdaphjinaaDoor.F
open Go.RowKit Go.Proofs.YtpmhebdaphjinaaDoorW.PrintWords Go.Proofs.YtpmhebdaphjinaaDoorW.PrintLast Go.Proofs.YtpmhebdaphjinaaDoorW.PrintMore
attribute [local go_sem] max2_int min2_int max_two min_two max_three min_three max_four min_four   -- for this text's walks alone
set_option linter.unusedVariables false
set_option linter.unusedSimpArgs false

/-! ### idiomref03_add: function 56 -/
mutual
def idiomref03_add.l0 : Nat → ByteArray → ByteArray → Option (ByteArray)
 | 0, _, _ => none
 | k + 1, x0, x1 => if (x0.size : Int) < (x1.size : Int) then (if 1 + x0.size ≤ 9223372036854775807 then (idiomref03_add.l0 k ((⟨#[48]⟩ : ByteArray) ++ x0) x1) else (none)) else (idiomref03_add.l1 k x0 x1)
def idiomref03_add.l1 : Nat → ByteArray → ByteArray → Option (ByteArray)
 | 0, _, _ => none
 | k + 1, x0, x1 => if (x1.size : Int) < (x0.size : Int) then (if 1 + x1.size ≤ 9223372036854775807 then (idiomref03_add.l1 k x0 ((⟨#[48]⟩ : ByteArray) ++ x1)) else (none)) else (if 0 ≤ (x0.size : Int) then (if ((x0.size : Int) : Int).toNat ≤ 281474976710656 then (idiomref03_add.l2 k x0 x1 (List.replicate ((x0.size : Int) : Int).toNat 0) 0 (wrap64 ((x0.size : Int) - 1))) else (none)) else (none))
def idiomref03_add.l2 : Nat → ByteArray → ByteArray → List Int → Int → Int → Option (ByteArray)
 | 0, _, _, _, _, _ => none
 | k + 1, x0, x1, x5, x6, x7 => if x7 ≥ 0 then (if 0 ≤ x7 then (if x7 < (x0.size : Int) then (if x7 < (x1.size : Int) then (if x7 < (x5.length : Int) then (idiomref03_add.l2 k x0 x1 (x5.set (x7 : Int).toNat ((wrap64 (48 + (Int.tmod (wrap64 (((((bt x0 x7) - 48) % 256) + (((bt x1 x7) - 48) % 256)) + x6)) 10))) % 256)) (wrap64 (Int.tdiv (wrap64 (((((bt x0 x7) - 48) % 256) + (((bt x1 x7) - 48) % 256)) + x6)) 10)) (wrap64 (x7 - 1))) else (none)) else (none)) else (none)) else (none)) else (if x6 > 0 then (if 1 + (strOfNums x5).size ≤ 9223372036854775807 then (some ((⟨#[49]⟩ : ByteArray) ++ (strOfNums x5))) else (none)) else ((idiomref03_Lead.f k (strOfNums x5)).bind fun t173 => (some t173)))
end
def idiomref03_add.f (k : Nat) (a0 : ByteArray) (a1 : ByteArray) : Option (ByteArray) := idiomref03_add.l0 k a0 a1
theorem idiomref03_add.mono_l : ∀ k, (∀ y0 y1, LeO (idiomref03_add.l0 k y0 y1) (idiomref03_add.l0 (k + 1) y0 y1)) ∧ (∀ y0 y1, LeO (idiomref03_add.l1 k y0 y1) (idiomref03_add.l1 (k + 1) y0 y1)) ∧ (∀ y0 y1 y2 y3 y4, LeO (idiomref03_add.l2 k y0 y1 y2 y3 y4) (idiomref03_add.l2 (k + 1) y0 y1 y2 y3 y4))
 | 0 => ⟨fun _ _ r h => by simp [idiomref03_add.l0] at h, fun _ _ r h => by simp [idiomref03_add.l1] at h, fun _ _ _ _ _ r h => by simp [idiomref03_add.l2] at h⟩
 | k + 1 => by
  obtain ⟨ih0, ih1, ih2⟩ := idiomref03_add.mono_l k
  refine ⟨?_, ?_, ?_⟩
  · intro y0 y1
    unfold idiomref03_add.l0
    repeat' first
    | (with_reducible exact ih0 _ _)
    | (with_reducible exact ih1 _ _)
    | (with_reducible exact ih2 _ _ _ _ _)
    | (with_reducible exact idiomref03_Lead.mono _ _)
    | (with_reducible exact LeO.refl _)
    | (with_reducible exact LeO.none _)
    | (with_reducible refine LeO.ite ?_ ?_)
    | (with_reducible refine LeO.bind ?_ (fun _ => ?_))
    | exact ih0 _ _
    | exact ih1 _ _
    | exact ih2 _ _ _ _ _
    | exact idiomref03_Lead.mono _ _
    | exact LeO.none _
    | refine LeO.ite ?_ ?_
    | refine LeO.bind ?_ (fun _ => ?_)
  · intro y0 y1
    unfold idiomref03_add.l1
    repeat' first
    | (with_reducible exact ih0 _ _)
    | (with_reducible exact ih1 _ _)
    | (with_reducible exact ih2 _ _ _ _ _)
    | (with_reducible exact idiomref03_Lead.mono _ _)
    | (with_reducible exact LeO.refl _)
    | (with_reducible exact LeO.none _)
    | (with_reducible refine LeO.ite ?_ ?_)
    | (with_reducible refine LeO.bind ?_ (fun _ => ?_))
    | exact ih0 _ _
    | exact ih1 _ _
    | exact ih2 _ _ _ _ _
    | exact idiomref03_Lead.mono _ _
    | exact LeO.none _
    | refine LeO.ite ?_ ?_
    | refine LeO.bind ?_ (fun _ => ?_)
  · intro y0 y1 y2 y3 y4
    unfold idiomref03_add.l2
    repeat' first
    | (with_reducible exact ih0 _ _)
    | (with_reducible exact ih1 _ _)
    | (with_reducible exact ih2 _ _ _ _ _)
    | (with_reducible exact idiomref03_Lead.mono _ _)
    | (with_reducible exact LeO.refl _)
    | (with_reducible exact LeO.none _)
    | (with_reducible refine LeO.ite ?_ ?_)
    | (with_reducible refine LeO.bind ?_ (fun _ => ?_))
    | exact ih0 _ _
    | exact ih1 _ _
    | exact ih2 _ _ _ _ _
    | exact idiomref03_Lead.mono _ _
    | exact LeO.none _
    | refine LeO.ite ?_ ?_
    | refine LeO.bind ?_ (fun _ => ?_)
theorem idiomref03_add.mono : ∀ a0 a1 k, LeO (idiomref03_add.f k a0 a1) (idiomref03_add.f (k + 1) a0 a1) := by
 intro a0 a1 k
 obtain ⟨ih0, ih1, ih2⟩ := idiomref03_add.mono_l k
 unfold idiomref03_add.f
 repeat' first
  | (with_reducible exact ih0 _ _)
  | (with_reducible exact ih1 _ _)
  | (with_reducible exact ih2 _ _ _ _ _)
  | (with_reducible exact idiomref03_Lead.mono _ _)
  | (with_reducible exact LeO.refl _)
  | (with_reducible exact LeO.none _)
  | (with_reducible refine LeO.ite ?_ ?_)
  | (with_reducible refine LeO.bind ?_ (fun _ => ?_))
  | exact ih0 _ _
  | exact ih1 _ _
  | exact ih2 _ _ _ _ _
  | exact idiomref03_Lead.mono _ _
  | exact LeO.none _
  | refine LeO.ite ?_ ?_
  | refine LeO.bind ?_ (fun _ => ?_)
set_option maxHeartbeats 8000000 in
set_option maxRecDepth 100000 in
theorem idiomref03_add.calls (k : Nat) (a0 : ByteArray) (a1 : ByteArray) (r : ByteArray) (w : World) (h : idiomref03_add.f k a0 a1 = some r) :
 Calls Tryd.prog 56 #[.string a0, .string a1] w fun e w' => e = .returned (.string r) ∧ Below w.heap.size w w' := by
 have HB := Aside0.mk (Below.refl w.heap.size w)
 have H : (idiomref03_add.l0 k a0 a1) = some r := h
 clear h
 have H' := Aside0.mk H
 clear H
 go_enter Tryd.func56, Tryd.ntmps56
 go_wp2
 repeat (go_quiet (fail); try go_wp2)
 (try simp only [Act.put, List.setIfInBounds_toArray, List.set_cons_zero, List.set_cons_succ])
 go_loopg [0] k (fun kq v0 w' => ∃ (x0_1 : ByteArray), v0 = .string x0_1 ∧ Aside0 (idiomref03_add.l0 kq x0_1 a1 = some r) ∧ Aside0 (kq ≤ k) ∧ Aside0 (Below w.heap.size w w'))
 case atStart => exact ⟨(a0), (by first | rfl | (simp; done) | (simp [*]; done)), H', ⟨Nat.le_refl _⟩, ⟨by repeat (first | (with_reducible first | exact HB.out | apply below_alloc | apply pw_below_drewN | apply below_drew1) | exact HB.out)⟩⟩
 case round =>
  clear H'
  try clear p2
  obtain ⟨x0_1, rfl, HA, HK1, HB⟩ := hrel
  cases gk with
  | zero => exact absurd HA.out (by simp [idiomref03_add.l0])
  | succ k1 =>
   have H := HA.out
   clear HA
   simp only [idiomref03_add.l0] at H
   by_cases c3 : (x0_1.size : Int) < (a1.size : Int)
   · rw [if_pos c3] at H
     have c3b0 : decide ((x0_1.size : Int) < (a1.size : Int)) = true := decide_eq_true c3
     have c3b1 : decide (x0_1.size < a1.size) = true := decide_eq_true (Int.ofNat_lt.mp c3)
     clear c3
     by_cases c4 : 1 + x0_1.size ≤ 9223372036854775807
     · rw [if_pos c4] at H
       have c4b0 := eq_true c4
       have c4b1 : decide (1 + x0_1.size ≤ 9223372036854775807) = true := decide_eq_true c4
       try have c4b2 : (9223372036854775807 < 1 + x0_1.size) = False := eq_false (Nat.not_lt.2 c4)
       have H' := Aside0.mk H
       clear H
       go_wp2
       repeat (go_quiet (fail); try go_wp2)
       go_roundg k1
       case measure => have := HK1.out; omega
       case rel => exact ⟨((⟨#[48]⟩ : ByteArray) ++ x0_1), (by first | rfl | (simp; done) | (simp [*]; done)), H', ⟨by have := HK1.out; omega⟩, ⟨by repeat (first | (with_reducible first | exact HB.out | apply below_alloc | apply pw_below_drewN | apply below_drew1) | exact HB.out)⟩⟩
     · rw [if_neg c4] at H
       exact absurd H (by simp)
   · rw [if_neg c3] at H
     have c3b0 : decide ((x0_1.size : Int) < (a1.size : Int)) = false := decide_eq_false c3
     have c3b1 : decide (x0_1.size < a1.size) = false := decide_eq_false (fun h => c3 (Int.ofNat_lt.mpr h))
     clear c3
     have H' := Aside0.mk H
     clear H
     go_wp2
     repeat (go_quiet (fail); try go_wp2)
     (try simp only [Act.put, List.setIfInBounds_toArray, List.set_cons_zero, List.set_cons_succ])
     go_loopg [1] k1 (fun kq v1 w' => ∃ (x1_2 : ByteArray), v1 = .string x1_2 ∧ Aside0 (idiomref03_add.l1 kq x0_1 x1_2 = some r) ∧ Aside0 (kq ≤ k1) ∧ Aside0 (Below w.heap.size w w'))
     case atStart => exact ⟨(a1), (by first | rfl | (simp; done) | (simp [*]; done)), H', ⟨Nat.le_refl _⟩, ⟨by repeat (first | (with_reducible first | exact HB.out | apply below_alloc | apply pw_below_drewN | apply below_drew1) | exact HB.out)⟩⟩
     case round =>
      clear H'
      try clear p2
      try clear c3
      try clear c3b0
      try clear c3b1
      try clear c4
      try clear c4b0
      try clear c4b1
      try clear c4b2
      try clear p2
      obtain ⟨x1_2, rfl, HA, HK2, HB⟩ := hrel
      cases gk with
      | zero => exact absurd HA.out (by simp [idiomref03_add.l1])
      | succ k2 =>
       have H := HA.out
       clear HA
       simp only [idiomref03_add.l1] at H
       by_cases c5 : (x1_2.size : Int) < (x0_1.size : Int)
       · rw [if_pos c5] at H
         have c5b0 : decide ((x1_2.size : Int) < (x0_1.size : Int)) = true := decide_eq_true c5
         have c5b1 : decide (x1_2.size < x0_1.size) = true := decide_eq_true (Int.ofNat_lt.mp c5)
         clear c5
         by_cases c6 : 1 + x1_2.size ≤ 9223372036854775807
         · rw [if_pos c6] at H
           have c6b0 := eq_true c6
           have c6b1 : decide (1 + x1_2.size ≤ 9223372036854775807) = true := decide_eq_true c6
           try have c6b2 : (9223372036854775807 < 1 + x1_2.size) = False := eq_false (Nat.not_lt.2 c6)
           have H' := Aside0.mk H
           clear H
           go_wp2
           repeat (go_quiet (fail); try go_wp2)
           go_roundg k2
           case measure => have := HK1.out; have := HK2.out; omega
           case rel => exact ⟨((⟨#[48]⟩ : ByteArray) ++ x1_2), (by first | rfl | (simp; done) | (simp [*]; done)), H', ⟨by have := HK1.out; have := HK2.out; omega⟩, ⟨by repeat (first | (with_reducible first | exact HB.out | apply below_alloc | apply pw_below_drewN | apply below_drew1) | exact HB.out)⟩⟩
         · rw [if_neg c6] at H
           exact absurd H (by simp)
       · rw [if_neg c5] at H
         have c5b0 : decide ((x1_2.size : Int) < (x0_1.size : Int)) = false := decide_eq_false c5
         have c5b1 : decide (x1_2.size < x0_1.size) = false := decide_eq_false (fun h => c5 (Int.ofNat_lt.mpr h))
         clear c5
         by_cases c7 : 0 ≤ (x0_1.size : Int)
         · rw [if_pos c7] at H
           have c7b0 := eq_true c7
           have c7b1 : decide (0 ≤ (x0_1.size : Int)) = true := decide_eq_true c7
           clear c7
           by_cases c8 : ((x0_1.size : Int) : Int).toNat ≤ 281474976710656
           · rw [if_pos c8] at H
             have c8b0 := eq_true c8
             have c8b1 : decide (((x0_1.size : Int) : Int).toNat ≤ 281474976710656) = true := decide_eq_true c8
             clear c8
             obtain ⟨y169, hy169⟩ : ∃ y_ : List Int, y_ = (List.replicate ((x0_1.size : Int) : Int).toNat 0) := ⟨_, rfl⟩
             replace H : (idiomref03_add.l2 k2 x0_1 x1_2 y169 0 (wrap64 ((x0_1.size : Int) - 1))) = some r := by first | (rw [hy169]; with_reducible exact H) | (have H2_ := (Option.bind_some _ _).symm.trans H; rw [hy169]; with_reducible exact H2_) | (have H2_ := (Option.bind_some _ _).symm.trans H; with_reducible exact H2_) | with_reducible exact H | (rw [hy169]; exact H) | exact H
             have Ny169 := Aside0.mk hy169
             clear hy169
             have H' := Aside0.mk H
             clear H
             go_wp2_with ((with_reducible refine gate_dst (N := 25) rfl ?_); refine Kd.R_make (Kd.int .u8) _ 5 rfl (N := 25) rfl 69 _ _ rfl (x0_1.size : Int) rfl rfl Tryd.underlying69 (.int .u8 0) 1 info5 rfl (by decide) (by omega) 0 (ok := fun _ => True) (okp := fun _ => True) rfl (fun _ hk => hk) trivial (of_decide_eq_true (by first | (with_reducible assumption) | assumption)) (Nat.le_trans (Nat.mul_le_mul_right _ (of_decide_eq_true (by first | (with_reducible assumption) | assumption) : (x0_1.size : Int).toNat ≤ 281474976710656)) (by omega)) (Below.refl _ _) (Nat.le_refl _) ?_; intro v170 w9 ho10 hb hg_ hnew_; clear hg_ hnew_; (first | rw [← Ny169.out] at ho10 | (simp only [Int.reduceToNat] at ho10; rw [← Ny169.out] at ho10)); have n0_ := Aside0.mk (Kd.R_lower ho10 (below_size (by repeat (first | (with_reducible first | exact HB.out | apply below_alloc | apply pw_below_drewN | apply below_drew1) | exact HB.out)))); have n1_ := Aside0.mk (below_step (by repeat (first | (with_reducible first | exact HB.out | apply below_alloc | apply pw_below_drewN | apply below_drew1) | exact HB.out)) hb); clear HB; have HO171 := n0_; have HB := n1_; clear n0_ n1_; clear hb ho10)
             repeat (go_quiet (fail); try go_wp2_with (fail))
             (try simp only [Act.put, List.setIfInBounds_toArray, List.set_cons_zero, List.set_cons_succ])
             go_loopg [6, 7] k2 (fun kq v6 v7 w' => ∃ (x5_3 : List Int) (x6_3 : Int) (x7_3 : Int), v6 = .int .i64 x6_3 ∧ v7 = .int .i64 x7_3 ∧ Aside0 (idiomref03_add.l2 kq x0_1 x1_2 x5_3 x6_3 x7_3 = some r) ∧ Aside0 (kq ≤ k2) ∧ Aside0 (Kd.R (Kd.int .u8) 5 w' w.heap.size (fun _ => True) v170 x5_3) ∧ Aside0 (Below w.heap.size w w'))
             case atStart => exact ⟨(y169), (0), (wrap64 ((x0_1.size : Int) - 1)), (by first | rfl | (simp; done) | (simp [*]; done)), (by first | rfl | (simp; done) | (simp [*]; done)), H', ⟨Nat.le_refl _⟩, ⟨by (with_reducible repeat (first | apply Kd.R_alloc | apply Kd.R_drewN | apply Kd.R_drew)); exact HO171.out⟩, ⟨by repeat (first | (with_reducible first | exact HB.out | apply below_alloc | apply pw_below_drewN | apply below_drew1) | exact HB.out)⟩⟩
             case round =>
              clear H'
              try clear p2
              try clear c3
              try clear c3b0
              try clear c3b1
              try clear c4
              try clear c4b0
              try clear c4b1
              try clear c4b2
              try clear c5
              try clear c5b0
              try clear c5b1
              try clear c6
              try clear c6b0
              try clear c6b1
              try clear c6b2
              try clear p6
              try clear c7
              try clear c7b0
              try clear c7b1
              try clear c8
              try clear c8b0
              try clear c8b1
              try clear p2
              obtain ⟨x5_3, x6_3, x7_3, rfl, rfl, HA, HK3, HO_5, HB⟩ := hrel
              cases gk with
              | zero => exact absurd HA.out (by simp [idiomref03_add.l2])
              | succ k3 =>
               have H := HA.out
               clear HA
               simp only [idiomref03_add.l2] at H
               by_cases c11 : x7_3 ≥ 0
               · rw [if_pos c11] at H
                 have c11b0 : decide (0 ≤ x7_3) = true := decide_eq_true c11
                 clear c11
                 by_cases c12 : 0 ≤ x7_3
                 · rw [if_pos c12] at H
                   have c12b0 : decide (0 ≤ x7_3) = true := decide_eq_true c12
                   clear c12
                   by_cases c13 : x7_3 < (x0_1.size : Int)
                   · rw [if_pos c13] at H
                     have c13b0 : decide (x7_3 < (x0_1.size : Int)) = true := decide_eq_true c13
                     clear c13
                     by_cases c15 : x7_3 < (x1_2.size : Int)
                     · rw [if_pos c15] at H
                       have c15b0 : decide (x7_3 < (x1_2.size : Int)) = true := decide_eq_true c15
                       clear c15
                       by_cases c17 : x7_3 < (x5_3.length : Int)
                       · rw [if_pos c17] at H
                         have c17b0 : decide (x7_3 < (x5_3.length : Int)) = true := decide_eq_true c17
                         clear c17
                         obtain ⟨y172, hy172⟩ : ∃ y_ : List Int, y_ = (x5_3.set (x7_3 : Int).toNat ((wrap64 (48 + (Int.tmod (wrap64 (((((bt x0_1 x7_3) - 48) % 256) + (((bt x1_2 x7_3) - 48) % 256)) + x6_3)) 10))) % 256)) := ⟨_, rfl⟩
                         replace H : (idiomref03_add.l2 k3 x0_1 x1_2 y172 (wrap64 (Int.tdiv (wrap64 (((((bt x0_1 x7_3) - 48) % 256) + (((bt x1_2 x7_3) - 48) % 256)) + x6_3)) 10)) (wrap64 (x7_3 - 1))) = some r := by first | (rw [hy172]; with_reducible exact H) | (have H2_ := (Option.bind_some _ _).symm.trans H; rw [hy172]; with_reducible exact H2_) | (have H2_ := (Option.bind_some _ _).symm.trans H; with_reducible exact H2_) | with_reducible exact H | (rw [hy172]; exact H) | exact H
                         have Ny172 := Aside0.mk hy172
                         clear hy172
                         have H' := Aside0.mk H
                         clear H
                         have p14 : 0 ≤ (x7_3 : Int) := of_decide_eq_true (by first | (with_reducible assumption) | assumption)
                         have q14 : x7_3 < (x0_1.size : Int) := of_decide_eq_true (by first | (with_reducible assumption) | assumption)
                         have hx14 := bt_at x0_1 x7_3
                         replace p14 := eq_true p14
                         replace q14 := eq_true q14
                         have p16 : 0 ≤ (x7_3 : Int) := of_decide_eq_true (by first | (with_reducible assumption) | assumption)
                         have q16 : x7_3 < (x1_2.size : Int) := of_decide_eq_true (by first | (with_reducible assumption) | assumption)
                         have hx16 := bt_at x1_2 x7_3
                         replace p16 := eq_true p16
                         replace q16 := eq_true q16
                         have p18 : 0 ≤ (x7_3 : Int) := of_decide_eq_true (by first | (with_reducible assumption) | assumption)
                         have q18 : (x7_3 : Int) < ((x5_3.length : Int) : Int) := of_decide_eq_true (by first | (with_reducible assumption) | assumption)
                         obtain ⟨go18, co18, eo18, gb18, gl18, cl18, HG18⟩ := Kd.R_form HO_5.out (by omega)
                         (first | cases eo18 | (injection eo18 with ea_ en_ ec_; (first | subst ea_ | (injection ea_ with ea_; subst ea_)); subst ec_; clear en_))
                         have GB18 := Aside0.mk gb18
                         have GG18 := Aside0.mk HG18
                         clear gb18 gl18 HG18
                         obtain ⟨hx18_0, hf18_0⟩ := Kd.R_celln 0 HO_5.out (x7_3 : Int) p18 q18
                         replace p18 := eq_true p18
                         replace q18 := eq_true q18
                         have HP19 := Kd.R_putg HO_5.out (x7_3 : Int) ((wrap64 (48 + (Int.tmod (wrap64 (((((bt x0_1 x7_3) - 48) % 256) + (((bt x1_2 x7_3) - 48) % 256)) + x6_3)) 10))) % 256)
                         go_wp2_with (fail)
                         repeat (go_quiet (fail); try go_wp2_with (fail))
                         go_roundg k3
                         case measure => have := HK1.out; have := HK2.out; have := HK3.out; omega
                         case rel => exact ⟨(y172), (wrap64 (Int.tdiv (wrap64 (((((bt x0_1 x7_3) - 48) % 256) + (((bt x1_2 x7_3) - 48) % 256)) + x6_3)) 10)), (wrap64 (x7_3 - 1)), (by first | rfl | (simp; done) | (simp [*]; done)), (by first | rfl | (simp; done) | (simp [*]; done)), H', ⟨by have := HK1.out; have := HK2.out; have := HK3.out; omega⟩, ⟨by (with_reducible repeat (first | apply Kd.R_alloc | apply Kd.R_drewN | apply Kd.R_drew)); first | exact HO_5.out | (rw [Ny172.out]; exact Aid.R_set_drew HP19.1)⟩, ⟨by repeat (first | (with_reducible first | exact HB.out | apply below_alloc | apply pw_below_drewN | apply below_drew1) | refine below_set ?_ GB18.out | exact HB.out)⟩⟩
                       · rw [if_neg c17] at H
                         exact absurd H (by simp)
                     · rw [if_neg c15] at H
                       exact absurd H (by simp)
                   · rw [if_neg c13] at H
                     exact absurd H (by simp)
                 · rw [if_neg c12] at H
                   exact absurd H (by simp)
               · rw [if_neg c11] at H
                 have c11b0 : decide (0 ≤ x7_3) = false := decide_eq_false c11
                 clear c11
                 by_cases c21 : x6_3 > 0
                 · rw [if_pos c21] at H
                   have c21b0 : decide (0 < x6_3) = true := decide_eq_true c21
                   clear c21
                   by_cases c22 : 1 + (strOfNums x5_3).size ≤ 9223372036854775807
                   · rw [if_pos c22] at H
                     have c22b0 := eq_true c22
                     have c22b1 : decide (1 + (strOfNums x5_3).size ≤ 9223372036854775807) = true := decide_eq_true c22
                     try have c22b2 : (9223372036854775807 < 1 + (strOfNums x5_3).size) = False := eq_false (Nat.not_lt.2 c22)
                     obtain rfl := Option.some.inj H
                     have hcv23 := own_string (P := Tryd.prog) Tryd.underlying69 Tryd.underlying5 Tryd.underlying9 (Kd.own_of_R HO_5.out)
                     go_wp2
                     repeat (go_quiet (fail); try go_wp2)
                     go_ret
                     exact ⟨by first | rfl | (exact congrArg (fun b => Ending.returned (.bool b)) (Aid.bne_nil _)) | (exact congrArg (fun b => Ending.returned (.bool b)) (Aid.eq_nil _)) | (simp [errW_none, errW_some] <;> rfl) | (simp [*, errW_none, errW_some] <;> rfl), by repeat (first | (with_reducible first | exact HB.out | apply below_alloc | apply pw_below_drewN | apply below_drew1) | exact HB.out)⟩
                   · rw [if_neg c22] at H
                     exact absurd H (by simp)
                 · rw [if_neg c21] at H
                   have c21b0 : decide (0 < x6_3) = false := decide_eq_false c21
                   clear c21
                   replace H := Option.bind_eq_some_iff.mp H
                   obtain ⟨t173, A240, H⟩ := H
                   replace H : (some t173) = some r := H
                   have A24 := Aside0.mk A240
                   clear A240
                   obtain rfl := Option.some.inj H
                   have hcv25 := own_string (P := Tryd.prog) Tryd.underlying69 Tryd.underlying5 Tryd.underlying9 (Kd.own_of_R HO_5.out)
                   go_wp2_with (go_at_call 41; (with_reducible refine (idiomref03_Lead.calls k3 (strOfNums x5_3) t173 _ A24.out).mono ?_); rintro e w' ⟨rfl, ⟨nd, rfl⟩⟩; (try first | exact ⟨rfl, _, World.drewN_drewN _ _ _⟩ | exact ⟨rfl, _, Eq.trans (World.drewN_drewN _ _ _) (congrArg (World.drewN _) (Nat.add_assoc _ _ _))⟩))
                   repeat (go_quiet (fail); try go_wp2_with (fail))
                   go_ret
                   exact ⟨by first | rfl | (exact congrArg (fun b => Ending.returned (.bool b)) (Aid.bne_nil _)) | (exact congrArg (fun b => Ending.returned (.bool b)) (Aid.eq_nil _)) | (simp [errW_none, errW_some] <;> rfl) | (simp [*, errW_none, errW_some] <;> rfl), by repeat (first | (with_reducible first | exact HB.out | apply below_alloc | apply pw_below_drewN | apply below_drew1) | exact HB.out)⟩
           · rw [if_neg c8] at H
             exact absurd H (by simp)
         · rw [if_neg c7] at H
           exact absurd H (by simp)

end Go.Proofs.YtpmhebdaphjinaaDoor.F
