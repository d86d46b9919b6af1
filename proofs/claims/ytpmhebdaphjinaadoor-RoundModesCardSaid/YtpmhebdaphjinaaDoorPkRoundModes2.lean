/- Part 3 of 7 of the proof of the law RoundModes: it is true at every input. Conditions: those of the given row, no others. -/
import Derived.Test.YtpmhebdaphjinaaDoorPkRoundModes0
import Derived.Test.YtpmhebdaphjinaaDoorPkRoundModes1
namespace Go.Proofs.YtpmhebdaphjinaaDoor.F
open Go.RowKit Go.Proofs.YtpmhebdaphjinaaDoorW.PrintWords Go.Proofs.YtpmhebdaphjinaaDoorW.PrintLast Go.Proofs.YtpmhebdaphjinaaDoorW.PrintMore Go.Proofs.YtpmhebdaphjinaaDoor.Q
attribute [local go_sem] max2_int min2_int max_two min_two max_three min_three max_four min_four   -- for this text's walks alone
set_option linter.unusedVariables false
set_option linter.unusedSimpArgs false

mutual
def idiomref03_sub.l0 : Nat → ByteArray → ByteArray → Option (ByteArray)
 | 0, _, _ => none
 | k + 1, x0, x1 => if (x1.size : Int) < (x0.size : Int) then (if 1 + x1.size ≤ 9223372036854775807 then (idiomref03_sub.l0 k x0 ((⟨#[48]⟩ : ByteArray) ++ x1)) else (none)) else (if 0 ≤ (x0.size : Int) then (if ((x0.size : Int) : Int).toNat ≤ 281474976710656 then (idiomref03_sub.l1 k x0 x1 (List.replicate ((x0.size : Int) : Int).toNat 0) 0 (wrap64 ((x0.size : Int) - 1))) else (none)) else (none))
def idiomref03_sub.l1 : Nat → ByteArray → ByteArray → List Int → Int → Int → Option (ByteArray)
 | 0, _, _, _, _, _ => none
 | k + 1, x0, x1, x5, x6, x7 => if x7 ≥ 0 then (if 0 ≤ x7 then (if x7 < (x0.size : Int) then (if x7 < (x1.size : Int) then (if (wrap64 ((wrap64 ((wrap64 (bt x0 x7)) - (wrap64 (bt x1 x7)))) - x6)) < 0 then (if x7 < (x5.length : Int) then (idiomref03_sub.l1 k x0 x1 (x5.set (x7 : Int).toNat ((wrap64 (48 + (wrap64 ((wrap64 ((wrap64 ((wrap64 (bt x0 x7)) - (wrap64 (bt x1 x7)))) - x6)) + 10)))) % 256)) 1 (wrap64 (x7 - 1))) else (none)) else (if x7 < (x5.length : Int) then (idiomref03_sub.l1 k x0 x1 (x5.set (x7 : Int).toNat ((wrap64 (48 + (wrap64 ((wrap64 ((wrap64 (bt x0 x7)) - (wrap64 (bt x1 x7)))) - x6)))) % 256)) 0 (wrap64 (x7 - 1))) else (none))) else (none)) else (none)) else (none)) else ((idiomref03_Lead.f k (strOfNums x5)).bind fun t158 => (some t158))
end
def idiomref03_sub.f (k : Nat) (a0 : ByteArray) (a1 : ByteArray) : Option (ByteArray) := idiomref03_sub.l0 k a0 a1
theorem idiomref03_sub.mono_l : ∀ k, (∀ y0 y1, LeO (idiomref03_sub.l0 k y0 y1) (idiomref03_sub.l0 (k + 1) y0 y1)) ∧ (∀ y0 y1 y2 y3 y4, LeO (idiomref03_sub.l1 k y0 y1 y2 y3 y4) (idiomref03_sub.l1 (k + 1) y0 y1 y2 y3 y4))
 | 0 => ⟨fun _ _ r h => by simp [idiomref03_sub.l0] at h, fun _ _ _ _ _ r h => by simp [idiomref03_sub.l1] at h⟩
 | k + 1 => by
  obtain ⟨ih0, ih1⟩ := idiomref03_sub.mono_l k
  refine ⟨?_, ?_⟩
  · intro y0 y1
    unfold idiomref03_sub.l0
    repeat' first
    | (with_reducible exact ih0 _ _)
    | (with_reducible exact ih1 _ _ _ _ _)
    | (with_reducible exact idiomref03_Lead.mono _ _)
    | (with_reducible exact LeO.refl _)
    | (with_reducible exact LeO.none _)
    | (with_reducible refine LeO.ite ?_ ?_)
    | (with_reducible refine LeO.bind ?_ (fun _ => ?_))
    | exact ih0 _ _
    | exact ih1 _ _ _ _ _
    | exact idiomref03_Lead.mono _ _
    | exact LeO.none _
    | refine LeO.ite ?_ ?_
    | refine LeO.bind ?_ (fun _ => ?_)
  · intro y0 y1 y2 y3 y4
    unfold idiomref03_sub.l1
    repeat' first
    | (with_reducible exact ih0 _ _)
    | (with_reducible exact ih1 _ _ _ _ _)
    | (with_reducible exact idiomref03_Lead.mono _ _)
    | (with_reducible exact LeO.refl _)
    | (with_reducible exact LeO.none _)
    | (with_reducible refine LeO.ite ?_ ?_)
    | (with_reducible refine LeO.bind ?_ (fun _ => ?_))
    | exact ih0 _ _
    | exact ih1 _ _ _ _ _
    | exact idiomref03_Lead.mono _ _
    | exact LeO.none _
    | refine LeO.ite ?_ ?_
    | refine LeO.bind ?_ (fun _ => ?_)
theorem idiomref03_sub.mono : ∀ a0 a1 k, LeO (idiomref03_sub.f k a0 a1) (idiomref03_sub.f (k + 1) a0 a1) := by
 intro a0 a1 k
 obtain ⟨ih0, ih1⟩ := idiomref03_sub.mono_l k
 unfold idiomref03_sub.f
 repeat' first
  | (with_reducible exact ih0 _ _)
  | (with_reducible exact ih1 _ _ _ _ _)
  | (with_reducible exact idiomref03_Lead.mono _ _)
  | (with_reducible exact LeO.refl _)
  | (with_reducible exact LeO.none _)
  | (with_reducible refine LeO.ite ?_ ?_)
  | (with_reducible refine LeO.bind ?_ (fun _ => ?_))
  | exact ih0 _ _
  | exact ih1 _ _ _ _ _
  | exact idiomref03_Lead.mono _ _
  | exact LeO.none _
  | refine LeO.ite ?_ ?_
  | refine LeO.bind ?_ (fun _ => ?_)
set_option maxHeartbeats 8000000 in
set_option maxRecDepth 100000 in
theorem idiomref03_sub.calls (k : Nat) (a0 : ByteArray) (a1 : ByteArray) (r : ByteArray) (w : World) (h : idiomref03_sub.f k a0 a1 = some r) :
 Calls Tryd.prog 88 #[.string a0, .string a1] w fun e w' => e = .returned (.string r) ∧ Below w.heap.size w w' := by
 have HB := Aside0.mk (Below.refl w.heap.size w)
 have H : (idiomref03_sub.l0 k a0 a1) = some r := h
 clear h
 have H' := Aside0.mk H
 clear H
 go_enter Tryd.func88, Tryd.ntmps88
 go_wp2
 repeat (go_quiet (fail); try go_wp2)
 (try simp only [Act.put, List.setIfInBounds_toArray, List.set_cons_zero, List.set_cons_succ])
 go_loopg [1] k (fun kq v1 w' => ∃ (x1_1 : ByteArray), v1 = .string x1_1 ∧ Aside0 (idiomref03_sub.l0 kq a0 x1_1 = some r) ∧ Aside0 (kq ≤ k) ∧ Aside0 (Below w.heap.size w w'))
 case atStart => exact ⟨(a1), (by first | rfl | (simp; done) | (simp [*]; done)), H', ⟨Nat.le_refl _⟩, ⟨qh HB⟩⟩
 case round =>
  clear H'
  try clear p2
  obtain ⟨x1_1, rfl, HA, HK1, HB⟩ := hrel
  cases gk with
  | zero => exact absurd HA.out (by simp [idiomref03_sub.l0])
  | succ k1 =>
   have H := HA.out
   clear HA
   simp only [idiomref03_sub.l0] at H
   by_cases c3 : (x1_1.size : Int) < (a0.size : Int)
   · rw [if_pos c3] at H
     have c3b0 : decide ((x1_1.size : Int) < (a0.size : Int)) = true := decide_eq_true c3
     have c3b1 : decide (x1_1.size < a0.size) = true := decide_eq_true (Int.ofNat_lt.mp c3)
     clear c3
     by_cases c4 : 1 + x1_1.size ≤ 9223372036854775807
     · rw [if_pos c4] at H
       have c4b0 := eq_true c4
       have c4b1 : decide (1 + x1_1.size ≤ 9223372036854775807) = true := decide_eq_true c4
       try have c4b2 : (9223372036854775807 < 1 + x1_1.size) = False := eq_false (Nat.not_lt.2 c4)
       have H' := Aside0.mk H
       clear H
       go_wp2
       repeat (go_quiet (fail); try go_wp2)
       go_roundg k1
       case measure => have := HK1.out; omega
       case rel => exact ⟨((⟨#[48]⟩ : ByteArray) ++ x1_1), (by first | rfl | (simp; done) | (simp [*]; done)), H', ⟨by have := HK1.out; omega⟩, ⟨qh HB⟩⟩
     · rw [if_neg c4] at H
       exact absurd H (by simp)
   · rw [if_neg c3] at H
     have c3b0 : decide ((x1_1.size : Int) < (a0.size : Int)) = false := decide_eq_false c3
     have c3b1 : decide (x1_1.size < a0.size) = false := decide_eq_false (fun h => c3 (Int.ofNat_lt.mpr h))
     clear c3
     by_cases c5 : 0 ≤ (a0.size : Int)
     · rw [if_pos c5] at H
       have c5b0 := eq_true c5
       have c5b1 : decide (0 ≤ (a0.size : Int)) = true := decide_eq_true c5
       clear c5
       by_cases c6 : ((a0.size : Int) : Int).toNat ≤ 281474976710656
       · rw [if_pos c6] at H
         have c6b0 := eq_true c6
         have c6b1 : decide (((a0.size : Int) : Int).toNat ≤ 281474976710656) = true := decide_eq_true c6
         clear c6
         obtain ⟨y153, hy153⟩ : ∃ y_ : List Int, y_ = (List.replicate ((a0.size : Int) : Int).toNat 0) := ⟨_, rfl⟩
         replace H : (idiomref03_sub.l1 k1 a0 x1_1 y153 0 (wrap64 ((a0.size : Int) - 1))) = some r := by first | (rw [hy153]; with_reducible exact H) | (have H2_ := (Option.bind_some _ _).symm.trans H; rw [hy153]; with_reducible exact H2_) | (have H2_ := (Option.bind_some _ _).symm.trans H; with_reducible exact H2_) | with_reducible exact H | (rw [hy153]; exact H) | exact H
         have Ny153 := Aside0.mk hy153
         clear hy153
         have H' := Aside0.mk H
         clear H
         go_wp2_with (first | ((with_reducible refine gate_dst (N := 18) rfl ?_); refine Kd.R_make (Kd.int .u8) _ 5 rfl (N := 18) rfl 69 _ _ rfl (a0.size : Int) rfl rfl Tryd.underlying69 (.int .u8 0) 1 info5 rfl (by decide) (by omega) 0 (ok := fun _ => True) (okp := fun _ => True) rfl (fun _ hk => hk) trivial (of_decide_eq_true qa) (Nat.le_trans (Nat.mul_le_mul_right _ (of_decide_eq_true qa : (a0.size : Int).toNat ≤ 281474976710656)) (by omega)) (Below.refl _ _) (Nat.le_refl _) ?_; intro v154 w7 ho8 hb hg_ hnew_; clear hg_ hnew_; (first | rw [← Ny153.out] at ho8 | (simp only [Int.reduceToNat] at ho8; rw [← Ny153.out] at ho8)); have HO155 := Aside0.mk (Kd.R_lower ho8 (below_size (qh HB))); replace HB := qn HB hb; clear hb ho8))
         repeat (go_quiet (first | ((with_reducible refine gate_dst (N := 18) rfl ?_); refine Kd.R_make (Kd.int .u8) _ 5 rfl (N := 18) rfl 69 _ _ rfl (a0.size : Int) rfl rfl Tryd.underlying69 (.int .u8 0) 1 info5 rfl (by decide) (by omega) 0 (ok := fun _ => True) (okp := fun _ => True) rfl (fun _ hk => hk) trivial (of_decide_eq_true qa) (Nat.le_trans (Nat.mul_le_mul_right _ (of_decide_eq_true qa : (a0.size : Int).toNat ≤ 281474976710656)) (by omega)) (Below.refl _ _) (Nat.le_refl _) ?_; intro v154 w7 ho8 hb hg_ hnew_; clear hg_ hnew_; (first | rw [← Ny153.out] at ho8 | (simp only [Int.reduceToNat] at ho8; rw [← Ny153.out] at ho8)); have HO155 := Aside0.mk (Kd.R_lower ho8 (below_size (qh HB))); replace HB := qn HB hb; clear hb ho8)); try go_wp2_with (first | ((with_reducible refine gate_dst (N := 18) rfl ?_); refine Kd.R_make (Kd.int .u8) _ 5 rfl (N := 18) rfl 69 _ _ rfl (a0.size : Int) rfl rfl Tryd.underlying69 (.int .u8 0) 1 info5 rfl (by decide) (by omega) 0 (ok := fun _ => True) (okp := fun _ => True) rfl (fun _ hk => hk) trivial (of_decide_eq_true qa) (Nat.le_trans (Nat.mul_le_mul_right _ (of_decide_eq_true qa : (a0.size : Int).toNat ≤ 281474976710656)) (by omega)) (Below.refl _ _) (Nat.le_refl _) ?_; intro v154 w7 ho8 hb hg_ hnew_; clear hg_ hnew_; (first | rw [← Ny153.out] at ho8 | (simp only [Int.reduceToNat] at ho8; rw [← Ny153.out] at ho8)); have HO155 := Aside0.mk (Kd.R_lower ho8 (below_size (qh HB))); replace HB := qn HB hb; clear hb ho8)))
         (try simp only [Act.put, List.setIfInBounds_toArray, List.set_cons_zero, List.set_cons_succ])
         go_loopg [6, 7] k1 (fun kq v6 v7 w' => ∃ (x5_2 : List Int) (x6_2 : Int) (x7_2 : Int), v6 = .int .i64 x6_2 ∧ v7 = .int .i64 x7_2 ∧ Aside0 (idiomref03_sub.l1 kq a0 x1_1 x5_2 x6_2 x7_2 = some r) ∧ Aside0 (kq ≤ k1) ∧ Aside0 (Kd.R (Kd.int .u8) 5 w' w.heap.size (fun _ => True) v154 x5_2) ∧ Aside0 (Below w.heap.size w w'))
         case atStart => exact ⟨(y153), (0), (wrap64 ((a0.size : Int) - 1)), (by first | rfl | (simp; done) | (simp [*]; done)), (by first | rfl | (simp; done) | (simp [*]; done)), H', ⟨Nat.le_refl _⟩, ⟨by (with_reducible repeat (first | apply Kd.R_alloc | apply Kd.R_drewN | apply Kd.R_drew)); exact HO155.out⟩, ⟨qh HB⟩⟩
         case round =>
          clear H'
          try clear p2
          try clear c3
          try clear c3b0
          try clear c3b1
          try clear c4
          try clear c4b0
          try clear c4b1
          try clear c4b2
          try clear c5
          try clear c5b0
          try clear c5b1
          try clear c6
          try clear c6b0
          try clear c6b1
          try clear p6
          try clear c8
          try clear p2
          obtain ⟨x5_2, x6_2, x7_2, rfl, rfl, HA, HK2, HO_5, HB⟩ := hrel
          cases gk with
          | zero => exact absurd HA.out (by simp [idiomref03_sub.l1])
          | succ k2 =>
           have H := HA.out
           clear HA
           simp only [idiomref03_sub.l1] at H
           by_cases c9 : x7_2 ≥ 0
           · rw [if_pos c9] at H
             have c9b0 : decide (0 ≤ x7_2) = true := decide_eq_true c9
             clear c9
             by_cases c10 : 0 ≤ x7_2
             · rw [if_pos c10] at H
               have c10b0 : decide (0 ≤ x7_2) = true := decide_eq_true c10
               clear c10
               by_cases c11 : x7_2 < (a0.size : Int)
               · rw [if_pos c11] at H
                 have c11b0 : decide (x7_2 < (a0.size : Int)) = true := decide_eq_true c11
                 clear c11
                 by_cases c13 : x7_2 < (x1_1.size : Int)
                 · rw [if_pos c13] at H
                   have c13b0 : decide (x7_2 < (x1_1.size : Int)) = true := decide_eq_true c13
                   clear c13
                   by_cases c15 : (wrap64 ((wrap64 ((wrap64 (bt a0 x7_2)) - (wrap64 (bt x1_1 x7_2)))) - x6_2)) < 0
                   · rw [if_pos c15] at H
                     have c15b0 : decide ((wrap64 ((wrap64 ((wrap64 (bt a0 x7_2)) - (wrap64 (bt x1_1 x7_2)))) - x6_2)) < 0) = true := decide_eq_true c15
                     clear c15
                     by_cases c16 : x7_2 < (x5_2.length : Int)
                     · rw [if_pos c16] at H
                       have c16b0 : decide (x7_2 < (x5_2.length : Int)) = true := decide_eq_true c16
                       clear c16
                       obtain ⟨y156, hy156⟩ : ∃ y_ : List Int, y_ = (x5_2.set (x7_2 : Int).toNat ((wrap64 (48 + (wrap64 ((wrap64 ((wrap64 ((wrap64 (bt a0 x7_2)) - (wrap64 (bt x1_1 x7_2)))) - x6_2)) + 10)))) % 256)) := ⟨_, rfl⟩
                       replace H : (idiomref03_sub.l1 k2 a0 x1_1 y156 1 (wrap64 (x7_2 - 1))) = some r := by first | (rw [hy156]; with_reducible exact H) | (have H2_ := (Option.bind_some _ _).symm.trans H; rw [hy156]; with_reducible exact H2_) | (have H2_ := (Option.bind_some _ _).symm.trans H; with_reducible exact H2_) | with_reducible exact H | (rw [hy156]; exact H) | exact H
                       have Ny156 := Aside0.mk hy156
                       clear hy156
                       have H' := Aside0.mk H
                       clear H
                       have p12 : 0 ≤ (x7_2 : Int) := of_decide_eq_true qa
                       have q12 : x7_2 < (a0.size : Int) := of_decide_eq_true qa
                       have hx12 := bt_at a0 x7_2
                       replace p12 := eq_true p12
                       replace q12 := eq_true q12
                       have p14 : 0 ≤ (x7_2 : Int) := of_decide_eq_true qa
                       have q14 : x7_2 < (x1_1.size : Int) := of_decide_eq_true qa
                       have hx14 := bt_at x1_1 x7_2
                       replace p14 := eq_true p14
                       replace q14 := eq_true q14
                       have p17 : 0 ≤ (x7_2 : Int) := of_decide_eq_true qa
                       have q17 : (x7_2 : Int) < ((x5_2.length : Int) : Int) := of_decide_eq_true qa
                       obtain ⟨go17, co17, eo17, gb17, gl17, cl17, HG17⟩ := Kd.R_form HO_5.out (by omega)
                       (first | cases eo17 | (injection eo17 with ea_ en_ ec_; (first | subst ea_ | (injection ea_ with ea_; subst ea_)); subst ec_; clear en_))
                       have GB17 := Aside0.mk gb17
                       have GG17 := Aside0.mk HG17
                       clear gb17 gl17 HG17
                       obtain ⟨hx17_0, hf17_0⟩ := Kd.R_celln 0 HO_5.out (x7_2 : Int) p17 q17
                       replace p17 := eq_true p17
                       replace q17 := eq_true q17
                       have HP18 := Kd.R_putg HO_5.out (x7_2 : Int) ((wrap64 (48 + (wrap64 ((wrap64 ((wrap64 ((wrap64 (bt a0 x7_2)) - (wrap64 (bt x1_1 x7_2)))) - x6_2)) + 10)))) % 256)
                       go_wp2_with (first | ((with_reducible refine gate_store (t := 5) (p := 46) rfl ?_); (try (rw [drewN_self wr]; generalize hq_ : World.drewN wr _ = wr; have n0_ := Aside0.mk (Kd.R_at hq_ HO_5.out); have n1_ := Aside0.mk (below_at hq_ HB.out); clear hq_ HO_5 HB; have HO_5 := n0_; have HB := n1_; clear n0_ n1_; (try (have HP18 := Kd.R_putg HO_5.out (x7_2 : Int) ((wrap64 (48 + (wrap64 ((wrap64 ((wrap64 ((wrap64 (bt a0 x7_2)) - (wrap64 (bt x1_1 x7_2)))) - x6_2)) + 10)))) % 256))))); refine store_event (t := 5) (p := 46) (v := ?vo_w19) (w1 := (wr.setCell ⟨go17, (x7_2 : Int).toNat, none⟩ (.int .u8 ((wrap64 (48 + (wrap64 ((wrap64 ((wrap64 ((wrap64 (bt a0 x7_2)) - (wrap64 (bt x1_1 x7_2)))) - x6_2)) + 10)))) % 256)))) ?hg ?ho ?hn ?hr ?_; (case ho => rfl); (case hg => rfl); (case hn => rfl); (case hr => first | (go_simp; done) | (go_simp; rfl)); intro w19 hw; have hg : wr.grownBy w19 (some go17) := (by rw [hw]; exact HP18.2); have hp_ : Kd.R (Kd.int .u8) 5 w19 w.heap.size (fun _ => True) (.slice (some ⟨go17, 0, none⟩) x5_2.length co17) y156 := (by rw [hw, Ny156.out]; exact HP18.1); clear HP18; replace HO_5 := Aside0.mk (hp_); replace HB := Aside0.mk ((by rw [hw]; exact below_set (HB.out) GB17.out : Below w.heap.size w w19)); clear hg hw hp_))
                       repeat (go_quiet (first | ((with_reducible refine gate_store (t := 5) (p := 46) rfl ?_); (try (rw [drewN_self wr]; generalize hq_ : World.drewN wr _ = wr; have n0_ := Aside0.mk (Kd.R_at hq_ HO_5.out); have n1_ := Aside0.mk (below_at hq_ HB.out); clear hq_ HO_5 HB; have HO_5 := n0_; have HB := n1_; clear n0_ n1_; (try (have HP18 := Kd.R_putg HO_5.out (x7_2 : Int) ((wrap64 (48 + (wrap64 ((wrap64 ((wrap64 ((wrap64 (bt a0 x7_2)) - (wrap64 (bt x1_1 x7_2)))) - x6_2)) + 10)))) % 256))))); refine store_event (t := 5) (p := 46) (v := ?vo_w19) (w1 := (wr.setCell ⟨go17, (x7_2 : Int).toNat, none⟩ (.int .u8 ((wrap64 (48 + (wrap64 ((wrap64 ((wrap64 ((wrap64 (bt a0 x7_2)) - (wrap64 (bt x1_1 x7_2)))) - x6_2)) + 10)))) % 256)))) ?hg ?ho ?hn ?hr ?_; (case ho => rfl); (case hg => rfl); (case hn => rfl); (case hr => first | (go_simp; done) | (go_simp; rfl)); intro w19 hw; have hg : wr.grownBy w19 (some go17) := (by rw [hw]; exact HP18.2); have hp_ : Kd.R (Kd.int .u8) 5 w19 w.heap.size (fun _ => True) (.slice (some ⟨go17, 0, none⟩) x5_2.length co17) y156 := (by rw [hw, Ny156.out]; exact HP18.1); clear HP18; replace HO_5 := Aside0.mk (hp_); replace HB := Aside0.mk ((by rw [hw]; exact below_set (HB.out) GB17.out : Below w.heap.size w w19)); clear hg hw hp_)); try go_wp2_with (first | ((with_reducible refine gate_store (t := 5) (p := 46) rfl ?_); (try (rw [drewN_self wr]; generalize hq_ : World.drewN wr _ = wr; have n0_ := Aside0.mk (Kd.R_at hq_ HO_5.out); have n1_ := Aside0.mk (below_at hq_ HB.out); clear hq_ HO_5 HB; have HO_5 := n0_; have HB := n1_; clear n0_ n1_; (try (have HP18 := Kd.R_putg HO_5.out (x7_2 : Int) ((wrap64 (48 + (wrap64 ((wrap64 ((wrap64 ((wrap64 (bt a0 x7_2)) - (wrap64 (bt x1_1 x7_2)))) - x6_2)) + 10)))) % 256))))); refine store_event (t := 5) (p := 46) (v := ?vo_w19) (w1 := (wr.setCell ⟨go17, (x7_2 : Int).toNat, none⟩ (.int .u8 ((wrap64 (48 + (wrap64 ((wrap64 ((wrap64 ((wrap64 (bt a0 x7_2)) - (wrap64 (bt x1_1 x7_2)))) - x6_2)) + 10)))) % 256)))) ?hg ?ho ?hn ?hr ?_; (case ho => rfl); (case hg => rfl); (case hn => rfl); (case hr => first | (go_simp; done) | (go_simp; rfl)); intro w19 hw; have hg : wr.grownBy w19 (some go17) := (by rw [hw]; exact HP18.2); have hp_ : Kd.R (Kd.int .u8) 5 w19 w.heap.size (fun _ => True) (.slice (some ⟨go17, 0, none⟩) x5_2.length co17) y156 := (by rw [hw, Ny156.out]; exact HP18.1); clear HP18; replace HO_5 := Aside0.mk (hp_); replace HB := Aside0.mk ((by rw [hw]; exact below_set (HB.out) GB17.out : Below w.heap.size w w19)); clear hg hw hp_)))
                       go_roundg k2
                       case measure => have := HK1.out; have := HK2.out; omega
                       case rel => exact ⟨(y156), (1), (wrap64 (x7_2 - 1)), (by first | rfl | (simp; done) | (simp [*]; done)), (by first | rfl | (simp; done) | (simp [*]; done)), H', ⟨by have := HK1.out; have := HK2.out; omega⟩, ⟨by (with_reducible repeat (first | apply Kd.R_alloc | apply Kd.R_drewN | apply Kd.R_drew)); first | exact HO_5.out | (rw [Ny156.out]; exact Aid.R_set_drew HP18.1)⟩, ⟨by repeat (first | (with_reducible first | exact HB.out | apply below_alloc | apply pw_below_drewN | apply below_drew1) | refine below_set ?_ GB17.out | exact HB.out)⟩⟩
                     · rw [if_neg c16] at H
                       exact absurd H (by simp)
                   · rw [if_neg c15] at H
                     have c15b0 : decide ((wrap64 ((wrap64 ((wrap64 (bt a0 x7_2)) - (wrap64 (bt x1_1 x7_2)))) - x6_2)) < 0) = false := decide_eq_false c15
                     clear c15
                     by_cases c20 : x7_2 < (x5_2.length : Int)
                     · rw [if_pos c20] at H
                       have c20b0 : decide (x7_2 < (x5_2.length : Int)) = true := decide_eq_true c20
                       clear c20
                       obtain ⟨y157, hy157⟩ : ∃ y_ : List Int, y_ = (x5_2.set (x7_2 : Int).toNat ((wrap64 (48 + (wrap64 ((wrap64 ((wrap64 (bt a0 x7_2)) - (wrap64 (bt x1_1 x7_2)))) - x6_2)))) % 256)) := ⟨_, rfl⟩
                       replace H : (idiomref03_sub.l1 k2 a0 x1_1 y157 0 (wrap64 (x7_2 - 1))) = some r := by first | (rw [hy157]; with_reducible exact H) | (have H2_ := (Option.bind_some _ _).symm.trans H; rw [hy157]; with_reducible exact H2_) | (have H2_ := (Option.bind_some _ _).symm.trans H; with_reducible exact H2_) | with_reducible exact H | (rw [hy157]; exact H) | exact H
                       have Ny157 := Aside0.mk hy157
                       clear hy157
                       have H' := Aside0.mk H
                       clear H
                       have p12 : 0 ≤ (x7_2 : Int) := of_decide_eq_true qa
                       have q12 : x7_2 < (a0.size : Int) := of_decide_eq_true qa
                       have hx12 := bt_at a0 x7_2
                       replace p12 := eq_true p12
                       replace q12 := eq_true q12
                       have p14 : 0 ≤ (x7_2 : Int) := of_decide_eq_true qa
                       have q14 : x7_2 < (x1_1.size : Int) := of_decide_eq_true qa
                       have hx14 := bt_at x1_1 x7_2
                       replace p14 := eq_true p14
                       replace q14 := eq_true q14
                       have p21 : 0 ≤ (x7_2 : Int) := of_decide_eq_true qa
                       have q21 : (x7_2 : Int) < ((x5_2.length : Int) : Int) := of_decide_eq_true qa
                       obtain ⟨go21, co21, eo21, gb21, gl21, cl21, HG21⟩ := Kd.R_form HO_5.out (by omega)
                       (first | cases eo21 | (injection eo21 with ea_ en_ ec_; (first | subst ea_ | (injection ea_ with ea_; subst ea_)); subst ec_; clear en_))
                       have GB21 := Aside0.mk gb21
                       have GG21 := Aside0.mk HG21
                       clear gb21 gl21 HG21
                       obtain ⟨hx21_0, hf21_0⟩ := Kd.R_celln 0 HO_5.out (x7_2 : Int) p21 q21
                       replace p21 := eq_true p21
                       replace q21 := eq_true q21
                       have HP22 := Kd.R_putg HO_5.out (x7_2 : Int) ((wrap64 (48 + (wrap64 ((wrap64 ((wrap64 (bt a0 x7_2)) - (wrap64 (bt x1_1 x7_2)))) - x6_2)))) % 256)
                       go_wp2_with (first | ((with_reducible refine gate_store (t := 5) (p := 46) rfl ?_); (try (rw [drewN_self wr]; generalize hq_ : World.drewN wr _ = wr; have n0_ := Aside0.mk (Kd.R_at hq_ HO_5.out); have n1_ := Aside0.mk (below_at hq_ HB.out); clear hq_ HO_5 HB; have HO_5 := n0_; have HB := n1_; clear n0_ n1_; (try (have HP22 := Kd.R_putg HO_5.out (x7_2 : Int) ((wrap64 (48 + (wrap64 ((wrap64 ((wrap64 (bt a0 x7_2)) - (wrap64 (bt x1_1 x7_2)))) - x6_2)))) % 256))))); refine store_event (t := 5) (p := 46) (v := ?vo_w23) (w1 := (wr.setCell ⟨go21, (x7_2 : Int).toNat, none⟩ (.int .u8 ((wrap64 (48 + (wrap64 ((wrap64 ((wrap64 (bt a0 x7_2)) - (wrap64 (bt x1_1 x7_2)))) - x6_2)))) % 256)))) ?hg ?ho ?hn ?hr ?_; (case ho => rfl); (case hg => rfl); (case hn => rfl); (case hr => first | (go_simp; done) | (go_simp; rfl)); intro w23 hw; have hg : wr.grownBy w23 (some go21) := (by rw [hw]; exact HP22.2); have hp_ : Kd.R (Kd.int .u8) 5 w23 w.heap.size (fun _ => True) (.slice (some ⟨go21, 0, none⟩) x5_2.length co21) y157 := (by rw [hw, Ny157.out]; exact HP22.1); clear HP22; replace HO_5 := Aside0.mk (hp_); replace HB := Aside0.mk ((by rw [hw]; exact below_set (HB.out) GB21.out : Below w.heap.size w w23)); clear hg hw hp_))
                       repeat (go_quiet (first | ((with_reducible refine gate_store (t := 5) (p := 46) rfl ?_); (try (rw [drewN_self wr]; generalize hq_ : World.drewN wr _ = wr; have n0_ := Aside0.mk (Kd.R_at hq_ HO_5.out); have n1_ := Aside0.mk (below_at hq_ HB.out); clear hq_ HO_5 HB; have HO_5 := n0_; have HB := n1_; clear n0_ n1_; (try (have HP22 := Kd.R_putg HO_5.out (x7_2 : Int) ((wrap64 (48 + (wrap64 ((wrap64 ((wrap64 (bt a0 x7_2)) - (wrap64 (bt x1_1 x7_2)))) - x6_2)))) % 256))))); refine store_event (t := 5) (p := 46) (v := ?vo_w23) (w1 := (wr.setCell ⟨go21, (x7_2 : Int).toNat, none⟩ (.int .u8 ((wrap64 (48 + (wrap64 ((wrap64 ((wrap64 (bt a0 x7_2)) - (wrap64 (bt x1_1 x7_2)))) - x6_2)))) % 256)))) ?hg ?ho ?hn ?hr ?_; (case ho => rfl); (case hg => rfl); (case hn => rfl); (case hr => first | (go_simp; done) | (go_simp; rfl)); intro w23 hw; have hg : wr.grownBy w23 (some go21) := (by rw [hw]; exact HP22.2); have hp_ : Kd.R (Kd.int .u8) 5 w23 w.heap.size (fun _ => True) (.slice (some ⟨go21, 0, none⟩) x5_2.length co21) y157 := (by rw [hw, Ny157.out]; exact HP22.1); clear HP22; replace HO_5 := Aside0.mk (hp_); replace HB := Aside0.mk ((by rw [hw]; exact below_set (HB.out) GB21.out : Below w.heap.size w w23)); clear hg hw hp_)); try go_wp2_with (first | ((with_reducible refine gate_store (t := 5) (p := 46) rfl ?_); (try (rw [drewN_self wr]; generalize hq_ : World.drewN wr _ = wr; have n0_ := Aside0.mk (Kd.R_at hq_ HO_5.out); have n1_ := Aside0.mk (below_at hq_ HB.out); clear hq_ HO_5 HB; have HO_5 := n0_; have HB := n1_; clear n0_ n1_; (try (have HP22 := Kd.R_putg HO_5.out (x7_2 : Int) ((wrap64 (48 + (wrap64 ((wrap64 ((wrap64 (bt a0 x7_2)) - (wrap64 (bt x1_1 x7_2)))) - x6_2)))) % 256))))); refine store_event (t := 5) (p := 46) (v := ?vo_w23) (w1 := (wr.setCell ⟨go21, (x7_2 : Int).toNat, none⟩ (.int .u8 ((wrap64 (48 + (wrap64 ((wrap64 ((wrap64 (bt a0 x7_2)) - (wrap64 (bt x1_1 x7_2)))) - x6_2)))) % 256)))) ?hg ?ho ?hn ?hr ?_; (case ho => rfl); (case hg => rfl); (case hn => rfl); (case hr => first | (go_simp; done) | (go_simp; rfl)); intro w23 hw; have hg : wr.grownBy w23 (some go21) := (by rw [hw]; exact HP22.2); have hp_ : Kd.R (Kd.int .u8) 5 w23 w.heap.size (fun _ => True) (.slice (some ⟨go21, 0, none⟩) x5_2.length co21) y157 := (by rw [hw, Ny157.out]; exact HP22.1); clear HP22; replace HO_5 := Aside0.mk (hp_); replace HB := Aside0.mk ((by rw [hw]; exact below_set (HB.out) GB21.out : Below w.heap.size w w23)); clear hg hw hp_)))
                       go_roundg k2
                       case measure => have := HK1.out; have := HK2.out; omega
                       case rel => exact ⟨(y157), (0), (wrap64 (x7_2 - 1)), (by first | rfl | (simp; done) | (simp [*]; done)), (by first | rfl | (simp; done) | (simp [*]; done)), H', ⟨by have := HK1.out; have := HK2.out; omega⟩, ⟨by (with_reducible repeat (first | apply Kd.R_alloc | apply Kd.R_drewN | apply Kd.R_drew)); first | exact HO_5.out | (rw [Ny157.out]; exact Aid.R_set_drew HP22.1)⟩, ⟨by repeat (first | (with_reducible first | exact HB.out | apply below_alloc | apply pw_below_drewN | apply below_drew1) | refine below_set ?_ GB21.out | exact HB.out)⟩⟩
                     · rw [if_neg c20] at H
                       exact absurd H (by simp)
                 · rw [if_neg c13] at H
                   exact absurd H (by simp)
               · rw [if_neg c11] at H
                 exact absurd H (by simp)
             · rw [if_neg c10] at H
               exact absurd H (by simp)
           · rw [if_neg c9] at H
             have c9b0 : decide (0 ≤ x7_2) = false := decide_eq_false c9
             clear c9
             replace H := Option.bind_eq_some_iff.mp H
             obtain ⟨t158, A240, H⟩ := H
             replace H : (some t158) = some r := H
             have A24 := Aside0.mk A240
             clear A240
             obtain rfl := Option.some.inj H
             have hcv25 := own_string (P := Tryd.prog) Tryd.underlying69 Tryd.underlying5 Tryd.underlying9 (Kd.own_of_R HO_5.out)
             go_wp2_with (first | (go_at_call 41; (with_reducible refine (idiomref03_Lead.calls k2 (strOfNums x5_2) t158 _ A24.out).mono ?_); rintro e w' ⟨rfl, ⟨nd, rfl⟩⟩; (try first | exact ⟨rfl, _, World.drewN_drewN _ _ _⟩ | exact ⟨rfl, _, Eq.trans (World.drewN_drewN _ _ _) (congrArg (World.drewN _) (Nat.add_assoc _ _ _))⟩)))
             repeat (go_quiet (first | (go_at_call 41; (with_reducible refine (idiomref03_Lead.calls k2 (strOfNums x5_2) t158 _ A24.out).mono ?_); rintro e w' ⟨rfl, ⟨nd, rfl⟩⟩; (try first | exact ⟨rfl, _, World.drewN_drewN _ _ _⟩ | exact ⟨rfl, _, Eq.trans (World.drewN_drewN _ _ _) (congrArg (World.drewN _) (Nat.add_assoc _ _ _))⟩))); try go_wp2_with (first | (go_at_call 41; (with_reducible refine (idiomref03_Lead.calls k2 (strOfNums x5_2) t158 _ A24.out).mono ?_); rintro e w' ⟨rfl, ⟨nd, rfl⟩⟩; (try first | exact ⟨rfl, _, World.drewN_drewN _ _ _⟩ | exact ⟨rfl, _, Eq.trans (World.drewN_drewN _ _ _) (congrArg (World.drewN _) (Nat.add_assoc _ _ _))⟩))))
             go_ret
             exact ⟨qe, qh HB⟩
       · rw [if_neg c6] at H
         exact absurd H (by simp)
     · rw [if_neg c5] at H
       exact absurd H (by simp)

end Go.Proofs.YtpmhebdaphjinaaDoor.F
namespace Go.Proofs.YtpmhebdaphjinaaDoor.F
open Go.RowKit Go.Proofs.YtpmhebdaphjinaaDoorW.PrintWords Go.Proofs.YtpmhebdaphjinaaDoorW.PrintLast Go.Proofs.YtpmhebdaphjinaaDoorW.PrintMore Go.Proofs.YtpmhebdaphjinaaDoor.Q
attribute [local go_sem] max2_int min2_int max_two min_two max_three min_three max_four min_four   -- for this text's walks alone
set_option linter.unusedVariables false
set_option linter.unusedSimpArgs false

mutual
def idiomref03_quo.l0 : Nat → ByteArray → ByteArray → List Int → ByteArray → Int → Option (ByteArray × ByteArray)
 | 0, _, _, _, _, _ => none
 | k + 1, x0, x1, x6, x7, x8 => if x8 < (x0.size : Int) then (if 0 ≤ x8 then (if x8 ≤ (wrap64 (x8 + 1)) then (if (wrap64 (x8 + 1)) ≤ (x0.size : Int) then (if x7.size + (x0.extract (x8 : Int).toNat ((wrap64 (x8 + 1)) : Int).toNat).size ≤ 9223372036854775807 then ((idiomref03_Lead.f k (x7 ++ (x0.extract (x8 : Int).toNat ((wrap64 (x8 + 1)) : Int).toNat))).bind fun t163 => (idiomref03_quo.l1 k x0 x1 x6 t163 x8 48)) else (none)) else (none)) else (none)) else (none)) else ((idiomref03_Lead.f k (strOfNums x6)).bind fun t162 => (some (t162, x7)))
def idiomref03_quo.l1 : Nat → ByteArray → ByteArray → List Int → ByteArray → Int → Int → Option (ByteArray × ByteArray)
 | 0, _, _, _, _, _, _ => none
 | k + 1, x0, x1, x6, x7, x8, x9 => (idiomref03_cmp.f k x7 x1).bind fun t164 => (if t164 ≥ 0 then ((idiomref03_sub.f k x7 x1).bind fun t165 => (idiomref03_quo.l1 k x0 x1 x6 t165 x8 ((x9 + 1) % 256))) else (if x6.length < 140737488355328 then (idiomref03_quo.l0 k x0 x1 (x6 ++ [x9]) x7 (wrap64 (x8 + 1))) else (none)))
end
def idiomref03_quo.f (k : Nat) (a0 : ByteArray) (a1 : ByteArray) : Option (ByteArray × ByteArray) := idiomref03_quo.l0 k a0 a1 (([] : List Int)) (⟨#[48]⟩ : ByteArray) 0
theorem idiomref03_quo.mono_l : ∀ k, (∀ y0 y1 y2 y3 y4, LeO (idiomref03_quo.l0 k y0 y1 y2 y3 y4) (idiomref03_quo.l0 (k + 1) y0 y1 y2 y3 y4)) ∧ (∀ y0 y1 y2 y3 y4 y5, LeO (idiomref03_quo.l1 k y0 y1 y2 y3 y4 y5) (idiomref03_quo.l1 (k + 1) y0 y1 y2 y3 y4 y5))
 | 0 => ⟨fun _ _ _ _ _ r h => by simp [idiomref03_quo.l0] at h, fun _ _ _ _ _ _ r h => by simp [idiomref03_quo.l1] at h⟩
 | k + 1 => by
  obtain ⟨ih0, ih1⟩ := idiomref03_quo.mono_l k
  refine ⟨?_, ?_⟩
  · intro y0 y1 y2 y3 y4
    unfold idiomref03_quo.l0
    repeat' first
    | (with_reducible exact ih0 _ _ _ _ _)
    | (with_reducible exact ih1 _ _ _ _ _ _)
    | (with_reducible exact idiomref03_Lead.mono _ _)
    | (with_reducible exact idiomref03_cmp.mono _ _ _)
    | (with_reducible exact idiomref03_sub.mono _ _ _)
    | (with_reducible exact LeO.refl _)
    | (with_reducible exact LeO.none _)
    | (with_reducible refine LeO.ite ?_ ?_)
    | (with_reducible refine LeO.bind ?_ (fun _ => ?_))
    | exact ih0 _ _ _ _ _
    | exact ih1 _ _ _ _ _ _
    | exact idiomref03_Lead.mono _ _
    | exact idiomref03_cmp.mono _ _ _
    | exact idiomref03_sub.mono _ _ _
    | exact LeO.none _
    | refine LeO.ite ?_ ?_
    | refine LeO.bind ?_ (fun _ => ?_)
  · intro y0 y1 y2 y3 y4 y5
    unfold idiomref03_quo.l1
    repeat' first
    | (with_reducible exact ih0 _ _ _ _ _)
    | (with_reducible exact ih1 _ _ _ _ _ _)
    | (with_reducible exact idiomref03_Lead.mono _ _)
    | (with_reducible exact idiomref03_cmp.mono _ _ _)
    | (with_reducible exact idiomref03_sub.mono _ _ _)
    | (with_reducible exact LeO.refl _)
    | (with_reducible exact LeO.none _)
    | (with_reducible refine LeO.ite ?_ ?_)
    | (with_reducible refine LeO.bind ?_ (fun _ => ?_))
    | exact ih0 _ _ _ _ _
    | exact ih1 _ _ _ _ _ _
    | exact idiomref03_Lead.mono _ _
    | exact idiomref03_cmp.mono _ _ _
    | exact idiomref03_sub.mono _ _ _
    | exact LeO.none _
    | refine LeO.ite ?_ ?_
    | refine LeO.bind ?_ (fun _ => ?_)
theorem idiomref03_quo.mono : ∀ a0 a1 k, LeO (idiomref03_quo.f k a0 a1) (idiomref03_quo.f (k + 1) a0 a1) := by
 intro a0 a1 k
 obtain ⟨ih0, ih1⟩ := idiomref03_quo.mono_l k
 unfold idiomref03_quo.f
 repeat' first
  | (with_reducible exact ih0 _ _ _ _ _)
  | (with_reducible exact ih1 _ _ _ _ _ _)
  | (with_reducible exact idiomref03_Lead.mono _ _)
  | (with_reducible exact idiomref03_cmp.mono _ _ _)
  | (with_reducible exact idiomref03_sub.mono _ _ _)
  | (with_reducible exact LeO.refl _)
  | (with_reducible exact LeO.none _)
  | (with_reducible refine LeO.ite ?_ ?_)
  | (with_reducible refine LeO.bind ?_ (fun _ => ?_))
  | exact ih0 _ _ _ _ _
  | exact ih1 _ _ _ _ _ _
  | exact idiomref03_Lead.mono _ _
  | exact idiomref03_cmp.mono _ _ _
  | exact idiomref03_sub.mono _ _ _
  | exact LeO.none _
  | refine LeO.ite ?_ ?_
  | refine LeO.bind ?_ (fun _ => ?_)
set_option maxHeartbeats 8000000 in
set_option maxRecDepth 100000 in
theorem idiomref03_quo.calls (k : Nat) (a0 : ByteArray) (a1 : ByteArray) (r1 : ByteArray) (r2 : ByteArray) (w : World) (h : idiomref03_quo.f k a0 a1 = some (r1, r2)) :
 Calls Tryd.prog 54 #[.string a0, .string a1] w fun e w' => e = .returned (.tuple #[.string r1, .string r2]) ∧ Below w.heap.size w w' := by
 have HB := Aside0.mk (Below.refl w.heap.size w)
 have H : (idiomref03_quo.l0 k a0 a1 (([] : List Int)) (⟨#[48]⟩ : ByteArray) 0) = some (r1, r2) := h
 clear h
 obtain ⟨y159, hy159⟩ : ∃ y_ : List Int, y_ = (([] : List Int)) := ⟨_, rfl⟩
 replace H : (idiomref03_quo.l0 k a0 a1 y159 (⟨#[48]⟩ : ByteArray) 0) = some (r1, r2) := by first | (rw [hy159]; with_reducible exact H) | (have H2_ := (Option.bind_some _ _).symm.trans H; rw [hy159]; with_reducible exact H2_) | (have H2_ := (Option.bind_some _ _).symm.trans H; with_reducible exact H2_) | with_reducible exact H | (rw [hy159]; exact H) | exact H
 have Ny159 := Aside0.mk hy159
 clear hy159
 have H' := Aside0.mk H
 clear H
 go_enter Tryd.func54, Tryd.ntmps54
 go_wp2_with (first | ((with_reducible refine gate_dst (N := 10) rfl ?_); refine Kd.R_lit (Kd.int .u8) _ 5 ?hg (N := 10) ?hd (xs := ([] : List Int)) (inner := []) (ok := fun _ => True) (okp := fun _ => True) ?hr ?hp (fun _ hk => hk) trivial (Below.refl _ _) (Nat.le_refl _) (by simp) ?_; (case hd => rfl); (case hg => rfl); (case hr => first | (go_simp; done) | (go_simp; rfl)); (case hp => exact (Reps.none _ _)); intro v160 w3 ho4 hb hg_ hnew_; clear hg_ hnew_; (first | rw [← Ny159.out] at ho4 | (simp only [Int.reduceToNat] at ho4; rw [← Ny159.out] at ho4)); have HO161 := Aside0.mk (Kd.R_lower ho4 (below_size (qh HB))); replace HB := qn HB hb; clear hb ho4))
 (try simp only [Act.put, List.setIfInBounds_toArray, List.set_cons_zero, List.set_cons_succ])
 go_loopg [6, 7, 8] k (fun kq v6 v7 v8 w' => ∃ (x6_1 : List Int) (x7_1 : ByteArray) (x8_1 : Int), v7 = .string x7_1 ∧ v8 = .int .i64 x8_1 ∧ Aside0 (idiomref03_quo.l0 kq a0 a1 x6_1 x7_1 x8_1 = some (r1, r2)) ∧ Aside0 (kq ≤ k) ∧ Aside0 (Kd.R (Kd.int .u8) 5 w' w.heap.size (fun _ => True) v6 x6_1) ∧ Aside0 (Below w.heap.size w w'))
 case atStart => exact ⟨(y159), ((⟨#[48]⟩ : ByteArray)), (0), (by first | rfl | (simp; done) | (simp [*]; done)), (by first | rfl | (simp; done) | (simp [*]; done)), H', ⟨Nat.le_refl _⟩, ⟨by (with_reducible repeat (first | apply Kd.R_alloc | apply Kd.R_drewN | apply Kd.R_drew)); exact HO161.out⟩, ⟨qh HB⟩⟩
 case round =>
  clear H'
  try clear p2
  obtain ⟨x6_1, x7_1, x8_1, rfl, rfl, HA, HK1, HO_6, HB⟩ := hrel
  cases gk with
  | zero => exact absurd HA.out (by simp [idiomref03_quo.l0])
  | succ k1 =>
   have H := HA.out
   clear HA
   simp only [idiomref03_quo.l0] at H
   by_cases c5 : x8_1 < (a0.size : Int)
   · rw [if_pos c5] at H
     have c5b0 : decide (x8_1 < (a0.size : Int)) = true := decide_eq_true c5
     clear c5
     by_cases c6 : 0 ≤ x8_1
     · rw [if_pos c6] at H
       have c6b0 := eq_true c6
       have c6b1 : decide (0 ≤ x8_1) = true := decide_eq_true c6
       clear c6
       by_cases c7 : x8_1 ≤ (wrap64 (x8_1 + 1))
       · rw [if_pos c7] at H
         have c7b0 := eq_true c7
         have c7b1 : decide (x8_1 ≤ (wrap64 (x8_1 + 1))) = true := decide_eq_true c7
         by_cases c8 : (wrap64 (x8_1 + 1)) ≤ (a0.size : Int)
         · rw [if_pos c8] at H
           have c8b0 := eq_true c8
           have c8b1 : decide ((wrap64 (x8_1 + 1)) ≤ (a0.size : Int)) = true := decide_eq_true c8
           by_cases c9 : x7_1.size + (a0.extract (x8_1 : Int).toNat ((wrap64 (x8_1 + 1)) : Int).toNat).size ≤ 9223372036854775807
           · rw [if_pos c9] at H
             have c9b0 := eq_true c9
             try have c9b0z := c9b0
             (try simp only [go_sem, ByteArray.size_extract, ByteArray.size_append, Nat.min_self, Int.natCast_add] at c9b0z)
             have c9b1 : decide (x7_1.size + (a0.extract (x8_1 : Int).toNat ((wrap64 (x8_1 + 1)) : Int).toNat).size ≤ 9223372036854775807) = true := decide_eq_true c9
             try have c9b1z := c9b1
             (try simp only [go_sem, ByteArray.size_extract, ByteArray.size_append, Nat.min_self, Int.natCast_add] at c9b1z)
             try have c9b2 : (9223372036854775807 < x7_1.size + (a0.extract (x8_1 : Int).toNat ((wrap64 (x8_1 + 1)) : Int).toNat).size) = False := eq_false (Nat.not_lt.2 c9)
             try have c9b2z := c9b2
             (try simp only [go_sem, ByteArray.size_extract, ByteArray.size_append, Nat.min_self, Int.natCast_add] at c9b2z)
             replace H := Option.bind_eq_some_iff.mp H
             obtain ⟨t163, A100, H⟩ := H
             replace H : (idiomref03_quo.l1 k1 a0 a1 x6_1 t163 x8_1 48) = some (r1, r2) := H
             have A10 := Aside0.mk A100
             clear A100
             have H' := Aside0.mk H
             clear H
             go_wp2_with (first | ((with_reducible refine gate_callee (f := 41) rfl ?_); refine goesL_ (some 24) rfl rfl Tryd.func41 (by kernel_rfl) rfl #[.string (x7_1 ++ (a0.extract (x8_1 : Int).toNat ((wrap64 (x8_1 + 1)) : Int).toNat))] rfl ql ?_; (with_reducible refine (idiomref03_Lead.calls k1 (x7_1 ++ (a0.extract (x8_1 : Int).toNat ((wrap64 (x8_1 + 1)) : Int).toNat)) t163 _ A10.out).mono ?_); rintro e w' ⟨rfl, ⟨nd, rfl⟩⟩; refine ⟨_, rfl, ?_⟩))
             (try simp only [Act.put, List.setIfInBounds_toArray, List.set_cons_zero, List.set_cons_succ])
             go_loopg [7, 9] k1 (fun kq v7 v9 w' => ∃ (x7_2 : ByteArray) (x9_2 : Int), v7 = .string x7_2 ∧ v9 = .int .u8 x9_2 ∧ Aside0 (idiomref03_quo.l1 kq a0 a1 x6_1 x7_2 x8_1 x9_2 = some (r1, r2)) ∧ Aside0 (kq ≤ k1) ∧ Aside0 (Kd.R (Kd.int .u8) 5 w' w.heap.size (fun _ => True) u6 x6_1) ∧ Aside0 (Below w.heap.size w w'))
             case atStart => exact ⟨(t163), (48), (by first | rfl | (simp; done) | (simp [*]; done)), (by first | rfl | (simp; done) | (simp [*]; done)), H', ⟨Nat.le_refl _⟩, ⟨by (with_reducible repeat (first | apply Kd.R_alloc | apply Kd.R_drewN | apply Kd.R_drew)); exact HO_6.out⟩, ⟨qh HB⟩⟩
             case round =>
              clear H'
              try clear p2
              try clear c4
              try clear c5
              try clear c5b0
              try clear c6
              try clear c6b0
              try clear c6b1
              try clear p6
              try clear c7
              try clear c7b0
              try clear c7b1
              try clear c8
              try clear c8b0
              try clear c8b1
              try clear c9
              try clear c9b0
              try clear c9b1
              try clear c9b2
              try clear p2
              obtain ⟨x7_2, x9_2, rfl, rfl, HA, HK2, HO_6, HB⟩ := hrel
              cases gk with
              | zero => exact absurd HA.out (by simp [idiomref03_quo.l1])
              | succ k2 =>
               have H := HA.out
               clear HA
               simp only [idiomref03_quo.l1] at H
               replace H := Option.bind_eq_some_iff.mp H
               obtain ⟨t164, A110, H⟩ := H
               replace H : (if t164 ≥ 0 then ((idiomref03_sub.f k2 x7_2 a1).bind fun t165 => (idiomref03_quo.l1 k2 a0 a1 x6_1 t165 x8_1 ((x9_2 + 1) % 256))) else (if x6_1.length < 140737488355328 then (idiomref03_quo.l0 k2 a0 a1 (x6_1 ++ [x9_2]) x7_2 (wrap64 (x8_1 + 1))) else (none))) = some (r1, r2) := H
               have A11 := Aside0.mk A110
               clear A110
               by_cases c12 : t164 ≥ 0
               · rw [if_pos c12] at H
                 have c12b0 : decide (0 ≤ t164) = true := decide_eq_true c12
                 clear c12
                 replace H := Option.bind_eq_some_iff.mp H
                 obtain ⟨t165, A130, H⟩ := H
                 replace H : (idiomref03_quo.l1 k2 a0 a1 x6_1 t165 x8_1 ((x9_2 + 1) % 256)) = some (r1, r2) := H
                 have A13 := Aside0.mk A130
                 clear A130
                 have H' := Aside0.mk H
                 clear H
                 go_wp2_with (first | ((with_reducible refine gate_callee (f := 87) rfl ?_); refine goesL_ (some 27) rfl rfl Tryd.func87 (by kernel_rfl) rfl #[.string x7_2, .string a1] rfl ql ?_; (with_reducible refine (idiomref03_cmp.calls k2 x7_2 a1 t164 _ A11.out).mono ?_); rintro e w' ⟨rfl, ⟨nd, rfl⟩⟩; refine ⟨_, rfl, ?_⟩) | ((with_reducible refine gate_callee (f := 88) rfl ?_); refine goesL_ (some 31) rfl rfl Tryd.func88 (by kernel_rfl) rfl #[.string x7_2, .string a1] rfl ql ?_; (with_reducible refine (idiomref03_sub.calls k2 x7_2 a1 t165 _ A13.out).mono ?_); rintro e w14 ⟨rfl, hb⟩; refine ⟨_, rfl, ?_⟩; replace HO_6 := Aside0.mk (Kd.R_below (by (with_reducible repeat (first | apply Kd.R_alloc | apply Kd.R_drewN | apply Kd.R_drew)); exact HO_6.out) hb); replace HB := qn HB hb; (try clear hb); (try clear hb2); (try clear hk); (try clear hi)))
                 go_roundg k2
                 case measure => have := HK1.out; have := HK2.out; omega
                 case rel => exact ⟨(t165), ((x9_2 + 1) % 256), (by first | rfl | (simp; done) | (simp [*]; done)), (by first | rfl | (simp; done) | (simp [*]; done)), H', ⟨by have := HK1.out; have := HK2.out; omega⟩, ⟨by (with_reducible repeat (first | apply Kd.R_alloc | apply Kd.R_drewN | apply Kd.R_drew)); exact HO_6.out⟩, ⟨qh HB⟩⟩
               · rw [if_neg c12] at H
                 have c12b0 : decide (0 ≤ t164) = false := decide_eq_false c12
                 clear c12
                 by_cases c15 : x6_1.length < 140737488355328
                 · rw [if_pos c15] at H
                   have LMc15 := Aside0.mk c15
                   clear c15
                   obtain ⟨y166, hy166⟩ : ∃ y_ : List Int, y_ = (x6_1 ++ [x9_2]) := ⟨_, rfl⟩
                   replace H : (idiomref03_quo.l0 k2 a0 a1 y166 x7_2 (wrap64 (x8_1 + 1))) = some (r1, r2) := by first | (rw [hy166]; with_reducible exact H) | (have H2_ := (Option.bind_some _ _).symm.trans H; rw [hy166]; with_reducible exact H2_) | (have H2_ := (Option.bind_some _ _).symm.trans H; with_reducible exact H2_) | with_reducible exact H | (rw [hy166]; exact H) | exact H
                   have Ny166 := Aside0.mk hy166
                   clear hy166
                   have H' := Aside0.mk H
                   clear H
                   go_wp2_with (first | ((with_reducible refine gate_callee (f := 87) rfl ?_); refine goesL_ (some 27) rfl rfl Tryd.func87 (by kernel_rfl) rfl #[.string x7_2, .string a1] rfl ql ?_; (with_reducible refine (idiomref03_cmp.calls k2 x7_2 a1 t164 _ A11.out).mono ?_); rintro e w' ⟨rfl, ⟨nd, rfl⟩⟩; refine ⟨_, rfl, ?_⟩) | ((with_reducible refine gate_builtin (b := .append) (xs := #[.tmp 34, .tmp 36]) rfl ?_); at_builtin; refine Kd.R_append (Kd.int .u8) (w0 := w) w.heap.size rfl (.tmp 34) (.tmp 36) 69 5 (.int .u8 0) 1 rfl Tryd.underlying69 info5 rfl (by decide) (by omega) u6 x6_1 x9_2 [.int .u8 x9_2] (fun _ => True) (fun _ => False) rfl rfl ?aP (fun _ hk => hk.elim) ?aF ?aO ?aB ?aS ?aL ?_; (case aP => exact rfl); (case aB => exact (qh HB)); (case aF => exact (fun _ _ => trivial)); (case aO => exact (by (with_reducible repeat (first | apply Kd.R_alloc | apply Kd.R_drewN | apply Kd.R_drew)); exact HO_6.out)); (case aS => exact (below_size (qh HB))); (case aL => have := LMc15.out; omega); intro v167 w16 ho hb hg hat; rw [← Ny166.out] at ho; have n0_ := Aside0.mk (hb); have n1_ := Aside0.mk (ho); clear HB; clear HO_6; have HB := n0_; have HO168 := n1_; clear n0_ n1_; clear ho hb hg hat))
                   go_roundg k2
                   case measure => have := HK1.out; have := HK2.out; omega
                   case rel => exact ⟨(y166), (x7_2), (wrap64 (x8_1 + 1)), (by first | rfl | (simp; done) | (simp [*]; done)), (by first | rfl | (simp; done) | (simp [*]; done)), H', ⟨by have := HK1.out; have := HK2.out; omega⟩, ⟨by (with_reducible repeat (first | apply Kd.R_alloc | apply Kd.R_drewN | apply Kd.R_drew)); exact HO168.out⟩, ⟨qh HB⟩⟩
                 · rw [if_neg c15] at H
                   exact absurd H (by simp)
           · rw [if_neg c9] at H
             exact absurd H (by simp)
         · rw [if_neg c8] at H
           exact absurd H (by simp)
       · rw [if_neg c7] at H
         exact absurd H (by simp)
     · rw [if_neg c6] at H
       exact absurd H (by simp)
   · rw [if_neg c5] at H
     have c5b0 : decide (x8_1 < (a0.size : Int)) = false := decide_eq_false c5
     clear c5
     replace H := Option.bind_eq_some_iff.mp H
     obtain ⟨t162, A170, H⟩ := H
     replace H : (some (t162, x7_1)) = some (r1, r2) := H
     have A17 := Aside0.mk A170
     clear A170
     simp only [Option.some.injEq, Prod.mk.injEq] at H
     obtain ⟨rfl, rfl⟩ := H
     have hcv18 := own_string (P := Tryd.prog) Tryd.underlying69 Tryd.underlying5 Tryd.underlying9 (Kd.own_of_R HO_6.out)
     go_wp2_with (first | ((with_reducible refine gate_callee (f := 41) rfl ?_); refine goesL_ (some 40) rfl rfl Tryd.func41 (by kernel_rfl) rfl #[.string (strOfNums x6_1)] rfl ql ?_; (with_reducible refine (idiomref03_Lead.calls k1 (strOfNums x6_1) t162 _ A17.out).mono ?_); rintro e w' ⟨rfl, ⟨nd, rfl⟩⟩; refine ⟨_, rfl, ?_⟩))
     go_ret2
     exact ⟨qe, qh HB⟩

end Go.Proofs.YtpmhebdaphjinaaDoor.F
namespace Go.Proofs.YtpmhebdaphjinaaDoor.F
open Go.RowKit Go.Proofs.YtpmhebdaphjinaaDoorW.PrintWords Go.Proofs.YtpmhebdaphjinaaDoorW.PrintLast Go.Proofs.YtpmhebdaphjinaaDoorW.PrintMore Go.Proofs.YtpmhebdaphjinaaDoor.Q
attribute [local go_sem] max2_int min2_int max_two min_two max_three min_three max_four min_four   -- for this text's walks alone
set_option linter.unusedVariables false
set_option linter.unusedSimpArgs false

mutual
def idiomref03_add.l0 : Nat → ByteArray → ByteArray → Option (ByteArray)
 | 0, _, _ => none
 | k + 1, x0, x1 => if (x0.size : Int) < (x1.size : Int) then (if 1 + x0.size ≤ 9223372036854775807 then (idiomref03_add.l0 k ((⟨#[48]⟩ : ByteArray) ++ x0) x1) else (none)) else (idiomref03_add.l1 k x0 x1)
def idiomref03_add.l1 : Nat → ByteArray → ByteArray → Option (ByteArray)
 | 0, _, _ => none
 | k + 1, x0, x1 => if (x1.size : Int) < (x0.size : Int) then (if 1 + x1.size ≤ 9223372036854775807 then (idiomref03_add.l1 k x0 ((⟨#[48]⟩ : ByteArray) ++ x1)) else (none)) else (if 0 ≤ (x0.size : Int) then (if ((x0.size : Int) : Int).toNat ≤ 281474976710656 then (idiomref03_add.l2 k x0 x1 (List.replicate ((x0.size : Int) : Int).toNat 0) 0 (wrap64 ((x0.size : Int) - 1))) else (none)) else (none))
def idiomref03_add.l2 : Nat → ByteArray → ByteArray → List Int → Int → Int → Option (ByteArray)
 | 0, _, _, _, _, _ => none
 | k + 1, x0, x1, x5, x6, x7 => if x7 ≥ 0 then (if 0 ≤ x7 then (if x7 < (x0.size : Int) then (if x7 < (x1.size : Int) then (if x7 < (x5.length : Int) then (idiomref03_add.l2 k x0 x1 (x5.set (x7 : Int).toNat ((wrap64 (48 + (Int.tmod (wrap64 (((((bt x0 x7) - 48) % 256) + (((bt x1 x7) - 48) % 256)) + x6)) 10))) % 256)) (wrap64 (Int.tdiv (wrap64 (((((bt x0 x7) - 48) % 256) + (((bt x1 x7) - 48) % 256)) + x6)) 10)) (wrap64 (x7 - 1))) else (none)) else (none)) else (none)) else (none)) else (if x6 > 0 then (if 1 + (strOfNums x5).size ≤ 9223372036854775807 then (some ((⟨#[49]⟩ : ByteArray) ++ (strOfNums x5))) else (none)) else ((idiomref03_Lead.f k (strOfNums x5)).bind fun t173 => (some t173)))
end
def idiomref03_add.f (k : Nat) (a0 : ByteArray) (a1 : ByteArray) : Option (ByteArray) := idiomref03_add.l0 k a0 a1
theorem idiomref03_add.mono_l : ∀ k, (∀ y0 y1, LeO (idiomref03_add.l0 k y0 y1) (idiomref03_add.l0 (k + 1) y0 y1)) ∧ (∀ y0 y1, LeO (idiomref03_add.l1 k y0 y1) (idiomref03_add.l1 (k + 1) y0 y1)) ∧ (∀ y0 y1 y2 y3 y4, LeO (idiomref03_add.l2 k y0 y1 y2 y3 y4) (idiomref03_add.l2 (k + 1) y0 y1 y2 y3 y4))
 | 0 => ⟨fun _ _ r h => by simp [idiomref03_add.l0] at h, fun _ _ r h => by simp [idiomref03_add.l1] at h, fun _ _ _ _ _ r h => by simp [idiomref03_add.l2] at h⟩
 | k + 1 => by
  obtain ⟨ih0, ih1, ih2⟩ := idiomref03_add.mono_l k
  refine ⟨?_, ?_, ?_⟩
  · intro y0 y1
    unfold idiomref03_add.l0
    repeat' first
    | (with_reducible exact ih0 _ _)
    | (with_reducible exact ih1 _ _)
    | (with_reducible exact ih2 _ _ _ _ _)
    | (with_reducible exact idiomref03_Lead.mono _ _)
    | (with_reducible exact LeO.refl _)
    | (with_reducible exact LeO.none _)
    | (with_reducible refine LeO.ite ?_ ?_)
    | (with_reducible refine LeO.bind ?_ (fun _ => ?_))
    | exact ih0 _ _
    | exact ih1 _ _
    | exact ih2 _ _ _ _ _
    | exact idiomref03_Lead.mono _ _
    | exact LeO.none _
    | refine LeO.ite ?_ ?_
    | refine LeO.bind ?_ (fun _ => ?_)
  · intro y0 y1
    unfold idiomref03_add.l1
    repeat' first
    | (with_reducible exact ih0 _ _)
    | (with_reducible exact ih1 _ _)
    | (with_reducible exact ih2 _ _ _ _ _)
    | (with_reducible exact idiomref03_Lead.mono _ _)
    | (with_reducible exact LeO.refl _)
    | (with_reducible exact LeO.none _)
    | (with_reducible refine LeO.ite ?_ ?_)
    | (with_reducible refine LeO.bind ?_ (fun _ => ?_))
    | exact ih0 _ _
    | exact ih1 _ _
    | exact ih2 _ _ _ _ _
    | exact idiomref03_Lead.mono _ _
    | exact LeO.none _
    | refine LeO.ite ?_ ?_
    | refine LeO.bind ?_ (fun _ => ?_)
  · intro y0 y1 y2 y3 y4
    unfold idiomref03_add.l2
    repeat' first
    | (with_reducible exact ih0 _ _)
    | (with_reducible exact ih1 _ _)
    | (with_reducible exact ih2 _ _ _ _ _)
    | (with_reducible exact idiomref03_Lead.mono _ _)
    | (with_reducible exact LeO.refl _)
    | (with_reducible exact LeO.none _)
    | (with_reducible refine LeO.ite ?_ ?_)
    | (with_reducible refine LeO.bind ?_ (fun _ => ?_))
    | exact ih0 _ _
    | exact ih1 _ _
    | exact ih2 _ _ _ _ _
    | exact idiomref03_Lead.mono _ _
    | exact LeO.none _
    | refine LeO.ite ?_ ?_
    | refine LeO.bind ?_ (fun _ => ?_)
theorem idiomref03_add.mono : ∀ a0 a1 k, LeO (idiomref03_add.f k a0 a1) (idiomref03_add.f (k + 1) a0 a1) := by
 intro a0 a1 k
 obtain ⟨ih0, ih1, ih2⟩ := idiomref03_add.mono_l k
 unfold idiomref03_add.f
 repeat' first
  | (with_reducible exact ih0 _ _)
  | (with_reducible exact ih1 _ _)
  | (with_reducible exact ih2 _ _ _ _ _)
  | (with_reducible exact idiomref03_Lead.mono _ _)
  | (with_reducible exact LeO.refl _)
  | (with_reducible exact LeO.none _)
  | (with_reducible refine LeO.ite ?_ ?_)
  | (with_reducible refine LeO.bind ?_ (fun _ => ?_))
  | exact ih0 _ _
  | exact ih1 _ _
  | exact ih2 _ _ _ _ _
  | exact idiomref03_Lead.mono _ _
  | exact LeO.none _
  | refine LeO.ite ?_ ?_
  | refine LeO.bind ?_ (fun _ => ?_)
set_option maxHeartbeats 8000000 in
set_option maxRecDepth 100000 in
theorem idiomref03_add.calls (k : Nat) (a0 : ByteArray) (a1 : ByteArray) (r : ByteArray) (w : World) (h : idiomref03_add.f k a0 a1 = some r) :
 Calls Tryd.prog 56 #[.string a0, .string a1] w fun e w' => e = .returned (.string r) ∧ Below w.heap.size w w' := by
 have HB := Aside0.mk (Below.refl w.heap.size w)
 have H : (idiomref03_add.l0 k a0 a1) = some r := h
 clear h
 have H' := Aside0.mk H
 clear H
 go_enter Tryd.func56, Tryd.ntmps56
 go_wp2
 repeat (go_quiet (fail); try go_wp2)
 (try simp only [Act.put, List.setIfInBounds_toArray, List.set_cons_zero, List.set_cons_succ])
 go_loopg [0] k (fun kq v0 w' => ∃ (x0_1 : ByteArray), v0 = .string x0_1 ∧ Aside0 (idiomref03_add.l0 kq x0_1 a1 = some r) ∧ Aside0 (kq ≤ k) ∧ Aside0 (Below w.heap.size w w'))
 case atStart => exact ⟨(a0), (by first | rfl | (simp; done) | (simp [*]; done)), H', ⟨Nat.le_refl _⟩, ⟨qh HB⟩⟩
 case round =>
  clear H'
  try clear p2
  obtain ⟨x0_1, rfl, HA, HK1, HB⟩ := hrel
  cases gk with
  | zero => exact absurd HA.out (by simp [idiomref03_add.l0])
  | succ k1 =>
   have H := HA.out
   clear HA
   simp only [idiomref03_add.l0] at H
   by_cases c3 : (x0_1.size : Int) < (a1.size : Int)
   · rw [if_pos c3] at H
     have c3b0 : decide ((x0_1.size : Int) < (a1.size : Int)) = true := decide_eq_true c3
     have c3b1 : decide (x0_1.size < a1.size) = true := decide_eq_true (Int.ofNat_lt.mp c3)
     clear c3
     by_cases c4 : 1 + x0_1.size ≤ 9223372036854775807
     · rw [if_pos c4] at H
       have c4b0 := eq_true c4
       have c4b1 : decide (1 + x0_1.size ≤ 9223372036854775807) = true := decide_eq_true c4
       try have c4b2 : (9223372036854775807 < 1 + x0_1.size) = False := eq_false (Nat.not_lt.2 c4)
       have H' := Aside0.mk H
       clear H
       go_wp2
       repeat (go_quiet (fail); try go_wp2)
       go_roundg k1
       case measure => have := HK1.out; omega
       case rel => exact ⟨((⟨#[48]⟩ : ByteArray) ++ x0_1), (by first | rfl | (simp; done) | (simp [*]; done)), H', ⟨by have := HK1.out; omega⟩, ⟨qh HB⟩⟩
     · rw [if_neg c4] at H
       exact absurd H (by simp)
   · rw [if_neg c3] at H
     have c3b0 : decide ((x0_1.size : Int) < (a1.size : Int)) = false := decide_eq_false c3
     have c3b1 : decide (x0_1.size < a1.size) = false := decide_eq_false (fun h => c3 (Int.ofNat_lt.mpr h))
     clear c3
     have H' := Aside0.mk H
     clear H
     go_wp2
     repeat (go_quiet (fail); try go_wp2)
     (try simp only [Act.put, List.setIfInBounds_toArray, List.set_cons_zero, List.set_cons_succ])
     go_loopg [1] k1 (fun kq v1 w' => ∃ (x1_2 : ByteArray), v1 = .string x1_2 ∧ Aside0 (idiomref03_add.l1 kq x0_1 x1_2 = some r) ∧ Aside0 (kq ≤ k1) ∧ Aside0 (Below w.heap.size w w'))
     case atStart => exact ⟨(a1), (by first | rfl | (simp; done) | (simp [*]; done)), H', ⟨Nat.le_refl _⟩, ⟨qh HB⟩⟩
     case round =>
      clear H'
      try clear p2
      try clear c3
      try clear c3b0
      try clear c3b1
      try clear c4
      try clear c4b0
      try clear c4b1
      try clear c4b2
      try clear p2
      obtain ⟨x1_2, rfl, HA, HK2, HB⟩ := hrel
      cases gk with
      | zero => exact absurd HA.out (by simp [idiomref03_add.l1])
      | succ k2 =>
       have H := HA.out
       clear HA
       simp only [idiomref03_add.l1] at H
       by_cases c5 : (x1_2.size : Int) < (x0_1.size : Int)
       · rw [if_pos c5] at H
         have c5b0 : decide ((x1_2.size : Int) < (x0_1.size : Int)) = true := decide_eq_true c5
         have c5b1 : decide (x1_2.size < x0_1.size) = true := decide_eq_true (Int.ofNat_lt.mp c5)
         clear c5
         by_cases c6 : 1 + x1_2.size ≤ 9223372036854775807
         · rw [if_pos c6] at H
           have c6b0 := eq_true c6
           have c6b1 : decide (1 + x1_2.size ≤ 9223372036854775807) = true := decide_eq_true c6
           try have c6b2 : (9223372036854775807 < 1 + x1_2.size) = False := eq_false (Nat.not_lt.2 c6)
           have H' := Aside0.mk H
           clear H
           go_wp2
           repeat (go_quiet (fail); try go_wp2)
           go_roundg k2
           case measure => have := HK1.out; have := HK2.out; omega
           case rel => exact ⟨((⟨#[48]⟩ : ByteArray) ++ x1_2), (by first | rfl | (simp; done) | (simp [*]; done)), H', ⟨by have := HK1.out; have := HK2.out; omega⟩, ⟨qh HB⟩⟩
         · rw [if_neg c6] at H
           exact absurd H (by simp)
       · rw [if_neg c5] at H
         have c5b0 : decide ((x1_2.size : Int) < (x0_1.size : Int)) = false := decide_eq_false c5
         have c5b1 : decide (x1_2.size < x0_1.size) = false := decide_eq_false (fun h => c5 (Int.ofNat_lt.mpr h))
         clear c5
         by_cases c7 : 0 ≤ (x0_1.size : Int)
         · rw [if_pos c7] at H
           have c7b0 := eq_true c7
           have c7b1 : decide (0 ≤ (x0_1.size : Int)) = true := decide_eq_true c7
           clear c7
           by_cases c8 : ((x0_1.size : Int) : Int).toNat ≤ 281474976710656
           · rw [if_pos c8] at H
             have c8b0 := eq_true c8
             have c8b1 : decide (((x0_1.size : Int) : Int).toNat ≤ 281474976710656) = true := decide_eq_true c8
             clear c8
             obtain ⟨y169, hy169⟩ : ∃ y_ : List Int, y_ = (List.replicate ((x0_1.size : Int) : Int).toNat 0) := ⟨_, rfl⟩
             replace H : (idiomref03_add.l2 k2 x0_1 x1_2 y169 0 (wrap64 ((x0_1.size : Int) - 1))) = some r := by first | (rw [hy169]; with_reducible exact H) | (have H2_ := (Option.bind_some _ _).symm.trans H; rw [hy169]; with_reducible exact H2_) | (have H2_ := (Option.bind_some _ _).symm.trans H; with_reducible exact H2_) | with_reducible exact H | (rw [hy169]; exact H) | exact H
             have Ny169 := Aside0.mk hy169
             clear hy169
             have H' := Aside0.mk H
             clear H
             go_wp2_with (first | ((with_reducible refine gate_dst (N := 25) rfl ?_); refine Kd.R_make (Kd.int .u8) _ 5 rfl (N := 25) rfl 69 _ _ rfl (x0_1.size : Int) rfl rfl Tryd.underlying69 (.int .u8 0) 1 info5 rfl (by decide) (by omega) 0 (ok := fun _ => True) (okp := fun _ => True) rfl (fun _ hk => hk) trivial (of_decide_eq_true qa) (Nat.le_trans (Nat.mul_le_mul_right _ (of_decide_eq_true qa : (x0_1.size : Int).toNat ≤ 281474976710656)) (by omega)) (Below.refl _ _) (Nat.le_refl _) ?_; intro v170 w9 ho10 hb hg_ hnew_; clear hg_ hnew_; (first | rw [← Ny169.out] at ho10 | (simp only [Int.reduceToNat] at ho10; rw [← Ny169.out] at ho10)); have HO171 := Aside0.mk (Kd.R_lower ho10 (below_size (qh HB))); replace HB := qn HB hb; clear hb ho10))
             repeat (go_quiet (first | ((with_reducible refine gate_dst (N := 25) rfl ?_); refine Kd.R_make (Kd.int .u8) _ 5 rfl (N := 25) rfl 69 _ _ rfl (x0_1.size : Int) rfl rfl Tryd.underlying69 (.int .u8 0) 1 info5 rfl (by decide) (by omega) 0 (ok := fun _ => True) (okp := fun _ => True) rfl (fun _ hk => hk) trivial (of_decide_eq_true qa) (Nat.le_trans (Nat.mul_le_mul_right _ (of_decide_eq_true qa : (x0_1.size : Int).toNat ≤ 281474976710656)) (by omega)) (Below.refl _ _) (Nat.le_refl _) ?_; intro v170 w9 ho10 hb hg_ hnew_; clear hg_ hnew_; (first | rw [← Ny169.out] at ho10 | (simp only [Int.reduceToNat] at ho10; rw [← Ny169.out] at ho10)); have HO171 := Aside0.mk (Kd.R_lower ho10 (below_size (qh HB))); replace HB := qn HB hb; clear hb ho10)); try go_wp2_with (first | ((with_reducible refine gate_dst (N := 25) rfl ?_); refine Kd.R_make (Kd.int .u8) _ 5 rfl (N := 25) rfl 69 _ _ rfl (x0_1.size : Int) rfl rfl Tryd.underlying69 (.int .u8 0) 1 info5 rfl (by decide) (by omega) 0 (ok := fun _ => True) (okp := fun _ => True) rfl (fun _ hk => hk) trivial (of_decide_eq_true qa) (Nat.le_trans (Nat.mul_le_mul_right _ (of_decide_eq_true qa : (x0_1.size : Int).toNat ≤ 281474976710656)) (by omega)) (Below.refl _ _) (Nat.le_refl _) ?_; intro v170 w9 ho10 hb hg_ hnew_; clear hg_ hnew_; (first | rw [← Ny169.out] at ho10 | (simp only [Int.reduceToNat] at ho10; rw [← Ny169.out] at ho10)); have HO171 := Aside0.mk (Kd.R_lower ho10 (below_size (qh HB))); replace HB := qn HB hb; clear hb ho10)))
             (try simp only [Act.put, List.setIfInBounds_toArray, List.set_cons_zero, List.set_cons_succ])
             go_loopg [6, 7] k2 (fun kq v6 v7 w' => ∃ (x5_3 : List Int) (x6_3 : Int) (x7_3 : Int), v6 = .int .i64 x6_3 ∧ v7 = .int .i64 x7_3 ∧ Aside0 (idiomref03_add.l2 kq x0_1 x1_2 x5_3 x6_3 x7_3 = some r) ∧ Aside0 (kq ≤ k2) ∧ Aside0 (Kd.R (Kd.int .u8) 5 w' w.heap.size (fun _ => True) v170 x5_3) ∧ Aside0 (Below w.heap.size w w'))
             case atStart => exact ⟨(y169), (0), (wrap64 ((x0_1.size : Int) - 1)), (by first | rfl | (simp; done) | (simp [*]; done)), (by first | rfl | (simp; done) | (simp [*]; done)), H', ⟨Nat.le_refl _⟩, ⟨by (with_reducible repeat (first | apply Kd.R_alloc | apply Kd.R_drewN | apply Kd.R_drew)); exact HO171.out⟩, ⟨qh HB⟩⟩
             case round =>
              clear H'
              try clear p2
              try clear c3
              try clear c3b0
              try clear c3b1
              try clear c4
              try clear c4b0
              try clear c4b1
              try clear c4b2
              try clear c5
              try clear c5b0
              try clear c5b1
              try clear c6
              try clear c6b0
              try clear c6b1
              try clear c6b2
              try clear p6
              try clear c7
              try clear c7b0
              try clear c7b1
              try clear c8
              try clear c8b0
              try clear c8b1
              try clear p2
              obtain ⟨x5_3, x6_3, x7_3, rfl, rfl, HA, HK3, HO_5, HB⟩ := hrel
              cases gk with
              | zero => exact absurd HA.out (by simp [idiomref03_add.l2])
              | succ k3 =>
               have H := HA.out
               clear HA
               simp only [idiomref03_add.l2] at H
               by_cases c11 : x7_3 ≥ 0
               · rw [if_pos c11] at H
                 have c11b0 : decide (0 ≤ x7_3) = true := decide_eq_true c11
                 clear c11
                 by_cases c12 : 0 ≤ x7_3
                 · rw [if_pos c12] at H
                   have c12b0 : decide (0 ≤ x7_3) = true := decide_eq_true c12
                   clear c12
                   by_cases c13 : x7_3 < (x0_1.size : Int)
                   · rw [if_pos c13] at H
                     have c13b0 : decide (x7_3 < (x0_1.size : Int)) = true := decide_eq_true c13
                     clear c13
                     by_cases c15 : x7_3 < (x1_2.size : Int)
                     · rw [if_pos c15] at H
                       have c15b0 : decide (x7_3 < (x1_2.size : Int)) = true := decide_eq_true c15
                       clear c15
                       by_cases c17 : x7_3 < (x5_3.length : Int)
                       · rw [if_pos c17] at H
                         have c17b0 : decide (x7_3 < (x5_3.length : Int)) = true := decide_eq_true c17
                         clear c17
                         obtain ⟨y172, hy172⟩ : ∃ y_ : List Int, y_ = (x5_3.set (x7_3 : Int).toNat ((wrap64 (48 + (Int.tmod (wrap64 (((((bt x0_1 x7_3) - 48) % 256) + (((bt x1_2 x7_3) - 48) % 256)) + x6_3)) 10))) % 256)) := ⟨_, rfl⟩
                         replace H : (idiomref03_add.l2 k3 x0_1 x1_2 y172 (wrap64 (Int.tdiv (wrap64 (((((bt x0_1 x7_3) - 48) % 256) + (((bt x1_2 x7_3) - 48) % 256)) + x6_3)) 10)) (wrap64 (x7_3 - 1))) = some r := by first | (rw [hy172]; with_reducible exact H) | (have H2_ := (Option.bind_some _ _).symm.trans H; rw [hy172]; with_reducible exact H2_) | (have H2_ := (Option.bind_some _ _).symm.trans H; with_reducible exact H2_) | with_reducible exact H | (rw [hy172]; exact H) | exact H
                         have Ny172 := Aside0.mk hy172
                         clear hy172
                         have H' := Aside0.mk H
                         clear H
                         have p14 : 0 ≤ (x7_3 : Int) := of_decide_eq_true qa
                         have q14 : x7_3 < (x0_1.size : Int) := of_decide_eq_true qa
                         have hx14 := bt_at x0_1 x7_3
                         replace p14 := eq_true p14
                         replace q14 := eq_true q14
                         have p16 : 0 ≤ (x7_3 : Int) := of_decide_eq_true qa
                         have q16 : x7_3 < (x1_2.size : Int) := of_decide_eq_true qa
                         have hx16 := bt_at x1_2 x7_3
                         replace p16 := eq_true p16
                         replace q16 := eq_true q16
                         have p18 : 0 ≤ (x7_3 : Int) := of_decide_eq_true qa
                         have q18 : (x7_3 : Int) < ((x5_3.length : Int) : Int) := of_decide_eq_true qa
                         obtain ⟨go18, co18, eo18, gb18, gl18, cl18, HG18⟩ := Kd.R_form HO_5.out (by omega)
                         (first | cases eo18 | (injection eo18 with ea_ en_ ec_; (first | subst ea_ | (injection ea_ with ea_; subst ea_)); subst ec_; clear en_))
                         have GB18 := Aside0.mk gb18
                         have GG18 := Aside0.mk HG18
                         clear gb18 gl18 HG18
                         obtain ⟨hx18_0, hf18_0⟩ := Kd.R_celln 0 HO_5.out (x7_3 : Int) p18 q18
                         replace p18 := eq_true p18
                         replace q18 := eq_true q18
                         have HP19 := Kd.R_putg HO_5.out (x7_3 : Int) ((wrap64 (48 + (Int.tmod (wrap64 (((((bt x0_1 x7_3) - 48) % 256) + (((bt x1_2 x7_3) - 48) % 256)) + x6_3)) 10))) % 256)
                         go_wp2_with (first | ((with_reducible refine gate_store (t := 5) (p := 52) rfl ?_); (try (rw [drewN_self wr]; generalize hq_ : World.drewN wr _ = wr; have n0_ := Aside0.mk (Kd.R_at hq_ HO_5.out); have n1_ := Aside0.mk (below_at hq_ HB.out); clear hq_ HO_5 HB; have HO_5 := n0_; have HB := n1_; clear n0_ n1_; (try (have HP19 := Kd.R_putg HO_5.out (x7_3 : Int) ((wrap64 (48 + (Int.tmod (wrap64 (((((bt x0_1 x7_3) - 48) % 256) + (((bt x1_2 x7_3) - 48) % 256)) + x6_3)) 10))) % 256))))); refine store_event (t := 5) (p := 52) (v := ?vo_w20) (w1 := (wr.setCell ⟨go18, (x7_3 : Int).toNat, none⟩ (.int .u8 ((wrap64 (48 + (Int.tmod (wrap64 (((((bt x0_1 x7_3) - 48) % 256) + (((bt x1_2 x7_3) - 48) % 256)) + x6_3)) 10))) % 256)))) ?hg ?ho ?hn ?hr ?_; (case ho => rfl); (case hg => rfl); (case hn => rfl); (case hr => first | (go_simp; done) | (go_simp; rfl)); intro w20 hw; have hg : wr.grownBy w20 (some go18) := (by rw [hw]; exact HP19.2); have hp_ : Kd.R (Kd.int .u8) 5 w20 w.heap.size (fun _ => True) (.slice (some ⟨go18, 0, none⟩) x5_3.length co18) y172 := (by rw [hw, Ny172.out]; exact HP19.1); clear HP19; replace HO_5 := Aside0.mk (hp_); replace HB := Aside0.mk ((by rw [hw]; exact below_set (HB.out) GB18.out : Below w.heap.size w w20)); clear hg hw hp_))
                         repeat (go_quiet (first | ((with_reducible refine gate_store (t := 5) (p := 52) rfl ?_); (try (rw [drewN_self wr]; generalize hq_ : World.drewN wr _ = wr; have n0_ := Aside0.mk (Kd.R_at hq_ HO_5.out); have n1_ := Aside0.mk (below_at hq_ HB.out); clear hq_ HO_5 HB; have HO_5 := n0_; have HB := n1_; clear n0_ n1_; (try (have HP19 := Kd.R_putg HO_5.out (x7_3 : Int) ((wrap64 (48 + (Int.tmod (wrap64 (((((bt x0_1 x7_3) - 48) % 256) + (((bt x1_2 x7_3) - 48) % 256)) + x6_3)) 10))) % 256))))); refine store_event (t := 5) (p := 52) (v := ?vo_w20) (w1 := (wr.setCell ⟨go18, (x7_3 : Int).toNat, none⟩ (.int .u8 ((wrap64 (48 + (Int.tmod (wrap64 (((((bt x0_1 x7_3) - 48) % 256) + (((bt x1_2 x7_3) - 48) % 256)) + x6_3)) 10))) % 256)))) ?hg ?ho ?hn ?hr ?_; (case ho => rfl); (case hg => rfl); (case hn => rfl); (case hr => first | (go_simp; done) | (go_simp; rfl)); intro w20 hw; have hg : wr.grownBy w20 (some go18) := (by rw [hw]; exact HP19.2); have hp_ : Kd.R (Kd.int .u8) 5 w20 w.heap.size (fun _ => True) (.slice (some ⟨go18, 0, none⟩) x5_3.length co18) y172 := (by rw [hw, Ny172.out]; exact HP19.1); clear HP19; replace HO_5 := Aside0.mk (hp_); replace HB := Aside0.mk ((by rw [hw]; exact below_set (HB.out) GB18.out : Below w.heap.size w w20)); clear hg hw hp_)); try go_wp2_with (first | ((with_reducible refine gate_store (t := 5) (p := 52) rfl ?_); (try (rw [drewN_self wr]; generalize hq_ : World.drewN wr _ = wr; have n0_ := Aside0.mk (Kd.R_at hq_ HO_5.out); have n1_ := Aside0.mk (below_at hq_ HB.out); clear hq_ HO_5 HB; have HO_5 := n0_; have HB := n1_; clear n0_ n1_; (try (have HP19 := Kd.R_putg HO_5.out (x7_3 : Int) ((wrap64 (48 + (Int.tmod (wrap64 (((((bt x0_1 x7_3) - 48) % 256) + (((bt x1_2 x7_3) - 48) % 256)) + x6_3)) 10))) % 256))))); refine store_event (t := 5) (p := 52) (v := ?vo_w20) (w1 := (wr.setCell ⟨go18, (x7_3 : Int).toNat, none⟩ (.int .u8 ((wrap64 (48 + (Int.tmod (wrap64 (((((bt x0_1 x7_3) - 48) % 256) + (((bt x1_2 x7_3) - 48) % 256)) + x6_3)) 10))) % 256)))) ?hg ?ho ?hn ?hr ?_; (case ho => rfl); (case hg => rfl); (case hn => rfl); (case hr => first | (go_simp; done) | (go_simp; rfl)); intro w20 hw; have hg : wr.grownBy w20 (some go18) := (by rw [hw]; exact HP19.2); have hp_ : Kd.R (Kd.int .u8) 5 w20 w.heap.size (fun _ => True) (.slice (some ⟨go18, 0, none⟩) x5_3.length co18) y172 := (by rw [hw, Ny172.out]; exact HP19.1); clear HP19; replace HO_5 := Aside0.mk (hp_); replace HB := Aside0.mk ((by rw [hw]; exact below_set (HB.out) GB18.out : Below w.heap.size w w20)); clear hg hw hp_)))
                         go_roundg k3
                         case measure => have := HK1.out; have := HK2.out; have := HK3.out; omega
                         case rel => exact ⟨(y172), (wrap64 (Int.tdiv (wrap64 (((((bt x0_1 x7_3) - 48) % 256) + (((bt x1_2 x7_3) - 48) % 256)) + x6_3)) 10)), (wrap64 (x7_3 - 1)), (by first | rfl | (simp; done) | (simp [*]; done)), (by first | rfl | (simp; done) | (simp [*]; done)), H', ⟨by have := HK1.out; have := HK2.out; have := HK3.out; omega⟩, ⟨by (with_reducible repeat (first | apply Kd.R_alloc | apply Kd.R_drewN | apply Kd.R_drew)); first | exact HO_5.out | (rw [Ny172.out]; exact Aid.R_set_drew HP19.1)⟩, ⟨by repeat (first | (with_reducible first | exact HB.out | apply below_alloc | apply pw_below_drewN | apply below_drew1) | refine below_set ?_ GB18.out | exact HB.out)⟩⟩
                       · rw [if_neg c17] at H
                         exact absurd H (by simp)
                     · rw [if_neg c15] at H
                       exact absurd H (by simp)
                   · rw [if_neg c13] at H
                     exact absurd H (by simp)
                 · rw [if_neg c12] at H
                   exact absurd H (by simp)
               · rw [if_neg c11] at H
                 have c11b0 : decide (0 ≤ x7_3) = false := decide_eq_false c11
                 clear c11
                 by_cases c21 : x6_3 > 0
                 · rw [if_pos c21] at H
                   have c21b0 : decide (0 < x6_3) = true := decide_eq_true c21
                   clear c21
                   by_cases c22 : 1 + (strOfNums x5_3).size ≤ 9223372036854775807
                   · rw [if_pos c22] at H
                     have c22b0 := eq_true c22
                     have c22b1 : decide (1 + (strOfNums x5_3).size ≤ 9223372036854775807) = true := decide_eq_true c22
                     try have c22b2 : (9223372036854775807 < 1 + (strOfNums x5_3).size) = False := eq_false (Nat.not_lt.2 c22)
                     obtain rfl := Option.some.inj H
                     have hcv23 := own_string (P := Tryd.prog) Tryd.underlying69 Tryd.underlying5 Tryd.underlying9 (Kd.own_of_R HO_5.out)
                     go_wp2
                     repeat (go_quiet (fail); try go_wp2)
                     go_ret
                     exact ⟨qe, qh HB⟩
                   · rw [if_neg c22] at H
                     exact absurd H (by simp)
                 · rw [if_neg c21] at H
                   have c21b0 : decide (0 < x6_3) = false := decide_eq_false c21
                   clear c21
                   replace H := Option.bind_eq_some_iff.mp H
                   obtain ⟨t173, A240, H⟩ := H
                   replace H : (some t173) = some r := H
                   have A24 := Aside0.mk A240
                   clear A240
                   obtain rfl := Option.some.inj H
                   have hcv25 := own_string (P := Tryd.prog) Tryd.underlying69 Tryd.underlying5 Tryd.underlying9 (Kd.own_of_R HO_5.out)
                   go_wp2_with (first | (go_at_call 41; (with_reducible refine (idiomref03_Lead.calls k3 (strOfNums x5_3) t173 _ A24.out).mono ?_); rintro e w' ⟨rfl, ⟨nd, rfl⟩⟩; (try first | exact ⟨rfl, _, World.drewN_drewN _ _ _⟩ | exact ⟨rfl, _, Eq.trans (World.drewN_drewN _ _ _) (congrArg (World.drewN _) (Nat.add_assoc _ _ _))⟩)))
                   repeat (go_quiet (first | (go_at_call 41; (with_reducible refine (idiomref03_Lead.calls k3 (strOfNums x5_3) t173 _ A24.out).mono ?_); rintro e w' ⟨rfl, ⟨nd, rfl⟩⟩; (try first | exact ⟨rfl, _, World.drewN_drewN _ _ _⟩ | exact ⟨rfl, _, Eq.trans (World.drewN_drewN _ _ _) (congrArg (World.drewN _) (Nat.add_assoc _ _ _))⟩))); try go_wp2_with (first | (go_at_call 41; (with_reducible refine (idiomref03_Lead.calls k3 (strOfNums x5_3) t173 _ A24.out).mono ?_); rintro e w' ⟨rfl, ⟨nd, rfl⟩⟩; (try first | exact ⟨rfl, _, World.drewN_drewN _ _ _⟩ | exact ⟨rfl, _, Eq.trans (World.drewN_drewN _ _ _) (congrArg (World.drewN _) (Nat.add_assoc _ _ _))⟩))))
                   go_ret
                   exact ⟨qe, qh HB⟩
           · rw [if_neg c8] at H
             exact absurd H (by simp)
         · rw [if_neg c7] at H
           exact absurd H (by simp)

end Go.Proofs.YtpmhebdaphjinaaDoor.F
namespace Go.Proofs.YtpmhebdaphjinaaDoor.F
open Go.RowKit Go.Proofs.YtpmhebdaphjinaaDoorW.PrintWords Go.Proofs.YtpmhebdaphjinaaDoorW.PrintLast Go.Proofs.YtpmhebdaphjinaaDoorW.PrintMore Go.Proofs.YtpmhebdaphjinaaDoor.Q
attribute [local go_sem] max2_int min2_int max_two min_two max_three min_three max_four min_four   -- for this text's walks alone
set_option linter.unusedVariables false
set_option linter.unusedSimpArgs false

def idiomref03_away.f (k : Nat) (a0 : Int) (a1 : Bool) (a2 : ByteArray) (a3 : ByteArray) (a4 : ByteArray) : Option (Bool × Int) := if a3.toList = ([48] : List UInt8) then (some (false, 0)) else ((idiomref03_add.f k a3 a3).bind fun t174 => ((idiomref03_cmp.f k t174 a4).bind fun t175 => (if 0 ≤ (wrap64 ((a2.size : Int) - 1)) then (if (wrap64 ((a2.size : Int) - 1)) < (a2.size : Int) then (if a0 = 1 then (some (true, 0)) else (if a0 = 2 then (some (false, 0)) else (if a0 = 3 then (some (!a1, 0)) else (if a0 = 4 then (some (a1, 0)) else (if a0 = 5 then (some (decide (t175 ≥ 0), 0)) else (if a0 = 6 then (some (decide (t175 > 0), 0)) else (if a0 = 7 then (if t175 > 0 then (some (true, 0)) else (if t175 = 0 then (some ((((((bt a2 (wrap64 ((a2.size : Int) - 1))) - 48) % 256) % 2) == 1), 0)) else (some (false, 0)))) else (some (false, 31))))))))) else (none)) else (none))))
theorem idiomref03_away.mono : ∀ a0 a1 a2 a3 a4 k, LeO (idiomref03_away.f k a0 a1 a2 a3 a4) (idiomref03_away.f (k + 1) a0 a1 a2 a3 a4) := by
 intro a0 a1 a2 a3 a4 k
 unfold idiomref03_away.f
 repeat' first
  | (with_reducible exact idiomref03_add.mono _ _ _)
  | (with_reducible exact idiomref03_cmp.mono _ _ _)
  | (with_reducible exact LeO.refl _)
  | (with_reducible exact LeO.none _)
  | (with_reducible refine LeO.ite ?_ ?_)
  | (with_reducible refine LeO.bind ?_ (fun _ => ?_))
  | exact idiomref03_add.mono _ _ _
  | exact idiomref03_cmp.mono _ _ _
  | exact LeO.none _
  | refine LeO.ite ?_ ?_
  | refine LeO.bind ?_ (fun _ => ?_)
set_option maxHeartbeats 8000000 in
set_option maxRecDepth 100000 in
theorem idiomref03_away.calls (k : Nat) (a0 : Int) (a1 : Bool) (a2 : ByteArray) (a3 : ByteArray) (a4 : ByteArray) (r1 : Bool) (r2 : Int) (w : World) (h : idiomref03_away.f k a0 a1 a2 a3 a4 = some (r1, r2)) :
 Calls Tryd.prog 55 #[.int .i64 a0, .bool a1, .string a2, .string a3, .string a4] w fun e w' => e = .returned (.tuple #[.bool r1, .int .i64 r2]) ∧ Below w.heap.size w w' := by
 have HB := Aside0.mk (Below.refl w.heap.size w)
 have H : (if a3.toList = ([48] : List UInt8) then (some (false, 0)) else ((idiomref03_add.f k a3 a3).bind fun t174 => ((idiomref03_cmp.f k t174 a4).bind fun t175 => (if 0 ≤ (wrap64 ((a2.size : Int) - 1)) then (if (wrap64 ((a2.size : Int) - 1)) < (a2.size : Int) then (if a0 = 1 then (some (true, 0)) else (if a0 = 2 then (some (false, 0)) else (if a0 = 3 then (some (!a1, 0)) else (if a0 = 4 then (some (a1, 0)) else (if a0 = 5 then (some (decide (t175 ≥ 0), 0)) else (if a0 = 6 then (some (decide (t175 > 0), 0)) else (if a0 = 7 then (if t175 > 0 then (some (true, 0)) else (if t175 = 0 then (some ((((((bt a2 (wrap64 ((a2.size : Int) - 1))) - 48) % 256) % 2) == 1), 0)) else (some (false, 0)))) else (some (false, 31))))))))) else (none)) else (none))))) = some (r1, r2) := h
 clear h
 by_cases c6 : a3.toList = ([48] : List UInt8)
 · rw [if_pos c6] at H
   have c6b0 : (a3.toList == ([48] : List UInt8)) = true := beq_iff_eq.mpr c6
   have c6b1 : (a3.toList != ([48] : List UInt8)) = false := bne_eq_false_iff_eq.mpr c6
   clear c6
   simp only [Option.some.injEq, Prod.mk.injEq] at H
   obtain ⟨rfl, rfl⟩ := H
   go_enter Tryd.func55, Tryd.ntmps55
   go_wp2
   go_ret2
   exact ⟨qe, qh HB⟩
 · rw [if_neg c6] at H
   have c6b0 : (a3.toList == ([48] : List UInt8)) = false := beq_eq_false_iff_ne.mpr c6
   have c6b1 : (a3.toList != ([48] : List UInt8)) = true := bne_iff_ne.mpr c6
   replace H := Option.bind_eq_some_iff.mp H
   obtain ⟨t174, A70, H⟩ := H
   replace H : ((idiomref03_cmp.f k t174 a4).bind fun t175 => (if 0 ≤ (wrap64 ((a2.size : Int) - 1)) then (if (wrap64 ((a2.size : Int) - 1)) < (a2.size : Int) then (if a0 = 1 then (some (true, 0)) else (if a0 = 2 then (some (false, 0)) else (if a0 = 3 then (some (!a1, 0)) else (if a0 = 4 then (some (a1, 0)) else (if a0 = 5 then (some (decide (t175 ≥ 0), 0)) else (if a0 = 6 then (some (decide (t175 > 0), 0)) else (if a0 = 7 then (if t175 > 0 then (some (true, 0)) else (if t175 = 0 then (some ((((((bt a2 (wrap64 ((a2.size : Int) - 1))) - 48) % 256) % 2) == 1), 0)) else (some (false, 0)))) else (some (false, 31))))))))) else (none)) else (none))) = some (r1, r2) := H
   have A7 := Aside0.mk A70
   clear A70
   replace H := Option.bind_eq_some_iff.mp H
   obtain ⟨t175, A80, H⟩ := H
   replace H : (if 0 ≤ (wrap64 ((a2.size : Int) - 1)) then (if (wrap64 ((a2.size : Int) - 1)) < (a2.size : Int) then (if a0 = 1 then (some (true, 0)) else (if a0 = 2 then (some (false, 0)) else (if a0 = 3 then (some (!a1, 0)) else (if a0 = 4 then (some (a1, 0)) else (if a0 = 5 then (some (decide (t175 ≥ 0), 0)) else (if a0 = 6 then (some (decide (t175 > 0), 0)) else (if a0 = 7 then (if t175 > 0 then (some (true, 0)) else (if t175 = 0 then (some ((((((bt a2 (wrap64 ((a2.size : Int) - 1))) - 48) % 256) % 2) == 1), 0)) else (some (false, 0)))) else (some (false, 31))))))))) else (none)) else (none)) = some (r1, r2) := H
   have A8 := Aside0.mk A80
   clear A80
   obtain ⟨ji9, hji9⟩ : ∃ j_ : Int, (wrap64 ((a2.size : Int) - 1)) = j_ := ⟨_, rfl⟩
   replace H : (if 0 ≤ (ji9) then (if (ji9) < (a2.size : Int) then (if a0 = 1 then (some (true, 0)) else (if a0 = 2 then (some (false, 0)) else (if a0 = 3 then (some (!a1, 0)) else (if a0 = 4 then (some (a1, 0)) else (if a0 = 5 then (some (decide (t175 ≥ 0), 0)) else (if a0 = 6 then (some (decide (t175 > 0), 0)) else (if a0 = 7 then (if t175 > 0 then (some (true, 0)) else (if t175 = 0 then (some ((((((bt a2 (ji9)) - 48) % 256) % 2) == 1), 0)) else (some (false, 0)))) else (some (false, 31))))))))) else (none)) else (none)) = some (r1, r2) := by first | (rw [hji9] at H; exact H) | (simp only [hji9] at H ⊢; exact H)
   (try rw [hji9] at A7)
   (try rw [hji9] at A8)
   have hji9w : (IntKind.i64.wrap ((a2.size : Int) - 1)) = ji9 := (i64_w _).trans hji9
   by_cases c10 : 0 ≤ (ji9)
   · rw [if_pos c10] at H
     have c10b0 : decide (0 ≤ (ji9)) = true := decide_eq_true c10
     clear c10
     by_cases c11 : (ji9) < (a2.size : Int)
     · rw [if_pos c11] at H
       have c11b0 : decide ((ji9) < (a2.size : Int)) = true := decide_eq_true c11
       clear c11
       by_cases c13 : a0 = 1
       · rw [if_pos c13] at H
         have c13b0 : (a0 == 1) = true := beq_iff_eq.mpr c13
         have c13b1 : (a0 != 1) = false := bne_eq_false_iff_eq.mpr c13
         try have c13b1z := c13b1
         (try simp only [bne] at c13b1z)
         clear c13
         simp only [Option.some.injEq, Prod.mk.injEq] at H
         obtain ⟨rfl, rfl⟩ := H
         go_enter Tryd.func55, Tryd.ntmps55
         go_wp2_with (first | ((with_reducible refine gate_callee (f := 56) rfl ?_); refine goesL_ (some 18) rfl rfl Tryd.func56 (by kernel_rfl) rfl #[.string a3, .string a3] rfl ql ?_; (with_reducible refine (idiomref03_add.calls k a3 a3 t174 _ A7.out).mono ?_); rintro e w14 ⟨rfl, hb⟩; refine ⟨_, rfl, ?_⟩; replace HB := qn HB hb; (try clear hb); (try clear hb2); (try clear hk); (try clear hi)) | ((with_reducible refine gate_callee (f := 87) rfl ?_); refine goesL_ (some 20) rfl rfl Tryd.func87 (by kernel_rfl) rfl #[.string t174, .string a4] rfl ql ?_; (with_reducible refine (idiomref03_cmp.calls k t174 a4 t175 _ A8.out).mono ?_); rintro e w' ⟨rfl, ⟨nd, rfl⟩⟩; refine ⟨_, rfl, ?_⟩; have p12 : 0 ≤ ((ji9) : Int) := of_decide_eq_true qa; have q12 : (ji9) < (a2.size : Int) := of_decide_eq_true qa; have hx12 := bt_at a2 (ji9); replace p12 := eq_true p12; replace q12 := eq_true q12))
         go_ret2
         exact ⟨by first | rfl | (exact congrArg (fun b => Ending.returned (.bool b)) (Aid.bne_nil _)) | (exact congrArg (fun b => Ending.returned (.bool b)) (Aid.eq_nil _)) | (simp [errW_none, errW_some] <;> rfl) | (simp only [← hji9]; first | rfl | (simp [errW_none, errW_some] <;> rfl)) | (simp [*, errW_none, errW_some] <;> rfl), qh HB⟩
       · rw [if_neg c13] at H
         have c13b0 : (a0 == 1) = false := beq_eq_false_iff_ne.mpr c13
         have c13b1 : (a0 != 1) = true := bne_iff_ne.mpr c13
         try have c13b1z := c13b1
         (try simp only [bne] at c13b1z)
         by_cases c15 : a0 = 2
         · rw [if_pos c15] at H
           have c15b0 : (a0 == 2) = true := beq_iff_eq.mpr c15
           have c15b1 : (a0 != 2) = false := bne_eq_false_iff_eq.mpr c15
           try have c15b1z := c15b1
           (try simp only [bne] at c15b1z)
           clear c15
           simp only [Option.some.injEq, Prod.mk.injEq] at H
           obtain ⟨rfl, rfl⟩ := H
           go_enter Tryd.func55, Tryd.ntmps55
           go_wp2_with (first | ((with_reducible refine gate_callee (f := 56) rfl ?_); refine goesL_ (some 18) rfl rfl Tryd.func56 (by kernel_rfl) rfl #[.string a3, .string a3] rfl ql ?_; (with_reducible refine (idiomref03_add.calls k a3 a3 t174 _ A7.out).mono ?_); rintro e w16 ⟨rfl, hb⟩; refine ⟨_, rfl, ?_⟩; replace HB := qn HB hb; (try clear hb); (try clear hb2); (try clear hk); (try clear hi)) | ((with_reducible refine gate_callee (f := 87) rfl ?_); refine goesL_ (some 20) rfl rfl Tryd.func87 (by kernel_rfl) rfl #[.string t174, .string a4] rfl ql ?_; (with_reducible refine (idiomref03_cmp.calls k t174 a4 t175 _ A8.out).mono ?_); rintro e w' ⟨rfl, ⟨nd, rfl⟩⟩; refine ⟨_, rfl, ?_⟩; have p12 : 0 ≤ ((ji9) : Int) := of_decide_eq_true qa; have q12 : (ji9) < (a2.size : Int) := of_decide_eq_true qa; have hx12 := bt_at a2 (ji9); replace p12 := eq_true p12; replace q12 := eq_true q12))
           go_ret2
           exact ⟨by first | rfl | (exact congrArg (fun b => Ending.returned (.bool b)) (Aid.bne_nil _)) | (exact congrArg (fun b => Ending.returned (.bool b)) (Aid.eq_nil _)) | (simp [errW_none, errW_some] <;> rfl) | (simp only [← hji9]; first | rfl | (simp [errW_none, errW_some] <;> rfl)) | (simp [*, errW_none, errW_some] <;> rfl), qh HB⟩
         · rw [if_neg c15] at H
           have c15b0 : (a0 == 2) = false := beq_eq_false_iff_ne.mpr c15
           have c15b1 : (a0 != 2) = true := bne_iff_ne.mpr c15
           try have c15b1z := c15b1
           (try simp only [bne] at c15b1z)
           by_cases c17 : a0 = 3
           · rw [if_pos c17] at H
             have c17b0 : (a0 == 3) = true := beq_iff_eq.mpr c17
             have c17b1 : (a0 != 3) = false := bne_eq_false_iff_eq.mpr c17
             try have c17b1z := c17b1
             (try simp only [bne] at c17b1z)
             clear c17
             simp only [Option.some.injEq, Prod.mk.injEq] at H
             obtain ⟨rfl, rfl⟩ := H
             go_enter Tryd.func55, Tryd.ntmps55
             go_wp2_with (first | ((with_reducible refine gate_callee (f := 56) rfl ?_); refine goesL_ (some 18) rfl rfl Tryd.func56 (by kernel_rfl) rfl #[.string a3, .string a3] rfl ql ?_; (with_reducible refine (idiomref03_add.calls k a3 a3 t174 _ A7.out).mono ?_); rintro e w18 ⟨rfl, hb⟩; refine ⟨_, rfl, ?_⟩; replace HB := qn HB hb; (try clear hb); (try clear hb2); (try clear hk); (try clear hi)) | ((with_reducible refine gate_callee (f := 87) rfl ?_); refine goesL_ (some 20) rfl rfl Tryd.func87 (by kernel_rfl) rfl #[.string t174, .string a4] rfl ql ?_; (with_reducible refine (idiomref03_cmp.calls k t174 a4 t175 _ A8.out).mono ?_); rintro e w' ⟨rfl, ⟨nd, rfl⟩⟩; refine ⟨_, rfl, ?_⟩; have p12 : 0 ≤ ((ji9) : Int) := of_decide_eq_true qa; have q12 : (ji9) < (a2.size : Int) := of_decide_eq_true qa; have hx12 := bt_at a2 (ji9); replace p12 := eq_true p12; replace q12 := eq_true q12))
             go_ret2
             exact ⟨by first | rfl | (exact congrArg (fun b => Ending.returned (.bool b)) (Aid.bne_nil _)) | (exact congrArg (fun b => Ending.returned (.bool b)) (Aid.eq_nil _)) | (simp [errW_none, errW_some] <;> rfl) | (simp only [← hji9]; first | rfl | (simp [errW_none, errW_some] <;> rfl)) | (simp [*, errW_none, errW_some] <;> rfl), qh HB⟩
           · rw [if_neg c17] at H
             have c17b0 : (a0 == 3) = false := beq_eq_false_iff_ne.mpr c17
             have c17b1 : (a0 != 3) = true := bne_iff_ne.mpr c17
             try have c17b1z := c17b1
             (try simp only [bne] at c17b1z)
             by_cases c19 : a0 = 4
             · rw [if_pos c19] at H
               have c19b0 : (a0 == 4) = true := beq_iff_eq.mpr c19
               have c19b1 : (a0 != 4) = false := bne_eq_false_iff_eq.mpr c19
               try have c19b1z := c19b1
               (try simp only [bne] at c19b1z)
               clear c19
               simp only [Option.some.injEq, Prod.mk.injEq] at H
               obtain ⟨rfl, rfl⟩ := H
               go_enter Tryd.func55, Tryd.ntmps55
               go_wp2_with (first | ((with_reducible refine gate_callee (f := 56) rfl ?_); refine goesL_ (some 18) rfl rfl Tryd.func56 (by kernel_rfl) rfl #[.string a3, .string a3] rfl ql ?_; (with_reducible refine (idiomref03_add.calls k a3 a3 t174 _ A7.out).mono ?_); rintro e w20 ⟨rfl, hb⟩; refine ⟨_, rfl, ?_⟩; replace HB := qn HB hb; (try clear hb); (try clear hb2); (try clear hk); (try clear hi)) | ((with_reducible refine gate_callee (f := 87) rfl ?_); refine goesL_ (some 20) rfl rfl Tryd.func87 (by kernel_rfl) rfl #[.string t174, .string a4] rfl ql ?_; (with_reducible refine (idiomref03_cmp.calls k t174 a4 t175 _ A8.out).mono ?_); rintro e w' ⟨rfl, ⟨nd, rfl⟩⟩; refine ⟨_, rfl, ?_⟩; have p12 : 0 ≤ ((ji9) : Int) := of_decide_eq_true qa; have q12 : (ji9) < (a2.size : Int) := of_decide_eq_true qa; have hx12 := bt_at a2 (ji9); replace p12 := eq_true p12; replace q12 := eq_true q12))
               go_ret2
               exact ⟨by first | rfl | (exact congrArg (fun b => Ending.returned (.bool b)) (Aid.bne_nil _)) | (exact congrArg (fun b => Ending.returned (.bool b)) (Aid.eq_nil _)) | (simp [errW_none, errW_some] <;> rfl) | (simp only [← hji9]; first | rfl | (simp [errW_none, errW_some] <;> rfl)) | (simp [*, errW_none, errW_some] <;> rfl), qh HB⟩
             · rw [if_neg c19] at H
               have c19b0 : (a0 == 4) = false := beq_eq_false_iff_ne.mpr c19
               have c19b1 : (a0 != 4) = true := bne_iff_ne.mpr c19
               try have c19b1z := c19b1
               (try simp only [bne] at c19b1z)
               by_cases c21 : a0 = 5
               · rw [if_pos c21] at H
                 have c21b0 : (a0 == 5) = true := beq_iff_eq.mpr c21
                 have c21b1 : (a0 != 5) = false := bne_eq_false_iff_eq.mpr c21
                 try have c21b1z := c21b1
                 (try simp only [bne] at c21b1z)
                 clear c21
                 simp only [Option.some.injEq, Prod.mk.injEq] at H
                 obtain ⟨rfl, rfl⟩ := H
                 go_enter Tryd.func55, Tryd.ntmps55
                 go_wp2_with (first | ((with_reducible refine gate_callee (f := 56) rfl ?_); refine goesL_ (some 18) rfl rfl Tryd.func56 (by kernel_rfl) rfl #[.string a3, .string a3] rfl ql ?_; (with_reducible refine (idiomref03_add.calls k a3 a3 t174 _ A7.out).mono ?_); rintro e w22 ⟨rfl, hb⟩; refine ⟨_, rfl, ?_⟩; replace HB := qn HB hb; (try clear hb); (try clear hb2); (try clear hk); (try clear hi)) | ((with_reducible refine gate_callee (f := 87) rfl ?_); refine goesL_ (some 20) rfl rfl Tryd.func87 (by kernel_rfl) rfl #[.string t174, .string a4] rfl ql ?_; (with_reducible refine (idiomref03_cmp.calls k t174 a4 t175 _ A8.out).mono ?_); rintro e w' ⟨rfl, ⟨nd, rfl⟩⟩; refine ⟨_, rfl, ?_⟩; have p12 : 0 ≤ ((ji9) : Int) := of_decide_eq_true qa; have q12 : (ji9) < (a2.size : Int) := of_decide_eq_true qa; have hx12 := bt_at a2 (ji9); replace p12 := eq_true p12; replace q12 := eq_true q12))
                 go_ret2
                 exact ⟨by first | rfl | (exact congrArg (fun b => Ending.returned (.bool b)) (Aid.bne_nil _)) | (exact congrArg (fun b => Ending.returned (.bool b)) (Aid.eq_nil _)) | (simp [errW_none, errW_some] <;> rfl) | (simp only [← hji9]; first | rfl | (simp [errW_none, errW_some] <;> rfl)) | (simp [*, errW_none, errW_some] <;> rfl), qh HB⟩
               · rw [if_neg c21] at H
                 have c21b0 : (a0 == 5) = false := beq_eq_false_iff_ne.mpr c21
                 have c21b1 : (a0 != 5) = true := bne_iff_ne.mpr c21
                 try have c21b1z := c21b1
                 (try simp only [bne] at c21b1z)
                 by_cases c23 : a0 = 6
                 · rw [if_pos c23] at H
                   have c23b0 : (a0 == 6) = true := beq_iff_eq.mpr c23
                   have c23b1 : (a0 != 6) = false := bne_eq_false_iff_eq.mpr c23
                   try have c23b1z := c23b1
                   (try simp only [bne] at c23b1z)
                   clear c23
                   simp only [Option.some.injEq, Prod.mk.injEq] at H
                   obtain ⟨rfl, rfl⟩ := H
                   go_enter Tryd.func55, Tryd.ntmps55
                   go_wp2_with (first | ((with_reducible refine gate_callee (f := 56) rfl ?_); refine goesL_ (some 18) rfl rfl Tryd.func56 (by kernel_rfl) rfl #[.string a3, .string a3] rfl ql ?_; (with_reducible refine (idiomref03_add.calls k a3 a3 t174 _ A7.out).mono ?_); rintro e w24 ⟨rfl, hb⟩; refine ⟨_, rfl, ?_⟩; replace HB := qn HB hb; (try clear hb); (try clear hb2); (try clear hk); (try clear hi)) | ((with_reducible refine gate_callee (f := 87) rfl ?_); refine goesL_ (some 20) rfl rfl Tryd.func87 (by kernel_rfl) rfl #[.string t174, .string a4] rfl ql ?_; (with_reducible refine (idiomref03_cmp.calls k t174 a4 t175 _ A8.out).mono ?_); rintro e w' ⟨rfl, ⟨nd, rfl⟩⟩; refine ⟨_, rfl, ?_⟩; have p12 : 0 ≤ ((ji9) : Int) := of_decide_eq_true qa; have q12 : (ji9) < (a2.size : Int) := of_decide_eq_true qa; have hx12 := bt_at a2 (ji9); replace p12 := eq_true p12; replace q12 := eq_true q12))
                   go_ret2
                   exact ⟨by first | rfl | (exact congrArg (fun b => Ending.returned (.bool b)) (Aid.bne_nil _)) | (exact congrArg (fun b => Ending.returned (.bool b)) (Aid.eq_nil _)) | (simp [errW_none, errW_some] <;> rfl) | (simp only [← hji9]; first | rfl | (simp [errW_none, errW_some] <;> rfl)) | (simp [*, errW_none, errW_some] <;> rfl), qh HB⟩
                 · rw [if_neg c23] at H
                   have c23b0 : (a0 == 6) = false := beq_eq_false_iff_ne.mpr c23
                   have c23b1 : (a0 != 6) = true := bne_iff_ne.mpr c23
                   try have c23b1z := c23b1
                   (try simp only [bne] at c23b1z)
                   by_cases c25 : a0 = 7
                   · rw [if_pos c25] at H
                     have c25b0 : (a0 == 7) = true := beq_iff_eq.mpr c25
                     have c25b1 : (a0 != 7) = false := bne_eq_false_iff_eq.mpr c25
                     try have c25b1z := c25b1
                     (try simp only [bne] at c25b1z)
                     clear c25
                     by_cases c26 : t175 > 0
                     · rw [if_pos c26] at H
                       have c26b0 : decide (0 < t175) = true := decide_eq_true c26
                       clear c26
                       simp only [Option.some.injEq, Prod.mk.injEq] at H
                       obtain ⟨rfl, rfl⟩ := H
                       go_enter Tryd.func55, Tryd.ntmps55
                       go_wp2_with (first | ((with_reducible refine gate_callee (f := 56) rfl ?_); refine goesL_ (some 18) rfl rfl Tryd.func56 (by kernel_rfl) rfl #[.string a3, .string a3] rfl ql ?_; (with_reducible refine (idiomref03_add.calls k a3 a3 t174 _ A7.out).mono ?_); rintro e w27 ⟨rfl, hb⟩; refine ⟨_, rfl, ?_⟩; replace HB := qn HB hb; (try clear hb); (try clear hb2); (try clear hk); (try clear hi)) | ((with_reducible refine gate_callee (f := 87) rfl ?_); refine goesL_ (some 20) rfl rfl Tryd.func87 (by kernel_rfl) rfl #[.string t174, .string a4] rfl ql ?_; (with_reducible refine (idiomref03_cmp.calls k t174 a4 t175 _ A8.out).mono ?_); rintro e w' ⟨rfl, ⟨nd, rfl⟩⟩; refine ⟨_, rfl, ?_⟩; have p12 : 0 ≤ ((ji9) : Int) := of_decide_eq_true qa; have q12 : (ji9) < (a2.size : Int) := of_decide_eq_true qa; have hx12 := bt_at a2 (ji9); replace p12 := eq_true p12; replace q12 := eq_true q12))
                       go_ret2
                       exact ⟨by first | rfl | (exact congrArg (fun b => Ending.returned (.bool b)) (Aid.bne_nil _)) | (exact congrArg (fun b => Ending.returned (.bool b)) (Aid.eq_nil _)) | (simp [errW_none, errW_some] <;> rfl) | (simp only [← hji9]; first | rfl | (simp [errW_none, errW_some] <;> rfl)) | (simp [*, errW_none, errW_some] <;> rfl), qh HB⟩
                     · rw [if_neg c26] at H
                       have c26b0 : decide (0 < t175) = false := decide_eq_false c26
                       clear c26
                       by_cases c28 : t175 = 0
                       · rw [if_pos c28] at H
                         have c28b0 : (t175 == 0) = true := beq_iff_eq.mpr c28
                         have c28b1 : (t175 != 0) = false := bne_eq_false_iff_eq.mpr c28
                         try have c28b1z := c28b1
                         (try simp only [bne] at c28b1z)
                         clear c28
                         simp only [Option.some.injEq, Prod.mk.injEq] at H
                         obtain ⟨rfl, rfl⟩ := H
                         go_enter Tryd.func55, Tryd.ntmps55
                         go_wp2_with (first | ((with_reducible refine gate_callee (f := 56) rfl ?_); refine goesL_ (some 18) rfl rfl Tryd.func56 (by kernel_rfl) rfl #[.string a3, .string a3] rfl ql ?_; (with_reducible refine (idiomref03_add.calls k a3 a3 t174 _ A7.out).mono ?_); rintro e w29 ⟨rfl, hb⟩; refine ⟨_, rfl, ?_⟩; replace HB := qn HB hb; (try clear hb); (try clear hb2); (try clear hk); (try clear hi)) | ((with_reducible refine gate_callee (f := 87) rfl ?_); refine goesL_ (some 20) rfl rfl Tryd.func87 (by kernel_rfl) rfl #[.string t174, .string a4] rfl ql ?_; (with_reducible refine (idiomref03_cmp.calls k t174 a4 t175 _ A8.out).mono ?_); rintro e w' ⟨rfl, ⟨nd, rfl⟩⟩; refine ⟨_, rfl, ?_⟩; have p12 : 0 ≤ ((ji9) : Int) := of_decide_eq_true qa; have q12 : (ji9) < (a2.size : Int) := of_decide_eq_true qa; have hx12 := bt_at a2 (ji9); replace p12 := eq_true p12; replace q12 := eq_true q12))
                         go_ret2
                         exact ⟨by first | rfl | (exact congrArg (fun b => Ending.returned (.bool b)) (Aid.bne_nil _)) | (exact congrArg (fun b => Ending.returned (.bool b)) (Aid.eq_nil _)) | (simp [errW_none, errW_some] <;> rfl) | (simp only [← hji9]; first | rfl | (simp [errW_none, errW_some] <;> rfl)) | (simp [*, errW_none, errW_some] <;> rfl), qh HB⟩
                       · rw [if_neg c28] at H
                         have c28b0 : (t175 == 0) = false := beq_eq_false_iff_ne.mpr c28
                         have c28b1 : (t175 != 0) = true := bne_iff_ne.mpr c28
                         try have c28b1z := c28b1
                         (try simp only [bne] at c28b1z)
                         simp only [Option.some.injEq, Prod.mk.injEq] at H
                         obtain ⟨rfl, rfl⟩ := H
                         go_enter Tryd.func55, Tryd.ntmps55
                         go_wp2_with (first | ((with_reducible refine gate_callee (f := 56) rfl ?_); refine goesL_ (some 18) rfl rfl Tryd.func56 (by kernel_rfl) rfl #[.string a3, .string a3] rfl ql ?_; (with_reducible refine (idiomref03_add.calls k a3 a3 t174 _ A7.out).mono ?_); rintro e w30 ⟨rfl, hb⟩; refine ⟨_, rfl, ?_⟩; replace HB := qn HB hb; (try clear hb); (try clear hb2); (try clear hk); (try clear hi)) | ((with_reducible refine gate_callee (f := 87) rfl ?_); refine goesL_ (some 20) rfl rfl Tryd.func87 (by kernel_rfl) rfl #[.string t174, .string a4] rfl ql ?_; (with_reducible refine (idiomref03_cmp.calls k t174 a4 t175 _ A8.out).mono ?_); rintro e w' ⟨rfl, ⟨nd, rfl⟩⟩; refine ⟨_, rfl, ?_⟩; have p12 : 0 ≤ ((ji9) : Int) := of_decide_eq_true qa; have q12 : (ji9) < (a2.size : Int) := of_decide_eq_true qa; have hx12 := bt_at a2 (ji9); replace p12 := eq_true p12; replace q12 := eq_true q12))
                         go_ret2
                         exact ⟨by first | rfl | (exact congrArg (fun b => Ending.returned (.bool b)) (Aid.bne_nil _)) | (exact congrArg (fun b => Ending.returned (.bool b)) (Aid.eq_nil _)) | (simp [errW_none, errW_some] <;> rfl) | (simp only [← hji9]; first | rfl | (simp [errW_none, errW_some] <;> rfl)) | (simp [*, errW_none, errW_some] <;> rfl), qh HB⟩
                   · rw [if_neg c25] at H
                     have c25b0 : (a0 == 7) = false := beq_eq_false_iff_ne.mpr c25
                     have c25b1 : (a0 != 7) = true := bne_iff_ne.mpr c25
                     try have c25b1z := c25b1
                     (try simp only [bne] at c25b1z)
                     simp only [Option.some.injEq, Prod.mk.injEq] at H
                     obtain ⟨rfl, rfl⟩ := H
                     go_enter Tryd.func55, Tryd.ntmps55
                     go_wp2_with (first | ((with_reducible refine gate_callee (f := 56) rfl ?_); refine goesL_ (some 18) rfl rfl Tryd.func56 (by kernel_rfl) rfl #[.string a3, .string a3] rfl ql ?_; (with_reducible refine (idiomref03_add.calls k a3 a3 t174 _ A7.out).mono ?_); rintro e w31 ⟨rfl, hb⟩; refine ⟨_, rfl, ?_⟩; replace HB := qn HB hb; (try clear hb); (try clear hb2); (try clear hk); (try clear hi)) | ((with_reducible refine gate_callee (f := 87) rfl ?_); refine goesL_ (some 20) rfl rfl Tryd.func87 (by kernel_rfl) rfl #[.string t174, .string a4] rfl ql ?_; (with_reducible refine (idiomref03_cmp.calls k t174 a4 t175 _ A8.out).mono ?_); rintro e w' ⟨rfl, ⟨nd, rfl⟩⟩; refine ⟨_, rfl, ?_⟩; have p12 : 0 ≤ ((ji9) : Int) := of_decide_eq_true qa; have q12 : (ji9) < (a2.size : Int) := of_decide_eq_true qa; have hx12 := bt_at a2 (ji9); replace p12 := eq_true p12; replace q12 := eq_true q12))
                     go_ret2
                     exact ⟨by first | rfl | (exact congrArg (fun b => Ending.returned (.bool b)) (Aid.bne_nil _)) | (exact congrArg (fun b => Ending.returned (.bool b)) (Aid.eq_nil _)) | (simp [errW_none, errW_some] <;> rfl) | (simp only [← hji9]; first | rfl | (simp [errW_none, errW_some] <;> rfl)) | (simp [*, errW_none, errW_some] <;> rfl), qh HB⟩
     · rw [if_neg c11] at H
       exact absurd H (by simp)
   · rw [if_neg c10] at H
     exact absurd H (by simp)

def idiomref03_turned.f (k : Nat) (a0 : Int) (a1 : Bool) (a2 : ByteArray) (a3 : ByteArray) : Option (ByteArray × Int) := (idiomref03_quo.f k a2 a3).bind fun bt176 => ((idiomref03_away.f k a0 a1 bt176.1 bt176.2 a3).bind fun bt178 => (if bt178.1 = true then ((idiomref03_add.f k bt176.1 (⟨#[49]⟩ : ByteArray)).bind fun t180 => (some (t180, bt178.2))) else (some (bt176.1, bt178.2))))
theorem idiomref03_turned.mono : ∀ a0 a1 a2 a3 k, LeO (idiomref03_turned.f k a0 a1 a2 a3) (idiomref03_turned.f (k + 1) a0 a1 a2 a3) := by
 intro a0 a1 a2 a3 k
 unfold idiomref03_turned.f
 repeat' first
  | (with_reducible exact idiomref03_add.mono _ _ _)
  | (with_reducible exact idiomref03_away.mono _ _ _ _ _ _)
  | (with_reducible exact idiomref03_quo.mono _ _ _)
  | (with_reducible exact LeO.refl _)
  | (with_reducible exact LeO.none _)
  | (with_reducible refine LeO.ite ?_ ?_)
  | (with_reducible refine LeO.bind ?_ (fun _ => ?_))
  | exact idiomref03_add.mono _ _ _
  | exact idiomref03_away.mono _ _ _ _ _ _
  | exact idiomref03_quo.mono _ _ _
  | exact LeO.none _
  | refine LeO.ite ?_ ?_
  | refine LeO.bind ?_ (fun _ => ?_)
set_option maxHeartbeats 8000000 in
set_option maxRecDepth 100000 in
theorem idiomref03_turned.calls (k : Nat) (a0 : Int) (a1 : Bool) (a2 : ByteArray) (a3 : ByteArray) (r1 : ByteArray) (r2 : Int) (w : World) (h : idiomref03_turned.f k a0 a1 a2 a3 = some (r1, r2)) :
 Calls Tryd.prog 27 #[.int .i64 a0, .bool a1, .string a2, .string a3] w fun e w' => e = .returned (.tuple #[.string r1, .int .i64 r2]) ∧ Below w.heap.size w w' := by
 have HB := Aside0.mk (Below.refl w.heap.size w)
 have H : ((idiomref03_quo.f k a2 a3).bind fun bt176 => ((idiomref03_away.f k a0 a1 bt176.1 bt176.2 a3).bind fun bt178 => (if bt178.1 = true then ((idiomref03_add.f k bt176.1 (⟨#[49]⟩ : ByteArray)).bind fun t180 => (some (t180, bt178.2))) else (some (bt176.1, bt178.2))))) = some (r1, r2) := h
 clear h
 replace H := Option.bind_eq_some_iff.mp H
 obtain ⟨⟨t176, t177⟩, A50, H⟩ := H
 replace H : ((idiomref03_away.f k a0 a1 t176 t177 a3).bind fun bt178 => (if bt178.1 = true then ((idiomref03_add.f k t176 (⟨#[49]⟩ : ByteArray)).bind fun t180 => (some (t180, bt178.2))) else (some (t176, bt178.2)))) = some (r1, r2) := H
 have A5 := Aside0.mk A50
 clear A50
 replace H := Option.bind_eq_some_iff.mp H
 obtain ⟨⟨t178, t179⟩, A60, H⟩ := H
 replace H : (if t178 = true then ((idiomref03_add.f k t176 (⟨#[49]⟩ : ByteArray)).bind fun t180 => (some (t180, t179))) else (some (t176, t179))) = some (r1, r2) := H
 have A6 := Aside0.mk A60
 clear A60
 by_cases c7 : t178 = true
 · subst c7
   have H1 : ((idiomref03_add.f k t176 (⟨#[49]⟩ : ByteArray)).bind fun t180 => (some (t180, t179))) = some (r1, r2) := by rw [if_pos rfl] at H; exact H
   clear H
   have H := H1
   clear H1
   replace H := Option.bind_eq_some_iff.mp H
   obtain ⟨t180, A80, H⟩ := H
   replace H : (some (t180, t179)) = some (r1, r2) := H
   have A8 := Aside0.mk A80
   clear A80
   simp only [Option.some.injEq, Prod.mk.injEq] at H
   obtain ⟨rfl, rfl⟩ := H
   go_enter Tryd.func27, Tryd.ntmps27
   go_wp2_with (first | ((with_reducible refine gate_callee (f := 54) rfl ?_); refine goesL_ (some 17) rfl rfl Tryd.func54 (by kernel_rfl) rfl #[.string a2, .string a3] rfl ql ?_; (with_reducible refine (idiomref03_quo.calls k a2 a3 t176 t177 _ A5.out).mono ?_); rintro e w9 ⟨rfl, hb⟩; refine ⟨_, rfl, ?_⟩; replace HB := qn HB hb; (try clear hb); (try clear hb2); (try clear hk); (try clear hi)) | ((with_reducible refine gate_callee (f := 55) rfl ?_); refine goesL_ (some 26) rfl rfl Tryd.func55 (by kernel_rfl) rfl #[.int .i64 a0, .bool a1, .string t176, .string t177, .string a3] rfl ql ?_; (with_reducible refine (idiomref03_away.calls k a0 a1 t176 t177 a3 true t179 _ A6.out).mono ?_); rintro e w10 ⟨rfl, hb⟩; refine ⟨_, rfl, ?_⟩; replace HB := qn HB hb; (try clear hb); (try clear hb2); (try clear hk); (try clear hi)) | ((with_reducible refine gate_callee (f := 56) rfl ?_); refine goesL_ (some 31) rfl rfl Tryd.func56 (by kernel_rfl) rfl #[.string t176, .string (⟨#[49]⟩ : ByteArray)] rfl ql ?_; (with_reducible refine (idiomref03_add.calls k t176 (⟨#[49]⟩ : ByteArray) t180 _ A8.out).mono ?_); rintro e w11 ⟨rfl, hb⟩; refine ⟨_, rfl, ?_⟩; replace HB := qn HB hb; (try clear hb); (try clear hb2); (try clear hk); (try clear hi)))
   go_ret2
   exact ⟨qe, qh HB⟩
 · replace c7 := Bool.eq_false_iff.mpr c7
   subst c7
   have H1 : (some (t176, t179)) = some (r1, r2) := by rw [if_neg (show ¬ (false = true) by decide)] at H; exact H
   clear H
   have H := H1
   clear H1
   simp only [Option.some.injEq, Prod.mk.injEq] at H
   obtain ⟨rfl, rfl⟩ := H
   go_enter Tryd.func27, Tryd.ntmps27
   go_wp2_with (first | ((with_reducible refine gate_callee (f := 54) rfl ?_); refine goesL_ (some 17) rfl rfl Tryd.func54 (by kernel_rfl) rfl #[.string a2, .string a3] rfl ql ?_; (with_reducible refine (idiomref03_quo.calls k a2 a3 t176 t177 _ A5.out).mono ?_); rintro e w12 ⟨rfl, hb⟩; refine ⟨_, rfl, ?_⟩; replace HB := qn HB hb; (try clear hb); (try clear hb2); (try clear hk); (try clear hi)) | ((with_reducible refine gate_callee (f := 55) rfl ?_); refine goesL_ (some 26) rfl rfl Tryd.func55 (by kernel_rfl) rfl #[.int .i64 a0, .bool a1, .string t176, .string t177, .string a3] rfl ql ?_; (with_reducible refine (idiomref03_away.calls k a0 a1 t176 t177 a3 false t179 _ A6.out).mono ?_); rintro e w13 ⟨rfl, hb⟩; refine ⟨_, rfl, ?_⟩; replace HB := qn HB hb; (try clear hb); (try clear hb2); (try clear hk); (try clear hi)))
   go_ret2
   exact ⟨qe, qh HB⟩

def idiomref03_Noughts.l0 : Nat → Int → List Int → Int → Option (ByteArray)
 | 0, _, _, _ => none
 | k + 1, x0, x3, x4 => if x4 < x0 then (if x3.length < 140737488355328 then (idiomref03_Noughts.l0 k x0 (x3 ++ [48]) (wrap64 (x4 + 1))) else (none)) else (some (strOfNums x3))
def idiomref03_Noughts.f (k : Nat) (a0 : Int) : Option (ByteArray) := idiomref03_Noughts.l0 k a0 (([] : List Int)) 0
theorem idiomref03_Noughts.mono_l : ∀ k, (∀ y0 y1 y2, LeO (idiomref03_Noughts.l0 k y0 y1 y2) (idiomref03_Noughts.l0 (k + 1) y0 y1 y2))
 | 0 => fun _ _ _ r h => by simp [idiomref03_Noughts.l0] at h
 | k + 1 => by
  have ih0 := idiomref03_Noughts.mono_l k
  · intro y0 y1 y2
    unfold idiomref03_Noughts.l0
    repeat' first
    | (with_reducible exact ih0 _ _ _)
    | (with_reducible exact LeO.refl _)
    | (with_reducible exact LeO.none _)
    | (with_reducible refine LeO.ite ?_ ?_)
    | (with_reducible refine LeO.bind ?_ (fun _ => ?_))
    | exact ih0 _ _ _
    | exact LeO.none _
    | refine LeO.ite ?_ ?_
    | refine LeO.bind ?_ (fun _ => ?_)
theorem idiomref03_Noughts.mono : ∀ a0 k, LeO (idiomref03_Noughts.f k a0) (idiomref03_Noughts.f (k + 1) a0) := by
 intro a0 k
 have ih0 := idiomref03_Noughts.mono_l k
 unfold idiomref03_Noughts.f
 repeat' first
  | (with_reducible exact ih0 _ _ _)
  | (with_reducible exact LeO.refl _)
  | (with_reducible exact LeO.none _)
  | (with_reducible refine LeO.ite ?_ ?_)
  | (with_reducible refine LeO.bind ?_ (fun _ => ?_))
  | exact ih0 _ _ _
  | exact LeO.none _
  | refine LeO.ite ?_ ?_
  | refine LeO.bind ?_ (fun _ => ?_)
set_option maxHeartbeats 8000000 in
set_option maxRecDepth 100000 in
theorem idiomref03_Noughts.calls (k : Nat) (a0 : Int) (r : ByteArray) (w : World) (h : idiomref03_Noughts.f k a0 = some r) :
 Calls Tryd.prog 28 #[.int .i64 a0] w fun e w' => e = .returned (.string r) ∧ Below w.heap.size w w' := by
 have HB := Aside0.mk (Below.refl w.heap.size w)
 have H : (idiomref03_Noughts.l0 k a0 (([] : List Int)) 0) = some r := h
 clear h
 obtain ⟨y181, hy181⟩ : ∃ y_ : List Int, y_ = (([] : List Int)) := ⟨_, rfl⟩
 replace H : (idiomref03_Noughts.l0 k a0 y181 0) = some r := by first | (rw [hy181]; with_reducible exact H) | (have H2_ := (Option.bind_some _ _).symm.trans H; rw [hy181]; with_reducible exact H2_) | (have H2_ := (Option.bind_some _ _).symm.trans H; with_reducible exact H2_) | with_reducible exact H | (rw [hy181]; exact H) | exact H
 have Ny181 := Aside0.mk hy181
 clear hy181
 have H' := Aside0.mk H
 clear H
 go_enter Tryd.func28, Tryd.ntmps28
 go_wp2_with (first | ((with_reducible refine gate_dst (N := 5) rfl ?_); refine Kd.R_lit (Kd.int .u8) _ 5 ?hg (N := 5) ?hd (xs := ([] : List Int)) (inner := []) (ok := fun _ => True) (okp := fun _ => True) ?hr ?hp (fun _ hk => hk) trivial (Below.refl _ _) (Nat.le_refl _) (by simp) ?_; (case hd => rfl); (case hg => rfl); (case hr => first | (go_simp; done) | (go_simp; rfl)); (case hp => exact (Reps.none _ _)); intro v182 w2 ho3 hb hg_ hnew_; clear hg_ hnew_; (first | rw [← Ny181.out] at ho3 | (simp only [Int.reduceToNat] at ho3; rw [← Ny181.out] at ho3)); have HO183 := Aside0.mk (Kd.R_lower ho3 (below_size (qh HB))); replace HB := qn HB hb; clear hb ho3))
 (try simp only [Act.put, List.setIfInBounds_toArray, List.set_cons_zero, List.set_cons_succ])
 go_loopg [3, 4] k (fun kq v3 v4 w' => ∃ (x3_1 : List Int) (x4_1 : Int), v4 = .int .i64 x4_1 ∧ Aside0 (idiomref03_Noughts.l0 kq a0 x3_1 x4_1 = some r) ∧ Aside0 (kq ≤ k) ∧ Aside0 (Kd.R (Kd.int .u8) 5 w' w.heap.size (fun _ => True) v3 x3_1) ∧ Aside0 (Below w.heap.size w w'))
 case atStart => exact ⟨(y181), (0), (by first | rfl | (simp; done) | (simp [*]; done)), H', ⟨Nat.le_refl _⟩, ⟨by (with_reducible repeat (first | apply Kd.R_alloc | apply Kd.R_drewN | apply Kd.R_drew)); exact HO183.out⟩, ⟨qh HB⟩⟩
 case round =>
  clear H'
  try clear c2
  try clear p2
  obtain ⟨x3_1, x4_1, rfl, HA, HK1, HO_3, HB⟩ := hrel
  cases gk with
  | zero => exact absurd HA.out (by simp [idiomref03_Noughts.l0])
  | succ k1 =>
   have H := HA.out
   clear HA
   simp only [idiomref03_Noughts.l0] at H
   by_cases c4 : x4_1 < a0
   · rw [if_pos c4] at H
     have c4b0 : decide (x4_1 < a0) = true := decide_eq_true c4
     clear c4
     by_cases c5 : x3_1.length < 140737488355328
     · rw [if_pos c5] at H
       have LMc5 := Aside0.mk c5
       clear c5
       obtain ⟨y184, hy184⟩ : ∃ y_ : List Int, y_ = (x3_1 ++ [48]) := ⟨_, rfl⟩
       replace H : (idiomref03_Noughts.l0 k1 a0 y184 (wrap64 (x4_1 + 1))) = some r := by first | (rw [hy184]; with_reducible exact H) | (have H2_ := (Option.bind_some _ _).symm.trans H; rw [hy184]; with_reducible exact H2_) | (have H2_ := (Option.bind_some _ _).symm.trans H; with_reducible exact H2_) | with_reducible exact H | (rw [hy184]; exact H) | exact H
       have Ny184 := Aside0.mk hy184
       clear hy184
       have H' := Aside0.mk H
       clear H
       go_wp2_with (first | ((with_reducible refine gate_builtin (b := .append) (xs := #[.tmp 11, .tmp 12]) rfl ?_); at_builtin; refine Kd.R_append (Kd.int .u8) (w0 := w) w.heap.size rfl (.tmp 11) (.tmp 12) 69 5 (.int .u8 0) 1 rfl Tryd.underlying69 info5 rfl (by decide) (by omega) u3 x3_1 48 [.int .u8 48] (fun _ => True) (fun _ => False) rfl rfl ?aP (fun _ hk => hk.elim) ?aF ?aO ?aB ?aS ?aL ?_; (case aP => exact rfl); (case aB => exact (qh HB)); (case aF => exact (fun _ _ => trivial)); (case aO => exact (by (with_reducible repeat (first | apply Kd.R_alloc | apply Kd.R_drewN | apply Kd.R_drew)); exact HO_3.out)); (case aS => exact (below_size (qh HB))); (case aL => have := LMc5.out; omega); intro v185 w6 ho hb hg hat; rw [← Ny184.out] at ho; have n0_ := Aside0.mk (hb); have n1_ := Aside0.mk (ho); clear HB; clear HO_3; have HB := n0_; have HO186 := n1_; clear n0_ n1_; clear ho hb hg hat))
       go_roundg k1
       case measure => have := HK1.out; omega
       case rel => exact ⟨(y184), (wrap64 (x4_1 + 1)), (by first | rfl | (simp; done) | (simp [*]; done)), H', ⟨by have := HK1.out; omega⟩, ⟨by (with_reducible repeat (first | apply Kd.R_alloc | apply Kd.R_drewN | apply Kd.R_drew)); exact HO186.out⟩, ⟨qh HB⟩⟩
     · rw [if_neg c5] at H
       exact absurd H (by simp)
   · rw [if_neg c4] at H
     have c4b0 : decide (x4_1 < a0) = false := decide_eq_false c4
     clear c4
     obtain rfl := Option.some.inj H
     have hcv7 := own_string (P := Tryd.prog) Tryd.underlying69 Tryd.underlying5 Tryd.underlying9 (Kd.own_of_R HO_3.out)
     go_wp2
     go_ret
     exact ⟨qe, qh HB⟩

end Go.Proofs.YtpmhebdaphjinaaDoor.F
namespace Go.Proofs.YtpmhebdaphjinaaDoor.F
open Go.RowKit Go.Proofs.YtpmhebdaphjinaaDoorW.PrintWords Go.Proofs.YtpmhebdaphjinaaDoorW.PrintLast Go.Proofs.YtpmhebdaphjinaaDoorW.PrintMore Go.Proofs.YtpmhebdaphjinaaDoor.Q
attribute [local go_sem] max2_int min2_int max_two min_two max_three min_three max_four min_four   -- for this text's walks alone
set_option linter.unusedVariables false
set_option linter.unusedSimpArgs false

def idiomref03_Made.l0 : Nat → Bool → ByteArray → Int → Option (Bool × ByteArray × ByteArray)
 | 0, _, _, _ => none
 | k + 1, x0, x1, x2 => if (x1.size : Int) ≤ x2 then (if 1 + x1.size ≤ 9223372036854775807 then (idiomref03_Made.l0 k x0 ((⟨#[48]⟩ : ByteArray) ++ x1) x2) else (none)) else (if 0 ≤ (wrap64 ((x1.size : Int) - x2)) then (if (wrap64 ((x1.size : Int) - x2)) ≤ (x1.size : Int) then ((idiomref03_Lead.f k (x1.extract 0 ((wrap64 ((x1.size : Int) - x2)) : Int).toNat)).bind fun t188 => (if x0 = true then (if t188.size + (x1.extract ((wrap64 ((x1.size : Int) - x2)) : Int).toNat x1.size).size ≤ 9223372036854775807 then ((idiomref03_Lead.f k (t188 ++ (x1.extract ((wrap64 ((x1.size : Int) - x2)) : Int).toNat x1.size))).bind fun t190 => (some ((t190.toList != ([48] : List UInt8)), t188, x1.extract ((wrap64 ((x1.size : Int) - x2)) : Int).toNat x1.size))) else (none)) else (some (false, t188, x1.extract ((wrap64 ((x1.size : Int) - x2)) : Int).toNat x1.size)))) else (none)) else (none))
def idiomref03_Made.f (k : Nat) (a0 : Bool) (a1 : ByteArray) (a2 : Int) : Option (Bool × ByteArray × ByteArray) := idiomref03_Made.l0 k a0 a1 a2
theorem idiomref03_Made.mono_l : ∀ k, (∀ y0 y1 y2, LeO (idiomref03_Made.l0 k y0 y1 y2) (idiomref03_Made.l0 (k + 1) y0 y1 y2))
 | 0 => fun _ _ _ r h => by simp [idiomref03_Made.l0] at h
 | k + 1 => by
  have ih0 := idiomref03_Made.mono_l k
  · intro y0 y1 y2
    unfold idiomref03_Made.l0
    repeat' first
    | (with_reducible exact ih0 _ _ _)
    | (with_reducible exact idiomref03_Lead.mono _ _)
    | (with_reducible exact LeO.refl _)
    | (with_reducible exact LeO.none _)
    | (with_reducible refine LeO.ite ?_ ?_)
    | (with_reducible refine LeO.bind ?_ (fun _ => ?_))
    | exact ih0 _ _ _
    | exact idiomref03_Lead.mono _ _
    | exact LeO.none _
    | refine LeO.ite ?_ ?_
    | refine LeO.bind ?_ (fun _ => ?_)
theorem idiomref03_Made.mono : ∀ a0 a1 a2 k, LeO (idiomref03_Made.f k a0 a1 a2) (idiomref03_Made.f (k + 1) a0 a1 a2) := by
 intro a0 a1 a2 k
 have ih0 := idiomref03_Made.mono_l k
 unfold idiomref03_Made.f
 repeat' first
  | (with_reducible exact ih0 _ _ _)
  | (with_reducible exact idiomref03_Lead.mono _ _)
  | (with_reducible exact LeO.refl _)
  | (with_reducible exact LeO.none _)
  | (with_reducible refine LeO.ite ?_ ?_)
  | (with_reducible refine LeO.bind ?_ (fun _ => ?_))
  | exact ih0 _ _ _
  | exact idiomref03_Lead.mono _ _
  | exact LeO.none _
  | refine LeO.ite ?_ ?_
  | refine LeO.bind ?_ (fun _ => ?_)
def idiomref03_Made.T3 : Bool × List (List Nat × List Nat) := (true, [([], []), ([], []), ([1], [1]), ([], []), ([2, 3], [2, 3]), ([0, 4], [0, 4]), ([5], [5]), ([], []), ([], []), ([8], [8]), ([], []), ([9, 10], [9, 10]), ([7, 11], [7, 11]), ([6, 12], [6, 12]), ([], []), ([14, 13, 6, 0, 1, 2, 3, 4, 5, 6, 7, 8, 9, 10, 11, 12, 13, 14], [13, 14])])
def idiomref03_Made.B3 : List Nat := [0, 0, 2, 0, 14, 31, 63, 0, 0, 256, 0, 1792, 3968, 8191, 0, 32767]
theorem idiomref03_Made.tab3 : rtab .any (opsOf Tryd.f29 3) = idiomref03_Made.T3 := by kernel_rfl
theorem idiomref03_Made.bits3 : waitsOk idiomref03_Made.T3.2 idiomref03_Made.B3 = true := by kernel_rfl
set_option maxHeartbeats 8000000 in
set_option maxRecDepth 100000 in
theorem idiomref03_Made.calls (k : Nat) (a0 : Bool) (a1 : ByteArray) (a2 : Int) (r1 : Bool) (r2 : ByteArray) (r3 : ByteArray) (w : World) (h : idiomref03_Made.f k a0 a1 a2 = some (r1, r2, r3)) :
 Calls Tryd.prog 29 #[.bool a0, .string a1, .int .i64 a2] w fun e w' => e = .returned (.agg #[.bool r1, .string r2, .string r3]) ∧ Below w.heap.size w w' := by
 have hu23 := Tryd.underlying23
 have HB := Aside0.mk (Below.refl w.heap.size w)
 have H : (idiomref03_Made.l0 k a0 a1 a2) = some (r1, r2, r3) := h
 clear h
 have H' := Aside0.mk H
 clear H
 go_enter Tryd.func29, Tryd.ntmps29
 go_wp2_with (first | ((with_reducible refine gate_dst (N := 6) rfl ?_); refine qx 6 #[.bool false, .string (⟨#[]⟩ : ByteArray), .string (⟨#[]⟩ : ByteArray)] 23 ?_; intro gb187 hg w4 hbox hb; have BK187 := Aside0.mk (hbox); have GW187 := qs hg HB; have GE187 := GW187; replace HB := qn HB hb; clear hb hbox hg))
 (try simp only [Act.put, List.setIfInBounds_toArray, List.set_cons_zero, List.set_cons_succ])
 go_loopg [1] k (fun kq v1 w' => ∃ (x1_1 : ByteArray), v1 = .string x1_1 ∧ Aside0 (idiomref03_Made.l0 kq a0 x1_1 a2 = some (r1, r2, r3)) ∧ Aside0 (kq ≤ k) ∧ Aside0 (w'.heap[gb187]? = some (.cells #[.bool false, .string (⟨#[]⟩ : ByteArray), .string (⟨#[]⟩ : ByteArray)] 23 (0, 0))) ∧ Aside0 (Below w.heap.size w w'))
 case atStart => exact ⟨(a1), (by first | rfl | (simp; done) | (simp [*]; done)), H', ⟨Nat.le_refl _⟩, ⟨qk BK187⟩, ⟨qh HB⟩⟩
 case round =>
  clear H'
  try clear c2
  try clear p2
  obtain ⟨x1_1, rfl, HA, HK1, BK187, HB⟩ := hrel
  cases gk with
  | zero => exact absurd HA.out (by simp [idiomref03_Made.l0])
  | succ k1 =>
   have H := HA.out
   clear HA
   simp only [idiomref03_Made.l0] at H
   by_cases c5 : (x1_1.size : Int) ≤ a2
   · rw [if_pos c5] at H
     have c5b0 : decide ((x1_1.size : Int) ≤ a2) = true := decide_eq_true c5
     clear c5
     by_cases c6 : 1 + x1_1.size ≤ 9223372036854775807
     · rw [if_pos c6] at H
       have c6b0 := eq_true c6
       have c6b1 : decide (1 + x1_1.size ≤ 9223372036854775807) = true := decide_eq_true c6
       try have c6b2 : (9223372036854775807 < 1 + x1_1.size) = False := eq_false (Nat.not_lt.2 c6)
       have H' := Aside0.mk H
       clear H
       go_wp2
       go_roundg k1
       case measure => have := HK1.out; omega
       case rel => exact ⟨((⟨#[48]⟩ : ByteArray) ++ x1_1), (by first | rfl | (simp; done) | (simp [*]; done)), H', ⟨by have := HK1.out; omega⟩, ⟨qk BK187⟩, ⟨qh HB⟩⟩
     · rw [if_neg c6] at H
       exact absurd H (by simp)
   · rw [if_neg c5] at H
     have c5b0 : decide ((x1_1.size : Int) ≤ a2) = false := decide_eq_false c5
     clear c5
     obtain ⟨ji7, hji7⟩ : ∃ j_ : Int, (wrap64 ((x1_1.size : Int) - a2)) = j_ := ⟨_, rfl⟩
     replace H : (if 0 ≤ (ji7) then (if (ji7) ≤ (x1_1.size : Int) then ((idiomref03_Lead.f k1 (x1_1.extract 0 ((ji7) : Int).toNat)).bind fun t188 => (if a0 = true then (if t188.size + (x1_1.extract ((ji7) : Int).toNat x1_1.size).size ≤ 9223372036854775807 then ((idiomref03_Lead.f k1 (t188 ++ (x1_1.extract ((ji7) : Int).toNat x1_1.size))).bind fun t190 => (some ((t190.toList != ([48] : List UInt8)), t188, x1_1.extract ((ji7) : Int).toNat x1_1.size))) else (none)) else (some (false, t188, x1_1.extract ((ji7) : Int).toNat x1_1.size)))) else (none)) else (none)) = some (r1, r2, r3) := by first | (rw [hji7] at H; exact H) | (simp only [hji7] at H ⊢; exact H)
     have hji7w : (IntKind.i64.wrap ((x1_1.size : Int) - a2)) = ji7 := (i64_w _).trans hji7
     by_cases c8 : 0 ≤ (ji7)
     · rw [if_pos c8] at H
       have c8b0 := eq_true c8
       have c8b1 : decide (0 ≤ (ji7)) = true := decide_eq_true c8
       clear c8
       by_cases c9 : (ji7) ≤ (x1_1.size : Int)
       · rw [if_pos c9] at H
         have c9b0 := eq_true c9
         have c9b1 : decide ((ji7) ≤ (x1_1.size : Int)) = true := decide_eq_true c9
         clear c9
         replace H := Option.bind_eq_some_iff.mp H
         obtain ⟨t188, A100, H⟩ := H
         replace H : (if a0 = true then (if t188.size + (x1_1.extract ((ji7) : Int).toNat x1_1.size).size ≤ 9223372036854775807 then ((idiomref03_Lead.f k1 (t188 ++ (x1_1.extract ((ji7) : Int).toNat x1_1.size))).bind fun t190 => (some ((t190.toList != ([48] : List UInt8)), t188, x1_1.extract ((ji7) : Int).toNat x1_1.size))) else (none)) else (some (false, t188, x1_1.extract ((ji7) : Int).toNat x1_1.size))) = some (r1, r2, r3) := H
         have A10 := Aside0.mk A100
         clear A100
         have c11b0 := eq_true (of_decide_eq_true qa : 0 ≤ (ji7))
         have c12b0 := eq_true (of_decide_eq_true qa : (ji7) ≤ (x1_1.size : Int))
         by_cases c13 : a0 = true
         · subst c13
           have H1 : (if t188.size + (x1_1.extract ((ji7) : Int).toNat x1_1.size).size ≤ 9223372036854775807 then ((idiomref03_Lead.f k1 (t188 ++ (x1_1.extract ((ji7) : Int).toNat x1_1.size))).bind fun t190 => (some ((t190.toList != ([48] : List UInt8)), t188, x1_1.extract ((ji7) : Int).toNat x1_1.size))) else (none)) = some (r1, r2, r3) := by rw [if_pos rfl] at H; exact H
           clear H
           have H := H1
           clear H1
           by_cases c14 : t188.size + (x1_1.extract ((ji7) : Int).toNat x1_1.size).size ≤ 9223372036854775807
           · rw [if_pos c14] at H
             have c14b0 := eq_true c14
             try have c14b0z := c14b0
             (try simp only [go_sem, ByteArray.size_extract, ByteArray.size_append, Nat.min_self, Int.natCast_add] at c14b0z)
             have c14b1 : decide (t188.size + (x1_1.extract ((ji7) : Int).toNat x1_1.size).size ≤ 9223372036854775807) = true := decide_eq_true c14
             try have c14b1z := c14b1
             (try simp only [go_sem, ByteArray.size_extract, ByteArray.size_append, Nat.min_self, Int.natCast_add] at c14b1z)
             try have c14b2 : (9223372036854775807 < t188.size + (x1_1.extract ((ji7) : Int).toNat x1_1.size).size) = False := eq_false (Nat.not_lt.2 c14)
             try have c14b2z := c14b2
             (try simp only [go_sem, ByteArray.size_extract, ByteArray.size_append, Nat.min_self, Int.natCast_add] at c14b2z)
             replace H := Option.bind_eq_some_iff.mp H
             obtain ⟨t190, A150, H⟩ := H
             replace H : (some ((t190.toList != ([48] : List UInt8)), t188, x1_1.extract ((ji7) : Int).toNat x1_1.size)) = some (r1, r2, r3) := H
             have A15 := Aside0.mk A150
             clear A150
             simp only [Option.some.injEq, Prod.mk.injEq] at H
             obtain ⟨rfl, rfl, rfl⟩ := H
             try go_wp2
             replace BK187 := Aside0.mk (blk_drew BK187.out)
             replace HB := Aside0.mk (below_drew1 HB.out)
             refine start_ (n := 16) (S := fun w' => True) (ds := []) #[false, false, false, false, false, false, false, false, false, false, false, false, false, false, false, false] (by kernel_rfl) rfl rfl trivial (fun hHeld => ?_); refine with_tabW idiomref03_Made.tab3 idiomref03_Made.bits3 (fun HT_ HW_ => ?_)
             generalize wr.drew = w16 at BK187 HB hHeld ⊢
             refine pz 0 (some 14) #[true, false, false, false, false, false, false, false, false, false, false, false, false, false, false, false] HT_ ?_
             refine pz 1 (some 15) #[true, true, false, false, false, false, false, false, false, false, false, false, false, false, false, false] HT_ ?_
             refine pz 2 (some 16) #[true, true, true, false, false, false, false, false, false, false, false, false, false, false, false, false] HT_ ?_
             refine pz 3 (some 17) #[true, true, true, true, false, false, false, false, false, false, false, false, false, false, false, false] HT_ ?_
             refine pz 4 (some 18) #[true, true, true, true, true, false, false, false, false, false, false, false, false, false, false, false] HT_ ?_
             refine pz 5 (some 19) #[true, true, true, true, true, true, false, false, false, false, false, false, false, false, false, false] HT_ ?_
             refine pz 7 (some 21) #[true, true, true, true, true, true, false, true, false, false, false, false, false, false, false, false] HT_ ?_
             refine pz 8 (some 22) #[true, true, true, true, true, true, false, true, true, false, false, false, false, false, false, false] HT_ ?_
             refine pz 9 (some 23) #[true, true, true, true, true, true, false, true, true, true, false, false, false, false, false, false] HT_ ?_
             refine pz 10 (some 24) #[true, true, true, true, true, true, false, true, true, true, true, false, false, false, false, false] HT_ ?_
             refine pz 11 (some 25) #[true, true, true, true, true, true, false, true, true, true, true, true, false, false, false, false] HT_ ?_
             refine pz 12 (some 26) #[true, true, true, true, true, true, false, true, true, true, true, true, true, false, false, false] HT_ ?_
             refine join_ (σ := Nat) 1 #[true, true, true, true, true, true, true, true, true, true, true, true, true, true, true, false] (fun s_ => [(20, .string t188), (7, .pointer (some ⟨s_, 0, none⟩)), (27, .agg #[.bool false, .string t188, .string (x1_1.extract ((ji7) : Int).toNat x1_1.size)])]) (fun s_ w' => (w'.heap[gb187]? = some (.cells #[.bool false, .string (⟨#[]⟩ : ByteArray), .string (⟨#[]⟩ : ByteArray)] 23 (0, 0))) ∧ (w'.heap[s_]? = some (.cells #[.bool false, .string (⟨#[]⟩ : ByteArray), .string (⟨#[]⟩ : ByteArray)] 23 (0, 0))) ∧ (w.heap.size ≤ s_) ∧ (w.heap.size ≤ s_) ∧ (gb187 ≠ s_) ∧ (s_ ≠ gb187) ∧ (Below w.heap.size w w')) ?_ ?_
             rotate_left
             · intro hCont
               refine two_ (i := 6) (j := 14) (Ni := some 20) (Nj := some 7) #[true, true, true, true, true, true, true, true, true, true, true, true, true, false, false, false] #[true, true, true, true, true, true, false, true, true, true, true, true, true, false, true, false] rfl rfl rfl rfl (two_of HT_.out (by kernel_rfl)) (by decide) (by decide) (fun K hK => ?_) (fun K hK => ?_)
               · skip
                 refine goes_ Tryd.func41 (by kernel_rfl) rfl #[.string (x1_1.extract 0 ((ji7) : Int).toNat)] (by rfl) rfl rfl (by (try simp only [List.map_toArray, List.map_cons, List.map_nil]); first | done | (simp only [hji7]; rfl) | rfl | (simp only [List.length_drop, List.length_take]; rfl)) ?_
                 with_reducible refine (idiomref03_Lead.calls k1 (x1_1.extract 0 ((ji7) : Int).toNat) t188 _ A10.out).mono ?_
                 rintro e w' ⟨rfl, ⟨nd, rfl⟩⟩
                 refine ⟨_, rfl, ?_⟩
                 refine hK.out _ _ trivial (fun hHeld => ?_)
                 clear hK K
                 refine nz (some 20) ?_
                 refine pz 13 (some 27) #[true, true, true, true, true, true, true, true, true, true, true, true, true, true, false, false] HT_ ?_
                 refine one_ (i := 14) (N := some 7) #[true, true, true, true, true, true, true, true, true, true, true, true, true, true, true, false] rfl rfl (one_of HT_.out (by kernel_rfl)) (by decide) (fun K hK => ?_)
                 refine box_step ?hg (N := 7) ?hd (cs := #[.bool false, .string (⟨#[]⟩ : ByteArray), .string (⟨#[]⟩ : ByteArray)]) (t := 23) ?hr ?_; (case hd => rfl); (case hg => rfl); (case hr => first | (go_simp; done) | (go_simp; rfl))
                 intro gb189 hg w17 hbox hb
                 have BK189 := Aside0.mk (hbox)
                 have GW189 := qs hg HB
                 have GE189 := GW189
                 have NB187_189 := ql_ hg BK187
                 have NB189_187 := qg_ hg BK187
                 replace BK187 := qb BK187 hb
                 replace HB := qn HB hb
                 clear hb hbox hg
                 refine hK.out _ _ trivial (fun hHeld => ?_)
                 clear hK K
                 refine nz (some 7) ?_
                 exact norm_ (by simp only [putAll, Act.put, List.setIfInBounds_toArray, List.set_cons_zero, List.set_cons_succ]) (hCont (gb189) _ ⟨(qk BK187), (qk BK189), GW189.out, GE189.out, NB187_189.out, NB189_187.out, (qh HB)⟩)
               · skip
                 refine box_step ?hg (N := 7) ?hd (cs := #[.bool false, .string (⟨#[]⟩ : ByteArray), .string (⟨#[]⟩ : ByteArray)]) (t := 23) ?hr ?_; (case hd => rfl); (case hg => rfl); (case hr => first | (go_simp; done) | (go_simp; rfl))
                 intro gb189 hg w17 hbox hb
                 have BK189 := Aside0.mk (hbox)
                 have GW189 := qs hg HB
                 have GE189 := GW189
                 have NB187_189 := ql_ hg BK187
                 have NB189_187 := qg_ hg BK187
                 replace BK187 := qb BK187 hb
                 replace HB := qn HB hb
                 clear hb hbox hg
                 refine hK.out _ _ trivial (fun hHeld => ?_)
                 clear hK K
                 refine nz (some 7) ?_
                 refine one_ (i := 6) (N := some 20) #[true, true, true, true, true, true, true, true, true, true, true, true, true, false, true, false] rfl rfl (one_of HT_.out (by kernel_rfl)) (by decide) (fun K hK => ?_)
                 refine goes_ Tryd.func41 (by kernel_rfl) rfl #[.string (x1_1.extract 0 ((ji7) : Int).toNat)] (by rfl) rfl rfl (by (try simp only [List.map_toArray, List.map_cons, List.map_nil]); first | done | (simp only [hji7]; rfl) | rfl | (simp only [List.length_drop, List.length_take]; rfl)) ?_
                 with_reducible refine (idiomref03_Lead.calls k1 (x1_1.extract 0 ((ji7) : Int).toNat) t188 _ A10.out).mono ?_
                 rintro e w' ⟨rfl, ⟨nd, rfl⟩⟩
                 refine ⟨_, rfl, ?_⟩
                 refine hK.out _ _ trivial (fun hHeld => ?_)
                 clear hK K
                 refine nz (some 20) ?_
                 refine pz 13 (some 27) #[true, true, true, true, true, true, true, true, true, true, true, true, true, true, true, false] HT_ ?_
                 exact norm_ (by simp only [putAll, Act.put, List.setIfInBounds_toArray, List.set_cons_zero, List.set_cons_succ]) (hCont (gb189) _ ⟨(qk BK187), (qk BK189), GW189.out, GE189.out, NB187_189.out, NB189_187.out, (qh HB)⟩)
             rintro gb189 w18 ⟨h0_, h1_, h2_, h3_, h4_, h5_, h6_⟩
             have n0_ : Aside0 (w18.heap[gb187]? = some (.cells #[.bool false, .string (⟨#[]⟩ : ByteArray), .string (⟨#[]⟩ : ByteArray)] 23 (0, 0))) := ⟨h0_⟩
             have n1_ : Aside0 (w18.heap[gb189]? = some (.cells #[.bool false, .string (⟨#[]⟩ : ByteArray), .string (⟨#[]⟩ : ByteArray)] 23 (0, 0))) := ⟨h1_⟩
             have n2_ : Aside0 (w.heap.size ≤ gb189) := ⟨h2_⟩
             have n3_ : Aside0 (w.heap.size ≤ gb189) := ⟨h3_⟩
             have n4_ : Aside0 (gb187 ≠ gb189) := ⟨h4_⟩
             have n5_ : Aside0 (gb189 ≠ gb187) := ⟨h5_⟩
             have n6_ : Aside0 (Below w.heap.size w w18) := ⟨h6_⟩
             clear BK187
             clear HB
             clear h0_ h1_ h2_ h3_ h4_ h5_ h6_
             have BK187 := n0_
             have BK189 := n1_
             have GW189 := n2_
             have GE189 := n3_
             have NB187_189 := n4_
             have NB189_187 := n5_
             have HB := n6_
             clear n0_ n1_ n2_ n3_ n4_ n5_ n6_
             have hHeld := trivial
             refine norm_ (a' := ?_) ?_ ?_
             rotate_left
             · simp only [putAll, Act.put, List.setIfInBounds_toArray, List.set_cons_zero, List.set_cons_succ]
               rfl
             refine one_ (i := 15) (N := none) #[true, true, true, true, true, true, true, true, true, true, true, true, true, true, true, true] rfl rfl (one_of HT_.out (by kernel_rfl)) (by decide) (fun K hK => ?_)
             have hs19 : w18.cell? ⟨gb189, 0, none⟩ = some (.bool false) := c_ BK189 0
             have hfs19 := blk_frozen BK189.out 0
             have hns19_0 := NB187_189.out
             have hms19_0 := NB189_187.out
             have hs20 : w18.cell? ⟨gb189, 1, none⟩ = some (.string (⟨#[]⟩ : ByteArray)) := c_ BK189 1
             have hfs20 := blk_frozen BK189.out 1
             have hns20_0 := NB187_189.out
             have hms20_0 := NB189_187.out
             have hs21 : w18.cell? ⟨gb189, 2, none⟩ = some (.string (⟨#[]⟩ : ByteArray)) := c_ BK189 2
             have hfs21 := blk_frozen BK189.out 2
             have hns21_0 := NB187_189.out
             have hms21_0 := NB189_187.out
             refine skip_ (w1 := ?_) (by rfl) rfl ?_ ?_
             rotate_left
             · go_simp
               rfl
             refine hK.out _ _ trivial (fun hHeld => ?_)
             clear hK K
             refine done_ (done_of HT_.out (by kernel_rfl)) ?_
             have hnb22 := NB189_187.out
             have hnc22 := NB187_189.out
             obtain ⟨hcz23_0, hcz23_1, hcz23_2, hfz23_0, hfz23_1, hfz23_2⟩ := q3 BK189
             try go_wp2_with (first | (go_at_call 41; (with_reducible refine (idiomref03_Lead.calls k1 (t188 ++ (x1_1.extract ((ji7) : Int).toNat x1_1.size)) t190 _ A15.out).mono ?_); rintro e w' ⟨rfl, ⟨nd, rfl⟩⟩; obtain ⟨hcz24_0, hcz24_1, hcz24_2, hfz24_0, hfz24_1, hfz24_2⟩ := q3 BK187))
             refine bodyPost_ret (results_cell_row rfl _ _ gb187 23 #[.bool (t190.toList != ([48] : List UInt8)), .string t188, .string (x1_1.extract ((ji7) : Int).toNat x1_1.size)] (0, 0) _ rfl (by refine qp 2 #[.bool (t190.toList != ([48] : List UInt8)), .string t188, .string (⟨#[]⟩ : ByteArray)] ?_; refine qp 1 #[.bool (t190.toList != ([48] : List UInt8)), .string (⟨#[]⟩ : ByteArray), .string (⟨#[]⟩ : ByteArray)] ?_; refine qp 0 #[.bool false, .string (⟨#[]⟩ : ByteArray), .string (⟨#[]⟩ : ByteArray)] ?_; refine qf NB187_189 ?_; refine qf NB187_189 ?_; refine qf NB187_189 ?_; refine qf NB187_189 ?_; exact qk BK187) Tryd.underlying23 rfl (by kernel_rfl)) rfl ?_
             exact ⟨by first | rfl | (exact congrArg (fun b => Ending.returned (.bool b)) (Aid.bne_nil _)) | (exact congrArg (fun b => Ending.returned (.bool b)) (Aid.eq_nil _)) | (simp [errW_none, errW_some] <;> rfl) | (simp only [← hji7]; first | rfl | (simp [errW_none, errW_some] <;> rfl)) | (simp [*, errW_none, errW_some] <;> rfl), qh HB⟩
           · rw [if_neg c14] at H
             exact absurd H (by simp)
         · replace c13 := Bool.eq_false_iff.mpr c13
           subst c13
           have H1 : (some (false, t188, x1_1.extract ((ji7) : Int).toNat x1_1.size)) = some (r1, r2, r3) := by rw [if_neg (show ¬ (false = true) by decide)] at H; exact H
           clear H
           have H := H1
           clear H1
           simp only [Option.some.injEq, Prod.mk.injEq] at H
           obtain ⟨rfl, rfl, rfl⟩ := H
           try go_wp2
           replace BK187 := Aside0.mk (blk_drew BK187.out)
           replace HB := Aside0.mk (below_drew1 HB.out)
           refine start_ (n := 16) (S := fun w' => True) (ds := []) #[false, false, false, false, false, false, false, false, false, false, false, false, false, false, false, false] (by kernel_rfl) rfl rfl trivial (fun hHeld => ?_); refine with_tabW idiomref03_Made.tab3 idiomref03_Made.bits3 (fun HT_ HW_ => ?_)
           generalize wr.drew = w25 at BK187 HB hHeld ⊢
           refine pz 0 (some 14) #[true, false, false, false, false, false, false, false, false, false, false, false, false, false, false, false] HT_ ?_
           refine pz 1 (some 15) #[true, true, false, false, false, false, false, false, false, false, false, false, false, false, false, false] HT_ ?_
           refine pz 2 (some 16) #[true, true, true, false, false, false, false, false, false, false, false, false, false, false, false, false] HT_ ?_
           refine pz 3 (some 17) #[true, true, true, true, false, false, false, false, false, false, false, false, false, false, false, false] HT_ ?_
           refine pz 4 (some 18) #[true, true, true, true, true, false, false, false, false, false, false, false, false, false, false, false] HT_ ?_
           refine pz 5 (some 19) #[true, true, true, true, true, true, false, false, false, false, false, false, false, false, false, false] HT_ ?_
           refine pz 7 (some 21) #[true, true, true, true, true, true, false, true, false, false, false, false, false, false, false, false] HT_ ?_
           refine pz 8 (some 22) #[true, true, true, true, true, true, false, true, true, false, false, false, false, false, false, false] HT_ ?_
           refine pz 9 (some 23) #[true, true, true, true, true, true, false, true, true, true, false, false, false, false, false, false] HT_ ?_
           refine pz 10 (some 24) #[true, true, true, true, true, true, false, true, true, true, true, false, false, false, false, false] HT_ ?_
           refine pz 11 (some 25) #[true, true, true, true, true, true, false, true, true, true, true, true, false, false, false, false] HT_ ?_
           refine pz 12 (some 26) #[true, true, true, true, true, true, false, true, true, true, true, true, true, false, false, false] HT_ ?_
           refine join_ (σ := Nat) 1 #[true, true, true, true, true, true, true, true, true, true, true, true, true, true, true, false] (fun s_ => [(20, .string t188), (7, .pointer (some ⟨s_, 0, none⟩)), (27, .agg #[.bool false, .string t188, .string (x1_1.extract ((ji7) : Int).toNat x1_1.size)])]) (fun s_ w' => (w'.heap[gb187]? = some (.cells #[.bool false, .string (⟨#[]⟩ : ByteArray), .string (⟨#[]⟩ : ByteArray)] 23 (0, 0))) ∧ (w'.heap[s_]? = some (.cells #[.bool false, .string (⟨#[]⟩ : ByteArray), .string (⟨#[]⟩ : ByteArray)] 23 (0, 0))) ∧ (w.heap.size ≤ s_) ∧ (w.heap.size ≤ s_) ∧ (gb187 ≠ s_) ∧ (s_ ≠ gb187) ∧ (Below w.heap.size w w')) ?_ ?_
           rotate_left
           · intro hCont
             refine two_ (i := 6) (j := 14) (Ni := some 20) (Nj := some 7) #[true, true, true, true, true, true, true, true, true, true, true, true, true, false, false, false] #[true, true, true, true, true, true, false, true, true, true, true, true, true, false, true, false] rfl rfl rfl rfl (two_of HT_.out (by kernel_rfl)) (by decide) (by decide) (fun K hK => ?_) (fun K hK => ?_)
             · skip
               refine goes_ Tryd.func41 (by kernel_rfl) rfl #[.string (x1_1.extract 0 ((ji7) : Int).toNat)] (by rfl) rfl rfl (by (try simp only [List.map_toArray, List.map_cons, List.map_nil]); first | done | (simp only [hji7]; rfl) | rfl | (simp only [List.length_drop, List.length_take]; rfl)) ?_
               with_reducible refine (idiomref03_Lead.calls k1 (x1_1.extract 0 ((ji7) : Int).toNat) t188 _ A10.out).mono ?_
               rintro e w' ⟨rfl, ⟨nd, rfl⟩⟩
               refine ⟨_, rfl, ?_⟩
               refine hK.out _ _ trivial (fun hHeld => ?_)
               clear hK K
               refine nz (some 20) ?_
               refine pz 13 (some 27) #[true, true, true, true, true, true, true, true, true, true, true, true, true, true, false, false] HT_ ?_
               refine one_ (i := 14) (N := some 7) #[true, true, true, true, true, true, true, true, true, true, true, true, true, true, true, false] rfl rfl (one_of HT_.out (by kernel_rfl)) (by decide) (fun K hK => ?_)
               refine box_step ?hg (N := 7) ?hd (cs := #[.bool false, .string (⟨#[]⟩ : ByteArray), .string (⟨#[]⟩ : ByteArray)]) (t := 23) ?hr ?_; (case hd => rfl); (case hg => rfl); (case hr => first | (go_simp; done) | (go_simp; rfl))
               intro gb189 hg w26 hbox hb
               have BK189 := Aside0.mk (hbox)
               have GW189 := qs hg HB
               have GE189 := GW189
               have NB187_189 := ql_ hg BK187
               have NB189_187 := qg_ hg BK187
               replace BK187 := qb BK187 hb
               replace HB := qn HB hb
               clear hb hbox hg
               refine hK.out _ _ trivial (fun hHeld => ?_)
               clear hK K
               refine nz (some 7) ?_
               exact norm_ (by simp only [putAll, Act.put, List.setIfInBounds_toArray, List.set_cons_zero, List.set_cons_succ]) (hCont (gb189) _ ⟨(qk BK187), (qk BK189), GW189.out, GE189.out, NB187_189.out, NB189_187.out, (qh HB)⟩)
             · skip
               refine box_step ?hg (N := 7) ?hd (cs := #[.bool false, .string (⟨#[]⟩ : ByteArray), .string (⟨#[]⟩ : ByteArray)]) (t := 23) ?hr ?_; (case hd => rfl); (case hg => rfl); (case hr => first | (go_simp; done) | (go_simp; rfl))
               intro gb189 hg w26 hbox hb
               have BK189 := Aside0.mk (hbox)
               have GW189 := qs hg HB
               have GE189 := GW189
               have NB187_189 := ql_ hg BK187
               have NB189_187 := qg_ hg BK187
               replace BK187 := qb BK187 hb
               replace HB := qn HB hb
               clear hb hbox hg
               refine hK.out _ _ trivial (fun hHeld => ?_)
               clear hK K
               refine nz (some 7) ?_
               refine one_ (i := 6) (N := some 20) #[true, true, true, true, true, true, true, true, true, true, true, true, true, false, true, false] rfl rfl (one_of HT_.out (by kernel_rfl)) (by decide) (fun K hK => ?_)
               refine goes_ Tryd.func41 (by kernel_rfl) rfl #[.string (x1_1.extract 0 ((ji7) : Int).toNat)] (by rfl) rfl rfl (by (try simp only [List.map_toArray, List.map_cons, List.map_nil]); first | done | (simp only [hji7]; rfl) | rfl | (simp only [List.length_drop, List.length_take]; rfl)) ?_
               with_reducible refine (idiomref03_Lead.calls k1 (x1_1.extract 0 ((ji7) : Int).toNat) t188 _ A10.out).mono ?_
               rintro e w' ⟨rfl, ⟨nd, rfl⟩⟩
               refine ⟨_, rfl, ?_⟩
               refine hK.out _ _ trivial (fun hHeld => ?_)
               clear hK K
               refine nz (some 20) ?_
               refine pz 13 (some 27) #[true, true, true, true, true, true, true, true, true, true, true, true, true, true, true, false] HT_ ?_
               exact norm_ (by simp only [putAll, Act.put, List.setIfInBounds_toArray, List.set_cons_zero, List.set_cons_succ]) (hCont (gb189) _ ⟨(qk BK187), (qk BK189), GW189.out, GE189.out, NB187_189.out, NB189_187.out, (qh HB)⟩)
           rintro gb189 w27 ⟨h0_, h1_, h2_, h3_, h4_, h5_, h6_⟩
           have n0_ : Aside0 (w27.heap[gb187]? = some (.cells #[.bool false, .string (⟨#[]⟩ : ByteArray), .string (⟨#[]⟩ : ByteArray)] 23 (0, 0))) := ⟨h0_⟩
           have n1_ : Aside0 (w27.heap[gb189]? = some (.cells #[.bool false, .string (⟨#[]⟩ : ByteArray), .string (⟨#[]⟩ : ByteArray)] 23 (0, 0))) := ⟨h1_⟩
           have n2_ : Aside0 (w.heap.size ≤ gb189) := ⟨h2_⟩
           have n3_ : Aside0 (w.heap.size ≤ gb189) := ⟨h3_⟩
           have n4_ : Aside0 (gb187 ≠ gb189) := ⟨h4_⟩
           have n5_ : Aside0 (gb189 ≠ gb187) := ⟨h5_⟩
           have n6_ : Aside0 (Below w.heap.size w w27) := ⟨h6_⟩
           clear BK187
           clear HB
           clear h0_ h1_ h2_ h3_ h4_ h5_ h6_
           have BK187 := n0_
           have BK189 := n1_
           have GW189 := n2_
           have GE189 := n3_
           have NB187_189 := n4_
           have NB189_187 := n5_
           have HB := n6_
           clear n0_ n1_ n2_ n3_ n4_ n5_ n6_
           have hHeld := trivial
           refine norm_ (a' := ?_) ?_ ?_
           rotate_left
           · simp only [putAll, Act.put, List.setIfInBounds_toArray, List.set_cons_zero, List.set_cons_succ]
             rfl
           refine one_ (i := 15) (N := none) #[true, true, true, true, true, true, true, true, true, true, true, true, true, true, true, true] rfl rfl (one_of HT_.out (by kernel_rfl)) (by decide) (fun K hK => ?_)
           have hs28 : w27.cell? ⟨gb189, 0, none⟩ = some (.bool false) := c_ BK189 0
           have hfs28 := blk_frozen BK189.out 0
           have hns28_0 := NB187_189.out
           have hms28_0 := NB189_187.out
           have hs29 : w27.cell? ⟨gb189, 1, none⟩ = some (.string (⟨#[]⟩ : ByteArray)) := c_ BK189 1
           have hfs29 := blk_frozen BK189.out 1
           have hns29_0 := NB187_189.out
           have hms29_0 := NB189_187.out
           have hs30 : w27.cell? ⟨gb189, 2, none⟩ = some (.string (⟨#[]⟩ : ByteArray)) := c_ BK189 2
           have hfs30 := blk_frozen BK189.out 2
           have hns30_0 := NB187_189.out
           have hms30_0 := NB189_187.out
           refine skip_ (w1 := ?_) (by rfl) rfl ?_ ?_
           rotate_left
           · go_simp
             rfl
           refine hK.out _ _ trivial (fun hHeld => ?_)
           clear hK K
           refine done_ (done_of HT_.out (by kernel_rfl)) ?_
           have hnb31 := NB189_187.out
           have hnc31 := NB187_189.out
           obtain ⟨hcz32_0, hcz32_1, hcz32_2, hfz32_0, hfz32_1, hfz32_2⟩ := q3 BK189
           obtain ⟨hcz33_0, hcz33_1, hcz33_2, hfz33_0, hfz33_1, hfz33_2⟩ := q3 BK187
           try go_wp2
           refine bodyPost_ret (results_cell_row rfl _ _ gb187 23 #[.bool false, .string t188, .string (x1_1.extract ((ji7) : Int).toNat x1_1.size)] (0, 0) _ rfl (by refine qp 2 #[.bool false, .string t188, .string (⟨#[]⟩ : ByteArray)] ?_; refine qp 1 #[.bool false, .string (⟨#[]⟩ : ByteArray), .string (⟨#[]⟩ : ByteArray)] ?_; refine qp 0 #[.bool false, .string (⟨#[]⟩ : ByteArray), .string (⟨#[]⟩ : ByteArray)] ?_; refine qf NB187_189 ?_; refine qf NB187_189 ?_; refine qf NB187_189 ?_; refine qf NB187_189 ?_; exact qk BK187) Tryd.underlying23 rfl (by kernel_rfl)) rfl ?_
           exact ⟨by first | rfl | (exact congrArg (fun b => Ending.returned (.bool b)) (Aid.bne_nil _)) | (exact congrArg (fun b => Ending.returned (.bool b)) (Aid.eq_nil _)) | (simp [errW_none, errW_some] <;> rfl) | (simp only [← hji7]; first | rfl | (simp [errW_none, errW_some] <;> rfl)) | (simp [*, errW_none, errW_some] <;> rfl), qh HB⟩
       · rw [if_neg c9] at H
         exact absurd H (by simp)
     · rw [if_neg c8] at H
       exact absurd H (by simp)

end Go.Proofs.YtpmhebdaphjinaaDoor.F
