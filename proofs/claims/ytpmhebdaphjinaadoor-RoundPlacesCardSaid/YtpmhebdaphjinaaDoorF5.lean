-- Printed by this session's hookprint.py (over the kit's print.py, with hooks). Lean checks it.
import Derived.Test.YtpmhebdaphjinaaDoorF0
import Derived.Test.YtpmhebdaphjinaaDoorF2
import Derived.Test.YtpmhebdaphjinaaDoorF4
namespace Go.Proofs.YtpmhebdaphjinaaDoor.F
open Go.RowKit Go.Proofs.YtpmhebdaphjinaaDoorW.PrintWords Go.Proofs.YtpmhebdaphjinaaDoorW.PrintLast Go.Proofs.YtpmhebdaphjinaaDoorW.PrintMore
attribute [local go_sem] max2_int min2_int max_two min_two max_three min_three max_four min_four   -- for this text's walks alone
set_option linter.unusedVariables false
set_option linter.unusedSimpArgs false

/-! ### round_cut: function 51 -/
mutual
def round_cut.j0 : Nat → ByteArray → Int → Option (ByteArray × Int)
 | 0, _, _ => none
 | k + 1, x0, x1 => if 0 ≤ (wrap64 ((x0.size : Int) - x1)) then (if (wrap64 ((x0.size : Int) - x1)) ≤ (x0.size : Int) then ((strings_Trim.f (x0.extract ((wrap64 ((x0.size : Int) - x1)) : Int).toNat x0.size) (⟨#[48]⟩ : ByteArray)).bind fun t111 => (if t111.toList = ([] : List UInt8) then (some (x0.extract 0 ((wrap64 ((x0.size : Int) - x1)) : Int).toNat, 0)) else (if 0 < ((x0.extract ((wrap64 ((x0.size : Int) - x1)) : Int).toNat x0.size).size : Int) then (if (bt (x0.extract ((wrap64 ((x0.size : Int) - x1)) : Int).toNat x0.size) 0) = 53 then (round_cut.j1 k (x0.extract 0 ((wrap64 ((x0.size : Int) - x1)) : Int).toNat) (x0.extract ((wrap64 ((x0.size : Int) - x1)) : Int).toNat x0.size) (t111.toList == ([53] : List UInt8))) else (round_cut.j1 k (x0.extract 0 ((wrap64 ((x0.size : Int) - x1)) : Int).toNat) (x0.extract ((wrap64 ((x0.size : Int) - x1)) : Int).toNat x0.size) false)) else (none)))) else (none)) else (none)
def round_cut.j1 : Nat → ByteArray → ByteArray → Bool → Option (ByteArray × Int)
 | 0, _, _, _ => none
 | k + 1, x6, x7, x38 => if x38 = true then (some (x6, 2)) else (if 0 < (x7.size : Int) then (if (bt x7 0) ≥ 53 then (some (x6, 3)) else (some (x6, 1))) else (none))
end
def round_cut.f (k : Nat) (a0 : ByteArray) (a1 : Int) : Option (ByteArray × Int) := if a1 > (a0.size : Int) then ((strings_Repeat.f (⟨#[48]⟩ : ByteArray) (wrap64 (a1 - (a0.size : Int)))).bind fun t110 => (if t110.size + a0.size ≤ 9223372036854775807 then (round_cut.j0 k (t110 ++ a0) a1) else (none))) else (round_cut.j0 k a0 a1)
theorem round_cut.mono_l : ∀ k, (∀ y0 y1, LeO (round_cut.j0 k y0 y1) (round_cut.j0 (k + 1) y0 y1)) ∧ (∀ y0 y1 y2, LeO (round_cut.j1 k y0 y1 y2) (round_cut.j1 (k + 1) y0 y1 y2))
 | 0 => ⟨fun _ _ r h => by simp [round_cut.j0] at h, fun _ _ _ r h => by simp [round_cut.j1] at h⟩
 | k + 1 => by
  obtain ⟨ih0, ih1⟩ := round_cut.mono_l k
  refine ⟨?_, ?_⟩
  · intro y0 y1
    unfold round_cut.j0
    repeat' first
    | (with_reducible exact ih0 _ _)
    | (with_reducible exact ih1 _ _ _)
    | (with_reducible exact LeO.refl _)
    | (with_reducible exact LeO.none _)
    | (with_reducible refine LeO.ite ?_ ?_)
    | (with_reducible refine LeO.bind ?_ (fun _ => ?_))
    | exact ih0 _ _
    | exact ih1 _ _ _
    | exact LeO.none _
    | refine LeO.ite ?_ ?_
    | refine LeO.bind ?_ (fun _ => ?_)
  · intro y0 y1 y2
    unfold round_cut.j1
    repeat' first
    | (with_reducible exact ih0 _ _)
    | (with_reducible exact ih1 _ _ _)
    | (with_reducible exact LeO.refl _)
    | (with_reducible exact LeO.none _)
    | (with_reducible refine LeO.ite ?_ ?_)
    | (with_reducible refine LeO.bind ?_ (fun _ => ?_))
    | exact ih0 _ _
    | exact ih1 _ _ _
    | exact LeO.none _
    | refine LeO.ite ?_ ?_
    | refine LeO.bind ?_ (fun _ => ?_)
theorem round_cut.mono : ∀ a0 a1 k, LeO (round_cut.f k a0 a1) (round_cut.f (k + 1) a0 a1) := by
 intro a0 a1 k
 obtain ⟨ih0, ih1⟩ := round_cut.mono_l k
 unfold round_cut.f
 repeat' first
  | (with_reducible exact ih0 _ _)
  | (with_reducible exact ih1 _ _ _)
  | (with_reducible exact LeO.refl _)
  | (with_reducible exact LeO.none _)
  | (with_reducible refine LeO.ite ?_ ?_)
  | (with_reducible refine LeO.bind ?_ (fun _ => ?_))
  | exact ih0 _ _
  | exact ih1 _ _ _
  | exact LeO.none _
  | refine LeO.ite ?_ ?_
  | refine LeO.bind ?_ (fun _ => ?_)
set_option maxHeartbeats 8000000 in
set_option maxRecDepth 100000 in
theorem round_cut.calls (k : Nat) (a0 : ByteArray) (a1 : Int) (r1 : ByteArray) (r2 : Int) (w : World) (h : round_cut.f k a0 a1 = some (r1, r2)) :
 Calls Tryd.prog 51 #[.string a0, .int .i64 a1] w fun e w' => e = .returned (.tuple #[.string r1, .int .i64 r2]) ∧ Below w.heap.size w w' := by
 have HB := Aside0.mk (Below.refl w.heap.size w)
 have H : (if a1 > (a0.size : Int) then ((strings_Repeat.f (⟨#[48]⟩ : ByteArray) (wrap64 (a1 - (a0.size : Int)))).bind fun t110 => (if t110.size + a0.size ≤ 9223372036854775807 then (round_cut.j0 k (t110 ++ a0) a1) else (none))) else (round_cut.j0 k a0 a1)) = some (r1, r2) := h
 clear h
 have HC3 := Aside0.mk H
 clear H
 go_enter Tryd.func51, Tryd.ntmps51
 go_upto_if 12 with (fail)
 repeat (go_quiet (fail); go_upto_if 12 with (fail))
 go_cut [0] (fun v0 wc => ∃ (kq : Nat) (x0_2 : ByteArray), v0 = .string x0_2 ∧ Aside0 (round_cut.j0 kq x0_2 a1 = some (r1, r2)) ∧ Aside0 (kq ≤ k) ∧ Aside0 (Below w.heap.size w wc))
 case first =>
  have H := HC3.out
  clear HC3
  by_cases c4 : a1 > (a0.size : Int)
  · rw [if_pos c4] at H
    have c4b0 : decide ((a0.size : Int) < a1) = true := decide_eq_true c4
    clear c4
    (first | rw [c4b0] | (simp only [i64_w, i32_w]; rw [c4b0]) | skip)
    replace H := Option.bind_eq_some_iff.mp H
    obtain ⟨t110, A50, H⟩ := H
    replace H : (if t110.size + a0.size ≤ 9223372036854775807 then (round_cut.j0 k (t110 ++ a0) a1) else (none)) = some (r1, r2) := H
    have A5 := Aside0.mk A50
    clear A50
    by_cases c6 : t110.size + a0.size ≤ 9223372036854775807
    · rw [if_pos c6] at H
      have c6b0 := eq_true c6
      have c6b1 : decide (t110.size + a0.size ≤ 9223372036854775807) = true := decide_eq_true c6
      try have c6b2 : (9223372036854775807 < t110.size + a0.size) = False := eq_false (Nat.not_lt.2 c6)
      have H' := Aside0.mk H
      clear H
      go_wp2_with (go_at_call 39; (with_reducible refine (strings_Repeat.calls (⟨#[48]⟩ : ByteArray) (wrap64 (a1 - (a0.size : Int))) t110 _ A5.out).mono ?_); rintro e w7 ⟨rfl, hb⟩; have n0_ := Aside0.mk (below_step (by repeat (first | (with_reducible first | exact HB.out | apply below_alloc | apply pw_below_drewN | apply below_drew1) | exact HB.out)) hb); clear HB; have HB := n0_; clear n0_; (try clear hb); (try clear hb2); (try clear hk); (try clear hi))
      repeat (go_quiet (fail); try go_wp2_with (fail))
      go_meet
      case rel => exact ⟨_, (t110 ++ a0), (by first | rfl | (simp; done) | (simp [*]; done)), H', ⟨by first | omega | exact Nat.le_refl _⟩, ⟨by repeat (first | (with_reducible first | exact HB.out | apply below_alloc | apply pw_below_drewN | apply below_drew1) | exact HB.out)⟩⟩
    · rw [if_neg c6] at H
      exact absurd H (by simp)
  · rw [if_neg c4] at H
    have c4b0 : decide ((a0.size : Int) < a1) = false := decide_eq_false c4
    clear c4
    (first | rw [c4b0] | (simp only [i64_w, i32_w]; rw [c4b0]) | skip)
    have H' := Aside0.mk H
    clear H
    go_wp2
    repeat (go_quiet (fail); try go_wp2)
    go_meet
    case rel => exact ⟨_, (a0), (by first | rfl | (simp; done) | (simp [*]; done)), H', ⟨by first | omega | exact Nat.le_refl _⟩, ⟨by repeat (first | (with_reducible first | exact HB.out | apply below_alloc | apply pw_below_drewN | apply below_drew1) | exact HB.out)⟩⟩
 case rest =>
  clear HC3
  try clear p2
  try clear c4
  try clear c4b0
  try clear c5
  try clear c6
  try clear c6b0
  try clear c6b1
  try clear c6b2
  try clear p6
  obtain ⟨kq, x0_2, rfl, HA, HJ2, HB⟩ := hcut
  cases kq with
  | zero => exact absurd HA.out (by simp [round_cut.j0])
  | succ kj2 =>
   have H := HA.out
   clear HA
   simp only [round_cut.j0] at H
   obtain ⟨ji8, hji8⟩ : ∃ j_ : Int, (wrap64 ((x0_2.size : Int) - a1)) = j_ := ⟨_, rfl⟩
   replace H : (if 0 ≤ (ji8) then (if (ji8) ≤ (x0_2.size : Int) then ((strings_Trim.f (x0_2.extract ((ji8) : Int).toNat x0_2.size) (⟨#[48]⟩ : ByteArray)).bind fun t111 => (if t111.toList = ([] : List UInt8) then (some (x0_2.extract 0 ((ji8) : Int).toNat, 0)) else (if 0 < ((x0_2.extract ((ji8) : Int).toNat x0_2.size).size : Int) then (if (bt (x0_2.extract ((ji8) : Int).toNat x0_2.size) 0) = 53 then (round_cut.j1 kj2 (x0_2.extract 0 ((ji8) : Int).toNat) (x0_2.extract ((ji8) : Int).toNat x0_2.size) (t111.toList == ([53] : List UInt8))) else (round_cut.j1 kj2 (x0_2.extract 0 ((ji8) : Int).toNat) (x0_2.extract ((ji8) : Int).toNat x0_2.size) false)) else (none)))) else (none)) else (none)) = some (r1, r2) := by first | (rw [hji8] at H; exact H) | (simp only [hji8] at H ⊢; exact H)
   have hji8w : (IntKind.i64.wrap ((x0_2.size : Int) - a1)) = ji8 := (i64_w _).trans hji8
   by_cases c9 : 0 ≤ (ji8)
   · rw [if_pos c9] at H
     have c9b0 := eq_true c9
     have c9b1 : decide (0 ≤ (ji8)) = true := decide_eq_true c9
     clear c9
     by_cases c10 : (ji8) ≤ (x0_2.size : Int)
     · rw [if_pos c10] at H
       have c10b0 := eq_true c10
       have c10b1 : decide ((ji8) ≤ (x0_2.size : Int)) = true := decide_eq_true c10
       clear c10
       have c11b0 := eq_true (of_decide_eq_true (by first | (with_reducible assumption) | assumption) : 0 ≤ (ji8))
       have c12b0 := eq_true (of_decide_eq_true (by first | (with_reducible assumption) | assumption) : (ji8) ≤ (x0_2.size : Int))
       replace H := Option.bind_eq_some_iff.mp H
       obtain ⟨t111, A130, H⟩ := H
       replace H : (if t111.toList = ([] : List UInt8) then (some (x0_2.extract 0 ((ji8) : Int).toNat, 0)) else (if 0 < ((x0_2.extract ((ji8) : Int).toNat x0_2.size).size : Int) then (if (bt (x0_2.extract ((ji8) : Int).toNat x0_2.size) 0) = 53 then (round_cut.j1 kj2 (x0_2.extract 0 ((ji8) : Int).toNat) (x0_2.extract ((ji8) : Int).toNat x0_2.size) (t111.toList == ([53] : List UInt8))) else (round_cut.j1 kj2 (x0_2.extract 0 ((ji8) : Int).toNat) (x0_2.extract ((ji8) : Int).toNat x0_2.size) false)) else (none))) = some (r1, r2) := H
       have A13 := Aside0.mk A130
       clear A130
       by_cases c14 : t111.toList = ([] : List UInt8)
       · rw [if_pos c14] at H
         have c14b0 : (t111.toList == ([] : List UInt8)) = true := beq_iff_eq.mpr c14
         try have c14b0z := Aid.empty_of c14b0
         have c14b1 : (t111.toList != ([] : List UInt8)) = false := bne_eq_false_iff_eq.mpr c14
         clear c14
         simp only [Option.some.injEq, Prod.mk.injEq] at H
         obtain ⟨rfl, rfl⟩ := H
         go_wp2_with (fail)
         repeat (go_quiet (fail); try go_wp2_with (go_at_call 43; (with_reducible refine (strings_Trim.calls (x0_2.extract ((ji8) : Int).toNat x0_2.size) (⟨#[48]⟩ : ByteArray) t111 _ A13.out).mono ?_); rintro e w' ⟨rfl, ⟨nd, rfl⟩⟩; (try first | exact ⟨rfl, _, World.drewN_drewN _ _ _⟩ | exact ⟨rfl, _, Eq.trans (World.drewN_drewN _ _ _) (congrArg (World.drewN _) (Nat.add_assoc _ _ _))⟩)))
         go_ret2
         exact ⟨by first | rfl | (exact congrArg (fun b => Ending.returned (.bool b)) (Aid.bne_nil _)) | (exact congrArg (fun b => Ending.returned (.bool b)) (Aid.eq_nil _)) | (simp [errW_none, errW_some] <;> rfl) | (simp only [← hji8]; first | rfl | (simp [errW_none, errW_some] <;> rfl)) | (simp [*, errW_none, errW_some] <;> rfl), by repeat (first | (with_reducible first | exact HB.out | apply below_alloc | apply pw_below_drewN | apply below_drew1) | exact HB.out)⟩
       · rw [if_neg c14] at H
         have c14b0 : (t111.toList == ([] : List UInt8)) = false := beq_eq_false_iff_ne.mpr c14
         try have c14b0z := Aid.empty_of c14b0
         have c14b1 : (t111.toList != ([] : List UInt8)) = true := bne_iff_ne.mpr c14
         have HC15 := Aside0.mk H
         clear H
         go_upto_region 7 with (fail)
         repeat (go_quiet (fail); go_upto_region 7 with (go_at_call 43; (with_reducible refine (strings_Trim.calls (x0_2.extract ((ji8) : Int).toNat x0_2.size) (⟨#[48]⟩ : ByteArray) t111 _ A13.out).mono ?_); rintro e w' ⟨rfl, ⟨nd, rfl⟩⟩; (try first | exact ⟨rfl, _, World.drewN_drewN _ _ _⟩ | exact ⟨rfl, _, Eq.trans (World.drewN_drewN _ _ _) (congrArg (World.drewN _) (Nat.add_assoc _ _ _))⟩)))
         (try simp only [Act.put, List.setIfInBounds_toArray, List.set_cons_zero, List.set_cons_succ])
         go_cut [38] (fun v38 wc => ∃ (kq : Nat) (x38_14 : Bool), v38 = .bool x38_14 ∧ Aside0 (round_cut.j1 kq (x0_2.extract 0 ((ji8) : Int).toNat) (x0_2.extract ((ji8) : Int).toNat x0_2.size) x38_14 = some (r1, r2)) ∧ Aside0 (kq ≤ kj2) ∧ Aside0 (Below w.heap.size w wc))
         case first =>
          have H := HC15.out
          clear HC15
          by_cases c16 : 0 < ((x0_2.extract ((ji8) : Int).toNat x0_2.size).size : Int)
          · rw [if_pos c16] at H
            have c16b0 : decide (0 < ((x0_2.extract ((ji8) : Int).toNat x0_2.size).size : Int)) = true := decide_eq_true c16
            try have c16b0z := c16b0
            (try simp only [go_sem, ByteArray.size_extract, ByteArray.size_append, Nat.min_self, Int.natCast_add] at c16b0z)
            have c16b1 : decide (0 < (x0_2.extract ((ji8) : Int).toNat x0_2.size).size) = true := decide_eq_true (by omega)
            try have c16b1z := c16b1
            (try simp only [go_sem, ByteArray.size_extract, ByteArray.size_append, Nat.min_self, Int.natCast_add] at c16b1z)
            clear c16
            (first | rw [c16b0] | rw [c16b0z] | (simp only [i64_w, i32_w]; rw [c16b0]) | skip)
            by_cases c18 : (bt (x0_2.extract ((ji8) : Int).toNat x0_2.size) 0) = 53
            · rw [if_pos c18] at H
              have c18b0 : ((bt (x0_2.extract ((ji8) : Int).toNat x0_2.size) 0) == 53) = true := beq_iff_eq.mpr c18
              try have c18b0z := c18b0
              (try simp only [go_sem, ByteArray.size_extract, ByteArray.size_append, Nat.min_self, Int.natCast_add] at c18b0z)
              have c18b1 : ((bt (x0_2.extract ((ji8) : Int).toNat x0_2.size) 0) != 53) = false := bne_eq_false_iff_eq.mpr c18
              try have c18b1z := c18b1
              (try simp only [go_sem, ByteArray.size_extract, ByteArray.size_append, Nat.min_self, Int.natCast_add] at c18b1z)
              clear c18
              have H' := Aside0.mk H
              clear H
              have p17 : 0 ≤ (0 : Int) := (by omega)
              have q17 : 0 < (x0_2.extract ((ji8) : Int).toNat x0_2.size).size := (by have : (0 : Int) < ((x0_2.extract ((ji8) : Int).toNat x0_2.size).size : Int) := of_decide_eq_true (by first | (with_reducible assumption) | assumption); omega)
              try have q17z := q17
              (try simp only [go_sem, ByteArray.size_extract, ByteArray.size_append, Nat.min_self, Int.natCast_add] at q17z)
              have hx17 : ∀ h : 0 < (x0_2.extract ((ji8) : Int).toNat x0_2.size).size, (((x0_2.extract ((ji8) : Int).toNat x0_2.size)[0]'h).toNat : Int) = bt (x0_2.extract ((ji8) : Int).toNat x0_2.size) 0 := bt_at (x0_2.extract ((ji8) : Int).toNat x0_2.size) 0
              clear p17
              have qi17 : (0 < ((x0_2.extract ((ji8) : Int).toNat x0_2.size).size : Int)) = True := eq_true (of_decide_eq_true (by first | (with_reducible assumption) | assumption))
              try have qi17z := qi17
              (try simp only [go_sem, ByteArray.size_extract, ByteArray.size_append, Nat.min_self, Int.natCast_add] at qi17z)
              replace q17 := eq_true q17
              try have q17z := q17
              (try simp only [go_sem, ByteArray.size_extract, ByteArray.size_append, Nat.min_self, Int.natCast_add] at q17z)
              go_wp2
              repeat (go_quiet (fail); try go_wp2)
              go_meet
              case rel => exact ⟨_, ((t111.toList == ([53] : List UInt8))), (by first | rfl | (simp; done) | (simp [*]; done)), H', ⟨by have := HJ2.out; first | omega | exact Nat.le_refl _⟩, ⟨by repeat (first | (with_reducible first | exact HB.out | apply below_alloc | apply pw_below_drewN | apply below_drew1) | exact HB.out)⟩⟩
            · rw [if_neg c18] at H
              have c18b0 : ((bt (x0_2.extract ((ji8) : Int).toNat x0_2.size) 0) == 53) = false := beq_eq_false_iff_ne.mpr c18
              try have c18b0z := c18b0
              (try simp only [go_sem, ByteArray.size_extract, ByteArray.size_append, Nat.min_self, Int.natCast_add] at c18b0z)
              have c18b1 : ((bt (x0_2.extract ((ji8) : Int).toNat x0_2.size) 0) != 53) = true := bne_iff_ne.mpr c18
              try have c18b1z := c18b1
              (try simp only [go_sem, ByteArray.size_extract, ByteArray.size_append, Nat.min_self, Int.natCast_add] at c18b1z)
              have H' := Aside0.mk H
              clear H
              have p17 : 0 ≤ (0 : Int) := (by omega)
              have q17 : 0 < (x0_2.extract ((ji8) : Int).toNat x0_2.size).size := (by have : (0 : Int) < ((x0_2.extract ((ji8) : Int).toNat x0_2.size).size : Int) := of_decide_eq_true (by first | (with_reducible assumption) | assumption); omega)
              try have q17z := q17
              (try simp only [go_sem, ByteArray.size_extract, ByteArray.size_append, Nat.min_self, Int.natCast_add] at q17z)
              have hx17 : ∀ h : 0 < (x0_2.extract ((ji8) : Int).toNat x0_2.size).size, (((x0_2.extract ((ji8) : Int).toNat x0_2.size)[0]'h).toNat : Int) = bt (x0_2.extract ((ji8) : Int).toNat x0_2.size) 0 := bt_at (x0_2.extract ((ji8) : Int).toNat x0_2.size) 0
              clear p17
              have qi17 : (0 < ((x0_2.extract ((ji8) : Int).toNat x0_2.size).size : Int)) = True := eq_true (of_decide_eq_true (by first | (with_reducible assumption) | assumption))
              try have qi17z := qi17
              (try simp only [go_sem, ByteArray.size_extract, ByteArray.size_append, Nat.min_self, Int.natCast_add] at qi17z)
              replace q17 := eq_true q17
              try have q17z := q17
              (try simp only [go_sem, ByteArray.size_extract, ByteArray.size_append, Nat.min_self, Int.natCast_add] at q17z)
              go_wp2
              repeat (go_quiet (fail); try go_wp2)
              go_meet
              case rel => exact ⟨_, (false), (by first | rfl | (simp; done) | (simp [*]; done)), H', ⟨by have := HJ2.out; first | omega | exact Nat.le_refl _⟩, ⟨by repeat (first | (with_reducible first | exact HB.out | apply below_alloc | apply pw_below_drewN | apply below_drew1) | exact HB.out)⟩⟩
          · rw [if_neg c16] at H
            exact absurd H (by simp)
         case rest =>
          clear HC15
          try clear c1
          try clear p1
          try clear q1
          try clear hx1
          try clear qi1
          try clear p2
          try clear c4
          try clear c4b0
          try clear c5
          try clear c6
          try clear c6b0
          try clear c6b1
          try clear c6b2
          try clear p6
          try clear c9
          try clear c9b0
          try clear c9b1
          try clear c10
          try clear c10b0
          try clear c10b1
          try clear c11
          try clear c11b0
          try clear c12
          try clear c12b0
          try clear c14
          try clear c14b0
          try clear c14b1
          try clear c16
          try clear c16b0
          try clear c16b1
          try clear p17
          try clear q17
          try clear hx17
          try clear qi17
          try clear c18
          try clear c18b0
          try clear c18b1
          try clear p17
          try clear p2
          try clear p6
          try clear q17
          obtain ⟨kq, x38_14, rfl, HA, HJ14, HB⟩ := hcut
          cases kq with
          | zero => exact absurd HA.out (by simp [round_cut.j1])
          | succ kj14 =>
           have H := HA.out
           clear HA
           simp only [round_cut.j1] at H
           by_cases c19 : x38_14 = true
           · subst c19
             have H1 : (some ((x0_2.extract 0 ((ji8) : Int).toNat), 2)) = some (r1, r2) := by rw [if_pos rfl] at H; exact H
             clear H
             have H := H1
             clear H1
             simp only [Option.some.injEq, Prod.mk.injEq] at H
             obtain ⟨rfl, rfl⟩ := H
             go_wp2
             repeat (go_quiet (fail); try go_wp2)
             go_ret2
             exact ⟨by first | rfl | (exact congrArg (fun b => Ending.returned (.bool b)) (Aid.bne_nil _)) | (exact congrArg (fun b => Ending.returned (.bool b)) (Aid.eq_nil _)) | (simp [errW_none, errW_some] <;> rfl) | (simp only [← hji8]; first | rfl | (simp [errW_none, errW_some] <;> rfl)) | (simp [*, errW_none, errW_some] <;> rfl), by repeat (first | (with_reducible first | exact HB.out | apply below_alloc | apply pw_below_drewN | apply below_drew1) | exact HB.out)⟩
           · replace c19 := Bool.eq_false_iff.mpr c19
             subst c19
             have H1 : (if 0 < ((x0_2.extract ((ji8) : Int).toNat x0_2.size).size : Int) then (if (bt (x0_2.extract ((ji8) : Int).toNat x0_2.size) 0) ≥ 53 then (some ((x0_2.extract 0 ((ji8) : Int).toNat), 3)) else (some ((x0_2.extract 0 ((ji8) : Int).toNat), 1))) else (none)) = some (r1, r2) := by rw [if_neg (show ¬ (false = true) by decide)] at H; exact H
             clear H
             have H := H1
             clear H1
             by_cases c20 : 0 < ((x0_2.extract ((ji8) : Int).toNat x0_2.size).size : Int)
             · rw [if_pos c20] at H
               have c20b0 : decide (0 < ((x0_2.extract ((ji8) : Int).toNat x0_2.size).size : Int)) = true := decide_eq_true c20
               try have c20b0z := c20b0
               (try simp only [go_sem, ByteArray.size_extract, ByteArray.size_append, Nat.min_self, Int.natCast_add] at c20b0z)
               have c20b1 : decide (0 < (x0_2.extract ((ji8) : Int).toNat x0_2.size).size) = true := decide_eq_true (by omega)
               try have c20b1z := c20b1
               (try simp only [go_sem, ByteArray.size_extract, ByteArray.size_append, Nat.min_self, Int.natCast_add] at c20b1z)
               clear c20
               by_cases c22 : (bt (x0_2.extract ((ji8) : Int).toNat x0_2.size) 0) ≥ 53
               · rw [if_pos c22] at H
                 have c22b0 : decide (53 ≤ (bt (x0_2.extract ((ji8) : Int).toNat x0_2.size) 0)) = true := decide_eq_true c22
                 try have c22b0z := c22b0
                 (try simp only [go_sem, ByteArray.size_extract, ByteArray.size_append, Nat.min_self, Int.natCast_add] at c22b0z)
                 clear c22
                 simp only [Option.some.injEq, Prod.mk.injEq] at H
                 obtain ⟨rfl, rfl⟩ := H
                 have p21 : 0 ≤ (0 : Int) := (by omega)
                 have q21 : 0 < (x0_2.extract ((ji8) : Int).toNat x0_2.size).size := (by have : (0 : Int) < ((x0_2.extract ((ji8) : Int).toNat x0_2.size).size : Int) := of_decide_eq_true (by first | (with_reducible assumption) | assumption); omega)
                 try have q21z := q21
                 (try simp only [go_sem, ByteArray.size_extract, ByteArray.size_append, Nat.min_self, Int.natCast_add] at q21z)
                 have hx21 : ∀ h : 0 < (x0_2.extract ((ji8) : Int).toNat x0_2.size).size, (((x0_2.extract ((ji8) : Int).toNat x0_2.size)[0]'h).toNat : Int) = bt (x0_2.extract ((ji8) : Int).toNat x0_2.size) 0 := bt_at (x0_2.extract ((ji8) : Int).toNat x0_2.size) 0
                 clear p21
                 have qi21 : (0 < ((x0_2.extract ((ji8) : Int).toNat x0_2.size).size : Int)) = True := eq_true (of_decide_eq_true (by first | (with_reducible assumption) | assumption))
                 try have qi21z := qi21
                 (try simp only [go_sem, ByteArray.size_extract, ByteArray.size_append, Nat.min_self, Int.natCast_add] at qi21z)
                 replace q21 := eq_true q21
                 try have q21z := q21
                 (try simp only [go_sem, ByteArray.size_extract, ByteArray.size_append, Nat.min_self, Int.natCast_add] at q21z)
                 go_wp2
                 repeat (go_quiet (fail); try go_wp2)
                 go_ret2
                 exact ⟨by first | rfl | (exact congrArg (fun b => Ending.returned (.bool b)) (Aid.bne_nil _)) | (exact congrArg (fun b => Ending.returned (.bool b)) (Aid.eq_nil _)) | (simp [errW_none, errW_some] <;> rfl) | (simp only [← hji8]; first | rfl | (simp [errW_none, errW_some] <;> rfl)) | (simp [*, errW_none, errW_some] <;> rfl), by repeat (first | (with_reducible first | exact HB.out | apply below_alloc | apply pw_below_drewN | apply below_drew1) | exact HB.out)⟩
               · rw [if_neg c22] at H
                 have c22b0 : decide (53 ≤ (bt (x0_2.extract ((ji8) : Int).toNat x0_2.size) 0)) = false := decide_eq_false c22
                 try have c22b0z := c22b0
                 (try simp only [go_sem, ByteArray.size_extract, ByteArray.size_append, Nat.min_self, Int.natCast_add] at c22b0z)
                 clear c22
                 simp only [Option.some.injEq, Prod.mk.injEq] at H
                 obtain ⟨rfl, rfl⟩ := H
                 have p21 : 0 ≤ (0 : Int) := (by omega)
                 have q21 : 0 < (x0_2.extract ((ji8) : Int).toNat x0_2.size).size := (by have : (0 : Int) < ((x0_2.extract ((ji8) : Int).toNat x0_2.size).size : Int) := of_decide_eq_true (by first | (with_reducible assumption) | assumption); omega)
                 try have q21z := q21
                 (try simp only [go_sem, ByteArray.size_extract, ByteArray.size_append, Nat.min_self, Int.natCast_add] at q21z)
                 have hx21 : ∀ h : 0 < (x0_2.extract ((ji8) : Int).toNat x0_2.size).size, (((x0_2.extract ((ji8) : Int).toNat x0_2.size)[0]'h).toNat : Int) = bt (x0_2.extract ((ji8) : Int).toNat x0_2.size) 0 := bt_at (x0_2.extract ((ji8) : Int).toNat x0_2.size) 0
                 clear p21
                 have qi21 : (0 < ((x0_2.extract ((ji8) : Int).toNat x0_2.size).size : Int)) = True := eq_true (of_decide_eq_true (by first | (with_reducible assumption) | assumption))
                 try have qi21z := qi21
                 (try simp only [go_sem, ByteArray.size_extract, ByteArray.size_append, Nat.min_self, Int.natCast_add] at qi21z)
                 replace q21 := eq_true q21
                 try have q21z := q21
                 (try simp only [go_sem, ByteArray.size_extract, ByteArray.size_append, Nat.min_self, Int.natCast_add] at q21z)
                 go_wp2
                 repeat (go_quiet (fail); try go_wp2)
                 go_ret2
                 exact ⟨by first | rfl | (exact congrArg (fun b => Ending.returned (.bool b)) (Aid.bne_nil _)) | (exact congrArg (fun b => Ending.returned (.bool b)) (Aid.eq_nil _)) | (simp [errW_none, errW_some] <;> rfl) | (simp only [← hji8]; first | rfl | (simp [errW_none, errW_some] <;> rfl)) | (simp [*, errW_none, errW_some] <;> rfl), by repeat (first | (with_reducible first | exact HB.out | apply below_alloc | apply pw_below_drewN | apply below_drew1) | exact HB.out)⟩
             · rw [if_neg c20] at H
               exact absurd H (by simp)
     · rw [if_neg c10] at H
       exact absurd H (by simp)
   · rw [if_neg c9] at H
     exact absurd H (by simp)

/-! ### round_one: function 52 -/

def round_one.f (a0 : ByteArray) : Option (ByteArray) := RoundOne.f a0
theorem round_one.calls (a0 : ByteArray) (r : ByteArray) (w : World) (h : round_one.f a0 = some r) :
 Calls Tryd.prog 52 #[.string a0] w fun e w' => e = .returned (.string r) ∧ Below w.heap.size w w' := RoundOne.calls a0 r w h

/-! ### strings_TrimLeft: function 64 -/

/-- strings.TrimLeft with a cutset of one ASCII byte. -/
def strings_TrimLeft.f (a0 : ByteArray) (a1 : ByteArray) : Option (ByteArray) := if a1.size = 1 ∧ bt a1 0 < 128 ∧ a0.size ≤ 140737488351232 then some ⟨(Lib.trimLeftB a0.data.toList (UInt8.ofNat (bt a1 0).toNat)).toArray⟩ else none
theorem strings_TrimLeft.calls (a0 : ByteArray) (a1 : ByteArray) (r : ByteArray) (w : World) (h : strings_TrimLeft.f a0 a1 = some r) :
 Calls Tryd.prog 64 #[.string a0, .string a1] w fun e w' => e = .returned (.string r) ∧ Drawn0 w w' := by
 unfold strings_TrimLeft.f at h
 split at h
 · rename_i hc
   obtain ⟨h1, h2, h3⟩ := hc
   obtain rfl := Option.some.inj h
   clear h
   obtain ⟨c, rfl, hcb⟩ := Aid.one_byte a1 h1
   have hc : c.toNat < 128 := by omega
   rw [hcb, Int.toNat_natCast, UInt8.ofNat_toNat]
   refine (Tryd.strings_TrimLeft_one a0 c hc w).mono ?_
   intro e w' he
   exact ⟨he.1, he.2 ▸ Drawn0.refl _⟩
 · cases h

end Go.Proofs.YtpmhebdaphjinaaDoor.F
