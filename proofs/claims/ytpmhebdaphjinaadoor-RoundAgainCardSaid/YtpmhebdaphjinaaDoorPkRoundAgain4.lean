/- Part 5 of 8 of the proof of the law RoundAgain: it is true at every input. Conditions: those of the given row, no others. -/
import Derived.Test.YtpmhebdaphjinaaDoorPkRoundAgain0
import Derived.Test.YtpmhebdaphjinaaDoorPkRoundAgain1
import Derived.Test.YtpmhebdaphjinaaDoorPkRoundAgain3
namespace Go.Proofs.YtpmhebdaphjinaaDoor.F
open Go.RowKit Go.Proofs.YtpmhebdaphjinaaDoorW.PrintWords Go.Proofs.YtpmhebdaphjinaaDoorW.PrintLast Go.Proofs.YtpmhebdaphjinaaDoorW.PrintMore Go.Proofs.YtpmhebdaphjinaaDoor.Q
attribute [local go_sem] max2_int min2_int max_two min_two max_three min_three max_four min_four   -- for this text's walks alone
set_option linter.unusedVariables false
set_option linter.unusedSimpArgs false

mutual
def round_Significant.j0 : Nat → Int → Bool → ByteArray → ByteArray → Option (Bool × ByteArray × ByteArray × Int)
 | 0, _, _, _, _ => none
 | k + 1, x2, x456000, x456001, x456002 => round_Significant.l0 k x2 x456000 x456001 x456002
def round_Significant.j2 : Nat → Int → Bool → ByteArray → ByteArray → Option (Bool × ByteArray × ByteArray × Int)
 | 0, _, _, _, _ => none
 | k + 1, x2, x456000, x456001, x456002 => (round_count.f x456000 x456001 x456002).bind fun t466 => (if t466 < x2 then ((strings_Repeat.f (⟨#[48]⟩ : ByteArray) (wrap64 (x2 - t466))).bind fun t467 => (if x456002.size + t467.size ≤ 9223372036854775807 then (if (wrap64 ((x456001.size : Int) + ((x456002 ++ t467).size : Int))) > 40 then (some (false, (⟨#[]⟩ : ByteArray), (⟨#[]⟩ : ByteArray), 3)) else (some (x456000, x456001, x456002 ++ t467, 0))) else (none))) else (if (wrap64 ((x456001.size : Int) + (x456002.size : Int))) > 40 then (some (false, (⟨#[]⟩ : ByteArray), (⟨#[]⟩ : ByteArray), 3)) else (some (x456000, x456001, x456002, 0))))
def round_Significant.l0 : Nat → Int → Bool → ByteArray → ByteArray → Option (Bool × ByteArray × ByteArray × Int)
 | 0, _, _, _, _ => none
 | k + 1, x2, x456000, x456001, x456002 => if x456002.toList = ([] : List UInt8) then (round_Significant.j2 k x2 x456000 x456001 x456002) else (if 0 ≤ (wrap64 ((x456002.size : Int) - 1)) then (if (wrap64 ((x456002.size : Int) - 1)) < (x456002.size : Int) then (if (bt x456002 (wrap64 ((x456002.size : Int) - 1))) = 48 then ((round_count.f x456000 x456001 x456002).bind fun t465 => (if t465 > x2 then (if (wrap64 ((x456002.size : Int) - 1)) ≤ (x456002.size : Int) then (round_Significant.l0 k x2 x456000 x456001 (x456002.extract 0 ((wrap64 ((x456002.size : Int) - 1)) : Int).toNat)) else (none)) else (round_Significant.j2 k x2 x456000 x456001 x456002))) else (round_Significant.j2 k x2 x456000 x456001 x456002)) else (none)) else (none))
end
def round_Significant.f (k : Nat) (a0_0 : Bool) (a0_1 : ByteArray) (a0_2 : ByteArray) (a1 : Int) (a2 : Int) (a3 : Int) : Option (Bool × ByteArray × ByteArray × Int) := (round_asked.f k a0_0 a0_1 a0_2 a1).bind fun t457 => (if t457 = 0 then ((round_bounds.f 1 a2 a3).bind fun t458 => (if t458 = true then ((round_count.f a0_0 a0_1 a0_2).bind fun t459 => (if t459 > a3 then ((round_shorten.f k a0_0 a0_1 a0_2 a1 (wrap64 (t459 - a3))).bind fun bt460 => (if bt460.2.2.2 = 0 then (round_Significant.j0 k a2 bt460.1 bt460.2.1 bt460.2.2.1) else (some (false, (⟨#[]⟩ : ByteArray), (⟨#[]⟩ : ByteArray), bt460.2.2.2)))) else (round_Significant.j0 k a2 a0_0 a0_1 a0_2))) else (some (false, (⟨#[]⟩ : ByteArray), (⟨#[]⟩ : ByteArray), 1)))) else (some (false, (⟨#[]⟩ : ByteArray), (⟨#[]⟩ : ByteArray), t457)))
theorem round_Significant.mono_l : ∀ k, (∀ y0 y1 y2 y3, LeO (round_Significant.j0 k y0 y1 y2 y3) (round_Significant.j0 (k + 1) y0 y1 y2 y3)) ∧ (∀ y0 y1 y2 y3, LeO (round_Significant.j2 k y0 y1 y2 y3) (round_Significant.j2 (k + 1) y0 y1 y2 y3)) ∧ (∀ y0 y1 y2 y3, LeO (round_Significant.l0 k y0 y1 y2 y3) (round_Significant.l0 (k + 1) y0 y1 y2 y3))
 | 0 => ⟨fun _ _ _ _ r h => by simp [round_Significant.j0] at h, fun _ _ _ _ r h => by simp [round_Significant.j2] at h, fun _ _ _ _ r h => by simp [round_Significant.l0] at h⟩
 | k + 1 => by
  obtain ⟨ih0, ih1, ih2⟩ := round_Significant.mono_l k
  refine ⟨?_, ?_, ?_⟩
  · intro y0 y1 y2 y3
    unfold round_Significant.j0
    repeat' first
    | (with_reducible exact ih0 _ _ _ _)
    | (with_reducible exact ih1 _ _ _ _)
    | (with_reducible exact ih2 _ _ _ _)
    | (with_reducible exact round_asked.mono _ _ _ _ _)
    | (with_reducible exact round_shorten.mono _ _ _ _ _ _)
    | (with_reducible exact LeO.refl _)
    | (with_reducible exact LeO.none _)
    | (with_reducible refine LeO.ite ?_ ?_)
    | (with_reducible refine LeO.bind ?_ (fun _ => ?_))
    | exact ih0 _ _ _ _
    | exact ih1 _ _ _ _
    | exact ih2 _ _ _ _
    | exact round_asked.mono _ _ _ _ _
    | exact round_shorten.mono _ _ _ _ _ _
    | exact LeO.none _
    | refine LeO.ite ?_ ?_
    | refine LeO.bind ?_ (fun _ => ?_)
  · intro y0 y1 y2 y3
    unfold round_Significant.j2
    repeat' first
    | (with_reducible exact ih0 _ _ _ _)
    | (with_reducible exact ih1 _ _ _ _)
    | (with_reducible exact ih2 _ _ _ _)
    | (with_reducible exact round_asked.mono _ _ _ _ _)
    | (with_reducible exact round_shorten.mono _ _ _ _ _ _)
    | (with_reducible exact LeO.refl _)
    | (with_reducible exact LeO.none _)
    | (with_reducible refine LeO.ite ?_ ?_)
    | (with_reducible refine LeO.bind ?_ (fun _ => ?_))
    | exact ih0 _ _ _ _
    | exact ih1 _ _ _ _
    | exact ih2 _ _ _ _
    | exact round_asked.mono _ _ _ _ _
    | exact round_shorten.mono _ _ _ _ _ _
    | exact LeO.none _
    | refine LeO.ite ?_ ?_
    | refine LeO.bind ?_ (fun _ => ?_)
  · intro y0 y1 y2 y3
    unfold round_Significant.l0
    repeat' first
    | (with_reducible exact ih0 _ _ _ _)
    | (with_reducible exact ih1 _ _ _ _)
    | (with_reducible exact ih2 _ _ _ _)
    | (with_reducible exact round_asked.mono _ _ _ _ _)
    | (with_reducible exact round_shorten.mono _ _ _ _ _ _)
    | (with_reducible exact LeO.refl _)
    | (with_reducible exact LeO.none _)
    | (with_reducible refine LeO.ite ?_ ?_)
    | (with_reducible refine LeO.bind ?_ (fun _ => ?_))
    | exact ih0 _ _ _ _
    | exact ih1 _ _ _ _
    | exact ih2 _ _ _ _
    | exact round_asked.mono _ _ _ _ _
    | exact round_shorten.mono _ _ _ _ _ _
    | exact LeO.none _
    | refine LeO.ite ?_ ?_
    | refine LeO.bind ?_ (fun _ => ?_)
theorem round_Significant.mono : ∀ a0 a1 a2 a3 a4 a5 k, LeO (round_Significant.f k a0 a1 a2 a3 a4 a5) (round_Significant.f (k + 1) a0 a1 a2 a3 a4 a5) := by
 intro a0 a1 a2 a3 a4 a5 k
 obtain ⟨ih0, ih1, ih2⟩ := round_Significant.mono_l k
 unfold round_Significant.f
 repeat' first
  | (with_reducible exact ih0 _ _ _ _)
  | (with_reducible exact ih1 _ _ _ _)
  | (with_reducible exact ih2 _ _ _ _)
  | (with_reducible exact round_asked.mono _ _ _ _ _)
  | (with_reducible exact round_shorten.mono _ _ _ _ _ _)
  | (with_reducible exact LeO.refl _)
  | (with_reducible exact LeO.none _)
  | (with_reducible refine LeO.ite ?_ ?_)
  | (with_reducible refine LeO.bind ?_ (fun _ => ?_))
  | exact ih0 _ _ _ _
  | exact ih1 _ _ _ _
  | exact ih2 _ _ _ _
  | exact round_asked.mono _ _ _ _ _
  | exact round_shorten.mono _ _ _ _ _ _
  | exact LeO.none _
  | refine LeO.ite ?_ ?_
  | refine LeO.bind ?_ (fun _ => ?_)
def round_Significant.T16 : Bool × List (List Nat × List Nat) := (true, [([], []), ([0], [0]), ([], []), ([], []), ([2, 3], [2, 3]), ([4], [4]), ([1, 5], [1, 5]), ([0, 1, 2, 3, 4, 5, 6], []), ([7, 6, 5, 0, 1, 2, 3, 4, 5, 6], [6, 7])])
def round_Significant.B16 : List Nat := [0, 1, 0, 0, 12, 28, 63, 127, 255]
theorem round_Significant.tab16 : rtab .any (opsOf Tryd.f20 16) = round_Significant.T16 := by kernel_rfl
theorem round_Significant.bits16 : waitsOk round_Significant.T16.2 round_Significant.B16 = true := by kernel_rfl
set_option maxHeartbeats 8000000 in
set_option maxRecDepth 100000 in
theorem round_Significant.calls (k : Nat) (a0_0 : Bool) (a0_1 : ByteArray) (a0_2 : ByteArray) (a1 : Int) (a2 : Int) (a3 : Int) (r1 : Bool) (r2 : ByteArray) (r3 : ByteArray) (r4 : Int) (w : World) (h : round_Significant.f k a0_0 a0_1 a0_2 a1 a2 a3 = some (r1, r2, r3, r4)) :
 Calls Tryd.prog 20 #[.agg #[.bool a0_0, .string a0_1, .string a0_2], .int .i64 a1, .int .i64 a2, .int .i64 a3] w fun e w' => e = .returned (.tuple #[.agg #[.bool r1, .string r2, .string r3], .int .i64 r4]) ∧ Below w.heap.size w w' := by
 have hu23 := Tryd.underlying23
 have HB := Aside0.mk (Below.refl w.heap.size w)
 have H : ((round_asked.f k a0_0 a0_1 a0_2 a1).bind fun t457 => (if t457 = 0 then ((round_bounds.f 1 a2 a3).bind fun t458 => (if t458 = true then ((round_count.f a0_0 a0_1 a0_2).bind fun t459 => (if t459 > a3 then ((round_shorten.f k a0_0 a0_1 a0_2 a1 (wrap64 (t459 - a3))).bind fun bt460 => (if bt460.2.2.2 = 0 then (round_Significant.j0 k a2 bt460.1 bt460.2.1 bt460.2.2.1) else (some (false, (⟨#[]⟩ : ByteArray), (⟨#[]⟩ : ByteArray), bt460.2.2.2)))) else (round_Significant.j0 k a2 a0_0 a0_1 a0_2))) else (some (false, (⟨#[]⟩ : ByteArray), (⟨#[]⟩ : ByteArray), 1)))) else (some (false, (⟨#[]⟩ : ByteArray), (⟨#[]⟩ : ByteArray), t457)))) = some (r1, r2, r3, r4) := h
 clear h
 replace H := Option.bind_eq_some_iff.mp H
 obtain ⟨t457, A50, H⟩ := H
 replace H : (if t457 = 0 then ((round_bounds.f 1 a2 a3).bind fun t458 => (if t458 = true then ((round_count.f a0_0 a0_1 a0_2).bind fun t459 => (if t459 > a3 then ((round_shorten.f k a0_0 a0_1 a0_2 a1 (wrap64 (t459 - a3))).bind fun bt460 => (if bt460.2.2.2 = 0 then (round_Significant.j0 k a2 bt460.1 bt460.2.1 bt460.2.2.1) else (some (false, (⟨#[]⟩ : ByteArray), (⟨#[]⟩ : ByteArray), bt460.2.2.2)))) else (round_Significant.j0 k a2 a0_0 a0_1 a0_2))) else (some (false, (⟨#[]⟩ : ByteArray), (⟨#[]⟩ : ByteArray), 1)))) else (some (false, (⟨#[]⟩ : ByteArray), (⟨#[]⟩ : ByteArray), t457))) = some (r1, r2, r3, r4) := H
 have A5 := Aside0.mk A50
 clear A50
 by_cases c6 : t457 = 0
 · rw [if_pos c6] at H
   have c6b0 : (t457 == 0) = true := beq_iff_eq.mpr c6
   have c6b1 : (t457 != 0) = false := bne_eq_false_iff_eq.mpr c6
   try have c6b1z := c6b1
   (try simp only [bne] at c6b1z)
   clear c6
   replace H := Option.bind_eq_some_iff.mp H
   obtain ⟨t458, A70, H⟩ := H
   replace H : (if t458 = true then ((round_count.f a0_0 a0_1 a0_2).bind fun t459 => (if t459 > a3 then ((round_shorten.f k a0_0 a0_1 a0_2 a1 (wrap64 (t459 - a3))).bind fun bt460 => (if bt460.2.2.2 = 0 then (round_Significant.j0 k a2 bt460.1 bt460.2.1 bt460.2.2.1) else (some (false, (⟨#[]⟩ : ByteArray), (⟨#[]⟩ : ByteArray), bt460.2.2.2)))) else (round_Significant.j0 k a2 a0_0 a0_1 a0_2))) else (some (false, (⟨#[]⟩ : ByteArray), (⟨#[]⟩ : ByteArray), 1))) = some (r1, r2, r3, r4) := H
   have A7 := Aside0.mk A70
   clear A70
   by_cases c8 : t458 = true
   · subst c8
     have H1 : ((round_count.f a0_0 a0_1 a0_2).bind fun t459 => (if t459 > a3 then ((round_shorten.f k a0_0 a0_1 a0_2 a1 (wrap64 (t459 - a3))).bind fun bt460 => (if bt460.2.2.2 = 0 then (round_Significant.j0 k a2 bt460.1 bt460.2.1 bt460.2.2.1) else (some (false, (⟨#[]⟩ : ByteArray), (⟨#[]⟩ : ByteArray), bt460.2.2.2)))) else (round_Significant.j0 k a2 a0_0 a0_1 a0_2))) = some (r1, r2, r3, r4) := by rw [if_pos rfl] at H; exact H
     clear H
     have H := H1
     clear H1
     replace H := Option.bind_eq_some_iff.mp H
     obtain ⟨t459, A90, H⟩ := H
     replace H : (if t459 > a3 then ((round_shorten.f k a0_0 a0_1 a0_2 a1 (wrap64 (t459 - a3))).bind fun bt460 => (if bt460.2.2.2 = 0 then (round_Significant.j0 k a2 bt460.1 bt460.2.1 bt460.2.2.1) else (some (false, (⟨#[]⟩ : ByteArray), (⟨#[]⟩ : ByteArray), bt460.2.2.2)))) else (round_Significant.j0 k a2 a0_0 a0_1 a0_2)) = some (r1, r2, r3, r4) := H
     have A9 := Aside0.mk A90
     clear A90
     have HC10 := Aside0.mk H
     clear H
     go_enter Tryd.func20, Tryd.ntmps20
     go_upto_if 31 with (first | ((with_reducible refine gate_dst (N := 4) rfl ?_); (try (refine gate_guard (by rfl) ?_; dsimp only)); refine qx 4 #[.bool a0_0, .string a0_1, .string a0_2] 23 ?_; intro gb455 hg w11 hbox hb; have BK455 := Aside0.mk (hbox); have GW455 := qs hg HB; have GE455 := GW455; replace HB := qn HB hb; clear hb hbox hg) | ((with_reducible refine gate_dst (N := 8) rfl ?_); (try (refine gate_guard (by rfl) ?_; dsimp only)); refine qx 8 #[.bool false, .string (⟨#[]⟩ : ByteArray), .string (⟨#[]⟩ : ByteArray)] 23 ?_; intro gb456 hg w12 hbox hb; have BK456 := Aside0.mk (hbox); have GW456 := qs hg HB; have GE456 := GW456; have NB455_456 := ql_ hg BK455; have NB456_455 := qg_ hg BK455; replace BK455 := qb BK455 hb; replace HB := qn HB hb; clear hb hbox hg; have hnb13 := NB455_456.out; have hnc13 := NB456_455.out; obtain ⟨hcz14_0, hcz14_1, hcz14_2, hfz14_0, hfz14_1, hfz14_2⟩ := q3 BK455) | ((with_reducible refine gate_callee (f := 24) rfl ?_); refine goesL_ (some 17) rfl rfl Tryd.func24 (by kernel_rfl) rfl #[.agg #[.bool a0_0, .string a0_1, .string a0_2], .int .i64 a1] rfl ql ?_; (with_reducible refine (round_asked.calls k a0_0 a0_1 a0_2 a1 t457 _ A5.out).mono ?_); rintro e w15 ⟨rfl, hb⟩; refine ⟨_, rfl, ?_⟩; replace BK455 := qb BK455 hb; replace BK456 := qb BK456 hb; replace HB := qn HB hb; (try clear hb); (try clear hb2); (try clear hk); (try clear hi)) | ((with_reducible refine gate_callee (f := 35) rfl ?_); refine goesL_ (some 24) rfl rfl Tryd.func35 (by kernel_rfl) rfl #[.int .i64 1, .int .i64 a2, .int .i64 a3] rfl ql ?_; (with_reducible refine (round_bounds.calls 1 a2 a3 true _ A7.out).mono ?_); rintro e w' ⟨rfl, ⟨nd, rfl⟩⟩; refine ⟨_, rfl, ?_⟩; obtain ⟨hcz16_0, hcz16_1, hcz16_2, hfz16_0, hfz16_1, hfz16_2⟩ := q3 BK455) | ((with_reducible refine gate_callee (f := 38) rfl ?_); refine goesL_ (some 28) rfl rfl Tryd.func38 (by kernel_rfl) rfl #[.agg #[.bool a0_0, .string a0_1, .string a0_2]] rfl ql ?_; (with_reducible refine (round_count.calls a0_0 a0_1 a0_2 t459 _ A9.out).mono ?_); rintro e w17 ⟨rfl, hb⟩; refine ⟨_, rfl, ?_⟩; replace BK455 := qb BK455 hb; replace BK456 := qb BK456 hb; replace HB := qn HB hb; (try clear hb); (try clear hb2); (try clear hk); (try clear hi)))
     (try simp only [Act.put, List.setIfInBounds_toArray, List.set_cons_zero, List.set_cons_succ])
     go_cut [] (fun wc => ∃ (kq : Nat) (x456000_9 : Bool) (x456001_9 : ByteArray) (x456002_9 : ByteArray) (x457000_9 : Bool) (x457001_9 : ByteArray) (x457002_9 : ByteArray), Aside0 (round_Significant.j0 kq a2 x456000_9 x456001_9 x456002_9 = some (r1, r2, r3, r4)) ∧ Aside0 (kq ≤ k) ∧ Aside0 (wc.heap[gb455]? = some (.cells #[.bool x456000_9, .string x456001_9, .string x456002_9] 23 (0, 0))) ∧ Aside0 (wc.heap[gb456]? = some (.cells #[.bool x457000_9, .string x457001_9, .string x457002_9] 23 (0, 0))) ∧ Aside0 (Below w.heap.size w wc))
     case first =>
      have H := HC10.out
      clear HC10
      by_cases c18 : t459 > a3
      · rw [if_pos c18] at H
        have c18b0 : decide (a3 < t459) = true := decide_eq_true c18
        clear c18
        (first | rw [c18b0] | (simp only [i64_w, i32_w]; rw [c18b0]) | skip)
        replace H := Option.bind_eq_some_iff.mp H
        obtain ⟨⟨t460, t461, t462, t463⟩, A190, H⟩ := H
        replace H : (if t463 = 0 then (round_Significant.j0 k a2 t460 t461 t462) else (some (false, (⟨#[]⟩ : ByteArray), (⟨#[]⟩ : ByteArray), t463))) = some (r1, r2, r3, r4) := H
        have A19 := Aside0.mk A190
        clear A190
        by_cases c20 : t463 = 0
        · rw [if_pos c20] at H
          have c20b0 : (t463 == 0) = true := beq_iff_eq.mpr c20
          have c20b1 : (t463 != 0) = false := bne_eq_false_iff_eq.mpr c20
          try have c20b1z := c20b1
          (try simp only [bne] at c20b1z)
          clear c20
          have H' := Aside0.mk H
          clear H
          have hnb21 := NB455_456.out
          have hnc21 := NB456_455.out
          obtain ⟨hcz22_0, hcz22_1, hcz22_2, hfz22_0, hfz22_1, hfz22_2⟩ := q3 BK455
          go_wp2_with (first | ((with_reducible refine gate_callee (f := 25) rfl ?_); refine goesL_ (some 38) rfl rfl Tryd.func25 (by kernel_rfl) rfl #[.agg #[.bool a0_0, .string a0_1, .string a0_2], .int .i64 a1, .int .i64 (wrap64 (t459 - a3))] rfl ql ?_; (with_reducible refine (round_shorten.calls k a0_0 a0_1 a0_2 a1 (wrap64 (t459 - a3)) t460 t461 t462 t463 _ A19.out).mono ?_); rintro e w23 ⟨rfl, hb⟩; refine ⟨_, rfl, ?_⟩; replace BK455 := qb BK455 hb; replace BK456 := qb BK456 hb; replace HB := qn HB hb; (try clear hb); (try clear hb2); (try clear hk); (try clear hi)) | ((with_reducible refine gate_dst (N := 12) rfl ?_); (try (refine gate_guard (by rfl) ?_; dsimp only)); refine qx 12 #[.bool false, .string (⟨#[]⟩ : ByteArray), .string (⟨#[]⟩ : ByteArray)] 23 ?_; intro gb464 hg w24 hbox hb; have BK464 := Aside0.mk (hbox); have GW464 := qs hg HB; have GE464 := GW464; have NB455_464 := ql_ hg BK455; have NB464_455 := qg_ hg BK455; have NB456_464 := ql_ hg BK456; have NB464_456 := qg_ hg BK456; replace BK455 := qb BK455 hb; replace BK456 := qb BK456 hb; replace HB := qn HB hb; clear hb hbox hg; have hnb25 := NB464_455.out; have hnc25 := NB455_464.out; have hnb26 := NB464_456.out; have hnc26 := NB456_464.out; obtain ⟨hcz27_0, hcz27_1, hcz27_2, hfz27_0, hfz27_1, hfz27_2⟩ := q3 BK464; obtain ⟨hcz28_0, hcz28_1, hcz28_2, hfz28_0, hfz28_1, hfz28_2⟩ := q3 BK455))
          go_meet
          case rel => exact ⟨_, (t460), (t461), (t462), (false), ((⟨#[]⟩ : ByteArray)), ((⟨#[]⟩ : ByteArray)), H', ⟨by first | omega | exact Nat.le_refl _⟩, ⟨by refine qp 2 #[.bool t460, .string t461, .string a0_2] ?_; refine qp 1 #[.bool t460, .string a0_1, .string a0_2] ?_; refine qp 0 #[.bool a0_0, .string a0_1, .string a0_2] ?_; refine qf NB455_464 ?_; refine qf NB455_464 ?_; refine qf NB455_464 ?_; exact qk BK455⟩, ⟨by refine qf NB456_455 ?_; refine qf NB456_455 ?_; refine qf NB456_455 ?_; refine qf NB456_464 ?_; refine qf NB456_464 ?_; refine qf NB456_464 ?_; exact qk BK456⟩, ⟨qh HB⟩⟩
        · rw [if_neg c20] at H
          have c20b0 : (t463 == 0) = false := beq_eq_false_iff_ne.mpr c20
          have c20b1 : (t463 != 0) = true := bne_iff_ne.mpr c20
          try have c20b1z := c20b1
          (try simp only [bne] at c20b1z)
          simp only [Option.some.injEq, Prod.mk.injEq] at H
          obtain ⟨rfl, rfl, rfl, rfl⟩ := H
          have hnb29 := NB455_456.out
          have hnc29 := NB456_455.out
          obtain ⟨hcz30_0, hcz30_1, hcz30_2, hfz30_0, hfz30_1, hfz30_2⟩ := q3 BK455
          go_wp2_with (first | ((with_reducible refine gate_callee (f := 25) rfl ?_); refine goesL_ (some 38) rfl rfl Tryd.func25 (by kernel_rfl) rfl #[.agg #[.bool a0_0, .string a0_1, .string a0_2], .int .i64 a1, .int .i64 (wrap64 (t459 - a3))] rfl ql ?_; (with_reducible refine (round_shorten.calls k a0_0 a0_1 a0_2 a1 (wrap64 (t459 - a3)) t460 t461 t462 t463 _ A19.out).mono ?_); rintro e w31 ⟨rfl, hb⟩; refine ⟨_, rfl, ?_⟩; replace BK455 := qb BK455 hb; replace BK456 := qb BK456 hb; replace HB := qn HB hb; (try clear hb); (try clear hb2); (try clear hk); (try clear hi)) | ((with_reducible refine gate_dst (N := 12) rfl ?_); (try (refine gate_guard (by rfl) ?_; dsimp only)); refine qx 12 #[.bool false, .string (⟨#[]⟩ : ByteArray), .string (⟨#[]⟩ : ByteArray)] 23 ?_; intro gb464 hg w32 hbox hb; have BK464 := Aside0.mk (hbox); have GW464 := qs hg HB; have GE464 := GW464; have NB455_464 := ql_ hg BK455; have NB464_455 := qg_ hg BK455; have NB456_464 := ql_ hg BK456; have NB464_456 := qg_ hg BK456; replace BK455 := qb BK455 hb; replace BK456 := qb BK456 hb; replace HB := qn HB hb; clear hb hbox hg; have hnb33 := NB464_455.out; have hnc33 := NB455_464.out; have hnb34 := NB464_456.out; have hnc34 := NB456_464.out; obtain ⟨hcz35_0, hcz35_1, hcz35_2, hfz35_0, hfz35_1, hfz35_2⟩ := q3 BK464; obtain ⟨hcz36_0, hcz36_1, hcz36_2, hfz36_0, hfz36_1, hfz36_2⟩ := q3 BK456))
          refine bodyPost_ret (results_ct rfl _ _ gb456 23 #[.bool false, .string (⟨#[]⟩ : ByteArray), .string (⟨#[]⟩ : ByteArray)] (0, 0) _ rfl (by refine qp 2 #[.bool false, .string (⟨#[]⟩ : ByteArray), .string (⟨#[]⟩ : ByteArray)] ?_; refine qp 1 #[.bool false, .string (⟨#[]⟩ : ByteArray), .string (⟨#[]⟩ : ByteArray)] ?_; refine qp 0 #[.bool false, .string (⟨#[]⟩ : ByteArray), .string (⟨#[]⟩ : ByteArray)] ?_; refine qf NB456_464 ?_; refine qf NB456_464 ?_; refine qf NB456_464 ?_; exact qk BK456) Tryd.underlying23 rfl (by kernel_rfl)) rfl ?_
          exact ⟨qe, qh HB⟩
      · rw [if_neg c18] at H
        have c18b0 : decide (a3 < t459) = false := decide_eq_false c18
        clear c18
        (first | rw [c18b0] | (simp only [i64_w, i32_w]; rw [c18b0]) | skip)
        have H' := Aside0.mk H
        clear H
        go_wp2
        go_meet
        case rel => exact ⟨_, (a0_0), (a0_1), (a0_2), (false), ((⟨#[]⟩ : ByteArray)), ((⟨#[]⟩ : ByteArray)), H', ⟨by first | omega | exact Nat.le_refl _⟩, ⟨qk BK455⟩, ⟨qk BK456⟩, ⟨qh HB⟩⟩
     case rest =>
      clear HC10
      try clear c1
      try clear c2
      try clear p2
      try clear c3
      try clear c6
      try clear c6b0
      try clear c6b1
      try clear p6
      try clear c8
      try clear c13
      try clear c18
      try clear c18b0
      try clear c20
      try clear c20b0
      try clear c20b1
      try clear c21
      try clear c24
      try clear c25
      try clear c26
      try clear c29
      try clear c33
      try clear c34
      try clear c35
      try clear hcz14_0
      try clear hcz14_1
      try clear hcz14_2
      try clear hcz16_0
      try clear hcz16_1
      try clear hcz16_2
      try clear hcz22_0
      try clear hcz22_1
      try clear hcz22_2
      try clear hcz27_0
      try clear hcz27_1
      try clear hcz27_2
      try clear hcz28_0
      try clear hcz28_1
      try clear hcz28_2
      try clear hcz30_0
      try clear hcz30_1
      try clear hcz30_2
      try clear hcz35_0
      try clear hcz35_1
      try clear hcz35_2
      try clear hcz36_0
      try clear hcz36_1
      try clear hcz36_2
      try clear hfz14_0
      try clear hfz14_1
      try clear hfz14_2
      try clear hfz16_0
      try clear hfz16_1
      try clear hfz16_2
      try clear hfz22_0
      try clear hfz22_1
      try clear hfz22_2
      try clear hfz27_0
      try clear hfz27_1
      try clear hfz27_2
      try clear hfz28_0
      try clear hfz28_1
      try clear hfz28_2
      try clear hfz30_0
      try clear hfz30_1
      try clear hfz30_2
      try clear hfz35_0
      try clear hfz35_1
      try clear hfz35_2
      try clear hfz36_0
      try clear hfz36_1
      try clear hfz36_2
      obtain ⟨kq, x456000_9, x456001_9, x456002_9, x457000_9, x457001_9, x457002_9, HA, HJ9, BK455, BK456, HB⟩ := hcut
      cases kq with
      | zero => exact absurd HA.out (by simp [round_Significant.j0])
      | succ kj9 =>
       have H := HA.out
       clear HA
       simp only [round_Significant.j0] at H
       have HC37 := Aside0.mk H
       clear H
       go_upto_block 0 with (fail)
       go_cut [] (fun wc => ∃ (kq : Nat) (x456002_36 : ByteArray), Aside0 (round_Significant.j2 kq a2 x456000_9 x456001_9 x456002_36 = some (r1, r2, r3, r4)) ∧ Aside0 (kq ≤ kj9) ∧ Aside0 (wc.heap[gb455]? = some (.cells #[.bool x456000_9, .string x456001_9, .string x456002_36] 23 (0, 0))) ∧ Aside0 (wc.heap[gb456]? = some (.cells #[.bool x457000_9, .string x457001_9, .string x457002_9] 23 (0, 0))) ∧ Aside0 (Below w.heap.size w wc))
       case first =>
        have H := HC37.out
        clear HC37
        have H' := Aside0.mk H
        clear H
        go_wp2
        (try simp only [Act.put, List.setIfInBounds_toArray, List.set_cons_zero, List.set_cons_succ])
        go_loopg [] kj9 (fun kq w' => ∃ (x456002_2 : ByteArray), Aside0 (round_Significant.l0 kq a2 x456000_9 x456001_9 x456002_2 = some (r1, r2, r3, r4)) ∧ Aside0 (kq ≤ kj9) ∧ Aside0 (w'.heap[gb455]? = some (.cells #[.bool x456000_9, .string x456001_9, .string x456002_2] 23 (0, 0))) ∧ Aside0 (w'.heap[gb456]? = some (.cells #[.bool x457000_9, .string x457001_9, .string x457002_9] 23 (0, 0))) ∧ Aside0 (Below w.heap.size w w'))
        case atStart => exact ⟨(x456002_9), H', ⟨Nat.le_refl _⟩, ⟨qk BK455⟩, ⟨qk BK456⟩, ⟨qh HB⟩⟩
        case round =>
         clear H'
         try clear c1
         try clear c2
         try clear p2
         try clear c3
         try clear c6
         try clear c6b0
         try clear c6b1
         try clear p6
         try clear c8
         try clear c13
         try clear c18
         try clear c18b0
         try clear c20
         try clear c20b0
         try clear c20b1
         try clear c21
         try clear c24
         try clear c25
         try clear c26
         try clear c29
         try clear c33
         try clear c34
         try clear c35
         try clear hcz14_0
         try clear hcz14_1
         try clear hcz14_2
         try clear hcz16_0
         try clear hcz16_1
         try clear hcz16_2
         try clear hcz22_0
         try clear hcz22_1
         try clear hcz22_2
         try clear hcz27_0
         try clear hcz27_1
         try clear hcz27_2
         try clear hcz28_0
         try clear hcz28_1
         try clear hcz28_2
         try clear hcz30_0
         try clear hcz30_1
         try clear hcz30_2
         try clear hcz35_0
         try clear hcz35_1
         try clear hcz35_2
         try clear hcz36_0
         try clear hcz36_1
         try clear hcz36_2
         try clear hfz14_0
         try clear hfz14_1
         try clear hfz14_2
         try clear hfz16_0
         try clear hfz16_1
         try clear hfz16_2
         try clear hfz22_0
         try clear hfz22_1
         try clear hfz22_2
         try clear hfz27_0
         try clear hfz27_1
         try clear hfz27_2
         try clear hfz28_0
         try clear hfz28_1
         try clear hfz28_2
         try clear hfz30_0
         try clear hfz30_1
         try clear hfz30_2
         try clear hfz35_0
         try clear hfz35_1
         try clear hfz35_2
         try clear hfz36_0
         try clear hfz36_1
         try clear hfz36_2
         try clear p2
         try clear p6
         obtain ⟨x456002_2, HA, HK2, BK455, BK456, HB⟩ := hrel
         cases gk with
         | zero => exact absurd HA.out (by simp [round_Significant.l0])
         | succ k2 =>
          have H := HA.out
          clear HA
          simp only [round_Significant.l0] at H
          by_cases c38 : x456002_2.toList = ([] : List UInt8)
          · rw [if_pos c38] at H
            have c38b0 : (x456002_2.toList == ([] : List UInt8)) = true := beq_iff_eq.mpr c38
            try have c38b0z := Aid.empty_of c38b0
            have c38b1 : (x456002_2.toList != ([] : List UInt8)) = false := bne_eq_false_iff_eq.mpr c38
            clear c38
            (first | rw [c38b0] | rw [c38b0z] | (simp only [i64_w, i32_w]; rw [c38b0]) | skip)
            have H' := Aside0.mk H
            clear H
            have hnb39 := NB455_456.out
            have hnc39 := NB456_455.out
            obtain ⟨hcz40_0, hcz40_1, hcz40_2, hfz40_0, hfz40_1, hfz40_2⟩ := q3 BK455
            go_wp2
            go_meet
            case rel => exact ⟨_, (x456002_2), H', ⟨by have := HJ9.out; have := HK2.out; first | omega | exact Nat.le_refl _⟩, ⟨qk BK455⟩, ⟨qk BK456⟩, ⟨qh HB⟩⟩
          · rw [if_neg c38] at H
            have c38b0 : (x456002_2.toList == ([] : List UInt8)) = false := beq_eq_false_iff_ne.mpr c38
            try have c38b0z := Aid.empty_of c38b0
            have c38b1 : (x456002_2.toList != ([] : List UInt8)) = true := bne_iff_ne.mpr c38
            (first | rw [c38b0] | rw [c38b0z] | (simp only [i64_w, i32_w]; rw [c38b0]) | skip)
            obtain ⟨ji41, hji41⟩ : ∃ j_ : Int, (wrap64 ((x456002_2.size : Int) - 1)) = j_ := ⟨_, rfl⟩
            replace H : (if 0 ≤ (ji41) then (if (ji41) < (x456002_2.size : Int) then (if (bt x456002_2 (ji41)) = 48 then ((round_count.f x456000_9 x456001_9 x456002_2).bind fun t465 => (if t465 > a2 then (if (ji41) ≤ (x456002_2.size : Int) then (round_Significant.l0 k2 a2 x456000_9 x456001_9 (x456002_2.extract 0 ((ji41) : Int).toNat)) else (none)) else (round_Significant.j2 k2 a2 x456000_9 x456001_9 x456002_2))) else (round_Significant.j2 k2 a2 x456000_9 x456001_9 x456002_2)) else (none)) else (none)) = some (r1, r2, r3, r4) := by first | (rw [hji41] at H; exact H) | (simp only [hji41] at H ⊢; exact H)
            have hji41w : (IntKind.i64.wrap ((x456002_2.size : Int) - 1)) = ji41 := (i64_w _).trans hji41
            by_cases c42 : 0 ≤ (ji41)
            · rw [if_pos c42] at H
              have c42b0 : decide (0 ≤ (ji41)) = true := decide_eq_true c42
              clear c42
              by_cases c43 : (ji41) < (x456002_2.size : Int)
              · rw [if_pos c43] at H
                have c43b0 : decide ((ji41) < (x456002_2.size : Int)) = true := decide_eq_true c43
                clear c43
                by_cases c45 : (bt x456002_2 (ji41)) = 48
                · rw [if_pos c45] at H
                  have c45b0 : ((bt x456002_2 (ji41)) == 48) = true := beq_iff_eq.mpr c45
                  have c45b1 : ((bt x456002_2 (ji41)) != 48) = false := bne_eq_false_iff_eq.mpr c45
                  clear c45
                  replace H := Option.bind_eq_some_iff.mp H
                  obtain ⟨t465, A460, H⟩ := H
                  replace H : (if t465 > a2 then (if (ji41) ≤ (x456002_2.size : Int) then (round_Significant.l0 k2 a2 x456000_9 x456001_9 (x456002_2.extract 0 ((ji41) : Int).toNat)) else (none)) else (round_Significant.j2 k2 a2 x456000_9 x456001_9 x456002_2)) = some (r1, r2, r3, r4) := H
                  have A46 := Aside0.mk A460
                  clear A460
                  by_cases c47 : t465 > a2
                  · rw [if_pos c47] at H
                    have c47b0 : decide (a2 < t465) = true := decide_eq_true c47
                    clear c47
                    have c48b0 := eq_true (of_decide_eq_true qa : 0 ≤ (ji41))
                    by_cases c49 : (ji41) ≤ (x456002_2.size : Int)
                    · rw [if_pos c49] at H
                      have c49b0 := eq_true c49
                      have c49b1 : decide ((ji41) ≤ (x456002_2.size : Int)) = true := decide_eq_true c49
                      clear c49
                      have H' := Aside0.mk H
                      clear H
                      have hnb50 := NB455_456.out
                      have hnc50 := NB456_455.out
                      obtain ⟨hcz51_0, hcz51_1, hcz51_2, hfz51_0, hfz51_1, hfz51_2⟩ := q3 BK455
                      have p44 : 0 ≤ ((ji41) : Int) := of_decide_eq_true qa
                      have q44 : (ji41) < (x456002_2.size : Int) := of_decide_eq_true qa
                      have hx44 := bt_at x456002_2 (ji41)
                      replace p44 := eq_true p44
                      replace q44 := eq_true q44
                      go_wp2_with (first | (go_at_call 38; (with_reducible refine (round_count.calls x456000_9 x456001_9 x456002_2 t465 _ A46.out).mono ?_); rintro e w52 ⟨rfl, hb⟩; replace BK455 := qb BK455 hb; replace BK456 := qb BK456 hb; replace HB := qn HB hb; (try clear hb); (try clear hb2); (try clear hk); (try clear hi); obtain ⟨hcz53_0, hcz53_1, hcz53_2, hfz53_0, hfz53_1, hfz53_2⟩ := q3 BK455))
                      go_roundg k2
                      case measure => have := HJ9.out; have := HK2.out; omega
                      case rel => exact ⟨(x456002_2.extract 0 ((ji41) : Int).toNat), H', ⟨by have := HJ9.out; have := HK2.out; omega⟩, ⟨by refine qp 2 #[.bool x456000_9, .string x456001_9, .string x456002_2] ?_; exact qk BK455⟩, ⟨by refine qf NB456_455 ?_; exact qk BK456⟩, ⟨qh HB⟩⟩
                    · rw [if_neg c49] at H
                      exact absurd H (by simp)
                  · rw [if_neg c47] at H
                    have c47b0 : decide (a2 < t465) = false := decide_eq_false c47
                    clear c47
                    have H' := Aside0.mk H
                    clear H
                    have hnb54 := NB455_456.out
                    have hnc54 := NB456_455.out
                    obtain ⟨hcz55_0, hcz55_1, hcz55_2, hfz55_0, hfz55_1, hfz55_2⟩ := q3 BK455
                    have p44 : 0 ≤ ((ji41) : Int) := of_decide_eq_true qa
                    have q44 : (ji41) < (x456002_2.size : Int) := of_decide_eq_true qa
                    have hx44 := bt_at x456002_2 (ji41)
                    replace p44 := eq_true p44
                    replace q44 := eq_true q44
                    go_wp2_with (first | (go_at_call 38; (with_reducible refine (round_count.calls x456000_9 x456001_9 x456002_2 t465 _ A46.out).mono ?_); rintro e w56 ⟨rfl, hb⟩; replace BK455 := qb BK455 hb; replace BK456 := qb BK456 hb; replace HB := qn HB hb; (try clear hb); (try clear hb2); (try clear hk); (try clear hi)))
                    go_meet
                    case rel => exact ⟨_, (x456002_2), H', ⟨by have := HJ9.out; have := HK2.out; first | omega | exact Nat.le_refl _⟩, ⟨qk BK455⟩, ⟨qk BK456⟩, ⟨qh HB⟩⟩
                · rw [if_neg c45] at H
                  have c45b0 : ((bt x456002_2 (ji41)) == 48) = false := beq_eq_false_iff_ne.mpr c45
                  have c45b1 : ((bt x456002_2 (ji41)) != 48) = true := bne_iff_ne.mpr c45
                  have H' := Aside0.mk H
                  clear H
                  have hnb57 := NB455_456.out
                  have hnc57 := NB456_455.out
                  obtain ⟨hcz58_0, hcz58_1, hcz58_2, hfz58_0, hfz58_1, hfz58_2⟩ := q3 BK455
                  have p44 : 0 ≤ ((ji41) : Int) := of_decide_eq_true qa
                  have q44 : (ji41) < (x456002_2.size : Int) := of_decide_eq_true qa
                  have hx44 := bt_at x456002_2 (ji41)
                  replace p44 := eq_true p44
                  replace q44 := eq_true q44
                  go_wp2
                  go_meet
                  case rel => exact ⟨_, (x456002_2), H', ⟨by have := HJ9.out; have := HK2.out; first | omega | exact Nat.le_refl _⟩, ⟨qk BK455⟩, ⟨qk BK456⟩, ⟨qh HB⟩⟩
              · rw [if_neg c43] at H
                exact absurd H (by simp)
            · rw [if_neg c42] at H
              exact absurd H (by simp)
       case rest =>
        clear HC37
        try clear c1
        try clear c2
        try clear p2
        try clear c3
        try clear c4
        try clear p4
        try clear q4
        try clear hx4
        try clear c5
        try clear c6
        try clear c6b0
        try clear c6b1
        try clear p6
        try clear c8
        try clear c13
        try clear c18
        try clear c18b0
        try clear c20
        try clear c20b0
        try clear c20b1
        try clear c21
        try clear c24
        try clear c25
        try clear c26
        try clear c29
        try clear c33
        try clear c34
        try clear c35
        try clear c38
        try clear c38b0
        try clear c38b1
        try clear c39
        try clear c42
        try clear c42b0
        try clear c43
        try clear c43b0
        try clear p44
        try clear q44
        try clear hx44
        try clear c45
        try clear c45b0
        try clear c45b1
        try clear c47
        try clear c47b0
        try clear c48
        try clear c48b0
        try clear c49
        try clear c49b0
        try clear c49b1
        try clear c50
        try clear c54
        try clear c57
        try clear hcz14_0
        try clear hcz14_1
        try clear hcz14_2
        try clear hcz16_0
        try clear hcz16_1
        try clear hcz16_2
        try clear hcz22_0
        try clear hcz22_1
        try clear hcz22_2
        try clear hcz27_0
        try clear hcz27_1
        try clear hcz27_2
        try clear hcz28_0
        try clear hcz28_1
        try clear hcz28_2
        try clear hcz30_0
        try clear hcz30_1
        try clear hcz30_2
        try clear hcz35_0
        try clear hcz35_1
        try clear hcz35_2
        try clear hcz36_0
        try clear hcz36_1
        try clear hcz36_2
        try clear hcz40_0
        try clear hcz40_1
        try clear hcz40_2
        try clear hcz51_0
        try clear hcz51_1
        try clear hcz51_2
        try clear hcz53_0
        try clear hcz53_1
        try clear hcz53_2
        try clear hcz55_0
        try clear hcz55_1
        try clear hcz55_2
        try clear hcz58_0
        try clear hcz58_1
        try clear hcz58_2
        try clear hfz14_0
        try clear hfz14_1
        try clear hfz14_2
        try clear hfz16_0
        try clear hfz16_1
        try clear hfz16_2
        try clear hfz22_0
        try clear hfz22_1
        try clear hfz22_2
        try clear hfz27_0
        try clear hfz27_1
        try clear hfz27_2
        try clear hfz28_0
        try clear hfz28_1
        try clear hfz28_2
        try clear hfz30_0
        try clear hfz30_1
        try clear hfz30_2
        try clear hfz35_0
        try clear hfz35_1
        try clear hfz35_2
        try clear hfz36_0
        try clear hfz36_1
        try clear hfz36_2
        try clear hfz40_0
        try clear hfz40_1
        try clear hfz40_2
        try clear hfz51_0
        try clear hfz51_1
        try clear hfz51_2
        try clear hfz53_0
        try clear hfz53_1
        try clear hfz53_2
        try clear hfz55_0
        try clear hfz55_1
        try clear hfz55_2
        try clear hfz58_0
        try clear hfz58_1
        try clear hfz58_2
        try clear p2
        try clear p44
        try clear p6
        try clear q44
        obtain ⟨kq, x456002_36, HA, HJ36, BK455, BK456, HB⟩ := hcut
        cases kq with
        | zero => exact absurd HA.out (by simp [round_Significant.j2])
        | succ kj36 =>
         have H := HA.out
         clear HA
         simp only [round_Significant.j2] at H
         replace H := Option.bind_eq_some_iff.mp H
         obtain ⟨t466, A590, H⟩ := H
         replace H : (if t466 < a2 then ((strings_Repeat.f (⟨#[48]⟩ : ByteArray) (wrap64 (a2 - t466))).bind fun t467 => (if x456002_36.size + t467.size ≤ 9223372036854775807 then (if (wrap64 ((x456001_9.size : Int) + ((x456002_36 ++ t467).size : Int))) > 40 then (some (false, (⟨#[]⟩ : ByteArray), (⟨#[]⟩ : ByteArray), 3)) else (some (x456000_9, x456001_9, x456002_36 ++ t467, 0))) else (none))) else (if (wrap64 ((x456001_9.size : Int) + (x456002_36.size : Int))) > 40 then (some (false, (⟨#[]⟩ : ByteArray), (⟨#[]⟩ : ByteArray), 3)) else (some (x456000_9, x456001_9, x456002_36, 0)))) = some (r1, r2, r3, r4) := H
         have A59 := Aside0.mk A590
         clear A590
         by_cases c60 : t466 < a2
         · rw [if_pos c60] at H
           have c60b0 : decide (t466 < a2) = true := decide_eq_true c60
           clear c60
           replace H := Option.bind_eq_some_iff.mp H
           obtain ⟨t467, A610, H⟩ := H
           replace H : (if x456002_36.size + t467.size ≤ 9223372036854775807 then (if (wrap64 ((x456001_9.size : Int) + ((x456002_36 ++ t467).size : Int))) > 40 then (some (false, (⟨#[]⟩ : ByteArray), (⟨#[]⟩ : ByteArray), 3)) else (some (x456000_9, x456001_9, x456002_36 ++ t467, 0))) else (none)) = some (r1, r2, r3, r4) := H
           have A61 := Aside0.mk A610
           clear A610
           by_cases c62 : x456002_36.size + t467.size ≤ 9223372036854775807
           · rw [if_pos c62] at H
             have c62b0 := eq_true c62
             have c62b1 : decide (x456002_36.size + t467.size ≤ 9223372036854775807) = true := decide_eq_true c62
             try have c62b2 : (9223372036854775807 < x456002_36.size + t467.size) = False := eq_false (Nat.not_lt.2 c62)
             by_cases c63 : (wrap64 ((x456001_9.size : Int) + ((x456002_36 ++ t467).size : Int))) > 40
             · rw [if_pos c63] at H
               have c63b0 : decide (40 < (wrap64 ((x456001_9.size : Int) + ((x456002_36 ++ t467).size : Int)))) = true := decide_eq_true c63
               try have c63b0z := c63b0
               (try simp only [go_sem, ByteArray.size_extract, ByteArray.size_append, Nat.min_self, Int.natCast_add] at c63b0z)
               clear c63
               simp only [Option.some.injEq, Prod.mk.injEq] at H
               obtain ⟨rfl, rfl, rfl, rfl⟩ := H
               have hnb64 := NB455_456.out
               have hnc64 := NB456_455.out
               obtain ⟨hcz65_0, hcz65_1, hcz65_2, hfz65_0, hfz65_1, hfz65_2⟩ := q3 BK455
               try go_wp2_with (first | ((with_reducible refine gate_callee (f := 38) rfl ?_); refine goesL_ (some 74) rfl rfl Tryd.func38 (by kernel_rfl) rfl #[.agg #[.bool x456000_9, .string x456001_9, .string x456002_36]] rfl ql ?_; (with_reducible refine (round_count.calls x456000_9 x456001_9 x456002_36 t466 _ A59.out).mono ?_); rintro e w66 ⟨rfl, hb⟩; refine ⟨_, rfl, ?_⟩; replace BK455 := qb BK455 hb; replace BK456 := qb BK456 hb; replace HB := qn HB hb; (try clear hb); (try clear hb2); (try clear hk); (try clear hi)))
               replace BK455 := Aside0.mk (blk_drew BK455.out)
               replace BK456 := Aside0.mk (blk_drew BK456.out)
               replace HB := Aside0.mk (below_drew1 HB.out)
               refine start_ (n := 9) (S := fun w' => w'.cell? ⟨gb455, 0, none⟩ = some (.bool x456000_9) ∧ w'.cell? ⟨gb455, 1, none⟩ = some (.string x456001_9) ∧ w'.cell? ⟨gb455, 2, none⟩ = some (.string x456002_36)) (ds := [8]) #[false, false, false, false, false, false, false, false, false] (by kernel_rfl) rfl rfl ⟨c_ BK455 0, c_ BK455 1, c_ BK455 2⟩ (fun hHeld => ?_); refine with_tabW round_Significant.tab16 round_Significant.bits16 (fun HT_ HW_ => ?_)
               generalize w66.drew = w67 at BK455 BK456 HB hHeld ⊢
               refine pz 0 (some 78) #[true, false, false, false, false, false, false, false, false] HT_ ?_
               refine pz 2 (some 80) #[true, false, true, false, false, false, false, false, false] HT_ ?_
               refine pz 3 (some 81) #[true, false, true, true, false, false, false, false, false] HT_ ?_
               refine pz 4 (some 82) #[true, false, true, true, true, false, false, false, false] HT_ ?_
               refine tw3 1 (some 79) #[true, true, true, true, true, false, false, false, false] HT_ HW_ hHeld ?_
               refine one_ (i := 5) (N := some 83) #[true, true, true, true, true, true, false, false, false] rfl rfl (one_of HT_.out (by kernel_rfl)) (by decide) (fun K hK => ?_)
               refine goes_ Tryd.func39 (by kernel_rfl) rfl #[.string (⟨#[48]⟩ : ByteArray), .int .i64 (wrap64 (a2 - t466))] (by rfl) rfl rfl ql ?_
               with_reducible refine (strings_Repeat.calls (⟨#[48]⟩ : ByteArray) (wrap64 (a2 - t466)) t467 _ A61.out).mono ?_
               rintro e w68 ⟨rfl, hb⟩
               refine ⟨_, rfl, ?_⟩
               replace BK455 := qb BK455 hb
               replace BK456 := qb BK456 hb
               replace HB := qn HB hb
               (try clear hb)
               (try clear hb2)
               (try clear hk)
               (try clear hi)
               refine hK.out _ _ ⟨c_ BK455 0, c_ BK455 1, c_ BK455 2⟩ (fun hHeld => ?_)
               clear hK K
               refine nz (some 83) ?_
               refine pz 6 (some 84) #[true, true, true, true, true, true, true, false, false] HT_ ?_
               refine pz 7 (some 85) #[true, true, true, true, true, true, true, true, false] HT_ ?_
               refine last_ (i := 8) (N := none) #[true, true, true, true, true, true, true, true, true] rfl rfl (one_of HT_.out (by kernel_rfl)) (by decide) (fun K hK => ?_)
               have hs69 : w68.cell? ⟨gb455, 2, none⟩ = some (.string x456002_36) := c_ BK455 2
               have hfs69 := blk_frozen BK455.out 2
               have hns69_1 := NB456_455.out
               have hms69_1 := NB455_456.out
               refine skip_ (w1 := ?_) (by rfl) rfl ?_ ?_
               rotate_left
               · go_simp
                 rfl
               refine hK.out _ _ ?_
               clear hK K
               refine done_ (done_of HT_.out (by kernel_rfl)) ?_
               obtain ⟨hcz70_0, hcz70_1, hcz70_2, hfz70_0, hfz70_1, hfz70_2⟩ := q3 BK455
               obtain ⟨hcz71_0, hcz71_1, hcz71_2, hfz71_0, hfz71_1, hfz71_2⟩ := q3 BK456
               try go_wp2
               refine bodyPost_ret (results_ct rfl _ _ gb456 23 #[.bool false, .string (⟨#[]⟩ : ByteArray), .string (⟨#[]⟩ : ByteArray)] (0, 0) _ rfl (by refine qp 2 #[.bool false, .string (⟨#[]⟩ : ByteArray), .string x457002_9] ?_; refine qp 1 #[.bool false, .string x457001_9, .string x457002_9] ?_; refine qp 0 #[.bool x457000_9, .string x457001_9, .string x457002_9] ?_; refine qf NB456_455 ?_; exact qk BK456) Tryd.underlying23 rfl (by kernel_rfl)) rfl ?_
               exact ⟨qe, qh HB⟩
             · rw [if_neg c63] at H
               have c63b0 : decide (40 < (wrap64 ((x456001_9.size : Int) + ((x456002_36 ++ t467).size : Int)))) = false := decide_eq_false c63
               try have c63b0z := c63b0
               (try simp only [go_sem, ByteArray.size_extract, ByteArray.size_append, Nat.min_self, Int.natCast_add] at c63b0z)
               clear c63
               simp only [Option.some.injEq, Prod.mk.injEq] at H
               obtain ⟨rfl, rfl, rfl, rfl⟩ := H
               have hnb72 := NB455_456.out
               have hnc72 := NB456_455.out
               obtain ⟨hcz73_0, hcz73_1, hcz73_2, hfz73_0, hfz73_1, hfz73_2⟩ := q3 BK455
               try go_wp2_with (first | ((with_reducible refine gate_callee (f := 38) rfl ?_); refine goesL_ (some 74) rfl rfl Tryd.func38 (by kernel_rfl) rfl #[.agg #[.bool x456000_9, .string x456001_9, .string x456002_36]] rfl ql ?_; (with_reducible refine (round_count.calls x456000_9 x456001_9 x456002_36 t466 _ A59.out).mono ?_); rintro e w74 ⟨rfl, hb⟩; refine ⟨_, rfl, ?_⟩; replace BK455 := qb BK455 hb; replace BK456 := qb BK456 hb; replace HB := qn HB hb; (try clear hb); (try clear hb2); (try clear hk); (try clear hi)))
               replace BK455 := Aside0.mk (blk_drew BK455.out)
               replace BK456 := Aside0.mk (blk_drew BK456.out)
               replace HB := Aside0.mk (below_drew1 HB.out)
               refine start_ (n := 9) (S := fun w' => w'.cell? ⟨gb455, 0, none⟩ = some (.bool x456000_9) ∧ w'.cell? ⟨gb455, 1, none⟩ = some (.string x456001_9) ∧ w'.cell? ⟨gb455, 2, none⟩ = some (.string x456002_36)) (ds := [8]) #[false, false, false, false, false, false, false, false, false] (by kernel_rfl) rfl rfl ⟨c_ BK455 0, c_ BK455 1, c_ BK455 2⟩ (fun hHeld => ?_); refine with_tabW round_Significant.tab16 round_Significant.bits16 (fun HT_ HW_ => ?_)
               generalize w74.drew = w75 at BK455 BK456 HB hHeld ⊢
               refine pz 0 (some 78) #[true, false, false, false, false, false, false, false, false] HT_ ?_
               refine pz 2 (some 80) #[true, false, true, false, false, false, false, false, false] HT_ ?_
               refine pz 3 (some 81) #[true, false, true, true, false, false, false, false, false] HT_ ?_
               refine pz 4 (some 82) #[true, false, true, true, true, false, false, false, false] HT_ ?_
               refine tw3 1 (some 79) #[true, true, true, true, true, false, false, false, false] HT_ HW_ hHeld ?_
               refine one_ (i := 5) (N := some 83) #[true, true, true, true, true, true, false, false, false] rfl rfl (one_of HT_.out (by kernel_rfl)) (by decide) (fun K hK => ?_)
               refine goes_ Tryd.func39 (by kernel_rfl) rfl #[.string (⟨#[48]⟩ : ByteArray), .int .i64 (wrap64 (a2 - t466))] (by rfl) rfl rfl ql ?_
               with_reducible refine (strings_Repeat.calls (⟨#[48]⟩ : ByteArray) (wrap64 (a2 - t466)) t467 _ A61.out).mono ?_
               rintro e w76 ⟨rfl, hb⟩
               refine ⟨_, rfl, ?_⟩
               replace BK455 := qb BK455 hb
               replace BK456 := qb BK456 hb
               replace HB := qn HB hb
               (try clear hb)
               (try clear hb2)
               (try clear hk)
               (try clear hi)
               refine hK.out _ _ ⟨c_ BK455 0, c_ BK455 1, c_ BK455 2⟩ (fun hHeld => ?_)
               clear hK K
               refine nz (some 83) ?_
               refine pz 6 (some 84) #[true, true, true, true, true, true, true, false, false] HT_ ?_
               refine pz 7 (some 85) #[true, true, true, true, true, true, true, true, false] HT_ ?_
               refine last_ (i := 8) (N := none) #[true, true, true, true, true, true, true, true, true] rfl rfl (one_of HT_.out (by kernel_rfl)) (by decide) (fun K hK => ?_)
               have hs77 : w76.cell? ⟨gb455, 2, none⟩ = some (.string x456002_36) := c_ BK455 2
               have hfs77 := blk_frozen BK455.out 2
               have hns77_1 := NB456_455.out
               have hms77_1 := NB455_456.out
               refine skip_ (w1 := ?_) (by rfl) rfl ?_ ?_
               rotate_left
               · go_simp
                 rfl
               refine hK.out _ _ ?_
               clear hK K
               refine done_ (done_of HT_.out (by kernel_rfl)) ?_
               obtain ⟨hcz78_0, hcz78_1, hcz78_2, hfz78_0, hfz78_1, hfz78_2⟩ := q3 BK455
               obtain ⟨hcz79_0, hcz79_1, hcz79_2, hfz79_0, hfz79_1, hfz79_2⟩ := q3 BK456
               try go_wp2
               refine bodyPost_ret (results_ct rfl _ _ gb456 23 #[.bool x456000_9, .string x456001_9, .string (x456002_36 ++ t467)] (0, 0) _ rfl (by refine qp 2 #[.bool x456000_9, .string x456001_9, .string x457002_9] ?_; refine qp 1 #[.bool x456000_9, .string x457001_9, .string x457002_9] ?_; refine qp 0 #[.bool x457000_9, .string x457001_9, .string x457002_9] ?_; refine qf NB456_455 ?_; exact qk BK456) Tryd.underlying23 rfl (by kernel_rfl)) rfl ?_
               exact ⟨qe, qh HB⟩
           · rw [if_neg c62] at H
             exact absurd H (by simp)
         · rw [if_neg c60] at H
           have c60b0 : decide (t466 < a2) = false := decide_eq_false c60
           clear c60
           by_cases c80 : (wrap64 ((x456001_9.size : Int) + (x456002_36.size : Int))) > 40
           · rw [if_pos c80] at H
             have c80b0 : decide (40 < (wrap64 ((x456001_9.size : Int) + (x456002_36.size : Int)))) = true := decide_eq_true c80
             clear c80
             simp only [Option.some.injEq, Prod.mk.injEq] at H
             obtain ⟨rfl, rfl, rfl, rfl⟩ := H
             have hnb81 := NB455_456.out
             have hnc81 := NB456_455.out
             obtain ⟨hcz82_0, hcz82_1, hcz82_2, hfz82_0, hfz82_1, hfz82_2⟩ := q3 BK455
             go_wp2_with (first | ((with_reducible refine gate_callee (f := 38) rfl ?_); refine goesL_ (some 74) rfl rfl Tryd.func38 (by kernel_rfl) rfl #[.agg #[.bool x456000_9, .string x456001_9, .string x456002_36]] rfl ql ?_; (with_reducible refine (round_count.calls x456000_9 x456001_9 x456002_36 t466 _ A59.out).mono ?_); rintro e w83 ⟨rfl, hb⟩; refine ⟨_, rfl, ?_⟩; replace BK455 := qb BK455 hb; replace BK456 := qb BK456 hb; replace HB := qn HB hb; (try clear hb); (try clear hb2); (try clear hk); (try clear hi); obtain ⟨hcz84_0, hcz84_1, hcz84_2, hfz84_0, hfz84_1, hfz84_2⟩ := q3 BK455; obtain ⟨hcz85_0, hcz85_1, hcz85_2, hfz85_0, hfz85_1, hfz85_2⟩ := q3 BK456))
             refine bodyPost_ret (results_ct rfl _ _ gb456 23 #[.bool false, .string (⟨#[]⟩ : ByteArray), .string (⟨#[]⟩ : ByteArray)] (0, 0) _ rfl (by refine qp 2 #[.bool false, .string (⟨#[]⟩ : ByteArray), .string x457002_9] ?_; refine qp 1 #[.bool false, .string x457001_9, .string x457002_9] ?_; refine qp 0 #[.bool x457000_9, .string x457001_9, .string x457002_9] ?_; exact qk BK456) Tryd.underlying23 rfl (by kernel_rfl)) rfl ?_
             exact ⟨qe, qh HB⟩
           · rw [if_neg c80] at H
             have c80b0 : decide (40 < (wrap64 ((x456001_9.size : Int) + (x456002_36.size : Int)))) = false := decide_eq_false c80
             clear c80
             simp only [Option.some.injEq, Prod.mk.injEq] at H
             obtain ⟨rfl, rfl, rfl, rfl⟩ := H
             have hnb86 := NB455_456.out
             have hnc86 := NB456_455.out
             obtain ⟨hcz87_0, hcz87_1, hcz87_2, hfz87_0, hfz87_1, hfz87_2⟩ := q3 BK455
             go_wp2_with (first | ((with_reducible refine gate_callee (f := 38) rfl ?_); refine goesL_ (some 74) rfl rfl Tryd.func38 (by kernel_rfl) rfl #[.agg #[.bool x456000_9, .string x456001_9, .string x456002_36]] rfl ql ?_; (with_reducible refine (round_count.calls x456000_9 x456001_9 x456002_36 t466 _ A59.out).mono ?_); rintro e w88 ⟨rfl, hb⟩; refine ⟨_, rfl, ?_⟩; replace BK455 := qb BK455 hb; replace BK456 := qb BK456 hb; replace HB := qn HB hb; (try clear hb); (try clear hb2); (try clear hk); (try clear hi); obtain ⟨hcz89_0, hcz89_1, hcz89_2, hfz89_0, hfz89_1, hfz89_2⟩ := q3 BK455; obtain ⟨hcz90_0, hcz90_1, hcz90_2, hfz90_0, hfz90_1, hfz90_2⟩ := q3 BK456))
             refine bodyPost_ret (results_ct rfl _ _ gb456 23 #[.bool x456000_9, .string x456001_9, .string x456002_36] (0, 0) _ rfl (by refine qp 2 #[.bool x456000_9, .string x456001_9, .string x457002_9] ?_; refine qp 1 #[.bool x456000_9, .string x457001_9, .string x457002_9] ?_; refine qp 0 #[.bool x457000_9, .string x457001_9, .string x457002_9] ?_; exact qk BK456) Tryd.underlying23 rfl (by kernel_rfl)) rfl ?_
             exact ⟨qe, qh HB⟩
   · replace c8 := Bool.eq_false_iff.mpr c8
     subst c8
     have H1 : (some (false, (⟨#[]⟩ : ByteArray), (⟨#[]⟩ : ByteArray), 1)) = some (r1, r2, r3, r4) := by rw [if_neg (show ¬ (false = true) by decide)] at H; exact H
     clear H
     have H := H1
     clear H1
     simp only [Option.some.injEq, Prod.mk.injEq] at H
     obtain ⟨rfl, rfl, rfl, rfl⟩ := H
     go_enter Tryd.func20, Tryd.ntmps20
     go_wp2_with (first | ((with_reducible refine gate_dst (N := 4) rfl ?_); (try (refine gate_guard (by rfl) ?_; dsimp only)); refine qx 4 #[.bool a0_0, .string a0_1, .string a0_2] 23 ?_; intro gb455 hg w91 hbox hb; have BK455 := Aside0.mk (hbox); have GW455 := qs hg HB; have GE455 := GW455; replace HB := qn HB hb; clear hb hbox hg) | ((with_reducible refine gate_dst (N := 8) rfl ?_); (try (refine gate_guard (by rfl) ?_; dsimp only)); refine qx 8 #[.bool false, .string (⟨#[]⟩ : ByteArray), .string (⟨#[]⟩ : ByteArray)] 23 ?_; intro gb456 hg w92 hbox hb; have BK456 := Aside0.mk (hbox); have GW456 := qs hg HB; have GE456 := GW456; have NB455_456 := ql_ hg BK455; have NB456_455 := qg_ hg BK455; replace BK455 := qb BK455 hb; replace HB := qn HB hb; clear hb hbox hg; have hnb93 := NB455_456.out; have hnc93 := NB456_455.out; obtain ⟨hcz94_0, hcz94_1, hcz94_2, hfz94_0, hfz94_1, hfz94_2⟩ := q3 BK455) | ((with_reducible refine gate_callee (f := 24) rfl ?_); refine goesL_ (some 17) rfl rfl Tryd.func24 (by kernel_rfl) rfl #[.agg #[.bool a0_0, .string a0_1, .string a0_2], .int .i64 a1] rfl ql ?_; (with_reducible refine (round_asked.calls k a0_0 a0_1 a0_2 a1 t457 _ A5.out).mono ?_); rintro e w95 ⟨rfl, hb⟩; refine ⟨_, rfl, ?_⟩; replace BK455 := qb BK455 hb; replace BK456 := qb BK456 hb; replace HB := qn HB hb; (try clear hb); (try clear hb2); (try clear hk); (try clear hi)) | ((with_reducible refine gate_callee (f := 35) rfl ?_); refine goesL_ (some 24) rfl rfl Tryd.func35 (by kernel_rfl) rfl #[.int .i64 1, .int .i64 a2, .int .i64 a3] rfl ql ?_; (with_reducible refine (round_bounds.calls 1 a2 a3 false _ A7.out).mono ?_); rintro e w' ⟨rfl, ⟨nd, rfl⟩⟩; refine ⟨_, rfl, ?_⟩; (try (rw [drewN_self w95]; generalize hq_ : World.drewN w95 _ = w95; have n0_ : Aside0 (w95.heap[gb455]? = some (.cells #[.bool a0_0, .string a0_1, .string a0_2] 23 (0, 0))) := ⟨by rw [← hq_]; exact (qk BK455)⟩; have n1_ : Aside0 (w95.heap[gb456]? = some (.cells #[.bool false, .string (⟨#[]⟩ : ByteArray), .string (⟨#[]⟩ : ByteArray)] 23 (0, 0))) := ⟨by rw [← hq_]; exact (qk BK456)⟩; have n2_ : Aside0 (Below w.heap.size w w95) := ⟨by rw [← hq_]; exact (qh HB)⟩; clear BK455 BK456 HB hq_; have BK455 := n0_; have BK456 := n1_; have HB := n2_; clear n0_ n1_ n2_; (try have hcy455_0 : w95.cell? ⟨gb455, 0, none⟩ = some (.bool a0_0) := c_ BK455 0); (try have hfy455_0 := blk_frozen BK455.out 0); (try have hcy455_1 : w95.cell? ⟨gb455, 1, none⟩ = some (.string a0_1) := c_ BK455 1); (try have hfy455_1 := blk_frozen BK455.out 1); (try have hcy455_2 : w95.cell? ⟨gb455, 2, none⟩ = some (.string a0_2) := c_ BK455 2); (try have hfy455_2 := blk_frozen BK455.out 2))); obtain ⟨hcz96_0, hcz96_1, hcz96_2, hfz96_0, hfz96_1, hfz96_2⟩ := q3 BK456))
     refine bodyPost_ret (results_ct rfl _ _ gb456 23 #[.bool false, .string (⟨#[]⟩ : ByteArray), .string (⟨#[]⟩ : ByteArray)] (0, 0) _ rfl (by refine qp 2 #[.bool false, .string (⟨#[]⟩ : ByteArray), .string (⟨#[]⟩ : ByteArray)] ?_; refine qp 1 #[.bool false, .string (⟨#[]⟩ : ByteArray), .string (⟨#[]⟩ : ByteArray)] ?_; refine qp 0 #[.bool false, .string (⟨#[]⟩ : ByteArray), .string (⟨#[]⟩ : ByteArray)] ?_; exact qk BK456) Tryd.underlying23 rfl (by kernel_rfl)) rfl ?_
     exact ⟨qe, qh HB⟩
 · rw [if_neg c6] at H
   have c6b0 : (t457 == 0) = false := beq_eq_false_iff_ne.mpr c6
   have c6b1 : (t457 != 0) = true := bne_iff_ne.mpr c6
   try have c6b1z := c6b1
   (try simp only [bne] at c6b1z)
   simp only [Option.some.injEq, Prod.mk.injEq] at H
   obtain ⟨rfl, rfl, rfl, rfl⟩ := H
   go_enter Tryd.func20, Tryd.ntmps20
   go_wp2_with (first | ((with_reducible refine gate_dst (N := 4) rfl ?_); (try (refine gate_guard (by rfl) ?_; dsimp only)); refine qx 4 #[.bool a0_0, .string a0_1, .string a0_2] 23 ?_; intro gb455 hg w97 hbox hb; have BK455 := Aside0.mk (hbox); have GW455 := qs hg HB; have GE455 := GW455; replace HB := qn HB hb; clear hb hbox hg) | ((with_reducible refine gate_dst (N := 8) rfl ?_); (try (refine gate_guard (by rfl) ?_; dsimp only)); refine qx 8 #[.bool false, .string (⟨#[]⟩ : ByteArray), .string (⟨#[]⟩ : ByteArray)] 23 ?_; intro gb456 hg w98 hbox hb; have BK456 := Aside0.mk (hbox); have GW456 := qs hg HB; have GE456 := GW456; have NB455_456 := ql_ hg BK455; have NB456_455 := qg_ hg BK455; replace BK455 := qb BK455 hb; replace HB := qn HB hb; clear hb hbox hg; have hnb99 := NB455_456.out; have hnc99 := NB456_455.out; obtain ⟨hcz100_0, hcz100_1, hcz100_2, hfz100_0, hfz100_1, hfz100_2⟩ := q3 BK455) | ((with_reducible refine gate_callee (f := 24) rfl ?_); refine goesL_ (some 17) rfl rfl Tryd.func24 (by kernel_rfl) rfl #[.agg #[.bool a0_0, .string a0_1, .string a0_2], .int .i64 a1] rfl ql ?_; (with_reducible refine (round_asked.calls k a0_0 a0_1 a0_2 a1 t457 _ A5.out).mono ?_); rintro e w101 ⟨rfl, hb⟩; refine ⟨_, rfl, ?_⟩; replace BK455 := qb BK455 hb; replace BK456 := qb BK456 hb; replace HB := qn HB hb; (try clear hb); (try clear hb2); (try clear hk); (try clear hi); obtain ⟨hcz102_0, hcz102_1, hcz102_2, hfz102_0, hfz102_1, hfz102_2⟩ := q3 BK456))
   refine bodyPost_ret (results_ct rfl _ _ gb456 23 #[.bool false, .string (⟨#[]⟩ : ByteArray), .string (⟨#[]⟩ : ByteArray)] (0, 0) _ rfl (by refine qp 2 #[.bool false, .string (⟨#[]⟩ : ByteArray), .string (⟨#[]⟩ : ByteArray)] ?_; refine qp 1 #[.bool false, .string (⟨#[]⟩ : ByteArray), .string (⟨#[]⟩ : ByteArray)] ?_; refine qp 0 #[.bool false, .string (⟨#[]⟩ : ByteArray), .string (⟨#[]⟩ : ByteArray)] ?_; exact qk BK456) Tryd.underlying23 rfl (by kernel_rfl)) rfl ?_
   exact ⟨qe, qh HB⟩

end Go.Proofs.YtpmhebdaphjinaaDoor.F
namespace Go.Proofs.YtpmhebdaphjinaaDoor.F
open Go.RowKit Go.Proofs.YtpmhebdaphjinaaDoorW.PrintWords Go.Proofs.YtpmhebdaphjinaaDoorW.PrintLast Go.Proofs.YtpmhebdaphjinaaDoorW.PrintMore Go.Proofs.YtpmhebdaphjinaaDoor.Q
attribute [local go_sem] max2_int min2_int max_two min_two max_three min_three max_four min_four   -- for this text's walks alone
set_option linter.unusedVariables false
set_option linter.unusedSimpArgs false

def idiomref03_count.f (k : Nat) (a0_0 : Bool) (a0_1 : ByteArray) (a0_2 : ByteArray) : Option (Int) := if a0_1.size + a0_2.size ≤ 9223372036854775807 then ((idiomref03_Lead.f k (a0_1 ++ a0_2)).bind fun t469 => (if t469.toList = ([48] : List UInt8) then (some ((a0_1 ++ a0_2).size : Int)) else ((idiomref03_Lead.f k (a0_1 ++ a0_2)).bind fun t470 => (some (t470.size : Int))))) else (none)
theorem idiomref03_count.mono : ∀ a0 a1 a2 k, LeO (idiomref03_count.f k a0 a1 a2) (idiomref03_count.f (k + 1) a0 a1 a2) := by
 intro a0 a1 a2 k
 unfold idiomref03_count.f
 repeat' first
  | (with_reducible exact idiomref03_Lead.mono _ _)
  | (with_reducible exact LeO.refl _)
  | (with_reducible exact LeO.none _)
  | (with_reducible refine LeO.ite ?_ ?_)
  | (with_reducible refine LeO.bind ?_ (fun _ => ?_))
  | exact idiomref03_Lead.mono _ _
  | exact LeO.none _
  | refine LeO.ite ?_ ?_
  | refine LeO.bind ?_ (fun _ => ?_)
set_option maxHeartbeats 8000000 in
set_option maxRecDepth 100000 in
theorem idiomref03_count.calls (k : Nat) (a0_0 : Bool) (a0_1 : ByteArray) (a0_2 : ByteArray) (r : Int) (w : World) (h : idiomref03_count.f k a0_0 a0_1 a0_2 = some r) :
 Calls Tryd.prog 40 #[.agg #[.bool a0_0, .string a0_1, .string a0_2]] w fun e w' => e = .returned (.int .i64 r) ∧ Below w.heap.size w w' := by
 have hu23 := Tryd.underlying23
 have HB := Aside0.mk (Below.refl w.heap.size w)
 have H : (if a0_1.size + a0_2.size ≤ 9223372036854775807 then ((idiomref03_Lead.f k (a0_1 ++ a0_2)).bind fun t469 => (if t469.toList = ([48] : List UInt8) then (some ((a0_1 ++ a0_2).size : Int)) else ((idiomref03_Lead.f k (a0_1 ++ a0_2)).bind fun t470 => (some (t470.size : Int))))) else (none)) = some r := h
 clear h
 by_cases c2 : a0_1.size + a0_2.size ≤ 9223372036854775807
 · rw [if_pos c2] at H
   have c2b0 := eq_true c2
   have c2b1 : decide (a0_1.size + a0_2.size ≤ 9223372036854775807) = true := decide_eq_true c2
   try have c2b2 : (9223372036854775807 < a0_1.size + a0_2.size) = False := eq_false (Nat.not_lt.2 c2)
   replace H := Option.bind_eq_some_iff.mp H
   obtain ⟨t469, A30, H⟩ := H
   replace H : (if t469.toList = ([48] : List UInt8) then (some ((a0_1 ++ a0_2).size : Int)) else ((idiomref03_Lead.f k (a0_1 ++ a0_2)).bind fun t470 => (some (t470.size : Int)))) = some r := H
   have A3 := Aside0.mk A30
   clear A30
   by_cases c4 : t469.toList = ([48] : List UInt8)
   · rw [if_pos c4] at H
     have c4b0 : (t469.toList == ([48] : List UInt8)) = true := beq_iff_eq.mpr c4
     have c4b1 : (t469.toList != ([48] : List UInt8)) = false := bne_eq_false_iff_eq.mpr c4
     clear c4
     obtain rfl := Option.some.inj H
     go_enter Tryd.func40, Tryd.ntmps40
     go_wp2_with (first | ((with_reducible refine gate_dst (N := 1) rfl ?_); refine qx 1 #[.bool a0_0, .string a0_1, .string a0_2] 23 ?_; intro gb468 hg w5 hbox hb; have BK468 := Aside0.mk (hbox); have GW468 := qs hg HB; have GE468 := GW468; replace HB := qn HB hb; clear hb hbox hg; obtain ⟨hcz6_0, hcz6_1, hcz6_2, hfz6_0, hfz6_1, hfz6_2⟩ := q3 BK468) | ((with_reducible refine gate_callee (f := 41) rfl ?_); refine goesL_ (some 10) rfl rfl Tryd.func41 (by kernel_rfl) rfl #[.string (a0_1 ++ a0_2)] rfl ql ?_; (with_reducible refine (idiomref03_Lead.calls k (a0_1 ++ a0_2) t469 _ A3.out).mono ?_); rintro e w' ⟨rfl, ⟨nd, rfl⟩⟩; refine ⟨_, rfl, ?_⟩))
     go_ret
     exact ⟨qe, qh HB⟩
   · rw [if_neg c4] at H
     have c4b0 : (t469.toList == ([48] : List UInt8)) = false := beq_eq_false_iff_ne.mpr c4
     have c4b1 : (t469.toList != ([48] : List UInt8)) = true := bne_iff_ne.mpr c4
     replace H := Option.bind_eq_some_iff.mp H
     obtain ⟨t470, A70, H⟩ := H
     replace H : (some (t470.size : Int)) = some r := H
     have A7 := Aside0.mk A70
     clear A70
     obtain rfl := Option.some.inj H
     go_enter Tryd.func40, Tryd.ntmps40
     go_wp2_with (first | ((with_reducible refine gate_dst (N := 1) rfl ?_); refine qx 1 #[.bool a0_0, .string a0_1, .string a0_2] 23 ?_; intro gb468 hg w8 hbox hb; have BK468 := Aside0.mk (hbox); have GW468 := qs hg HB; have GE468 := GW468; replace HB := qn HB hb; clear hb hbox hg; obtain ⟨hcz9_0, hcz9_1, hcz9_2, hfz9_0, hfz9_1, hfz9_2⟩ := q3 BK468) | ((with_reducible refine gate_callee (f := 41) rfl ?_); refine goesL_ (some 10) rfl rfl Tryd.func41 (by kernel_rfl) rfl #[.string (a0_1 ++ a0_2)] rfl ql ?_; (with_reducible refine (idiomref03_Lead.calls k (a0_1 ++ a0_2) t469 _ A3.out).mono ?_); rintro e w' ⟨rfl, ⟨nd, rfl⟩⟩; refine ⟨_, rfl, ?_⟩) | ((with_reducible refine gate_callee (f := 41) rfl ?_); refine goesL_ (some 15) rfl rfl Tryd.func41 (by kernel_rfl) rfl #[.string (a0_1 ++ a0_2)] rfl ql ?_; (with_reducible refine (idiomref03_Lead.calls k (a0_1 ++ a0_2) t470 _ A7.out).mono ?_); rintro e w' ⟨rfl, ⟨nd, rfl⟩⟩; refine ⟨_, rfl, ?_⟩))
     go_ret
     exact ⟨qe, qh HB⟩
 · rw [if_neg c2] at H
   exact absurd H (by simp)

end Go.Proofs.YtpmhebdaphjinaaDoor.F
