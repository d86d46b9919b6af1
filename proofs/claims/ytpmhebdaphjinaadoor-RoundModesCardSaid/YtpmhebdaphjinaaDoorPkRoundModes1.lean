/- Part 2 of 7 of the proof of the law RoundModes: it is true at every input. Conditions: those of the given row, no others. -/
import Derived.Test.YtpmhebdaphjinaaDoorPkRoundModes0
namespace Go.Proofs.YtpmhebdaphjinaaDoor.F
open Go.RowKit Go.Proofs.YtpmhebdaphjinaaDoorW.PrintWords Go.Proofs.YtpmhebdaphjinaaDoorW.PrintLast Go.Proofs.YtpmhebdaphjinaaDoorW.PrintMore Go.Proofs.YtpmhebdaphjinaaDoor.Q
attribute [local go_sem] max2_int min2_int max_two min_two max_three min_three max_four min_four   -- for this text's walks alone
set_option linter.unusedVariables false
set_option linter.unusedSimpArgs false

mutual
def round_build.j0 : Nat → Bool → ByteArray → Int → Option (Bool × ByteArray × ByteArray × Int)
 | 0, _, _, _ => none
 | k + 1, x0, x1, x2 => if 0 ≤ (wrap64 ((x1.size : Int) - x2)) then (if (wrap64 ((x1.size : Int) - x2)) ≤ (x1.size : Int) then ((strings_TrimLeft.f (x1.extract 0 ((wrap64 ((x1.size : Int) - x2)) : Int).toNat) (⟨#[48]⟩ : ByteArray)).bind fun t114 => (if t114.toList = ([] : List UInt8) then (round_build.j1 k x2 x0 (⟨#[48]⟩ : ByteArray) (x1.extract ((wrap64 ((x1.size : Int) - x2)) : Int).toNat x1.size)) else (round_build.j1 k x2 x0 t114 (x1.extract ((wrap64 ((x1.size : Int) - x2)) : Int).toNat x1.size)))) else (none)) else (none)
def round_build.j1 : Nat → Int → Bool → ByteArray → ByteArray → Option (Bool × ByteArray × ByteArray × Int)
 | 0, _, _, _, _ => none
 | k + 1, x2, x116000, x116001, x116002 => if x116001.size + x116002.size ≤ 9223372036854775807 then ((strings_Trim.f (x116001 ++ x116002) (⟨#[48]⟩ : ByteArray)).bind fun t116 => (if t116.toList = ([] : List UInt8) then (if (wrap64 ((x116001.size : Int) + x2)) > 40 then (some (false, (⟨#[]⟩ : ByteArray), (⟨#[]⟩ : ByteArray), 3)) else (some (false, x116001, x116002, 0))) else (if (wrap64 ((x116001.size : Int) + x2)) > 40 then (some (false, (⟨#[]⟩ : ByteArray), (⟨#[]⟩ : ByteArray), 3)) else (some (x116000, x116001, x116002, 0))))) else (none)
end
def round_build.f (k : Nat) (a0 : Bool) (a1 : ByteArray) (a2 : Int) : Option (Bool × ByteArray × ByteArray × Int) := if (a1.size : Int) ≤ a2 then ((strings_Repeat.f (⟨#[48]⟩ : ByteArray) (wrap64 ((wrap64 (a2 + 1)) - (a1.size : Int)))).bind fun t113 => (if t113.size + a1.size ≤ 9223372036854775807 then (round_build.j0 k a0 (t113 ++ a1) a2) else (none))) else (round_build.j0 k a0 a1 a2)
theorem round_build.mono_l : ∀ k, (∀ y0 y1 y2, LeO (round_build.j0 k y0 y1 y2) (round_build.j0 (k + 1) y0 y1 y2)) ∧ (∀ y0 y1 y2 y3, LeO (round_build.j1 k y0 y1 y2 y3) (round_build.j1 (k + 1) y0 y1 y2 y3))
 | 0 => ⟨fun _ _ _ r h => by simp [round_build.j0] at h, fun _ _ _ _ r h => by simp [round_build.j1] at h⟩
 | k + 1 => by
  obtain ⟨ih0, ih1⟩ := round_build.mono_l k
  refine ⟨?_, ?_⟩
  · intro y0 y1 y2
    unfold round_build.j0
    repeat' first
    | (with_reducible exact ih0 _ _ _)
    | (with_reducible exact ih1 _ _ _ _)
    | (with_reducible exact LeO.refl _)
    | (with_reducible exact LeO.none _)
    | (with_reducible refine LeO.ite ?_ ?_)
    | (with_reducible refine LeO.bind ?_ (fun _ => ?_))
    | exact ih0 _ _ _
    | exact ih1 _ _ _ _
    | exact LeO.none _
    | refine LeO.ite ?_ ?_
    | refine LeO.bind ?_ (fun _ => ?_)
  · intro y0 y1 y2 y3
    unfold round_build.j1
    repeat' first
    | (with_reducible exact ih0 _ _ _)
    | (with_reducible exact ih1 _ _ _ _)
    | (with_reducible exact LeO.refl _)
    | (with_reducible exact LeO.none _)
    | (with_reducible refine LeO.ite ?_ ?_)
    | (with_reducible refine LeO.bind ?_ (fun _ => ?_))
    | exact ih0 _ _ _
    | exact ih1 _ _ _ _
    | exact LeO.none _
    | refine LeO.ite ?_ ?_
    | refine LeO.bind ?_ (fun _ => ?_)
theorem round_build.mono : ∀ a0 a1 a2 k, LeO (round_build.f k a0 a1 a2) (round_build.f (k + 1) a0 a1 a2) := by
 intro a0 a1 a2 k
 obtain ⟨ih0, ih1⟩ := round_build.mono_l k
 unfold round_build.f
 repeat' first
  | (with_reducible exact ih0 _ _ _)
  | (with_reducible exact ih1 _ _ _ _)
  | (with_reducible exact LeO.refl _)
  | (with_reducible exact LeO.none _)
  | (with_reducible refine LeO.ite ?_ ?_)
  | (with_reducible refine LeO.bind ?_ (fun _ => ?_))
  | exact ih0 _ _ _
  | exact ih1 _ _ _ _
  | exact LeO.none _
  | refine LeO.ite ?_ ?_
  | refine LeO.bind ?_ (fun _ => ?_)
set_option maxHeartbeats 8000000 in
set_option maxRecDepth 100000 in
theorem round_build.calls (k : Nat) (a0 : Bool) (a1 : ByteArray) (a2 : Int) (r1 : Bool) (r2 : ByteArray) (r3 : ByteArray) (r4 : Int) (w : World) (h : round_build.f k a0 a1 a2 = some (r1, r2, r3, r4)) :
 Calls Tryd.prog 53 #[.bool a0, .string a1, .int .i64 a2] w fun e w' => e = .returned (.tuple #[.agg #[.bool r1, .string r2, .string r3], .int .i64 r4]) ∧ Below w.heap.size w w' := by
 have hu23 := Tryd.underlying23
 have HB := Aside0.mk (Below.refl w.heap.size w)
 have H : (if (a1.size : Int) ≤ a2 then ((strings_Repeat.f (⟨#[48]⟩ : ByteArray) (wrap64 ((wrap64 (a2 + 1)) - (a1.size : Int)))).bind fun t113 => (if t113.size + a1.size ≤ 9223372036854775807 then (round_build.j0 k a0 (t113 ++ a1) a2) else (none))) else (round_build.j0 k a0 a1 a2)) = some (r1, r2, r3, r4) := h
 clear h
 have HC4 := Aside0.mk H
 clear H
 go_enter Tryd.func53, Tryd.ntmps53
 go_upto_if 13 with (first | ((with_reducible refine gate_dst (N := 6) rfl ?_); refine qx 6 #[.bool false, .string (⟨#[]⟩ : ByteArray), .string (⟨#[]⟩ : ByteArray)] 23 ?_; intro gb112 hg w5 hbox hb; have BK112 := Aside0.mk (hbox); have GW112 := qs hg HB; have GE112 := GW112; replace HB := qn HB hb; clear hb hbox hg))
 (try simp only [Act.put, List.setIfInBounds_toArray, List.set_cons_zero, List.set_cons_succ])
 go_cut [1] (fun v1 wc => ∃ (kq : Nat) (x1_3 : ByteArray), v1 = .string x1_3 ∧ Aside0 (round_build.j0 kq a0 x1_3 a2 = some (r1, r2, r3, r4)) ∧ Aside0 (kq ≤ k) ∧ Aside0 (wc.heap[gb112]? = some (.cells #[.bool false, .string (⟨#[]⟩ : ByteArray), .string (⟨#[]⟩ : ByteArray)] 23 (0, 0))) ∧ Aside0 (Below w.heap.size w wc))
 case first =>
  have H := HC4.out
  clear HC4
  by_cases c6 : (a1.size : Int) ≤ a2
  · rw [if_pos c6] at H
    have c6b0 : decide ((a1.size : Int) ≤ a2) = true := decide_eq_true c6
    clear c6
    (first | rw [c6b0] | (simp only [i64_w, i32_w]; rw [c6b0]) | skip)
    replace H := Option.bind_eq_some_iff.mp H
    obtain ⟨t113, A70, H⟩ := H
    replace H : (if t113.size + a1.size ≤ 9223372036854775807 then (round_build.j0 k a0 (t113 ++ a1) a2) else (none)) = some (r1, r2, r3, r4) := H
    have A7 := Aside0.mk A70
    clear A70
    by_cases c8 : t113.size + a1.size ≤ 9223372036854775807
    · rw [if_pos c8] at H
      have c8b0 := eq_true c8
      have c8b1 : decide (t113.size + a1.size ≤ 9223372036854775807) = true := decide_eq_true c8
      try have c8b2 : (9223372036854775807 < t113.size + a1.size) = False := eq_false (Nat.not_lt.2 c8)
      have H' := Aside0.mk H
      clear H
      go_wp2_with (first | ((with_reducible refine gate_callee (f := 39) rfl ?_); refine goesL_ (some 19) rfl rfl Tryd.func39 (by kernel_rfl) rfl #[.string (⟨#[48]⟩ : ByteArray), .int .i64 (wrap64 ((wrap64 (a2 + 1)) - (a1.size : Int)))] rfl ql ?_; (with_reducible refine (strings_Repeat.calls (⟨#[48]⟩ : ByteArray) (wrap64 ((wrap64 (a2 + 1)) - (a1.size : Int))) t113 _ A7.out).mono ?_); rintro e w9 ⟨rfl, hb⟩; refine ⟨_, rfl, ?_⟩; replace BK112 := qb BK112 hb; replace HB := qn HB hb; (try clear hb); (try clear hb2); (try clear hk); (try clear hi)))
      go_meet
      case rel => exact ⟨_, (t113 ++ a1), (by first | rfl | (simp; done) | (simp [*]; done)), H', ⟨by first | omega | exact Nat.le_refl _⟩, ⟨qk BK112⟩, ⟨qh HB⟩⟩
    · rw [if_neg c8] at H
      exact absurd H (by simp)
  · rw [if_neg c6] at H
    have c6b0 : decide ((a1.size : Int) ≤ a2) = false := decide_eq_false c6
    clear c6
    (first | rw [c6b0] | (simp only [i64_w, i32_w]; rw [c6b0]) | skip)
    have H' := Aside0.mk H
    clear H
    go_wp2
    go_meet
    case rel => exact ⟨_, (a1), (by first | rfl | (simp; done) | (simp [*]; done)), H', ⟨by first | omega | exact Nat.le_refl _⟩, ⟨qk BK112⟩, ⟨qh HB⟩⟩
 case rest =>
  clear HC4
  try clear p2
  try clear c3
  try clear c5
  try clear c6
  try clear c6b0
  try clear p6
  try clear c8
  try clear c8b0
  try clear c8b1
  try clear c8b2
  obtain ⟨kq, x1_3, rfl, HA, HJ3, BK112, HB⟩ := hcut
  cases kq with
  | zero => exact absurd HA.out (by simp [round_build.j0])
  | succ kj3 =>
   have H := HA.out
   clear HA
   simp only [round_build.j0] at H
   obtain ⟨ji10, hji10⟩ : ∃ j_ : Int, (wrap64 ((x1_3.size : Int) - a2)) = j_ := ⟨_, rfl⟩
   replace H : (if 0 ≤ (ji10) then (if (ji10) ≤ (x1_3.size : Int) then ((strings_TrimLeft.f (x1_3.extract 0 ((ji10) : Int).toNat) (⟨#[48]⟩ : ByteArray)).bind fun t114 => (if t114.toList = ([] : List UInt8) then (round_build.j1 kj3 a2 a0 (⟨#[48]⟩ : ByteArray) (x1_3.extract ((ji10) : Int).toNat x1_3.size)) else (round_build.j1 kj3 a2 a0 t114 (x1_3.extract ((ji10) : Int).toNat x1_3.size)))) else (none)) else (none)) = some (r1, r2, r3, r4) := by first | (rw [hji10] at H; exact H) | (simp only [hji10] at H ⊢; exact H)
   have hji10w : (IntKind.i64.wrap ((x1_3.size : Int) - a2)) = ji10 := (i64_w _).trans hji10
   by_cases c11 : 0 ≤ (ji10)
   · rw [if_pos c11] at H
     have c11b0 := eq_true c11
     have c11b1 : decide (0 ≤ (ji10)) = true := decide_eq_true c11
     clear c11
     by_cases c12 : (ji10) ≤ (x1_3.size : Int)
     · rw [if_pos c12] at H
       have c12b0 := eq_true c12
       have c12b1 : decide ((ji10) ≤ (x1_3.size : Int)) = true := decide_eq_true c12
       clear c12
       replace H := Option.bind_eq_some_iff.mp H
       obtain ⟨t114, A130, H⟩ := H
       replace H : (if t114.toList = ([] : List UInt8) then (round_build.j1 kj3 a2 a0 (⟨#[48]⟩ : ByteArray) (x1_3.extract ((ji10) : Int).toNat x1_3.size)) else (round_build.j1 kj3 a2 a0 t114 (x1_3.extract ((ji10) : Int).toNat x1_3.size))) = some (r1, r2, r3, r4) := H
       have A13 := Aside0.mk A130
       clear A130
       have c14b0 := eq_true (of_decide_eq_true qa : 0 ≤ (ji10))
       have c15b0 := eq_true (of_decide_eq_true qa : (ji10) ≤ (x1_3.size : Int))
       have HC16 := Aside0.mk H
       clear H
       go_upto_if 39 with (first | ((with_reducible refine gate_callee (f := 64) rfl ?_); refine goesL_ (some 28) rfl rfl Tryd.func64 (by kernel_rfl) rfl #[.string (x1_3.extract 0 ((ji10) : Int).toNat), .string (⟨#[48]⟩ : ByteArray)] rfl (by (try simp only [List.map_toArray, List.map_cons, List.map_nil]); first | done | (simp only [hji10]; rfl) | rfl | (simp only [List.length_drop, List.length_take]; rfl)) ?_; (with_reducible refine (strings_TrimLeft.calls (x1_3.extract 0 ((ji10) : Int).toNat) (⟨#[48]⟩ : ByteArray) t114 _ A13.out).mono ?_); rintro e w' ⟨rfl, ⟨nd, rfl⟩⟩; refine ⟨_, rfl, ?_⟩; (try (rw [drewN_self wc]; generalize hq_ : World.drewN wc _ = wc; have n0_ : Aside0 (wc.heap[gb112]? = some (.cells #[.bool false, .string (⟨#[]⟩ : ByteArray), .string (⟨#[]⟩ : ByteArray)] 23 (0, 0))) := ⟨by rw [← hq_]; exact (qk BK112)⟩; have n1_ : Aside0 (Below w.heap.size w wc) := ⟨by rw [← hq_]; exact (qh HB)⟩; clear BK112 HB hq_; have BK112 := n0_; have HB := n1_; clear n0_ n1_; (try have hcy112_0 : wc.cell? ⟨gb112, 0, none⟩ = some (.bool false) := c_ BK112 0); (try have hfy112_0 := blk_frozen BK112.out 0); (try have hcy112_1 : wc.cell? ⟨gb112, 1, none⟩ = some (.string (⟨#[]⟩ : ByteArray)) := c_ BK112 1); (try have hfy112_1 := blk_frozen BK112.out 1); (try have hcy112_2 : wc.cell? ⟨gb112, 2, none⟩ = some (.string (⟨#[]⟩ : ByteArray)) := c_ BK112 2); (try have hfy112_2 := blk_frozen BK112.out 2)))) | ((with_reducible refine gate_dst (N := 9) rfl ?_); refine qx 9 #[.bool false, .string (⟨#[]⟩ : ByteArray), .string (⟨#[]⟩ : ByteArray)] 23 ?_; intro gb115 hg w17 hbox hb; have BK115 := Aside0.mk (hbox); have GW115 := qs hg HB; have GE115 := GW115; have NB112_115 := ql_ hg BK112; have NB115_112 := qg_ hg BK112; replace BK112 := qb BK112 hb; replace HB := qn HB hb; clear hb hbox hg; have hnb18 := NB115_112.out; have hnc18 := NB112_115.out; obtain ⟨hcz19_0, hcz19_1, hcz19_2, hfz19_0, hfz19_1, hfz19_2⟩ := q3 BK115))
       (try simp only [Act.put, List.setIfInBounds_toArray, List.set_cons_zero, List.set_cons_succ])
       go_cut [] (fun wc => ∃ (kq : Nat) (x116001_15 : ByteArray), Aside0 (round_build.j1 kq a2 a0 x116001_15 (x1_3.extract ((ji10) : Int).toNat x1_3.size) = some (r1, r2, r3, r4)) ∧ Aside0 (kq ≤ kj3) ∧ Aside0 (wc.heap[gb112]? = some (.cells #[.bool false, .string (⟨#[]⟩ : ByteArray), .string (⟨#[]⟩ : ByteArray)] 23 (0, 0))) ∧ Aside0 (wc.heap[gb115]? = some (.cells #[.bool a0, .string x116001_15, .string (x1_3.extract ((ji10) : Int).toNat x1_3.size)] 23 (0, 0))) ∧ Aside0 (Below w.heap.size w wc))
       case first =>
        have H := HC16.out
        clear HC16
        by_cases c20 : t114.toList = ([] : List UInt8)
        · rw [if_pos c20] at H
          have c20b0 : (t114.toList == ([] : List UInt8)) = true := beq_iff_eq.mpr c20
          try have c20b0z := Aid.empty_of c20b0
          have c20b1 : (t114.toList != ([] : List UInt8)) = false := bne_eq_false_iff_eq.mpr c20
          clear c20
          (first | rw [c20b0] | rw [c20b0z] | (simp only [i64_w, i32_w]; rw [c20b0]) | skip)
          have H' := Aside0.mk H
          clear H
          have hnb21 := NB115_112.out
          have hnc21 := NB112_115.out
          obtain ⟨hcz22_0, hcz22_1, hcz22_2, hfz22_0, hfz22_1, hfz22_2⟩ := q3 BK115
          go_wp2
          go_meet
          case rel => exact ⟨_, ((⟨#[48]⟩ : ByteArray)), H', ⟨by have := HJ3.out; first | omega | exact Nat.le_refl _⟩, ⟨by refine qf NB112_115 ?_; refine qf NB112_115 ?_; refine qf NB112_115 ?_; refine qf NB112_115 ?_; exact qk BK112⟩, ⟨by refine qp 1 #[.bool a0, .string t114, .string (x1_3.extract ((ji10) : Int).toNat x1_3.size)] ?_; refine qp 2 #[.bool a0, .string t114, .string (⟨#[]⟩ : ByteArray)] ?_; refine qp 1 #[.bool a0, .string (⟨#[]⟩ : ByteArray), .string (⟨#[]⟩ : ByteArray)] ?_; refine qp 0 #[.bool false, .string (⟨#[]⟩ : ByteArray), .string (⟨#[]⟩ : ByteArray)] ?_; exact qk BK115⟩, ⟨qh HB⟩⟩
        · rw [if_neg c20] at H
          have c20b0 : (t114.toList == ([] : List UInt8)) = false := beq_eq_false_iff_ne.mpr c20
          try have c20b0z := Aid.empty_of c20b0
          have c20b1 : (t114.toList != ([] : List UInt8)) = true := bne_iff_ne.mpr c20
          (first | rw [c20b0] | rw [c20b0z] | (simp only [i64_w, i32_w]; rw [c20b0]) | skip)
          have H' := Aside0.mk H
          clear H
          go_wp2
          go_meet
          case rel => exact ⟨_, (t114), H', ⟨by have := HJ3.out; first | omega | exact Nat.le_refl _⟩, ⟨by refine qf NB112_115 ?_; refine qf NB112_115 ?_; refine qf NB112_115 ?_; exact qk BK112⟩, ⟨by refine qp 2 #[.bool a0, .string t114, .string (⟨#[]⟩ : ByteArray)] ?_; refine qp 1 #[.bool a0, .string (⟨#[]⟩ : ByteArray), .string (⟨#[]⟩ : ByteArray)] ?_; refine qp 0 #[.bool false, .string (⟨#[]⟩ : ByteArray), .string (⟨#[]⟩ : ByteArray)] ?_; exact qk BK115⟩, ⟨qh HB⟩⟩
       case rest =>
        clear HC16
        try clear c1
        try clear c2
        try clear p2
        try clear c3
        try clear c5
        try clear c6
        try clear c6b0
        try clear p6
        try clear c8
        try clear c8b0
        try clear c8b1
        try clear c8b2
        try clear c11
        try clear c11b0
        try clear c11b1
        try clear c12
        try clear c12b0
        try clear c12b1
        try clear c14
        try clear c14b0
        try clear c15
        try clear c15b0
        try clear c18
        try clear c20
        try clear c20b0
        try clear c20b1
        try clear c21
        try clear hcz19_0
        try clear hcz19_1
        try clear hcz19_2
        try clear hcz22_0
        try clear hcz22_1
        try clear hcz22_2
        try clear hfz19_0
        try clear hfz19_1
        try clear hfz19_2
        try clear hfz22_0
        try clear hfz22_1
        try clear hfz22_2
        try clear p2
        try clear p6
        obtain ⟨kq, x116001_15, HA, HJ15, BK112, BK115, HB⟩ := hcut
        cases kq with
        | zero => exact absurd HA.out (by simp [round_build.j1])
        | succ kj15 =>
         have H := HA.out
         clear HA
         simp only [round_build.j1] at H
         by_cases c23 : x116001_15.size + (x1_3.extract ((ji10) : Int).toNat x1_3.size).size ≤ 9223372036854775807
         · rw [if_pos c23] at H
           have c23b0 := eq_true c23
           try have c23b0z := c23b0
           (try simp only [go_sem, ByteArray.size_extract, ByteArray.size_append, Nat.min_self, Int.natCast_add] at c23b0z)
           have c23b1 : decide (x116001_15.size + (x1_3.extract ((ji10) : Int).toNat x1_3.size).size ≤ 9223372036854775807) = true := decide_eq_true c23
           try have c23b1z := c23b1
           (try simp only [go_sem, ByteArray.size_extract, ByteArray.size_append, Nat.min_self, Int.natCast_add] at c23b1z)
           try have c23b2 : (9223372036854775807 < x116001_15.size + (x1_3.extract ((ji10) : Int).toNat x1_3.size).size) = False := eq_false (Nat.not_lt.2 c23)
           try have c23b2z := c23b2
           (try simp only [go_sem, ByteArray.size_extract, ByteArray.size_append, Nat.min_self, Int.natCast_add] at c23b2z)
           replace H := Option.bind_eq_some_iff.mp H
           obtain ⟨t116, A240, H⟩ := H
           replace H : (if t116.toList = ([] : List UInt8) then (if (wrap64 ((x116001_15.size : Int) + a2)) > 40 then (some (false, (⟨#[]⟩ : ByteArray), (⟨#[]⟩ : ByteArray), 3)) else (some (false, x116001_15, (x1_3.extract ((ji10) : Int).toNat x1_3.size), 0))) else (if (wrap64 ((x116001_15.size : Int) + a2)) > 40 then (some (false, (⟨#[]⟩ : ByteArray), (⟨#[]⟩ : ByteArray), 3)) else (some (a0, x116001_15, (x1_3.extract ((ji10) : Int).toNat x1_3.size), 0)))) = some (r1, r2, r3, r4) := H
           have A24 := Aside0.mk A240
           clear A240
           by_cases c25 : t116.toList = ([] : List UInt8)
           · rw [if_pos c25] at H
             have c25b0 : (t116.toList == ([] : List UInt8)) = true := beq_iff_eq.mpr c25
             try have c25b0z := Aid.empty_of c25b0
             have c25b1 : (t116.toList != ([] : List UInt8)) = false := bne_eq_false_iff_eq.mpr c25
             clear c25
             by_cases c26 : (wrap64 ((x116001_15.size : Int) + a2)) > 40
             · rw [if_pos c26] at H
               have c26b0 : decide (40 < (wrap64 ((x116001_15.size : Int) + a2))) = true := decide_eq_true c26
               clear c26
               simp only [Option.some.injEq, Prod.mk.injEq] at H
               obtain ⟨rfl, rfl, rfl, rfl⟩ := H
               have hnb27 := NB115_112.out
               have hnc27 := NB112_115.out
               obtain ⟨hcz28_0, hcz28_1, hcz28_2, hfz28_0, hfz28_1, hfz28_2⟩ := q3 BK115
               go_wp2_with (first | ((with_reducible refine gate_callee (f := 43) rfl ?_); refine goesL_ (some 46) rfl rfl Tryd.func43 (by kernel_rfl) rfl #[.string (x116001_15 ++ (x1_3.extract ((ji10) : Int).toNat x1_3.size)), .string (⟨#[48]⟩ : ByteArray)] rfl (by (try simp only [List.map_toArray, List.map_cons, List.map_nil]); first | done | (simp only [hji10]; rfl) | rfl | (simp only [List.length_drop, List.length_take]; rfl)) ?_; (with_reducible refine (strings_Trim.calls (x116001_15 ++ (x1_3.extract ((ji10) : Int).toNat x1_3.size)) (⟨#[48]⟩ : ByteArray) t116 _ A24.out).mono ?_); rintro e w' ⟨rfl, ⟨nd, rfl⟩⟩; refine ⟨_, rfl, ?_⟩; (try (rw [drewN_self wc]; generalize hq_ : World.drewN wc _ = wc; have n0_ : Aside0 (wc.heap[gb112]? = some (.cells #[.bool false, .string (⟨#[]⟩ : ByteArray), .string (⟨#[]⟩ : ByteArray)] 23 (0, 0))) := ⟨by rw [← hq_]; exact (qk BK112)⟩; have n1_ : Aside0 (wc.heap[gb115]? = some (.cells #[.bool a0, .string x116001_15, .string (x1_3.extract ((ji10) : Int).toNat x1_3.size)] 23 (0, 0))) := ⟨by rw [← hq_]; exact (qk BK115)⟩; have n2_ : Aside0 (Below w.heap.size w wc) := ⟨by rw [← hq_]; exact (qh HB)⟩; clear BK112 BK115 HB hq_; have BK112 := n0_; have BK115 := n1_; have HB := n2_; clear n0_ n1_ n2_; (try have hcy115_0 : wc.cell? ⟨gb115, 0, none⟩ = some (.bool a0) := c_ BK115 0); (try have hfy115_0 := blk_frozen BK115.out 0); (try have hcy115_1 : wc.cell? ⟨gb115, 1, none⟩ = some (.string x116001_15) := c_ BK115 1); (try have hfy115_1 := blk_frozen BK115.out 1); (try have hcy115_2 : wc.cell? ⟨gb115, 2, none⟩ = some (.string (x1_3.extract ((ji10) : Int).toNat x1_3.size)) := c_ BK115 2); (try have hfy115_2 := blk_frozen BK115.out 2))); obtain ⟨hcz29_0, hcz29_1, hcz29_2, hfz29_0, hfz29_1, hfz29_2⟩ := q3 BK112))
               refine bodyPost_ret (results_ct rfl _ _ gb112 23 #[.bool false, .string (⟨#[]⟩ : ByteArray), .string (⟨#[]⟩ : ByteArray)] (0, 0) _ rfl (by refine qp 2 #[.bool false, .string (⟨#[]⟩ : ByteArray), .string (⟨#[]⟩ : ByteArray)] ?_; refine qp 1 #[.bool false, .string (⟨#[]⟩ : ByteArray), .string (⟨#[]⟩ : ByteArray)] ?_; refine qp 0 #[.bool false, .string (⟨#[]⟩ : ByteArray), .string (⟨#[]⟩ : ByteArray)] ?_; refine qf NB112_115 ?_; exact qk BK112) Tryd.underlying23 rfl (by kernel_rfl)) rfl ?_
               exact ⟨by first | rfl | (exact congrArg (fun b => Ending.returned (.bool b)) (Aid.bne_nil _)) | (exact congrArg (fun b => Ending.returned (.bool b)) (Aid.eq_nil _)) | (simp [errW_none, errW_some] <;> rfl) | (simp only [← hji10]; first | rfl | (simp [errW_none, errW_some] <;> rfl)) | (simp [*, errW_none, errW_some] <;> rfl), qh HB⟩
             · rw [if_neg c26] at H
               have c26b0 : decide (40 < (wrap64 ((x116001_15.size : Int) + a2))) = false := decide_eq_false c26
               clear c26
               simp only [Option.some.injEq, Prod.mk.injEq] at H
               obtain ⟨rfl, rfl, rfl, rfl⟩ := H
               have hnb30 := NB115_112.out
               have hnc30 := NB112_115.out
               obtain ⟨hcz31_0, hcz31_1, hcz31_2, hfz31_0, hfz31_1, hfz31_2⟩ := q3 BK115
               go_wp2_with (first | ((with_reducible refine gate_callee (f := 43) rfl ?_); refine goesL_ (some 46) rfl rfl Tryd.func43 (by kernel_rfl) rfl #[.string (x116001_15 ++ (x1_3.extract ((ji10) : Int).toNat x1_3.size)), .string (⟨#[48]⟩ : ByteArray)] rfl (by (try simp only [List.map_toArray, List.map_cons, List.map_nil]); first | done | (simp only [hji10]; rfl) | rfl | (simp only [List.length_drop, List.length_take]; rfl)) ?_; (with_reducible refine (strings_Trim.calls (x116001_15 ++ (x1_3.extract ((ji10) : Int).toNat x1_3.size)) (⟨#[48]⟩ : ByteArray) t116 _ A24.out).mono ?_); rintro e w' ⟨rfl, ⟨nd, rfl⟩⟩; refine ⟨_, rfl, ?_⟩; (try (rw [drewN_self wc]; generalize hq_ : World.drewN wc _ = wc; have n0_ : Aside0 (wc.heap[gb112]? = some (.cells #[.bool false, .string (⟨#[]⟩ : ByteArray), .string (⟨#[]⟩ : ByteArray)] 23 (0, 0))) := ⟨by rw [← hq_]; exact (qk BK112)⟩; have n1_ : Aside0 (wc.heap[gb115]? = some (.cells #[.bool a0, .string x116001_15, .string (x1_3.extract ((ji10) : Int).toNat x1_3.size)] 23 (0, 0))) := ⟨by rw [← hq_]; exact (qk BK115)⟩; have n2_ : Aside0 (Below w.heap.size w wc) := ⟨by rw [← hq_]; exact (qh HB)⟩; clear BK112 BK115 HB hq_; have BK112 := n0_; have BK115 := n1_; have HB := n2_; clear n0_ n1_ n2_; (try have hcy115_0 : wc.cell? ⟨gb115, 0, none⟩ = some (.bool a0) := c_ BK115 0); (try have hfy115_0 := blk_frozen BK115.out 0); (try have hcy115_1 : wc.cell? ⟨gb115, 1, none⟩ = some (.string x116001_15) := c_ BK115 1); (try have hfy115_1 := blk_frozen BK115.out 1); (try have hcy115_2 : wc.cell? ⟨gb115, 2, none⟩ = some (.string (x1_3.extract ((ji10) : Int).toNat x1_3.size)) := c_ BK115 2); (try have hfy115_2 := blk_frozen BK115.out 2))); obtain ⟨hcz32_0, hcz32_1, hcz32_2, hfz32_0, hfz32_1, hfz32_2⟩ := q3 BK112))
               refine bodyPost_ret (results_ct rfl _ _ gb112 23 #[.bool false, .string x116001_15, .string (x1_3.extract ((ji10) : Int).toNat x1_3.size)] (0, 0) _ rfl (by refine qp 2 #[.bool false, .string x116001_15, .string (⟨#[]⟩ : ByteArray)] ?_; refine qp 1 #[.bool false, .string (⟨#[]⟩ : ByteArray), .string (⟨#[]⟩ : ByteArray)] ?_; refine qp 0 #[.bool false, .string (⟨#[]⟩ : ByteArray), .string (⟨#[]⟩ : ByteArray)] ?_; refine qf NB112_115 ?_; exact qk BK112) Tryd.underlying23 rfl (by kernel_rfl)) rfl ?_
               exact ⟨by first | rfl | (exact congrArg (fun b => Ending.returned (.bool b)) (Aid.bne_nil _)) | (exact congrArg (fun b => Ending.returned (.bool b)) (Aid.eq_nil _)) | (simp [errW_none, errW_some] <;> rfl) | (simp only [← hji10]; first | rfl | (simp [errW_none, errW_some] <;> rfl)) | (simp [*, errW_none, errW_some] <;> rfl), qh HB⟩
           · rw [if_neg c25] at H
             have c25b0 : (t116.toList == ([] : List UInt8)) = false := beq_eq_false_iff_ne.mpr c25
             try have c25b0z := Aid.empty_of c25b0
             have c25b1 : (t116.toList != ([] : List UInt8)) = true := bne_iff_ne.mpr c25
             by_cases c33 : (wrap64 ((x116001_15.size : Int) + a2)) > 40
             · rw [if_pos c33] at H
               have c33b0 : decide (40 < (wrap64 ((x116001_15.size : Int) + a2))) = true := decide_eq_true c33
               clear c33
               simp only [Option.some.injEq, Prod.mk.injEq] at H
               obtain ⟨rfl, rfl, rfl, rfl⟩ := H
               have hnb34 := NB115_112.out
               have hnc34 := NB112_115.out
               obtain ⟨hcz35_0, hcz35_1, hcz35_2, hfz35_0, hfz35_1, hfz35_2⟩ := q3 BK115
               go_wp2_with (first | ((with_reducible refine gate_callee (f := 43) rfl ?_); refine goesL_ (some 46) rfl rfl Tryd.func43 (by kernel_rfl) rfl #[.string (x116001_15 ++ (x1_3.extract ((ji10) : Int).toNat x1_3.size)), .string (⟨#[48]⟩ : ByteArray)] rfl (by (try simp only [List.map_toArray, List.map_cons, List.map_nil]); first | done | (simp only [hji10]; rfl) | rfl | (simp only [List.length_drop, List.length_take]; rfl)) ?_; (with_reducible refine (strings_Trim.calls (x116001_15 ++ (x1_3.extract ((ji10) : Int).toNat x1_3.size)) (⟨#[48]⟩ : ByteArray) t116 _ A24.out).mono ?_); rintro e w' ⟨rfl, ⟨nd, rfl⟩⟩; refine ⟨_, rfl, ?_⟩; (try (rw [drewN_self wc]; generalize hq_ : World.drewN wc _ = wc; have n0_ : Aside0 (wc.heap[gb112]? = some (.cells #[.bool false, .string (⟨#[]⟩ : ByteArray), .string (⟨#[]⟩ : ByteArray)] 23 (0, 0))) := ⟨by rw [← hq_]; exact (qk BK112)⟩; have n1_ : Aside0 (wc.heap[gb115]? = some (.cells #[.bool a0, .string x116001_15, .string (x1_3.extract ((ji10) : Int).toNat x1_3.size)] 23 (0, 0))) := ⟨by rw [← hq_]; exact (qk BK115)⟩; have n2_ : Aside0 (Below w.heap.size w wc) := ⟨by rw [← hq_]; exact (qh HB)⟩; clear BK112 BK115 HB hq_; have BK112 := n0_; have BK115 := n1_; have HB := n2_; clear n0_ n1_ n2_; (try have hcy115_0 : wc.cell? ⟨gb115, 0, none⟩ = some (.bool a0) := c_ BK115 0); (try have hfy115_0 := blk_frozen BK115.out 0); (try have hcy115_1 : wc.cell? ⟨gb115, 1, none⟩ = some (.string x116001_15) := c_ BK115 1); (try have hfy115_1 := blk_frozen BK115.out 1); (try have hcy115_2 : wc.cell? ⟨gb115, 2, none⟩ = some (.string (x1_3.extract ((ji10) : Int).toNat x1_3.size)) := c_ BK115 2); (try have hfy115_2 := blk_frozen BK115.out 2))); obtain ⟨hcz36_0, hcz36_1, hcz36_2, hfz36_0, hfz36_1, hfz36_2⟩ := q3 BK112))
               refine bodyPost_ret (results_ct rfl _ _ gb112 23 #[.bool false, .string (⟨#[]⟩ : ByteArray), .string (⟨#[]⟩ : ByteArray)] (0, 0) _ rfl (by refine qp 2 #[.bool false, .string (⟨#[]⟩ : ByteArray), .string (⟨#[]⟩ : ByteArray)] ?_; refine qp 1 #[.bool false, .string (⟨#[]⟩ : ByteArray), .string (⟨#[]⟩ : ByteArray)] ?_; refine qp 0 #[.bool false, .string (⟨#[]⟩ : ByteArray), .string (⟨#[]⟩ : ByteArray)] ?_; exact qk BK112) Tryd.underlying23 rfl (by kernel_rfl)) rfl ?_
               exact ⟨by first | rfl | (exact congrArg (fun b => Ending.returned (.bool b)) (Aid.bne_nil _)) | (exact congrArg (fun b => Ending.returned (.bool b)) (Aid.eq_nil _)) | (simp [errW_none, errW_some] <;> rfl) | (simp only [← hji10]; first | rfl | (simp [errW_none, errW_some] <;> rfl)) | (simp [*, errW_none, errW_some] <;> rfl), qh HB⟩
             · rw [if_neg c33] at H
               have c33b0 : decide (40 < (wrap64 ((x116001_15.size : Int) + a2))) = false := decide_eq_false c33
               clear c33
               simp only [Option.some.injEq, Prod.mk.injEq] at H
               obtain ⟨rfl, rfl, rfl, rfl⟩ := H
               have hnb37 := NB115_112.out
               have hnc37 := NB112_115.out
               obtain ⟨hcz38_0, hcz38_1, hcz38_2, hfz38_0, hfz38_1, hfz38_2⟩ := q3 BK115
               go_wp2_with (first | ((with_reducible refine gate_callee (f := 43) rfl ?_); refine goesL_ (some 46) rfl rfl Tryd.func43 (by kernel_rfl) rfl #[.string (x116001_15 ++ (x1_3.extract ((ji10) : Int).toNat x1_3.size)), .string (⟨#[48]⟩ : ByteArray)] rfl (by (try simp only [List.map_toArray, List.map_cons, List.map_nil]); first | done | (simp only [hji10]; rfl) | rfl | (simp only [List.length_drop, List.length_take]; rfl)) ?_; (with_reducible refine (strings_Trim.calls (x116001_15 ++ (x1_3.extract ((ji10) : Int).toNat x1_3.size)) (⟨#[48]⟩ : ByteArray) t116 _ A24.out).mono ?_); rintro e w' ⟨rfl, ⟨nd, rfl⟩⟩; refine ⟨_, rfl, ?_⟩; (try (rw [drewN_self wc]; generalize hq_ : World.drewN wc _ = wc; have n0_ : Aside0 (wc.heap[gb112]? = some (.cells #[.bool false, .string (⟨#[]⟩ : ByteArray), .string (⟨#[]⟩ : ByteArray)] 23 (0, 0))) := ⟨by rw [← hq_]; exact (qk BK112)⟩; have n1_ : Aside0 (wc.heap[gb115]? = some (.cells #[.bool a0, .string x116001_15, .string (x1_3.extract ((ji10) : Int).toNat x1_3.size)] 23 (0, 0))) := ⟨by rw [← hq_]; exact (qk BK115)⟩; have n2_ : Aside0 (Below w.heap.size w wc) := ⟨by rw [← hq_]; exact (qh HB)⟩; clear BK112 BK115 HB hq_; have BK112 := n0_; have BK115 := n1_; have HB := n2_; clear n0_ n1_ n2_; (try have hcy115_0 : wc.cell? ⟨gb115, 0, none⟩ = some (.bool a0) := c_ BK115 0); (try have hfy115_0 := blk_frozen BK115.out 0); (try have hcy115_1 : wc.cell? ⟨gb115, 1, none⟩ = some (.string x116001_15) := c_ BK115 1); (try have hfy115_1 := blk_frozen BK115.out 1); (try have hcy115_2 : wc.cell? ⟨gb115, 2, none⟩ = some (.string (x1_3.extract ((ji10) : Int).toNat x1_3.size)) := c_ BK115 2); (try have hfy115_2 := blk_frozen BK115.out 2))); obtain ⟨hcz39_0, hcz39_1, hcz39_2, hfz39_0, hfz39_1, hfz39_2⟩ := q3 BK112))
               refine bodyPost_ret (results_ct rfl _ _ gb112 23 #[.bool a0, .string x116001_15, .string (x1_3.extract ((ji10) : Int).toNat x1_3.size)] (0, 0) _ rfl (by refine qp 2 #[.bool a0, .string x116001_15, .string (⟨#[]⟩ : ByteArray)] ?_; refine qp 1 #[.bool a0, .string (⟨#[]⟩ : ByteArray), .string (⟨#[]⟩ : ByteArray)] ?_; refine qp 0 #[.bool false, .string (⟨#[]⟩ : ByteArray), .string (⟨#[]⟩ : ByteArray)] ?_; exact qk BK112) Tryd.underlying23 rfl (by kernel_rfl)) rfl ?_
               exact ⟨by first | rfl | (exact congrArg (fun b => Ending.returned (.bool b)) (Aid.bne_nil _)) | (exact congrArg (fun b => Ending.returned (.bool b)) (Aid.eq_nil _)) | (simp [errW_none, errW_some] <;> rfl) | (simp only [← hji10]; first | rfl | (simp [errW_none, errW_some] <;> rfl)) | (simp [*, errW_none, errW_some] <;> rfl), qh HB⟩
         · rw [if_neg c23] at H
           exact absurd H (by simp)
     · rw [if_neg c12] at H
       exact absurd H (by simp)
   · rw [if_neg c11] at H
     exact absurd H (by simp)

end Go.Proofs.YtpmhebdaphjinaaDoor.F
namespace Go.Proofs.YtpmhebdaphjinaaDoor.F
open Go.RowKit Go.Proofs.YtpmhebdaphjinaaDoorW.PrintWords Go.Proofs.YtpmhebdaphjinaaDoorW.PrintLast Go.Proofs.YtpmhebdaphjinaaDoorW.PrintMore Go.Proofs.YtpmhebdaphjinaaDoor.Q
attribute [local go_sem] max2_int min2_int max_two min_two max_three min_three max_four min_four   -- for this text's walks alone
set_option linter.unusedVariables false
set_option linter.unusedSimpArgs false

mutual
def round_shorten.j0 : Nat → Int → Int → ByteArray → Int → Bool → Bool → ByteArray → ByteArray → Option (Bool × ByteArray × ByteArray × Int)
 | 0, _, _, _, _, _, _, _, _ => none
 | k + 1, x1, x2, x8, x9, x10, x118000, x118001, x118002 => (round_away.f x1 x118000 x9 x10).bind fun bt121 => (if bt121.2 = 0 then (if bt121.1 = true then ((round_one.f x8).bind fun t123 => (round_shorten.j1 k x2 t123 x118000 x118001 x118002)) else (round_shorten.j1 k x2 x8 x118000 x118001 x118002)) else (some (false, (⟨#[]⟩ : ByteArray), (⟨#[]⟩ : ByteArray), bt121.2)))
def round_shorten.j1 : Nat → Int → ByteArray → Bool → ByteArray → ByteArray → Option (Bool × ByteArray × ByteArray × Int)
 | 0, _, _, _, _, _ => none
 | k + 1, x2, x8, x118000, x118001, x118002 => if x2 > (x118002.size : Int) then ((strings_Repeat.f (⟨#[48]⟩ : ByteArray) (wrap64 (x2 - (x118002.size : Int)))).bind fun t124 => (if x8.size + t124.size ≤ 9223372036854775807 then ((round_build.f k x118000 (x8 ++ t124) 0).bind fun bt125 => (some (bt125.1, bt125.2.1, bt125.2.2.1, bt125.2.2.2))) else (none))) else ((round_build.f k x118000 x8 (wrap64 ((x118002.size : Int) - x2))).bind fun bt129 => (some (bt129.1, bt129.2.1, bt129.2.2.1, bt129.2.2.2)))
end
def round_shorten.f (k : Nat) (a0_0 : Bool) (a0_1 : ByteArray) (a0_2 : ByteArray) (a1 : Int) (a2 : Int) : Option (Bool × ByteArray × ByteArray × Int) := if a0_1.size + a0_2.size ≤ 9223372036854775807 then ((round_cut.f k (a0_1 ++ a0_2) a2).bind fun bt119 => (if bt119.1.toList = ([] : List UInt8) then (round_shorten.j0 k a1 a2 bt119.1 bt119.2 false a0_0 a0_1 a0_2) else (if 0 ≤ (wrap64 ((bt119.1.size : Int) - 1)) then (if (wrap64 ((bt119.1.size : Int) - 1)) < (bt119.1.size : Int) then (round_shorten.j0 k a1 a2 bt119.1 bt119.2 (((((bt bt119.1 (wrap64 ((bt119.1.size : Int) - 1))) - 48) % 256) % 2) == 1) a0_0 a0_1 a0_2) else (none)) else (none)))) else (none)
theorem round_shorten.mono_l : ∀ k, (∀ y0 y1 y2 y3 y4 y5 y6 y7, LeO (round_shorten.j0 k y0 y1 y2 y3 y4 y5 y6 y7) (round_shorten.j0 (k + 1) y0 y1 y2 y3 y4 y5 y6 y7)) ∧ (∀ y0 y1 y2 y3 y4, LeO (round_shorten.j1 k y0 y1 y2 y3 y4) (round_shorten.j1 (k + 1) y0 y1 y2 y3 y4))
 | 0 => ⟨fun _ _ _ _ _ _ _ _ r h => by simp [round_shorten.j0] at h, fun _ _ _ _ _ r h => by simp [round_shorten.j1] at h⟩
 | k + 1 => by
  obtain ⟨ih0, ih1⟩ := round_shorten.mono_l k
  refine ⟨?_, ?_⟩
  · intro y0 y1 y2 y3 y4 y5 y6 y7
    unfold round_shorten.j0
    repeat' first
    | (with_reducible exact ih0 _ _ _ _ _ _ _ _)
    | (with_reducible exact ih1 _ _ _ _ _)
    | (with_reducible exact round_build.mono _ _ _ _)
    | (with_reducible exact round_cut.mono _ _ _)
    | (with_reducible exact LeO.refl _)
    | (with_reducible exact LeO.none _)
    | (with_reducible refine LeO.ite ?_ ?_)
    | (with_reducible refine LeO.bind ?_ (fun _ => ?_))
    | exact ih0 _ _ _ _ _ _ _ _
    | exact ih1 _ _ _ _ _
    | exact round_build.mono _ _ _ _
    | exact round_cut.mono _ _ _
    | exact LeO.none _
    | refine LeO.ite ?_ ?_
    | refine LeO.bind ?_ (fun _ => ?_)
  · intro y0 y1 y2 y3 y4
    unfold round_shorten.j1
    repeat' first
    | (with_reducible exact ih0 _ _ _ _ _ _ _ _)
    | (with_reducible exact ih1 _ _ _ _ _)
    | (with_reducible exact round_build.mono _ _ _ _)
    | (with_reducible exact round_cut.mono _ _ _)
    | (with_reducible exact LeO.refl _)
    | (with_reducible exact LeO.none _)
    | (with_reducible refine LeO.ite ?_ ?_)
    | (with_reducible refine LeO.bind ?_ (fun _ => ?_))
    | exact ih0 _ _ _ _ _ _ _ _
    | exact ih1 _ _ _ _ _
    | exact round_build.mono _ _ _ _
    | exact round_cut.mono _ _ _
    | exact LeO.none _
    | refine LeO.ite ?_ ?_
    | refine LeO.bind ?_ (fun _ => ?_)
theorem round_shorten.mono : ∀ a0 a1 a2 a3 a4 k, LeO (round_shorten.f k a0 a1 a2 a3 a4) (round_shorten.f (k + 1) a0 a1 a2 a3 a4) := by
 intro a0 a1 a2 a3 a4 k
 obtain ⟨ih0, ih1⟩ := round_shorten.mono_l k
 unfold round_shorten.f
 repeat' first
  | (with_reducible exact ih0 _ _ _ _ _ _ _ _)
  | (with_reducible exact ih1 _ _ _ _ _)
  | (with_reducible exact round_build.mono _ _ _ _)
  | (with_reducible exact round_cut.mono _ _ _)
  | (with_reducible exact LeO.refl _)
  | (with_reducible exact LeO.none _)
  | (with_reducible refine LeO.ite ?_ ?_)
  | (with_reducible refine LeO.bind ?_ (fun _ => ?_))
  | exact ih0 _ _ _ _ _ _ _ _
  | exact ih1 _ _ _ _ _
  | exact round_build.mono _ _ _ _
  | exact round_cut.mono _ _ _
  | exact LeO.none _
  | refine LeO.ite ?_ ?_
  | refine LeO.bind ?_ (fun _ => ?_)
def round_shorten.T9 : Bool × List (List Nat × List Nat) := (true, [([], []), ([0], [0]), ([], []), ([], []), ([], []), ([4], [4]), ([5], [5]), ([3, 6], [3, 6]), ([7], [7]), ([2, 8], [2, 8]), ([1, 9, 8], [1, 9]), ([10], [10]), ([10], [10]), ([11, 10, 0, 1, 2, 3, 4, 5, 6, 7, 8, 9, 10, 11, 12], [11]), ([12, 13, 0, 1, 2, 3, 4, 5, 6, 7, 8, 9, 10, 11, 12, 13], [12])])
def round_shorten.B9 : List Nat := [0, 1, 0, 0, 0, 16, 48, 120, 248, 508, 1023, 2047, 2047, 8191, 16383]
theorem round_shorten.tab9 : rtab .any (opsOf Tryd.f25 9) = round_shorten.T9 := by kernel_rfl
theorem round_shorten.bits9 : waitsOk round_shorten.T9.2 round_shorten.B9 = true := by kernel_rfl
set_option maxHeartbeats 8000000 in
set_option maxRecDepth 100000 in
theorem round_shorten.calls (k : Nat) (a0_0 : Bool) (a0_1 : ByteArray) (a0_2 : ByteArray) (a1 : Int) (a2 : Int) (r1 : Bool) (r2 : ByteArray) (r3 : ByteArray) (r4 : Int) (w : World) (h : round_shorten.f k a0_0 a0_1 a0_2 a1 a2 = some (r1, r2, r3, r4)) :
 Calls Tryd.prog 25 #[.agg #[.bool a0_0, .string a0_1, .string a0_2], .int .i64 a1, .int .i64 a2] w fun e w' => e = .returned (.tuple #[.agg #[.bool r1, .string r2, .string r3], .int .i64 r4]) ∧ Below w.heap.size w w' := by
 have hu23 := Tryd.underlying23
 have HB := Aside0.mk (Below.refl w.heap.size w)
 have H : (if a0_1.size + a0_2.size ≤ 9223372036854775807 then ((round_cut.f k (a0_1 ++ a0_2) a2).bind fun bt119 => (if bt119.1.toList = ([] : List UInt8) then (round_shorten.j0 k a1 a2 bt119.1 bt119.2 false a0_0 a0_1 a0_2) else (if 0 ≤ (wrap64 ((bt119.1.size : Int) - 1)) then (if (wrap64 ((bt119.1.size : Int) - 1)) < (bt119.1.size : Int) then (round_shorten.j0 k a1 a2 bt119.1 bt119.2 (((((bt bt119.1 (wrap64 ((bt119.1.size : Int) - 1))) - 48) % 256) % 2) == 1) a0_0 a0_1 a0_2) else (none)) else (none)))) else (none)) = some (r1, r2, r3, r4) := h
 clear h
 by_cases c4 : a0_1.size + a0_2.size ≤ 9223372036854775807
 · rw [if_pos c4] at H
   have c4b0 := eq_true c4
   have c4b1 : decide (a0_1.size + a0_2.size ≤ 9223372036854775807) = true := decide_eq_true c4
   try have c4b2 : (9223372036854775807 < a0_1.size + a0_2.size) = False := eq_false (Nat.not_lt.2 c4)
   replace H := Option.bind_eq_some_iff.mp H
   obtain ⟨⟨t119, t120⟩, A50, H⟩ := H
   replace H : (if t119.toList = ([] : List UInt8) then (round_shorten.j0 k a1 a2 t119 t120 false a0_0 a0_1 a0_2) else (if 0 ≤ (wrap64 ((t119.size : Int) - 1)) then (if (wrap64 ((t119.size : Int) - 1)) < (t119.size : Int) then (round_shorten.j0 k a1 a2 t119 t120 (((((bt t119 (wrap64 ((t119.size : Int) - 1))) - 48) % 256) % 2) == 1) a0_0 a0_1 a0_2) else (none)) else (none))) = some (r1, r2, r3, r4) := H
   have A5 := Aside0.mk A50
   clear A50
   have HC6 := Aside0.mk H
   clear H
   go_enter Tryd.func25, Tryd.ntmps25
   go_upto_region 2 with (first | ((with_reducible refine gate_dst (N := 3) rfl ?_); (try (refine gate_guard (by rfl) ?_; dsimp only)); refine qx 3 #[.bool a0_0, .string a0_1, .string a0_2] 23 ?_; intro gb117 hg w7 hbox hb; have BK117 := Aside0.mk (hbox); have GW117 := qs hg HB; have GE117 := GW117; replace HB := qn HB hb; clear hb hbox hg) | ((with_reducible refine gate_dst (N := 6) rfl ?_); (try (refine gate_guard (by rfl) ?_; dsimp only)); refine qx 6 #[.bool false, .string (⟨#[]⟩ : ByteArray), .string (⟨#[]⟩ : ByteArray)] 23 ?_; intro gb118 hg w8 hbox hb; have BK118 := Aside0.mk (hbox); have GW118 := qs hg HB; have GE118 := GW118; have NB117_118 := ql_ hg BK117; have NB118_117 := qg_ hg BK117; replace BK117 := qb BK117 hb; replace HB := qn HB hb; clear hb hbox hg; have hnb9 := NB117_118.out; have hnc9 := NB118_117.out; obtain ⟨hcz10_0, hcz10_1, hcz10_2, hfz10_0, hfz10_1, hfz10_2⟩ := q3 BK117) | ((with_reducible refine gate_callee (f := 51) rfl ?_); refine goesL_ (some 20) rfl rfl Tryd.func51 (by kernel_rfl) rfl #[.string (a0_1 ++ a0_2), .int .i64 a2] rfl ql ?_; (with_reducible refine (round_cut.calls k (a0_1 ++ a0_2) a2 t119 t120 _ A5.out).mono ?_); rintro e w11 ⟨rfl, hb⟩; refine ⟨_, rfl, ?_⟩; replace BK117 := qb BK117 hb; replace BK118 := qb BK118 hb; replace HB := qn HB hb; (try clear hb); (try clear hb2); (try clear hk); (try clear hi)))
   (try simp only [Act.put, List.setIfInBounds_toArray, List.set_cons_zero, List.set_cons_succ])
   go_cut [10] (fun v10 wc => ∃ (kq : Nat) (x10_5 : Bool), v10 = .bool x10_5 ∧ Aside0 (round_shorten.j0 kq a1 a2 t119 t120 x10_5 a0_0 a0_1 a0_2 = some (r1, r2, r3, r4)) ∧ Aside0 (kq ≤ k) ∧ Aside0 (wc.heap[gb117]? = some (.cells #[.bool a0_0, .string a0_1, .string a0_2] 23 (0, 0))) ∧ Aside0 (wc.heap[gb118]? = some (.cells #[.bool false, .string (⟨#[]⟩ : ByteArray), .string (⟨#[]⟩ : ByteArray)] 23 (0, 0))) ∧ Aside0 (Below w.heap.size w wc))
   case first =>
    have H := HC6.out
    clear HC6
    by_cases c12 : t119.toList = ([] : List UInt8)
    · rw [if_pos c12] at H
      have c12b0 : (t119.toList == ([] : List UInt8)) = true := beq_iff_eq.mpr c12
      try have c12b0z := Aid.empty_of c12b0
      have c12b1 : (t119.toList != ([] : List UInt8)) = false := bne_eq_false_iff_eq.mpr c12
      clear c12
      (first | rw [c12b0] | rw [c12b0z] | (simp only [i64_w, i32_w]; rw [c12b0]) | skip)
      have H' := Aside0.mk H
      clear H
      go_wp2
      go_meet
      case rel => exact ⟨_, (false), (by first | rfl | (simp; done) | (simp [*]; done)), H', ⟨by first | omega | exact Nat.le_refl _⟩, ⟨qk BK117⟩, ⟨qk BK118⟩, ⟨qh HB⟩⟩
    · rw [if_neg c12] at H
      have c12b0 : (t119.toList == ([] : List UInt8)) = false := beq_eq_false_iff_ne.mpr c12
      try have c12b0z := Aid.empty_of c12b0
      have c12b1 : (t119.toList != ([] : List UInt8)) = true := bne_iff_ne.mpr c12
      (first | rw [c12b0] | rw [c12b0z] | (simp only [i64_w, i32_w]; rw [c12b0]) | skip)
      obtain ⟨ji13, hji13⟩ : ∃ j_ : Int, (wrap64 ((t119.size : Int) - 1)) = j_ := ⟨_, rfl⟩
      replace H : (if 0 ≤ (ji13) then (if (ji13) < (t119.size : Int) then (round_shorten.j0 k a1 a2 t119 t120 (((((bt t119 (ji13)) - 48) % 256) % 2) == 1) a0_0 a0_1 a0_2) else (none)) else (none)) = some (r1, r2, r3, r4) := by first | (rw [hji13] at H; exact H) | (simp only [hji13] at H ⊢; exact H)
      have hji13w : (IntKind.i64.wrap ((t119.size : Int) - 1)) = ji13 := (i64_w _).trans hji13
      by_cases c14 : 0 ≤ (ji13)
      · rw [if_pos c14] at H
        have c14b0 : decide (0 ≤ (ji13)) = true := decide_eq_true c14
        clear c14
        by_cases c15 : (ji13) < (t119.size : Int)
        · rw [if_pos c15] at H
          have c15b0 : decide ((ji13) < (t119.size : Int)) = true := decide_eq_true c15
          clear c15
          have H' := Aside0.mk H
          clear H
          have p16 : 0 ≤ ((ji13) : Int) := of_decide_eq_true qa
          have q16 : (ji13) < (t119.size : Int) := of_decide_eq_true qa
          have hx16 := bt_at t119 (ji13)
          replace p16 := eq_true p16
          replace q16 := eq_true q16
          go_wp2
          go_meet
          case rel => exact ⟨_, ((((((bt t119 (ji13)) - 48) % 256) % 2) == 1)), (by first | rfl | (simp; done) | (simp only [← hji13] <;> (first | rfl | simp)) | (simp [*]; done)), H', ⟨by first | omega | exact Nat.le_refl _⟩, ⟨qk BK117⟩, ⟨qk BK118⟩, ⟨qh HB⟩⟩
        · rw [if_neg c15] at H
          exact absurd H (by simp)
      · rw [if_neg c14] at H
        exact absurd H (by simp)
   case rest =>
    clear HC6
    try clear c1
    try clear p1
    try clear q1
    try clear hx1
    try clear c2
    try clear p2
    try clear c4
    try clear c4b0
    try clear c4b1
    try clear c4b2
    try clear c5
    try clear p6
    try clear c9
    try clear c12
    try clear c12b0
    try clear c12b1
    try clear c14
    try clear c14b0
    try clear c15
    try clear c15b0
    try clear p16
    try clear q16
    try clear hx16
    try clear hcz10_0
    try clear hcz10_1
    try clear hcz10_2
    try clear hfz10_0
    try clear hfz10_1
    try clear hfz10_2
    try clear p16
    try clear q16
    obtain ⟨kq, x10_5, rfl, HA, HJ5, BK117, BK118, HB⟩ := hcut
    cases kq with
    | zero => exact absurd HA.out (by simp [round_shorten.j0])
    | succ kj5 =>
     have H := HA.out
     clear HA
     simp only [round_shorten.j0] at H
     replace H := Option.bind_eq_some_iff.mp H
     obtain ⟨⟨t121, t122⟩, A170, H⟩ := H
     replace H : (if t122 = 0 then (if t121 = true then ((round_one.f t119).bind fun t123 => (round_shorten.j1 kj5 a2 t123 a0_0 a0_1 a0_2)) else (round_shorten.j1 kj5 a2 t119 a0_0 a0_1 a0_2)) else (some (false, (⟨#[]⟩ : ByteArray), (⟨#[]⟩ : ByteArray), t122))) = some (r1, r2, r3, r4) := H
     have A17 := Aside0.mk A170
     clear A170
     by_cases c18 : t122 = 0
     · rw [if_pos c18] at H
       have c18b0 : (t122 == 0) = true := beq_iff_eq.mpr c18
       have c18b1 : (t122 != 0) = false := bne_eq_false_iff_eq.mpr c18
       try have c18b1z := c18b1
       (try simp only [bne] at c18b1z)
       clear c18
       have HC19 := Aside0.mk H
       clear H
       have hnb20 := NB117_118.out
       have hnc20 := NB118_117.out
       obtain ⟨hcz21_0, hcz21_1, hcz21_2, hfz21_0, hfz21_1, hfz21_2⟩ := q3 BK117
       go_upto_if 48 with (first | ((with_reducible refine gate_callee (f := 47) rfl ?_); refine goesL_ (some 41) rfl rfl Tryd.func47 (by kernel_rfl) rfl #[.int .i64 a1, .bool a0_0, .int .i64 t120, .bool x10_5] rfl ql ?_; (with_reducible refine (round_away.calls a1 a0_0 t120 x10_5 t121 t122 _ A17.out).mono ?_); rintro e w' ⟨rfl, ⟨nd, rfl⟩⟩; refine ⟨_, rfl, ?_⟩))
       (try simp only [Act.put, List.setIfInBounds_toArray, List.set_cons_zero, List.set_cons_succ])
       go_cut [8] (fun v8 wc => ∃ (kq : Nat) (x8_18 : ByteArray), v8 = .string x8_18 ∧ Aside0 (round_shorten.j1 kq a2 x8_18 a0_0 a0_1 a0_2 = some (r1, r2, r3, r4)) ∧ Aside0 (kq ≤ kj5) ∧ Aside0 (wc.heap[gb117]? = some (.cells #[.bool a0_0, .string a0_1, .string a0_2] 23 (0, 0))) ∧ Aside0 (wc.heap[gb118]? = some (.cells #[.bool false, .string (⟨#[]⟩ : ByteArray), .string (⟨#[]⟩ : ByteArray)] 23 (0, 0))) ∧ Aside0 (Below w.heap.size w wc))
       case first =>
        have H := HC19.out
        clear HC19
        by_cases c22 : t121 = true
        · subst c22
          have H1 : ((round_one.f t119).bind fun t123 => (round_shorten.j1 kj5 a2 t123 a0_0 a0_1 a0_2)) = some (r1, r2, r3, r4) := by rw [if_pos rfl] at H; exact H
          clear H
          have H := H1
          clear H1
          replace H := Option.bind_eq_some_iff.mp H
          obtain ⟨t123, A230, H⟩ := H
          replace H : (round_shorten.j1 kj5 a2 t123 a0_0 a0_1 a0_2) = some (r1, r2, r3, r4) := H
          have A23 := Aside0.mk A230
          clear A230
          have H' := Aside0.mk H
          clear H
          go_wp2_with (first | ((with_reducible refine gate_callee (f := 52) rfl ?_); refine goesL_ (some 50) rfl rfl Tryd.func52 (by kernel_rfl) rfl #[.string t119] rfl ql ?_; (with_reducible refine (round_one.calls t119 t123 _ A23.out).mono ?_); rintro e w24 ⟨rfl, hb⟩; refine ⟨_, rfl, ?_⟩; replace BK117 := qb BK117 hb; replace BK118 := qb BK118 hb; replace HB := qn HB hb; (try clear hb); (try clear hb2); (try clear hk); (try clear hi)))
          go_meet
          case rel => exact ⟨_, (t123), (by first | rfl | (simp; done) | (simp [*]; done)), H', ⟨by have := HJ5.out; first | omega | exact Nat.le_refl _⟩, ⟨qk BK117⟩, ⟨qk BK118⟩, ⟨qh HB⟩⟩
        · replace c22 := Bool.eq_false_iff.mpr c22
          subst c22
          have H1 : (round_shorten.j1 kj5 a2 t119 a0_0 a0_1 a0_2) = some (r1, r2, r3, r4) := by rw [if_neg (show ¬ (false = true) by decide)] at H; exact H
          clear H
          have H := H1
          clear H1
          have H' := Aside0.mk H
          clear H
          go_wp2
          go_meet
          case rel => exact ⟨_, (t119), (by first | rfl | (simp; done) | (simp [*]; done)), H', ⟨by have := HJ5.out; first | omega | exact Nat.le_refl _⟩, ⟨qk BK117⟩, ⟨qk BK118⟩, ⟨qh HB⟩⟩
       case rest =>
        clear HC19
        try clear c1
        try clear p1
        try clear q1
        try clear hx1
        try clear c2
        try clear p2
        try clear c4
        try clear c4b0
        try clear c4b1
        try clear c4b2
        try clear c5
        try clear p6
        try clear c9
        try clear c12
        try clear c12b0
        try clear c12b1
        try clear c14
        try clear c14b0
        try clear c15
        try clear c15b0
        try clear p16
        try clear q16
        try clear hx16
        try clear c18
        try clear c18b0
        try clear c18b1
        try clear c20
        try clear c22
        try clear hcz10_0
        try clear hcz10_1
        try clear hcz10_2
        try clear hcz21_0
        try clear hcz21_1
        try clear hcz21_2
        try clear hfz10_0
        try clear hfz10_1
        try clear hfz10_2
        try clear hfz21_0
        try clear hfz21_1
        try clear hfz21_2
        try clear p1
        try clear p16
        try clear p2
        try clear p6
        try clear q1
        try clear q16
        obtain ⟨kq, x8_18, rfl, HA, HJ18, BK117, BK118, HB⟩ := hcut
        cases kq with
        | zero => exact absurd HA.out (by simp [round_shorten.j1])
        | succ kj18 =>
         have H := HA.out
         clear HA
         simp only [round_shorten.j1] at H
         by_cases c25 : a2 > (a0_2.size : Int)
         · rw [if_pos c25] at H
           have c25b0 : decide ((a0_2.size : Int) < a2) = true := decide_eq_true c25
           clear c25
           replace H := Option.bind_eq_some_iff.mp H
           obtain ⟨t124, A260, H⟩ := H
           replace H : (if x8_18.size + t124.size ≤ 9223372036854775807 then ((round_build.f kj18 a0_0 (x8_18 ++ t124) 0).bind fun bt125 => (some (bt125.1, bt125.2.1, bt125.2.2.1, bt125.2.2.2))) else (none)) = some (r1, r2, r3, r4) := H
           have A26 := Aside0.mk A260
           clear A260
           by_cases c27 : x8_18.size + t124.size ≤ 9223372036854775807
           · rw [if_pos c27] at H
             have c27b0 := eq_true c27
             have c27b1 : decide (x8_18.size + t124.size ≤ 9223372036854775807) = true := decide_eq_true c27
             try have c27b2 : (9223372036854775807 < x8_18.size + t124.size) = False := eq_false (Nat.not_lt.2 c27)
             replace H := Option.bind_eq_some_iff.mp H
             obtain ⟨⟨t125, t126, t127, t128⟩, A280, H⟩ := H
             replace H : (some (t125, t126, t127, t128)) = some (r1, r2, r3, r4) := H
             have A28 := Aside0.mk A280
             clear A280
             simp only [Option.some.injEq, Prod.mk.injEq] at H
             obtain ⟨rfl, rfl, rfl, rfl⟩ := H
             have hnb29 := NB117_118.out
             have hnc29 := NB118_117.out
             obtain ⟨hcz30_0, hcz30_1, hcz30_2, hfz30_0, hfz30_1, hfz30_2⟩ := q3 BK117
             try go_wp2
             replace BK117 := Aside0.mk (blk_drew BK117.out)
             replace BK118 := Aside0.mk (blk_drew BK118.out)
             replace HB := Aside0.mk (below_drew1 HB.out)
             refine start_ (n := 15) (S := fun w' => w'.cell? ⟨gb117, 0, none⟩ = some (.bool a0_0) ∧ w'.cell? ⟨gb117, 1, none⟩ = some (.string a0_1) ∧ w'.cell? ⟨gb117, 2, none⟩ = some (.string a0_2)) (ds := []) #[false, false, false, false, false, false, false, false, false, false, false, false, false, false, false] (by kernel_rfl) rfl rfl ⟨c_ BK117 0, c_ BK117 1, c_ BK117 2⟩ (fun hHeld => ?_); refine with_tabW round_shorten.tab9 round_shorten.bits9 (fun HT_ HW_ => ?_)
             generalize wc.drew = w31 at BK117 BK118 HB hHeld ⊢
             refine pz 0 (some 56) #[true, false, false, false, false, false, false, false, false, false, false, false, false, false, false] HT_ ?_
             refine pz 2 (some 58) #[true, false, true, false, false, false, false, false, false, false, false, false, false, false, false] HT_ ?_
             refine pz 3 (some 59) #[true, false, true, true, false, false, false, false, false, false, false, false, false, false, false] HT_ ?_
             refine pz 4 (some 60) #[true, false, true, true, true, false, false, false, false, false, false, false, false, false, false] HT_ ?_
             refine tw3 1 (some 57) #[true, true, true, true, true, false, false, false, false, false, false, false, false, false, false] HT_ HW_ hHeld ?_
             refine tw3 5 (some 61) #[true, true, true, true, true, true, false, false, false, false, false, false, false, false, false] HT_ HW_ hHeld ?_
             refine pz 6 (some 62) #[true, true, true, true, true, true, true, false, false, false, false, false, false, false, false] HT_ ?_
             refine pz 7 (some 63) #[true, true, true, true, true, true, true, true, false, false, false, false, false, false, false] HT_ ?_
             refine one_ (i := 8) (N := some 64) #[true, true, true, true, true, true, true, true, true, false, false, false, false, false, false] rfl rfl (one_of HT_.out (by kernel_rfl)) (by decide) (fun K hK => ?_)
             refine goes_ Tryd.func39 (by kernel_rfl) rfl #[.string (⟨#[48]⟩ : ByteArray), .int .i64 (wrap64 (a2 - (a0_2.size : Int)))] (by rfl) rfl rfl ql ?_
             with_reducible refine (strings_Repeat.calls (⟨#[48]⟩ : ByteArray) (wrap64 (a2 - (a0_2.size : Int))) t124 _ A26.out).mono ?_
             rintro e w32 ⟨rfl, hb⟩
             refine ⟨_, rfl, ?_⟩
             replace BK117 := qb BK117 hb
             replace BK118 := qb BK118 hb
             replace HB := qn HB hb
             (try clear hb)
             (try clear hb2)
             (try clear hk)
             (try clear hi)
             refine hK.out _ _ ⟨c_ BK117 0, c_ BK117 1, c_ BK117 2⟩ (fun hHeld => ?_)
             clear hK K
             refine nz (some 64) ?_
             refine pz 9 (some 65) #[true, true, true, true, true, true, true, true, true, true, false, false, false, false, false] HT_ ?_
             refine one_ (i := 10) (N := some 66) #[true, true, true, true, true, true, true, true, true, true, true, false, false, false, false] rfl rfl (one_of HT_.out (by kernel_rfl)) (by decide) (fun K hK => ?_)
             refine goes_ Tryd.func53 (by kernel_rfl) rfl #[.bool a0_0, .string (x8_18 ++ t124), .int .i64 0] (by rfl) rfl rfl ql ?_
             with_reducible refine (round_build.calls kj18 a0_0 (x8_18 ++ t124) 0 t125 t126 t127 t128 _ A28.out).mono ?_
             rintro e w33 ⟨rfl, hb⟩
             refine ⟨_, rfl, ?_⟩
             replace BK117 := qb BK117 hb
             replace BK118 := qb BK118 hb
             replace HB := qn HB hb
             (try clear hb)
             (try clear hb2)
             (try clear hk)
             (try clear hi)
             refine hK.out _ _ ⟨c_ BK117 0, c_ BK117 1, c_ BK117 2⟩ (fun hHeld => ?_)
             clear hK K
             refine nz (some 66) ?_
             refine pz 11 (some 67) #[true, true, true, true, true, true, true, true, true, true, true, true, false, false, false] HT_ ?_
             refine pz 12 (some 68) #[true, true, true, true, true, true, true, true, true, true, true, true, true, false, false] HT_ ?_
             refine one_ (i := 13) (N := none) #[true, true, true, true, true, true, true, true, true, true, true, true, true, true, false] rfl rfl (one_of HT_.out (by kernel_rfl)) (by decide) (fun K hK => ?_)
             have hs34 : w33.cell? ⟨gb118, 0, none⟩ = some (.bool false) := c_ BK118 0
             have hfs34 := blk_frozen BK118.out 0
             have hns34_0 := NB117_118.out
             have hms34_0 := NB118_117.out
             have hs35 : w33.cell? ⟨gb118, 1, none⟩ = some (.string (⟨#[]⟩ : ByteArray)) := c_ BK118 1
             have hfs35 := blk_frozen BK118.out 1
             have hns35_0 := NB117_118.out
             have hms35_0 := NB118_117.out
             have hs36 : w33.cell? ⟨gb118, 2, none⟩ = some (.string (⟨#[]⟩ : ByteArray)) := c_ BK118 2
             have hfs36 := blk_frozen BK118.out 2
             have hns36_0 := NB117_118.out
             have hms36_0 := NB118_117.out
             refine skip_ (w1 := ?_) (by rfl) rfl ?_ ?_
             rotate_left
             · go_simp
               rfl
             refine hK.out _ _ ⟨((cell_far (p := ⟨gb118, _, none⟩) NB117_118.out _).trans (((cell_far (p := ⟨gb118, _, none⟩) NB117_118.out _).trans (((cell_far (p := ⟨gb118, _, none⟩) NB117_118.out _).trans (hHeld.1)))))), ((cell_far (p := ⟨gb118, _, none⟩) NB117_118.out _).trans (((cell_far (p := ⟨gb118, _, none⟩) NB117_118.out _).trans (((cell_far (p := ⟨gb118, _, none⟩) NB117_118.out _).trans (hHeld.2.1)))))), ((cell_far (p := ⟨gb118, _, none⟩) NB117_118.out _).trans (((cell_far (p := ⟨gb118, _, none⟩) NB117_118.out _).trans (((cell_far (p := ⟨gb118, _, none⟩) NB117_118.out _).trans (hHeld.2.2))))))⟩ (fun hHeld => ?_)
             clear hK K
             refine pz 14 (some 7) #[true, true, true, true, true, true, true, true, true, true, true, true, true, true, true] HT_ ?_
             refine done_ (done_of HT_.out (by kernel_rfl)) ?_
             try go_wp2
             refine bodyPost_ret (results_ct rfl _ _ gb118 23 #[.bool t125, .string t126, .string t127] (0, 0) _ rfl (by refine qp 2 #[.bool t125, .string t126, .string (⟨#[]⟩ : ByteArray)] ?_; refine qp 1 #[.bool t125, .string (⟨#[]⟩ : ByteArray), .string (⟨#[]⟩ : ByteArray)] ?_; refine qp 0 #[.bool false, .string (⟨#[]⟩ : ByteArray), .string (⟨#[]⟩ : ByteArray)] ?_; exact qk BK118) Tryd.underlying23 rfl (by kernel_rfl)) rfl ?_
             exact ⟨qe, qh HB⟩
           · rw [if_neg c27] at H
             exact absurd H (by simp)
         · rw [if_neg c25] at H
           have c25b0 : decide ((a0_2.size : Int) < a2) = false := decide_eq_false c25
           clear c25
           replace H := Option.bind_eq_some_iff.mp H
           obtain ⟨⟨t129, t130, t131, t132⟩, A370, H⟩ := H
           replace H : (some (t129, t130, t131, t132)) = some (r1, r2, r3, r4) := H
           have A37 := Aside0.mk A370
           clear A370
           simp only [Option.some.injEq, Prod.mk.injEq] at H
           obtain ⟨rfl, rfl, rfl, rfl⟩ := H
           have hnb38 := NB117_118.out
           have hnc38 := NB118_117.out
           obtain ⟨hcz39_0, hcz39_1, hcz39_2, hfz39_0, hfz39_1, hfz39_2⟩ := q3 BK117
           go_wp2_with (first | ((with_reducible refine gate_callee (f := 53) rfl ?_); refine goesL_ (some 77) rfl rfl Tryd.func53 (by kernel_rfl) rfl #[.bool a0_0, .string x8_18, .int .i64 (wrap64 ((a0_2.size : Int) - a2))] rfl ql ?_; (with_reducible refine (round_build.calls kj18 a0_0 x8_18 (wrap64 ((a0_2.size : Int) - a2)) t129 t130 t131 t132 _ A37.out).mono ?_); rintro e w40 ⟨rfl, hb⟩; refine ⟨_, rfl, ?_⟩; replace BK117 := qb BK117 hb; replace BK118 := qb BK118 hb; replace HB := qn HB hb; (try clear hb); (try clear hb2); (try clear hk); (try clear hi); obtain ⟨hcz41_0, hcz41_1, hcz41_2, hfz41_0, hfz41_1, hfz41_2⟩ := q3 BK118))
           refine bodyPost_ret (results_ct rfl _ _ gb118 23 #[.bool t129, .string t130, .string t131] (0, 0) _ rfl (by refine qp 2 #[.bool t129, .string t130, .string (⟨#[]⟩ : ByteArray)] ?_; refine qp 1 #[.bool t129, .string (⟨#[]⟩ : ByteArray), .string (⟨#[]⟩ : ByteArray)] ?_; refine qp 0 #[.bool false, .string (⟨#[]⟩ : ByteArray), .string (⟨#[]⟩ : ByteArray)] ?_; exact qk BK118) Tryd.underlying23 rfl (by kernel_rfl)) rfl ?_
           exact ⟨qe, qh HB⟩
     · rw [if_neg c18] at H
       have c18b0 : (t122 == 0) = false := beq_eq_false_iff_ne.mpr c18
       have c18b1 : (t122 != 0) = true := bne_iff_ne.mpr c18
       try have c18b1z := c18b1
       (try simp only [bne] at c18b1z)
       simp only [Option.some.injEq, Prod.mk.injEq] at H
       obtain ⟨rfl, rfl, rfl, rfl⟩ := H
       have hnb42 := NB117_118.out
       have hnc42 := NB118_117.out
       obtain ⟨hcz43_0, hcz43_1, hcz43_2, hfz43_0, hfz43_1, hfz43_2⟩ := q3 BK117
       go_wp2_with (first | ((with_reducible refine gate_callee (f := 47) rfl ?_); refine goesL_ (some 41) rfl rfl Tryd.func47 (by kernel_rfl) rfl #[.int .i64 a1, .bool a0_0, .int .i64 t120, .bool x10_5] rfl ql ?_; (with_reducible refine (round_away.calls a1 a0_0 t120 x10_5 t121 t122 _ A17.out).mono ?_); rintro e w' ⟨rfl, ⟨nd, rfl⟩⟩; refine ⟨_, rfl, ?_⟩; (try (rw [drewN_self wc]; generalize hq_ : World.drewN wc _ = wc; have n0_ : Aside0 (wc.heap[gb117]? = some (.cells #[.bool a0_0, .string a0_1, .string a0_2] 23 (0, 0))) := ⟨by rw [← hq_]; exact (qk BK117)⟩; have n1_ : Aside0 (wc.heap[gb118]? = some (.cells #[.bool false, .string (⟨#[]⟩ : ByteArray), .string (⟨#[]⟩ : ByteArray)] 23 (0, 0))) := ⟨by rw [← hq_]; exact (qk BK118)⟩; have n2_ : Aside0 (Below w.heap.size w wc) := ⟨by rw [← hq_]; exact (qh HB)⟩; clear BK117 BK118 HB hq_; have BK117 := n0_; have BK118 := n1_; have HB := n2_; clear n0_ n1_ n2_; (try have hcy117_0 : wc.cell? ⟨gb117, 0, none⟩ = some (.bool a0_0) := c_ BK117 0); (try have hfy117_0 := blk_frozen BK117.out 0); (try have hcy117_1 : wc.cell? ⟨gb117, 1, none⟩ = some (.string a0_1) := c_ BK117 1); (try have hfy117_1 := blk_frozen BK117.out 1); (try have hcy117_2 : wc.cell? ⟨gb117, 2, none⟩ = some (.string a0_2) := c_ BK117 2); (try have hfy117_2 := blk_frozen BK117.out 2))); obtain ⟨hcz44_0, hcz44_1, hcz44_2, hfz44_0, hfz44_1, hfz44_2⟩ := q3 BK118))
       refine bodyPost_ret (results_ct rfl _ _ gb118 23 #[.bool false, .string (⟨#[]⟩ : ByteArray), .string (⟨#[]⟩ : ByteArray)] (0, 0) _ rfl (by refine qp 2 #[.bool false, .string (⟨#[]⟩ : ByteArray), .string (⟨#[]⟩ : ByteArray)] ?_; refine qp 1 #[.bool false, .string (⟨#[]⟩ : ByteArray), .string (⟨#[]⟩ : ByteArray)] ?_; refine qp 0 #[.bool false, .string (⟨#[]⟩ : ByteArray), .string (⟨#[]⟩ : ByteArray)] ?_; exact qk BK118) Tryd.underlying23 rfl (by kernel_rfl)) rfl ?_
       exact ⟨qe, qh HB⟩
 · rw [if_neg c4] at H
   exact absurd H (by simp)

end Go.Proofs.YtpmhebdaphjinaaDoor.F
namespace Go.Proofs.YtpmhebdaphjinaaDoor.F
open Go.RowKit Go.Proofs.YtpmhebdaphjinaaDoorW.PrintWords Go.Proofs.YtpmhebdaphjinaaDoorW.PrintLast Go.Proofs.YtpmhebdaphjinaaDoorW.PrintMore Go.Proofs.YtpmhebdaphjinaaDoor.Q
attribute [local go_sem] max2_int min2_int max_two min_two max_three min_three max_four min_four   -- for this text's walks alone
set_option linter.unusedVariables false
set_option linter.unusedSimpArgs false

def round_Places.j0 : Nat → Int → Int → Bool → Bool → ByteArray → ByteArray → Option (Bool × ByteArray × ByteArray × Int)
 | 0, _, _, _, _, _, _ => none
 | k + 1, x1, x2, x21, x134000, x134001, x134002 => if x21 = true then (some (false, (⟨#[]⟩ : ByteArray), (⟨#[]⟩ : ByteArray), 1)) else (if (x134002.size : Int) ≤ x2 then (some (x134000, x134001, x134002, 0)) else ((round_shorten.f k x134000 x134001 x134002 x1 (wrap64 ((x134002.size : Int) - x2))).bind fun bt136 => (some (bt136.1, bt136.2.1, bt136.2.2.1, bt136.2.2.2))))
def round_Places.f (k : Nat) (a0_0 : Bool) (a0_1 : ByteArray) (a0_2 : ByteArray) (a1 : Int) (a2 : Int) : Option (Bool × ByteArray × ByteArray × Int) := (round_asked.f k a0_0 a0_1 a0_2 a1).bind fun t135 => (if t135 = 0 then (if a2 < 0 then (round_Places.j0 k a1 a2 true a0_0 a0_1 a0_2) else (round_Places.j0 k a1 a2 (decide (a2 > 40)) a0_0 a0_1 a0_2)) else (some (false, (⟨#[]⟩ : ByteArray), (⟨#[]⟩ : ByteArray), t135)))
theorem round_Places.mono_l : ∀ k, (∀ y0 y1 y2 y3 y4 y5, LeO (round_Places.j0 k y0 y1 y2 y3 y4 y5) (round_Places.j0 (k + 1) y0 y1 y2 y3 y4 y5))
 | 0 => fun _ _ _ _ _ _ r h => by simp [round_Places.j0] at h
 | k + 1 => by
  have ih0 := round_Places.mono_l k
  · intro y0 y1 y2 y3 y4 y5
    unfold round_Places.j0
    repeat' first
    | (with_reducible exact ih0 _ _ _ _ _ _)
    | (with_reducible exact round_asked.mono _ _ _ _ _)
    | (with_reducible exact round_shorten.mono _ _ _ _ _ _)
    | (with_reducible exact LeO.refl _)
    | (with_reducible exact LeO.none _)
    | (with_reducible refine LeO.ite ?_ ?_)
    | (with_reducible refine LeO.bind ?_ (fun _ => ?_))
    | exact ih0 _ _ _ _ _ _
    | exact round_asked.mono _ _ _ _ _
    | exact round_shorten.mono _ _ _ _ _ _
    | exact LeO.none _
    | refine LeO.ite ?_ ?_
    | refine LeO.bind ?_ (fun _ => ?_)
theorem round_Places.mono : ∀ a0 a1 a2 a3 a4 k, LeO (round_Places.f k a0 a1 a2 a3 a4) (round_Places.f (k + 1) a0 a1 a2 a3 a4) := by
 intro a0 a1 a2 a3 a4 k
 have ih0 := round_Places.mono_l k
 unfold round_Places.f
 repeat' first
  | (with_reducible exact ih0 _ _ _ _ _ _)
  | (with_reducible exact round_asked.mono _ _ _ _ _)
  | (with_reducible exact round_shorten.mono _ _ _ _ _ _)
  | (with_reducible exact LeO.refl _)
  | (with_reducible exact LeO.none _)
  | (with_reducible refine LeO.ite ?_ ?_)
  | (with_reducible refine LeO.bind ?_ (fun _ => ?_))
  | exact ih0 _ _ _ _ _ _
  | exact round_asked.mono _ _ _ _ _
  | exact round_shorten.mono _ _ _ _ _ _
  | exact LeO.none _
  | refine LeO.ite ?_ ?_
  | refine LeO.bind ?_ (fun _ => ?_)
set_option maxHeartbeats 8000000 in
set_option maxRecDepth 100000 in
theorem round_Places.calls (k : Nat) (a0_0 : Bool) (a0_1 : ByteArray) (a0_2 : ByteArray) (a1 : Int) (a2 : Int) (r1 : Bool) (r2 : ByteArray) (r3 : ByteArray) (r4 : Int) (w : World) (h : round_Places.f k a0_0 a0_1 a0_2 a1 a2 = some (r1, r2, r3, r4)) :
 Calls Tryd.prog 10 #[.agg #[.bool a0_0, .string a0_1, .string a0_2], .int .i64 a1, .int .i64 a2] w fun e w' => e = .returned (.tuple #[.agg #[.bool r1, .string r2, .string r3], .int .i64 r4]) ∧ Below w.heap.size w w' := by
 have hu23 := Tryd.underlying23
 have HB := Aside0.mk (Below.refl w.heap.size w)
 have H : ((round_asked.f k a0_0 a0_1 a0_2 a1).bind fun t135 => (if t135 = 0 then (if a2 < 0 then (round_Places.j0 k a1 a2 true a0_0 a0_1 a0_2) else (round_Places.j0 k a1 a2 (decide (a2 > 40)) a0_0 a0_1 a0_2)) else (some (false, (⟨#[]⟩ : ByteArray), (⟨#[]⟩ : ByteArray), t135)))) = some (r1, r2, r3, r4) := h
 clear h
 replace H := Option.bind_eq_some_iff.mp H
 obtain ⟨t135, A40, H⟩ := H
 replace H : (if t135 = 0 then (if a2 < 0 then (round_Places.j0 k a1 a2 true a0_0 a0_1 a0_2) else (round_Places.j0 k a1 a2 (decide (a2 > 40)) a0_0 a0_1 a0_2)) else (some (false, (⟨#[]⟩ : ByteArray), (⟨#[]⟩ : ByteArray), t135))) = some (r1, r2, r3, r4) := H
 have A4 := Aside0.mk A40
 clear A40
 by_cases c5 : t135 = 0
 · rw [if_pos c5] at H
   have c5b0 : (t135 == 0) = true := beq_iff_eq.mpr c5
   have c5b1 : (t135 != 0) = false := bne_eq_false_iff_eq.mpr c5
   try have c5b1z := c5b1
   (try simp only [bne] at c5b1z)
   clear c5
   have HC6 := Aside0.mk H
   clear H
   go_enter Tryd.func10, Tryd.ntmps10
   go_upto_region 4 with (first | ((with_reducible refine gate_dst (N := 3) rfl ?_); refine qx 3 #[.bool a0_0, .string a0_1, .string a0_2] 23 ?_; intro gb133 hg w7 hbox hb; have BK133 := Aside0.mk (hbox); have GW133 := qs hg HB; have GE133 := GW133; replace HB := qn HB hb; clear hb hbox hg) | ((with_reducible refine gate_dst (N := 6) rfl ?_); refine qx 6 #[.bool false, .string (⟨#[]⟩ : ByteArray), .string (⟨#[]⟩ : ByteArray)] 23 ?_; intro gb134 hg w8 hbox hb; have BK134 := Aside0.mk (hbox); have GW134 := qs hg HB; have GE134 := GW134; have NB133_134 := ql_ hg BK133; have NB134_133 := qg_ hg BK133; replace BK133 := qb BK133 hb; replace HB := qn HB hb; clear hb hbox hg; have hnb9 := NB133_134.out; have hnc9 := NB134_133.out; obtain ⟨hcz10_0, hcz10_1, hcz10_2, hfz10_0, hfz10_1, hfz10_2⟩ := q3 BK133) | ((with_reducible refine gate_callee (f := 24) rfl ?_); refine goesL_ (some 11) rfl rfl Tryd.func24 (by kernel_rfl) rfl #[.agg #[.bool a0_0, .string a0_1, .string a0_2], .int .i64 a1] rfl ql ?_; (with_reducible refine (round_asked.calls k a0_0 a0_1 a0_2 a1 t135 _ A4.out).mono ?_); rintro e w11 ⟨rfl, hb⟩; refine ⟨_, rfl, ?_⟩; replace BK133 := qb BK133 hb; replace BK134 := qb BK134 hb; replace HB := qn HB hb; (try clear hb); (try clear hb2); (try clear hk); (try clear hi)))
   (try simp only [Act.put, List.setIfInBounds_toArray, List.set_cons_zero, List.set_cons_succ])
   go_cut [21] (fun v21 wc => ∃ (kq : Nat) (x21_5 : Bool), v21 = .bool x21_5 ∧ Aside0 (round_Places.j0 kq a1 a2 x21_5 a0_0 a0_1 a0_2 = some (r1, r2, r3, r4)) ∧ Aside0 (kq ≤ k) ∧ Aside0 (wc.heap[gb133]? = some (.cells #[.bool a0_0, .string a0_1, .string a0_2] 23 (0, 0))) ∧ Aside0 (wc.heap[gb134]? = some (.cells #[.bool false, .string (⟨#[]⟩ : ByteArray), .string (⟨#[]⟩ : ByteArray)] 23 (0, 0))) ∧ Aside0 (Below w.heap.size w wc))
   case first =>
    have H := HC6.out
    clear HC6
    by_cases c12 : a2 < 0
    · rw [if_pos c12] at H
      have c12b0 : decide (a2 < 0) = true := decide_eq_true c12
      clear c12
      (first | rw [c12b0] | (simp only [i64_w, i32_w]; rw [c12b0]) | skip)
      have H' := Aside0.mk H
      clear H
      go_wp2
      go_meet
      case rel => exact ⟨_, (true), (by first | rfl | (simp; done) | (simp [*]; done)), H', ⟨by first | omega | exact Nat.le_refl _⟩, ⟨qk BK133⟩, ⟨qk BK134⟩, ⟨qh HB⟩⟩
    · rw [if_neg c12] at H
      have c12b0 : decide (a2 < 0) = false := decide_eq_false c12
      clear c12
      (first | rw [c12b0] | (simp only [i64_w, i32_w]; rw [c12b0]) | skip)
      have H' := Aside0.mk H
      clear H
      go_wp2
      go_meet
      case rel => exact ⟨_, (decide (a2 > 40)), (by first | rfl | (simp; done) | (simp [*]; done)), H', ⟨by first | omega | exact Nat.le_refl _⟩, ⟨qk BK133⟩, ⟨qk BK134⟩, ⟨qh HB⟩⟩
   case rest =>
    clear HC6
    try clear c1
    try clear c2
    try clear p2
    try clear c5
    try clear c5b0
    try clear c5b1
    try clear c9
    try clear c10
    try clear c12
    try clear c12b0
    try clear hcz10_0
    try clear hcz10_1
    try clear hcz10_2
    try clear hfz10_0
    try clear hfz10_1
    try clear hfz10_2
    obtain ⟨kq, x21_5, rfl, HA, HJ5, BK133, BK134, HB⟩ := hcut
    cases kq with
    | zero => exact absurd HA.out (by simp [round_Places.j0])
    | succ kj5 =>
     have H := HA.out
     clear HA
     simp only [round_Places.j0] at H
     by_cases c13 : x21_5 = true
     · subst c13
       have H1 : (some (false, (⟨#[]⟩ : ByteArray), (⟨#[]⟩ : ByteArray), 1)) = some (r1, r2, r3, r4) := by rw [if_pos rfl] at H; exact H
       clear H
       have H := H1
       clear H1
       simp only [Option.some.injEq, Prod.mk.injEq] at H
       obtain ⟨rfl, rfl, rfl, rfl⟩ := H
       have hnb14 := NB134_133.out
       have hnc14 := NB133_134.out
       obtain ⟨hcz15_0, hcz15_1, hcz15_2, hfz15_0, hfz15_1, hfz15_2⟩ := q3 BK134
       go_wp2
       refine bodyPost_ret (results_ct rfl _ _ gb134 23 #[.bool false, .string (⟨#[]⟩ : ByteArray), .string (⟨#[]⟩ : ByteArray)] (0, 0) _ rfl (by refine qp 2 #[.bool false, .string (⟨#[]⟩ : ByteArray), .string (⟨#[]⟩ : ByteArray)] ?_; refine qp 1 #[.bool false, .string (⟨#[]⟩ : ByteArray), .string (⟨#[]⟩ : ByteArray)] ?_; refine qp 0 #[.bool false, .string (⟨#[]⟩ : ByteArray), .string (⟨#[]⟩ : ByteArray)] ?_; exact qk BK134) Tryd.underlying23 rfl (by kernel_rfl)) rfl ?_
       exact ⟨qe, qh HB⟩
     · replace c13 := Bool.eq_false_iff.mpr c13
       subst c13
       have H1 : (if (a0_2.size : Int) ≤ a2 then (some (a0_0, a0_1, a0_2, 0)) else ((round_shorten.f kj5 a0_0 a0_1 a0_2 a1 (wrap64 ((a0_2.size : Int) - a2))).bind fun bt136 => (some (bt136.1, bt136.2.1, bt136.2.2.1, bt136.2.2.2)))) = some (r1, r2, r3, r4) := by rw [if_neg (show ¬ (false = true) by decide)] at H; exact H
       clear H
       have H := H1
       clear H1
       by_cases c16 : (a0_2.size : Int) ≤ a2
       · rw [if_pos c16] at H
         have c16b0 : decide ((a0_2.size : Int) ≤ a2) = true := decide_eq_true c16
         clear c16
         simp only [Option.some.injEq, Prod.mk.injEq] at H
         obtain ⟨rfl, rfl, rfl, rfl⟩ := H
         have hnb17 := NB133_134.out
         have hnc17 := NB134_133.out
         obtain ⟨hcz18_0, hcz18_1, hcz18_2, hfz18_0, hfz18_1, hfz18_2⟩ := q3 BK133
         obtain ⟨hcz19_0, hcz19_1, hcz19_2, hfz19_0, hfz19_1, hfz19_2⟩ := q3 BK134
         go_wp2
         refine bodyPost_ret (results_ct rfl _ _ gb134 23 #[.bool a0_0, .string a0_1, .string a0_2] (0, 0) _ rfl (by refine qp 2 #[.bool a0_0, .string a0_1, .string (⟨#[]⟩ : ByteArray)] ?_; refine qp 1 #[.bool a0_0, .string (⟨#[]⟩ : ByteArray), .string (⟨#[]⟩ : ByteArray)] ?_; refine qp 0 #[.bool false, .string (⟨#[]⟩ : ByteArray), .string (⟨#[]⟩ : ByteArray)] ?_; exact qk BK134) Tryd.underlying23 rfl (by kernel_rfl)) rfl ?_
         exact ⟨qe, qh HB⟩
       · rw [if_neg c16] at H
         have c16b0 : decide ((a0_2.size : Int) ≤ a2) = false := decide_eq_false c16
         clear c16
         replace H := Option.bind_eq_some_iff.mp H
         obtain ⟨⟨t136, t137, t138, t139⟩, A200, H⟩ := H
         replace H : (some (t136, t137, t138, t139)) = some (r1, r2, r3, r4) := H
         have A20 := Aside0.mk A200
         clear A200
         simp only [Option.some.injEq, Prod.mk.injEq] at H
         obtain ⟨rfl, rfl, rfl, rfl⟩ := H
         have hnb21 := NB133_134.out
         have hnc21 := NB134_133.out
         obtain ⟨hcz22_0, hcz22_1, hcz22_2, hfz22_0, hfz22_1, hfz22_2⟩ := q3 BK133
         go_wp2_with (first | ((with_reducible refine gate_callee (f := 25) rfl ?_); refine goesL_ (some 36) rfl rfl Tryd.func25 (by kernel_rfl) rfl #[.agg #[.bool a0_0, .string a0_1, .string a0_2], .int .i64 a1, .int .i64 (wrap64 ((a0_2.size : Int) - a2))] rfl ql ?_; (with_reducible refine (round_shorten.calls kj5 a0_0 a0_1 a0_2 a1 (wrap64 ((a0_2.size : Int) - a2)) t136 t137 t138 t139 _ A20.out).mono ?_); rintro e w23 ⟨rfl, hb⟩; refine ⟨_, rfl, ?_⟩; replace BK133 := qb BK133 hb; replace BK134 := qb BK134 hb; replace HB := qn HB hb; (try clear hb); (try clear hb2); (try clear hk); (try clear hi); obtain ⟨hcz24_0, hcz24_1, hcz24_2, hfz24_0, hfz24_1, hfz24_2⟩ := q3 BK134))
         refine bodyPost_ret (results_ct rfl _ _ gb134 23 #[.bool t136, .string t137, .string t138] (0, 0) _ rfl (by refine qp 2 #[.bool t136, .string t137, .string (⟨#[]⟩ : ByteArray)] ?_; refine qp 1 #[.bool t136, .string (⟨#[]⟩ : ByteArray), .string (⟨#[]⟩ : ByteArray)] ?_; refine qp 0 #[.bool false, .string (⟨#[]⟩ : ByteArray), .string (⟨#[]⟩ : ByteArray)] ?_; exact qk BK134) Tryd.underlying23 rfl (by kernel_rfl)) rfl ?_
         exact ⟨qe, qh HB⟩
 · rw [if_neg c5] at H
   have c5b0 : (t135 == 0) = false := beq_eq_false_iff_ne.mpr c5
   have c5b1 : (t135 != 0) = true := bne_iff_ne.mpr c5
   try have c5b1z := c5b1
   (try simp only [bne] at c5b1z)
   simp only [Option.some.injEq, Prod.mk.injEq] at H
   obtain ⟨rfl, rfl, rfl, rfl⟩ := H
   go_enter Tryd.func10, Tryd.ntmps10
   go_wp2_with (first | ((with_reducible refine gate_dst (N := 3) rfl ?_); refine qx 3 #[.bool a0_0, .string a0_1, .string a0_2] 23 ?_; intro gb133 hg w25 hbox hb; have BK133 := Aside0.mk (hbox); have GW133 := qs hg HB; have GE133 := GW133; replace HB := qn HB hb; clear hb hbox hg) | ((with_reducible refine gate_dst (N := 6) rfl ?_); refine qx 6 #[.bool false, .string (⟨#[]⟩ : ByteArray), .string (⟨#[]⟩ : ByteArray)] 23 ?_; intro gb134 hg w26 hbox hb; have BK134 := Aside0.mk (hbox); have GW134 := qs hg HB; have GE134 := GW134; have NB133_134 := ql_ hg BK133; have NB134_133 := qg_ hg BK133; replace BK133 := qb BK133 hb; replace HB := qn HB hb; clear hb hbox hg; have hnb27 := NB133_134.out; have hnc27 := NB134_133.out; obtain ⟨hcz28_0, hcz28_1, hcz28_2, hfz28_0, hfz28_1, hfz28_2⟩ := q3 BK133) | ((with_reducible refine gate_callee (f := 24) rfl ?_); refine goesL_ (some 11) rfl rfl Tryd.func24 (by kernel_rfl) rfl #[.agg #[.bool a0_0, .string a0_1, .string a0_2], .int .i64 a1] rfl ql ?_; (with_reducible refine (round_asked.calls k a0_0 a0_1 a0_2 a1 t135 _ A4.out).mono ?_); rintro e w29 ⟨rfl, hb⟩; refine ⟨_, rfl, ?_⟩; replace BK133 := qb BK133 hb; replace BK134 := qb BK134 hb; replace HB := qn HB hb; (try clear hb); (try clear hb2); (try clear hk); (try clear hi); obtain ⟨hcz30_0, hcz30_1, hcz30_2, hfz30_0, hfz30_1, hfz30_2⟩ := q3 BK134))
   refine bodyPost_ret (results_ct rfl _ _ gb134 23 #[.bool false, .string (⟨#[]⟩ : ByteArray), .string (⟨#[]⟩ : ByteArray)] (0, 0) _ rfl (by refine qp 2 #[.bool false, .string (⟨#[]⟩ : ByteArray), .string (⟨#[]⟩ : ByteArray)] ?_; refine qp 1 #[.bool false, .string (⟨#[]⟩ : ByteArray), .string (⟨#[]⟩ : ByteArray)] ?_; refine qp 0 #[.bool false, .string (⟨#[]⟩ : ByteArray), .string (⟨#[]⟩ : ByteArray)] ?_; exact qk BK134) Tryd.underlying23 rfl (by kernel_rfl)) rfl ?_
   exact ⟨qe, qh HB⟩

def idiomref02_Digit.f (a0 : Int) : Option (Bool) := if a0 ≥ 48 then (some (decide (a0 ≤ 57))) else (some false)
set_option maxHeartbeats 8000000 in
set_option maxRecDepth 100000 in
theorem idiomref02_Digit.calls (a0 : Int) (r : Bool) (w : World) (h : idiomref02_Digit.f a0 = some r) :
 Calls Tryd.prog 91 #[.int .u8 a0] w fun e w' => e = .returned (.bool r) ∧ Drawn0 w w' := by
 have H : (if a0 ≥ 48 then (some (decide (a0 ≤ 57))) else (some false)) = some r := h
 clear h
 by_cases c2 : a0 ≥ 48
 · rw [if_pos c2] at H
   have c2b0 : decide (48 ≤ a0) = true := decide_eq_true c2
   clear c2
   obtain rfl := Option.some.inj H
   go_enter Tryd.func91, Tryd.ntmps91
   go_wp2
   go_ret
   exact ⟨by first | rfl | (simp; done) | (simp [*]; done), by repeat (first | exact Drawn0.refl _ | apply Drawn0.step)⟩
 · rw [if_neg c2] at H
   have c2b0 : decide (48 ≤ a0) = false := decide_eq_false c2
   clear c2
   obtain rfl := Option.some.inj H
   go_enter Tryd.func91, Tryd.ntmps91
   go_wp2
   go_ret
   exact ⟨by first | rfl | (simp; done) | (simp [*]; done), by repeat (first | exact Drawn0.refl _ | apply Drawn0.step)⟩

def idiomref02_Digits.l0 : Nat → ByteArray → Int → Option (Bool)
 | 0, _, _ => none
 | k + 1, x0, x3 => if x3 < (x0.size : Int) then (if 0 ≤ x3 then ((idiomref02_Digit.f (bt x0 x3)).bind fun t140 => (if t140 = true then (idiomref02_Digits.l0 k x0 (wrap64 (x3 + 1))) else (some false))) else (none)) else (some true)
def idiomref02_Digits.f (k : Nat) (a0 : ByteArray) : Option (Bool) := idiomref02_Digits.l0 k a0 0
theorem idiomref02_Digits.mono_l : ∀ k, (∀ y0 y1, LeO (idiomref02_Digits.l0 k y0 y1) (idiomref02_Digits.l0 (k + 1) y0 y1))
 | 0 => fun _ _ r h => by simp [idiomref02_Digits.l0] at h
 | k + 1 => by
  have ih0 := idiomref02_Digits.mono_l k
  · intro y0 y1
    unfold idiomref02_Digits.l0
    repeat' first
    | (with_reducible exact ih0 _ _)
    | (with_reducible exact LeO.refl _)
    | (with_reducible exact LeO.none _)
    | (with_reducible refine LeO.ite ?_ ?_)
    | (with_reducible refine LeO.bind ?_ (fun _ => ?_))
    | exact ih0 _ _
    | exact LeO.none _
    | refine LeO.ite ?_ ?_
    | refine LeO.bind ?_ (fun _ => ?_)
theorem idiomref02_Digits.mono : ∀ a0 k, LeO (idiomref02_Digits.f k a0) (idiomref02_Digits.f (k + 1) a0) := by
 intro a0 k
 have ih0 := idiomref02_Digits.mono_l k
 unfold idiomref02_Digits.f
 repeat' first
  | (with_reducible exact ih0 _ _)
  | (with_reducible exact LeO.refl _)
  | (with_reducible exact LeO.none _)
  | (with_reducible refine LeO.ite ?_ ?_)
  | (with_reducible refine LeO.bind ?_ (fun _ => ?_))
  | exact ih0 _ _
  | exact LeO.none _
  | refine LeO.ite ?_ ?_
  | refine LeO.bind ?_ (fun _ => ?_)
set_option maxHeartbeats 8000000 in
set_option maxRecDepth 100000 in
theorem idiomref02_Digits.calls (k : Nat) (a0 : ByteArray) (r : Bool) (w : World) (h : idiomref02_Digits.f k a0 = some r) :
 Calls Tryd.prog 60 #[.string a0] w fun e w' => e = .returned (.bool r) ∧ Drawn0 w w' := by
 have H : (idiomref02_Digits.l0 k a0 0) = some r := h
 clear h
 have H' := Aside0.mk H
 clear H
 go_enter Tryd.func60, Tryd.ntmps60
 go_wp2
 (try simp only [Act.put, List.setIfInBounds_toArray, List.set_cons_zero, List.set_cons_succ])
 go_loopg [3] k (fun kq v3 w' => ∃ (x3_1 : Int), v3 = .int .i64 x3_1 ∧ Aside0 (idiomref02_Digits.l0 kq a0 x3_1 = some r) ∧ Aside0 (kq ≤ k) ∧ Drawn0 w w')
 case atStart => exact ⟨(0), (by first | rfl | (simp; done) | (simp [*]; done)), H', ⟨Nat.le_refl _⟩, by repeat (first | exact Drawn0.refl _ | apply Drawn0.step)⟩
 case round =>
  clear H'
  obtain ⟨x3_1, rfl, HA, HK1, ⟨m1, rfl⟩⟩ := hrel
  cases gk with
  | zero => exact absurd HA.out (by simp [idiomref02_Digits.l0])
  | succ k1 =>
   have H := HA.out
   clear HA
   simp only [idiomref02_Digits.l0] at H
   by_cases c2 : x3_1 < (a0.size : Int)
   · rw [if_pos c2] at H
     have c2b0 : decide (x3_1 < (a0.size : Int)) = true := decide_eq_true c2
     clear c2
     by_cases c3 : 0 ≤ x3_1
     · rw [if_pos c3] at H
       have c3b0 : decide (0 ≤ x3_1) = true := decide_eq_true c3
       clear c3
       replace H := Option.bind_eq_some_iff.mp H
       obtain ⟨t140, A50, H⟩ := H
       replace H : (if t140 = true then (idiomref02_Digits.l0 k1 a0 (wrap64 (x3_1 + 1))) else (some false)) = some r := H
       have A5 := Aside0.mk A50
       clear A50
       by_cases c6 : t140 = true
       · subst c6
         have H1 : (idiomref02_Digits.l0 k1 a0 (wrap64 (x3_1 + 1))) = some r := by rw [if_pos rfl] at H; exact H
         clear H
         have H := H1
         clear H1
         have H' := Aside0.mk H
         clear H
         have p4 : 0 ≤ (x3_1 : Int) := of_decide_eq_true qa
         have q4 : x3_1 < (a0.size : Int) := of_decide_eq_true qa
         have hx4 := bt_at a0 x3_1
         replace p4 := eq_true p4
         replace q4 := eq_true q4
         go_wp2_with (first | ((with_reducible refine gate_callee (f := 91) rfl ?_); refine goesL_ (some 13) rfl rfl Tryd.func91 (by kernel_rfl) rfl #[.int .u8 (bt a0 x3_1)] rfl ql ?_; (with_reducible refine (idiomref02_Digit.calls (bt a0 x3_1) true _ A5.out).mono ?_); rintro e w' ⟨rfl, ⟨nd, rfl⟩⟩; refine ⟨_, rfl, ?_⟩))
         go_roundg k1
         case measure => have := HK1.out; omega
         case rel => exact ⟨(wrap64 (x3_1 + 1)), (by first | rfl | (simp; done) | (simp [*]; done)), H', ⟨by have := HK1.out; omega⟩, by repeat (first | exact Drawn0.refl _ | apply Drawn0.step)⟩
       · replace c6 := Bool.eq_false_iff.mpr c6
         subst c6
         have H1 : (some false) = some r := by rw [if_neg (show ¬ (false = true) by decide)] at H; exact H
         clear H
         have H := H1
         clear H1
         obtain rfl := Option.some.inj H
         have p4 : 0 ≤ (x3_1 : Int) := of_decide_eq_true qa
         have q4 : x3_1 < (a0.size : Int) := of_decide_eq_true qa
         have hx4 := bt_at a0 x3_1
         replace p4 := eq_true p4
         replace q4 := eq_true q4
         go_wp2_with (first | ((with_reducible refine gate_callee (f := 91) rfl ?_); refine goesL_ (some 13) rfl rfl Tryd.func91 (by kernel_rfl) rfl #[.int .u8 (bt a0 x3_1)] rfl ql ?_; (with_reducible refine (idiomref02_Digit.calls (bt a0 x3_1) false _ A5.out).mono ?_); rintro e w' ⟨rfl, ⟨nd, rfl⟩⟩; refine ⟨_, rfl, ?_⟩))
         go_ret
         exact ⟨by first | rfl | (simp; done) | (simp [*]; done), by repeat (first | exact Drawn0.refl _ | apply Drawn0.step)⟩
     · rw [if_neg c3] at H
       exact absurd H (by simp)
   · rw [if_neg c2] at H
     have c2b0 : decide (x3_1 < (a0.size : Int)) = false := decide_eq_false c2
     clear c2
     obtain rfl := Option.some.inj H
     go_wp2
     go_ret
     exact ⟨by first | rfl | (simp; done) | (simp [*]; done), by repeat (first | exact Drawn0.refl _ | apply Drawn0.step)⟩

def idiomref02_noughts.l0 : Nat → ByteArray → Int → Option (Bool)
 | 0, _, _ => none
 | k + 1, x0, x3 => if x3 < (x0.size : Int) then (if 0 ≤ x3 then (if (bt x0 x3) = 48 then (idiomref02_noughts.l0 k x0 (wrap64 (x3 + 1))) else (some false)) else (none)) else (some true)
def idiomref02_noughts.f (k : Nat) (a0 : ByteArray) : Option (Bool) := idiomref02_noughts.l0 k a0 0
theorem idiomref02_noughts.mono_l : ∀ k, (∀ y0 y1, LeO (idiomref02_noughts.l0 k y0 y1) (idiomref02_noughts.l0 (k + 1) y0 y1))
 | 0 => fun _ _ r h => by simp [idiomref02_noughts.l0] at h
 | k + 1 => by
  have ih0 := idiomref02_noughts.mono_l k
  · intro y0 y1
    unfold idiomref02_noughts.l0
    repeat' first
    | (with_reducible exact ih0 _ _)
    | (with_reducible exact LeO.refl _)
    | (with_reducible exact LeO.none _)
    | (with_reducible refine LeO.ite ?_ ?_)
    | (with_reducible refine LeO.bind ?_ (fun _ => ?_))
    | exact ih0 _ _
    | exact LeO.none _
    | refine LeO.ite ?_ ?_
    | refine LeO.bind ?_ (fun _ => ?_)
theorem idiomref02_noughts.mono : ∀ a0 k, LeO (idiomref02_noughts.f k a0) (idiomref02_noughts.f (k + 1) a0) := by
 intro a0 k
 have ih0 := idiomref02_noughts.mono_l k
 unfold idiomref02_noughts.f
 repeat' first
  | (with_reducible exact ih0 _ _)
  | (with_reducible exact LeO.refl _)
  | (with_reducible exact LeO.none _)
  | (with_reducible refine LeO.ite ?_ ?_)
  | (with_reducible refine LeO.bind ?_ (fun _ => ?_))
  | exact ih0 _ _
  | exact LeO.none _
  | refine LeO.ite ?_ ?_
  | refine LeO.bind ?_ (fun _ => ?_)
set_option maxHeartbeats 8000000 in
set_option maxRecDepth 100000 in
theorem idiomref02_noughts.calls (k : Nat) (a0 : ByteArray) (r : Bool) (w : World) (h : idiomref02_noughts.f k a0 = some r) :
 Calls Tryd.prog 92 #[.string a0] w fun e w' => e = .returned (.bool r) ∧ Drawn0 w w' := by
 have H : (idiomref02_noughts.l0 k a0 0) = some r := h
 clear h
 have H' := Aside0.mk H
 clear H
 go_enter Tryd.func92, Tryd.ntmps92
 go_wp2
 (try simp only [Act.put, List.setIfInBounds_toArray, List.set_cons_zero, List.set_cons_succ])
 go_loopg [3] k (fun kq v3 w' => ∃ (x3_1 : Int), v3 = .int .i64 x3_1 ∧ Aside0 (idiomref02_noughts.l0 kq a0 x3_1 = some r) ∧ Aside0 (kq ≤ k) ∧ Drawn0 w w')
 case atStart => exact ⟨(0), (by first | rfl | (simp; done) | (simp [*]; done)), H', ⟨Nat.le_refl _⟩, by repeat (first | exact Drawn0.refl _ | apply Drawn0.step)⟩
 case round =>
  clear H'
  obtain ⟨x3_1, rfl, HA, HK1, ⟨m1, rfl⟩⟩ := hrel
  cases gk with
  | zero => exact absurd HA.out (by simp [idiomref02_noughts.l0])
  | succ k1 =>
   have H := HA.out
   clear HA
   simp only [idiomref02_noughts.l0] at H
   by_cases c2 : x3_1 < (a0.size : Int)
   · rw [if_pos c2] at H
     have c2b0 : decide (x3_1 < (a0.size : Int)) = true := decide_eq_true c2
     clear c2
     by_cases c3 : 0 ≤ x3_1
     · rw [if_pos c3] at H
       have c3b0 : decide (0 ≤ x3_1) = true := decide_eq_true c3
       clear c3
       by_cases c5 : (bt a0 x3_1) = 48
       · rw [if_pos c5] at H
         have c5b0 : ((bt a0 x3_1) == 48) = true := beq_iff_eq.mpr c5
         have c5b1 : ((bt a0 x3_1) != 48) = false := bne_eq_false_iff_eq.mpr c5
         clear c5
         have H' := Aside0.mk H
         clear H
         have p4 : 0 ≤ (x3_1 : Int) := of_decide_eq_true qa
         have q4 : x3_1 < (a0.size : Int) := of_decide_eq_true qa
         have hx4 := bt_at a0 x3_1
         replace p4 := eq_true p4
         replace q4 := eq_true q4
         go_wp2
         go_roundg k1
         case measure => have := HK1.out; omega
         case rel => exact ⟨(wrap64 (x3_1 + 1)), (by first | rfl | (simp; done) | (simp [*]; done)), H', ⟨by have := HK1.out; omega⟩, by repeat (first | exact Drawn0.refl _ | apply Drawn0.step)⟩
       · rw [if_neg c5] at H
         have c5b0 : ((bt a0 x3_1) == 48) = false := beq_eq_false_iff_ne.mpr c5
         have c5b1 : ((bt a0 x3_1) != 48) = true := bne_iff_ne.mpr c5
         obtain rfl := Option.some.inj H
         have p4 : 0 ≤ (x3_1 : Int) := of_decide_eq_true qa
         have q4 : x3_1 < (a0.size : Int) := of_decide_eq_true qa
         have hx4 := bt_at a0 x3_1
         replace p4 := eq_true p4
         replace q4 := eq_true q4
         go_wp2
         go_ret
         exact ⟨by first | rfl | (simp; done) | (simp [*]; done), by repeat (first | exact Drawn0.refl _ | apply Drawn0.step)⟩
     · rw [if_neg c3] at H
       exact absurd H (by simp)
   · rw [if_neg c2] at H
     have c2b0 : decide (x3_1 < (a0.size : Int)) = false := decide_eq_false c2
     clear c2
     obtain rfl := Option.some.inj H
     go_wp2
     go_ret
     exact ⟨by first | rfl | (simp; done) | (simp [*]; done), by repeat (first | exact Drawn0.refl _ | apply Drawn0.step)⟩

end Go.Proofs.YtpmhebdaphjinaaDoor.F
namespace Go.Proofs.YtpmhebdaphjinaaDoor.F
open Go.RowKit Go.Proofs.YtpmhebdaphjinaaDoorW.PrintWords Go.Proofs.YtpmhebdaphjinaaDoorW.PrintLast Go.Proofs.YtpmhebdaphjinaaDoorW.PrintMore Go.Proofs.YtpmhebdaphjinaaDoor.Q
attribute [local go_sem] max2_int min2_int max_two min_two max_three min_three max_four min_four   -- for this text's walks alone
set_option linter.unusedVariables false
set_option linter.unusedSimpArgs false

def idiomref02_Nought.f (k : Nat) (a0_0 : Bool) (a0_1 : ByteArray) (a0_2 : ByteArray) : Option (Bool) := (idiomref02_noughts.f k a0_1).bind fun t142 => (if t142 = true then ((idiomref02_noughts.f k a0_2).bind fun t143 => (some t143)) else (some false))
theorem idiomref02_Nought.mono : ∀ a0 a1 a2 k, LeO (idiomref02_Nought.f k a0 a1 a2) (idiomref02_Nought.f (k + 1) a0 a1 a2) := by
 intro a0 a1 a2 k
 unfold idiomref02_Nought.f
 repeat' first
  | (with_reducible exact idiomref02_noughts.mono _ _)
  | (with_reducible exact LeO.refl _)
  | (with_reducible exact LeO.none _)
  | (with_reducible refine LeO.ite ?_ ?_)
  | (with_reducible refine LeO.bind ?_ (fun _ => ?_))
  | exact idiomref02_noughts.mono _ _
  | exact LeO.none _
  | refine LeO.ite ?_ ?_
  | refine LeO.bind ?_ (fun _ => ?_)
set_option maxHeartbeats 8000000 in
set_option maxRecDepth 100000 in
theorem idiomref02_Nought.calls (k : Nat) (a0_0 : Bool) (a0_1 : ByteArray) (a0_2 : ByteArray) (r : Bool) (w : World) (h : idiomref02_Nought.f k a0_0 a0_1 a0_2 = some r) :
 Calls Tryd.prog 61 #[.agg #[.bool a0_0, .string a0_1, .string a0_2]] w fun e w' => e = .returned (.bool r) ∧ Below w.heap.size w w' := by
 have hu23 := Tryd.underlying23
 have HB := Aside0.mk (Below.refl w.heap.size w)
 have H : ((idiomref02_noughts.f k a0_1).bind fun t142 => (if t142 = true then ((idiomref02_noughts.f k a0_2).bind fun t143 => (some t143)) else (some false))) = some r := h
 clear h
 replace H := Option.bind_eq_some_iff.mp H
 obtain ⟨t142, A20, H⟩ := H
 replace H : (if t142 = true then ((idiomref02_noughts.f k a0_2).bind fun t143 => (some t143)) else (some false)) = some r := H
 have A2 := Aside0.mk A20
 clear A20
 by_cases c3 : t142 = true
 · subst c3
   have H1 : ((idiomref02_noughts.f k a0_2).bind fun t143 => (some t143)) = some r := by rw [if_pos rfl] at H; exact H
   clear H
   have H := H1
   clear H1
   replace H := Option.bind_eq_some_iff.mp H
   obtain ⟨t143, A40, H⟩ := H
   replace H : (some t143) = some r := H
   have A4 := Aside0.mk A40
   clear A40
   obtain rfl := Option.some.inj H
   go_enter Tryd.func61, Tryd.ntmps61
   go_wp2_with (first | ((with_reducible refine gate_dst (N := 1) rfl ?_); refine qx 1 #[.bool a0_0, .string a0_1, .string a0_2] 23 ?_; intro gb141 hg w5 hbox hb; have BK141 := Aside0.mk (hbox); have GW141 := qs hg HB; have GE141 := GW141; replace HB := qn HB hb; clear hb hbox hg; obtain ⟨hcz6_0, hcz6_1, hcz6_2, hfz6_0, hfz6_1, hfz6_2⟩ := q3 BK141) | ((with_reducible refine gate_callee (f := 92) rfl ?_); refine goesL_ (some 5) rfl rfl Tryd.func92 (by kernel_rfl) rfl #[.string a0_1] rfl ql ?_; (with_reducible refine (idiomref02_noughts.calls k a0_1 true _ A2.out).mono ?_); rintro e w' ⟨rfl, ⟨nd, rfl⟩⟩; refine ⟨_, rfl, ?_⟩) | (go_at_call 92; (with_reducible refine (idiomref02_noughts.calls k a0_2 t143 _ A4.out).mono ?_); rintro e w' ⟨rfl, ⟨nd, rfl⟩⟩))
   go_ret
   exact ⟨qe, qh HB⟩
 · replace c3 := Bool.eq_false_iff.mpr c3
   subst c3
   have H1 : (some false) = some r := by rw [if_neg (show ¬ (false = true) by decide)] at H; exact H
   clear H
   have H := H1
   clear H1
   obtain rfl := Option.some.inj H
   go_enter Tryd.func61, Tryd.ntmps61
   go_wp2_with (first | ((with_reducible refine gate_dst (N := 1) rfl ?_); refine qx 1 #[.bool a0_0, .string a0_1, .string a0_2] 23 ?_; intro gb141 hg w7 hbox hb; have BK141 := Aside0.mk (hbox); have GW141 := qs hg HB; have GE141 := GW141; replace HB := qn HB hb; clear hb hbox hg; obtain ⟨hcz8_0, hcz8_1, hcz8_2, hfz8_0, hfz8_1, hfz8_2⟩ := q3 BK141) | ((with_reducible refine gate_callee (f := 92) rfl ?_); refine goesL_ (some 5) rfl rfl Tryd.func92 (by kernel_rfl) rfl #[.string a0_1] rfl ql ?_; (with_reducible refine (idiomref02_noughts.calls k a0_1 false _ A2.out).mono ?_); rintro e w' ⟨rfl, ⟨nd, rfl⟩⟩; refine ⟨_, rfl, ?_⟩))
   go_ret
   exact ⟨qe, qh HB⟩

end Go.Proofs.YtpmhebdaphjinaaDoor.F
namespace Go.Proofs.YtpmhebdaphjinaaDoor.F
open Go.RowKit Go.Proofs.YtpmhebdaphjinaaDoorW.PrintWords Go.Proofs.YtpmhebdaphjinaaDoorW.PrintLast Go.Proofs.YtpmhebdaphjinaaDoorW.PrintMore Go.Proofs.YtpmhebdaphjinaaDoor.Q
attribute [local go_sem] max2_int min2_int max_two min_two max_three min_three max_four min_four   -- for this text's walks alone
set_option linter.unusedVariables false
set_option linter.unusedSimpArgs false

def idiomref02_Check.j0 : Nat → Bool → Bool → ByteArray → ByteArray → Option (Int)
 | 0, _, _, _, _ => none
 | k + 1, x28, x145000, x145001, x145002 => if x28 = true then (some 20) else ((idiomref02_Digits.f k x145001).bind fun t145 => (if t145 = true then ((idiomref02_Digits.f k x145002).bind fun t146 => (if t146 = true then (if 0 < (x145001.size : Int) then (if (bt x145001 0) = 48 then (if (x145001.size : Int) > 1 then (some 20) else (if x145000 = true then ((idiomref02_Nought.f k x145000 x145001 x145002).bind fun t147 => (if t147 = true then (some 20) else (some 0))) else (some 0))) else (if x145000 = true then ((idiomref02_Nought.f k x145000 x145001 x145002).bind fun t148 => (if t148 = true then (some 20) else (some 0))) else (some 0))) else (none)) else (some 20))) else (some 20)))
def idiomref02_Check.f (k : Nat) (a0_0 : Bool) (a0_1 : ByteArray) (a0_2 : ByteArray) : Option (Int) := if (a0_1.size : Int) < 1 then (idiomref02_Check.j0 k true a0_0 a0_1 a0_2) else (if (a0_1.size : Int) > 40 then (idiomref02_Check.j0 k true a0_0 a0_1 a0_2) else (if (a0_2.size : Int) > 40 then (idiomref02_Check.j0 k true a0_0 a0_1 a0_2) else (idiomref02_Check.j0 k (decide ((wrap64 ((a0_1.size : Int) + (a0_2.size : Int))) > 40)) a0_0 a0_1 a0_2)))
theorem idiomref02_Check.mono_l : ∀ k, (∀ y0 y1 y2 y3, LeO (idiomref02_Check.j0 k y0 y1 y2 y3) (idiomref02_Check.j0 (k + 1) y0 y1 y2 y3))
 | 0 => fun _ _ _ _ r h => by simp [idiomref02_Check.j0] at h
 | k + 1 => by
  have ih0 := idiomref02_Check.mono_l k
  · intro y0 y1 y2 y3
    unfold idiomref02_Check.j0
    repeat' first
    | (with_reducible exact ih0 _ _ _ _)
    | (with_reducible exact idiomref02_Digits.mono _ _)
    | (with_reducible exact idiomref02_Nought.mono _ _ _ _)
    | (with_reducible exact LeO.refl _)
    | (with_reducible exact LeO.none _)
    | (with_reducible refine LeO.ite ?_ ?_)
    | (with_reducible refine LeO.bind ?_ (fun _ => ?_))
    | exact ih0 _ _ _ _
    | exact idiomref02_Digits.mono _ _
    | exact idiomref02_Nought.mono _ _ _ _
    | exact LeO.none _
    | refine LeO.ite ?_ ?_
    | refine LeO.bind ?_ (fun _ => ?_)
theorem idiomref02_Check.mono : ∀ a0 a1 a2 k, LeO (idiomref02_Check.f k a0 a1 a2) (idiomref02_Check.f (k + 1) a0 a1 a2) := by
 intro a0 a1 a2 k
 have ih0 := idiomref02_Check.mono_l k
 unfold idiomref02_Check.f
 repeat' first
  | (with_reducible exact ih0 _ _ _ _)
  | (with_reducible exact idiomref02_Digits.mono _ _)
  | (with_reducible exact idiomref02_Nought.mono _ _ _ _)
  | (with_reducible exact LeO.refl _)
  | (with_reducible exact LeO.none _)
  | (with_reducible refine LeO.ite ?_ ?_)
  | (with_reducible refine LeO.bind ?_ (fun _ => ?_))
  | exact ih0 _ _ _ _
  | exact idiomref02_Digits.mono _ _
  | exact idiomref02_Nought.mono _ _ _ _
  | exact LeO.none _
  | refine LeO.ite ?_ ?_
  | refine LeO.bind ?_ (fun _ => ?_)
set_option maxHeartbeats 8000000 in
set_option maxRecDepth 100000 in
theorem idiomref02_Check.calls (k : Nat) (a0_0 : Bool) (a0_1 : ByteArray) (a0_2 : ByteArray) (r : Int) (w : World) (h : idiomref02_Check.f k a0_0 a0_1 a0_2 = some r) :
 Calls Tryd.prog 32 #[.agg #[.bool a0_0, .string a0_1, .string a0_2]] w fun e w' => e = .returned (.int .i64 r) ∧ Below w.heap.size w w' := by
 have hu23 := Tryd.underlying23
 have HB := Aside0.mk (Below.refl w.heap.size w)
 have H : (if (a0_1.size : Int) < 1 then (idiomref02_Check.j0 k true a0_0 a0_1 a0_2) else (if (a0_1.size : Int) > 40 then (idiomref02_Check.j0 k true a0_0 a0_1 a0_2) else (if (a0_2.size : Int) > 40 then (idiomref02_Check.j0 k true a0_0 a0_1 a0_2) else (idiomref02_Check.j0 k (decide ((wrap64 ((a0_1.size : Int) + (a0_2.size : Int))) > 40)) a0_0 a0_1 a0_2)))) = some r := h
 clear h
 have HC2 := Aside0.mk H
 clear H
 go_enter Tryd.func32, Tryd.ntmps32
 go_upto_region 1 with (first | ((with_reducible refine gate_dst (N := 1) rfl ?_); (try (refine gate_guard (by rfl) ?_; dsimp only)); refine qx 1 #[.bool a0_0, .string a0_1, .string a0_2] 23 ?_; intro gb144 hg w3 hbox hb; have BK144 := Aside0.mk (hbox); have GW144 := qs hg HB; have GE144 := GW144; replace HB := qn HB hb; clear hb hbox hg))
 (try simp only [Act.put, List.setIfInBounds_toArray, List.set_cons_zero, List.set_cons_succ])
 go_cut [28] (fun v28 wc => ∃ (kq : Nat) (x28_1 : Bool), v28 = .bool x28_1 ∧ Aside0 (idiomref02_Check.j0 kq x28_1 a0_0 a0_1 a0_2 = some r) ∧ Aside0 (kq ≤ k) ∧ Aside0 (wc.heap[gb144]? = some (.cells #[.bool a0_0, .string a0_1, .string a0_2] 23 (0, 0))) ∧ Aside0 (Below w.heap.size w wc))
 case first =>
  have H := HC2.out
  clear HC2
  by_cases c4 : (a0_1.size : Int) < 1
  · rw [if_pos c4] at H
    have c4b0 : decide ((a0_1.size : Int) < 1) = true := decide_eq_true c4
    have c4b1 : decide (a0_1.size < 1) = true := decide_eq_true (by omega)
    clear c4
    (first | rw [c4b0] | (simp only [i64_w, i32_w]; rw [c4b0]) | skip)
    have H' := Aside0.mk H
    clear H
    obtain ⟨hcz5_0, hcz5_1, hcz5_2, hfz5_0, hfz5_1, hfz5_2⟩ := q3 BK144
    go_wp2
    go_meet
    case rel => exact ⟨_, (true), (by first | rfl | (simp; done) | (simp [*]; done)), H', ⟨by first | omega | exact Nat.le_refl _⟩, ⟨qk BK144⟩, ⟨qh HB⟩⟩
  · rw [if_neg c4] at H
    have c4b0 : decide ((a0_1.size : Int) < 1) = false := decide_eq_false c4
    have c4b1 : decide (a0_1.size < 1) = false := decide_eq_false (by omega)
    clear c4
    (first | rw [c4b0] | (simp only [i64_w, i32_w]; rw [c4b0]) | skip)
    by_cases c6 : (a0_1.size : Int) > 40
    · rw [if_pos c6] at H
      have c6b0 : decide (40 < (a0_1.size : Int)) = true := decide_eq_true c6
      have c6b1 : decide (40 < a0_1.size) = true := decide_eq_true (by omega)
      clear c6
      have H' := Aside0.mk H
      clear H
      obtain ⟨hcz7_0, hcz7_1, hcz7_2, hfz7_0, hfz7_1, hfz7_2⟩ := q3 BK144
      go_wp2
      go_meet
      case rel => exact ⟨_, (true), (by first | rfl | (simp; done) | (simp [*]; done)), H', ⟨by first | omega | exact Nat.le_refl _⟩, ⟨qk BK144⟩, ⟨qh HB⟩⟩
    · rw [if_neg c6] at H
      have c6b0 : decide (40 < (a0_1.size : Int)) = false := decide_eq_false c6
      have c6b1 : decide (40 < a0_1.size) = false := decide_eq_false (by omega)
      clear c6
      by_cases c8 : (a0_2.size : Int) > 40
      · rw [if_pos c8] at H
        have c8b0 : decide (40 < (a0_2.size : Int)) = true := decide_eq_true c8
        have c8b1 : decide (40 < a0_2.size) = true := decide_eq_true (by omega)
        clear c8
        have H' := Aside0.mk H
        clear H
        obtain ⟨hcz9_0, hcz9_1, hcz9_2, hfz9_0, hfz9_1, hfz9_2⟩ := q3 BK144
        go_wp2
        go_meet
        case rel => exact ⟨_, (true), (by first | rfl | (simp; done) | (simp [*]; done)), H', ⟨by first | omega | exact Nat.le_refl _⟩, ⟨qk BK144⟩, ⟨qh HB⟩⟩
      · rw [if_neg c8] at H
        have c8b0 : decide (40 < (a0_2.size : Int)) = false := decide_eq_false c8
        have c8b1 : decide (40 < a0_2.size) = false := decide_eq_false (by omega)
        clear c8
        have H' := Aside0.mk H
        clear H
        obtain ⟨hcz10_0, hcz10_1, hcz10_2, hfz10_0, hfz10_1, hfz10_2⟩ := q3 BK144
        go_wp2
        go_meet
        case rel => exact ⟨_, (decide ((wrap64 ((a0_1.size : Int) + (a0_2.size : Int))) > 40)), (by first | rfl | (simp; done) | (simp [*]; done)), H', ⟨by first | omega | exact Nat.le_refl _⟩, ⟨qk BK144⟩, ⟨qh HB⟩⟩
 case rest =>
  clear HC2
  try clear p2
  try clear c3
  try clear c4
  try clear c4b0
  try clear c4b1
  try clear c6
  try clear c6b0
  try clear c6b1
  try clear p6
  try clear c8
  try clear c8b0
  try clear c8b1
  try clear hcz10_0
  try clear hcz10_1
  try clear hcz10_2
  try clear hcz5_0
  try clear hcz5_1
  try clear hcz5_2
  try clear hcz7_0
  try clear hcz7_1
  try clear hcz7_2
  try clear hcz9_0
  try clear hcz9_1
  try clear hcz9_2
  try clear hfz10_0
  try clear hfz10_1
  try clear hfz10_2
  try clear hfz5_0
  try clear hfz5_1
  try clear hfz5_2
  try clear hfz7_0
  try clear hfz7_1
  try clear hfz7_2
  try clear hfz9_0
  try clear hfz9_1
  try clear hfz9_2
  obtain ⟨kq, x28_1, rfl, HA, HJ1, BK144, HB⟩ := hcut
  cases kq with
  | zero => exact absurd HA.out (by simp [idiomref02_Check.j0])
  | succ kj1 =>
   have H := HA.out
   clear HA
   simp only [idiomref02_Check.j0] at H
   by_cases c11 : x28_1 = true
   · subst c11
     have H1 : (some 20) = some r := by rw [if_pos rfl] at H; exact H
     clear H
     have H := H1
     clear H1
     obtain rfl := Option.some.inj H
     go_wp2
     go_ret
     exact ⟨qe, qh HB⟩
   · replace c11 := Bool.eq_false_iff.mpr c11
     subst c11
     have H1 : ((idiomref02_Digits.f kj1 a0_1).bind fun t145 => (if t145 = true then ((idiomref02_Digits.f kj1 a0_2).bind fun t146 => (if t146 = true then (if 0 < (a0_1.size : Int) then (if (bt a0_1 0) = 48 then (if (a0_1.size : Int) > 1 then (some 20) else (if a0_0 = true then ((idiomref02_Nought.f kj1 a0_0 a0_1 a0_2).bind fun t147 => (if t147 = true then (some 20) else (some 0))) else (some 0))) else (if a0_0 = true then ((idiomref02_Nought.f kj1 a0_0 a0_1 a0_2).bind fun t148 => (if t148 = true then (some 20) else (some 0))) else (some 0))) else (none)) else (some 20))) else (some 20))) = some r := by rw [if_neg (show ¬ (false = true) by decide)] at H; exact H
     clear H
     have H := H1
     clear H1
     replace H := Option.bind_eq_some_iff.mp H
     obtain ⟨t145, A120, H⟩ := H
     replace H : (if t145 = true then ((idiomref02_Digits.f kj1 a0_2).bind fun t146 => (if t146 = true then (if 0 < (a0_1.size : Int) then (if (bt a0_1 0) = 48 then (if (a0_1.size : Int) > 1 then (some 20) else (if a0_0 = true then ((idiomref02_Nought.f kj1 a0_0 a0_1 a0_2).bind fun t147 => (if t147 = true then (some 20) else (some 0))) else (some 0))) else (if a0_0 = true then ((idiomref02_Nought.f kj1 a0_0 a0_1 a0_2).bind fun t148 => (if t148 = true then (some 20) else (some 0))) else (some 0))) else (none)) else (some 20))) else (some 20)) = some r := H
     have A12 := Aside0.mk A120
     clear A120
     by_cases c13 : t145 = true
     · subst c13
       have H1 : ((idiomref02_Digits.f kj1 a0_2).bind fun t146 => (if t146 = true then (if 0 < (a0_1.size : Int) then (if (bt a0_1 0) = 48 then (if (a0_1.size : Int) > 1 then (some 20) else (if a0_0 = true then ((idiomref02_Nought.f kj1 a0_0 a0_1 a0_2).bind fun t147 => (if t147 = true then (some 20) else (some 0))) else (some 0))) else (if a0_0 = true then ((idiomref02_Nought.f kj1 a0_0 a0_1 a0_2).bind fun t148 => (if t148 = true then (some 20) else (some 0))) else (some 0))) else (none)) else (some 20))) = some r := by rw [if_pos rfl] at H; exact H
       clear H
       have H := H1
       clear H1
       replace H := Option.bind_eq_some_iff.mp H
       obtain ⟨t146, A140, H⟩ := H
       replace H : (if t146 = true then (if 0 < (a0_1.size : Int) then (if (bt a0_1 0) = 48 then (if (a0_1.size : Int) > 1 then (some 20) else (if a0_0 = true then ((idiomref02_Nought.f kj1 a0_0 a0_1 a0_2).bind fun t147 => (if t147 = true then (some 20) else (some 0))) else (some 0))) else (if a0_0 = true then ((idiomref02_Nought.f kj1 a0_0 a0_1 a0_2).bind fun t148 => (if t148 = true then (some 20) else (some 0))) else (some 0))) else (none)) else (some 20)) = some r := H
       have A14 := Aside0.mk A140
       clear A140
       by_cases c15 : t146 = true
       · subst c15
         have H1 : (if 0 < (a0_1.size : Int) then (if (bt a0_1 0) = 48 then (if (a0_1.size : Int) > 1 then (some 20) else (if a0_0 = true then ((idiomref02_Nought.f kj1 a0_0 a0_1 a0_2).bind fun t147 => (if t147 = true then (some 20) else (some 0))) else (some 0))) else (if a0_0 = true then ((idiomref02_Nought.f kj1 a0_0 a0_1 a0_2).bind fun t148 => (if t148 = true then (some 20) else (some 0))) else (some 0))) else (none)) = some r := by rw [if_pos rfl] at H; exact H
         clear H
         have H := H1
         clear H1
         by_cases c16 : 0 < (a0_1.size : Int)
         · rw [if_pos c16] at H
           have c16b0 : decide (0 < (a0_1.size : Int)) = true := decide_eq_true c16
           have c16b1 : decide (0 < a0_1.size) = true := decide_eq_true (by omega)
           clear c16
           by_cases c18 : (bt a0_1 0) = 48
           · rw [if_pos c18] at H
             have c18b0 : ((bt a0_1 0) == 48) = true := beq_iff_eq.mpr c18
             have c18b1 : ((bt a0_1 0) != 48) = false := bne_eq_false_iff_eq.mpr c18
             clear c18
             by_cases c19 : (a0_1.size : Int) > 1
             · rw [if_pos c19] at H
               have c19b0 : decide (1 < (a0_1.size : Int)) = true := decide_eq_true c19
               have c19b1 : decide (1 < a0_1.size) = true := decide_eq_true (by omega)
               clear c19
               obtain rfl := Option.some.inj H
               obtain ⟨hcz20_0, hcz20_1, hcz20_2, hfz20_0, hfz20_1, hfz20_2⟩ := q3 BK144
               go_wp2_with (first | ((with_reducible refine gate_callee (f := 60) rfl ?_); refine goesL_ (some 31) rfl rfl Tryd.func60 (by kernel_rfl) rfl #[.string a0_1] rfl ql ?_; (with_reducible refine (idiomref02_Digits.calls kj1 a0_1 true _ A12.out).mono ?_); rintro e w' ⟨rfl, ⟨nd, rfl⟩⟩; refine ⟨_, rfl, ?_⟩) | (go_at_call 60; (with_reducible refine (idiomref02_Digits.calls kj1 a0_2 true _ A14.out).mono ?_); rintro e w' ⟨rfl, ⟨nd, rfl⟩⟩; have p17 : 0 ≤ (0 : Int) := (by omega); have q17 : 0 < a0_1.size := (by have : (0 : Int) < (a0_1.size : Int) := of_decide_eq_true qa; omega); have hx17 : ∀ h : 0 < a0_1.size, ((a0_1[0]'h).toNat : Int) = bt a0_1 0 := bt_at a0_1 0; clear p17; have qi17 : (0 < (a0_1.size : Int)) = True := eq_true (of_decide_eq_true qa); replace q17 := eq_true q17))
               go_ret
               exact ⟨qe, qh HB⟩
             · rw [if_neg c19] at H
               have c19b0 : decide (1 < (a0_1.size : Int)) = false := decide_eq_false c19
               have c19b1 : decide (1 < a0_1.size) = false := decide_eq_false (by omega)
               clear c19
               by_cases c21 : a0_0 = true
               · subst c21
                 have H1 : ((idiomref02_Nought.f kj1 true a0_1 a0_2).bind fun t147 => (if t147 = true then (some 20) else (some 0))) = some r := by rw [if_pos rfl] at H; exact H
                 clear H
                 have H := H1
                 clear H1
                 replace H := Option.bind_eq_some_iff.mp H
                 obtain ⟨t147, A220, H⟩ := H
                 replace H : (if t147 = true then (some 20) else (some 0)) = some r := H
                 have A22 := Aside0.mk A220
                 clear A220
                 by_cases c23 : t147 = true
                 · subst c23
                   have H1 : (some 20) = some r := by rw [if_pos rfl] at H; exact H
                   clear H
                   have H := H1
                   clear H1
                   obtain rfl := Option.some.inj H
                   obtain ⟨hcz24_0, hcz24_1, hcz24_2, hfz24_0, hfz24_1, hfz24_2⟩ := q3 BK144
                   go_wp2_with (first | ((with_reducible refine gate_callee (f := 60) rfl ?_); refine goesL_ (some 31) rfl rfl Tryd.func60 (by kernel_rfl) rfl #[.string a0_1] rfl ql ?_; (with_reducible refine (idiomref02_Digits.calls kj1 a0_1 true _ A12.out).mono ?_); rintro e w' ⟨rfl, ⟨nd, rfl⟩⟩; refine ⟨_, rfl, ?_⟩) | (go_at_call 60; (with_reducible refine (idiomref02_Digits.calls kj1 a0_2 true _ A14.out).mono ?_); rintro e w' ⟨rfl, ⟨nd, rfl⟩⟩; have p17 : 0 ≤ (0 : Int) := (by omega); have q17 : 0 < a0_1.size := (by have : (0 : Int) < (a0_1.size : Int) := of_decide_eq_true qa; omega); have hx17 : ∀ h : 0 < a0_1.size, ((a0_1[0]'h).toNat : Int) = bt a0_1 0 := bt_at a0_1 0; clear p17; have qi17 : (0 < (a0_1.size : Int)) = True := eq_true (of_decide_eq_true qa); replace q17 := eq_true q17) | (go_at_call 61; (with_reducible refine (idiomref02_Nought.calls kj1 true a0_1 a0_2 true _ A22.out).mono ?_); rintro e w25 ⟨rfl, hb⟩; replace BK144 := qb BK144 hb; replace HB := qn HB hb; (try clear hb); (try clear hb2); (try clear hk); (try clear hi)))
                   go_ret
                   exact ⟨qe, qh HB⟩
                 · replace c23 := Bool.eq_false_iff.mpr c23
                   subst c23
                   have H1 : (some 0) = some r := by rw [if_neg (show ¬ (false = true) by decide)] at H; exact H
                   clear H
                   have H := H1
                   clear H1
                   obtain rfl := Option.some.inj H
                   obtain ⟨hcz26_0, hcz26_1, hcz26_2, hfz26_0, hfz26_1, hfz26_2⟩ := q3 BK144
                   go_wp2_with (first | ((with_reducible refine gate_callee (f := 60) rfl ?_); refine goesL_ (some 31) rfl rfl Tryd.func60 (by kernel_rfl) rfl #[.string a0_1] rfl ql ?_; (with_reducible refine (idiomref02_Digits.calls kj1 a0_1 true _ A12.out).mono ?_); rintro e w' ⟨rfl, ⟨nd, rfl⟩⟩; refine ⟨_, rfl, ?_⟩) | (go_at_call 60; (with_reducible refine (idiomref02_Digits.calls kj1 a0_2 true _ A14.out).mono ?_); rintro e w' ⟨rfl, ⟨nd, rfl⟩⟩; have p17 : 0 ≤ (0 : Int) := (by omega); have q17 : 0 < a0_1.size := (by have : (0 : Int) < (a0_1.size : Int) := of_decide_eq_true qa; omega); have hx17 : ∀ h : 0 < a0_1.size, ((a0_1[0]'h).toNat : Int) = bt a0_1 0 := bt_at a0_1 0; clear p17; have qi17 : (0 < (a0_1.size : Int)) = True := eq_true (of_decide_eq_true qa); replace q17 := eq_true q17) | (go_at_call 61; (with_reducible refine (idiomref02_Nought.calls kj1 true a0_1 a0_2 false _ A22.out).mono ?_); rintro e w27 ⟨rfl, hb⟩; replace BK144 := qb BK144 hb; replace HB := qn HB hb; (try clear hb); (try clear hb2); (try clear hk); (try clear hi)))
                   go_ret
                   exact ⟨qe, qh HB⟩
               · replace c21 := Bool.eq_false_iff.mpr c21
                 subst c21
                 have H1 : (some 0) = some r := by rw [if_neg (show ¬ (false = true) by decide)] at H; exact H
                 clear H
                 have H := H1
                 clear H1
                 obtain rfl := Option.some.inj H
                 obtain ⟨hcz28_0, hcz28_1, hcz28_2, hfz28_0, hfz28_1, hfz28_2⟩ := q3 BK144
                 go_wp2_with (first | ((with_reducible refine gate_callee (f := 60) rfl ?_); refine goesL_ (some 31) rfl rfl Tryd.func60 (by kernel_rfl) rfl #[.string a0_1] rfl ql ?_; (with_reducible refine (idiomref02_Digits.calls kj1 a0_1 true _ A12.out).mono ?_); rintro e w' ⟨rfl, ⟨nd, rfl⟩⟩; refine ⟨_, rfl, ?_⟩) | (go_at_call 60; (with_reducible refine (idiomref02_Digits.calls kj1 a0_2 true _ A14.out).mono ?_); rintro e w' ⟨rfl, ⟨nd, rfl⟩⟩; have p17 : 0 ≤ (0 : Int) := (by omega); have q17 : 0 < a0_1.size := (by have : (0 : Int) < (a0_1.size : Int) := of_decide_eq_true qa; omega); have hx17 : ∀ h : 0 < a0_1.size, ((a0_1[0]'h).toNat : Int) = bt a0_1 0 := bt_at a0_1 0; clear p17; have qi17 : (0 < (a0_1.size : Int)) = True := eq_true (of_decide_eq_true qa); replace q17 := eq_true q17))
                 go_ret
                 exact ⟨qe, qh HB⟩
           · rw [if_neg c18] at H
             have c18b0 : ((bt a0_1 0) == 48) = false := beq_eq_false_iff_ne.mpr c18
             have c18b1 : ((bt a0_1 0) != 48) = true := bne_iff_ne.mpr c18
             by_cases c29 : a0_0 = true
             · subst c29
               have H1 : ((idiomref02_Nought.f kj1 true a0_1 a0_2).bind fun t148 => (if t148 = true then (some 20) else (some 0))) = some r := by rw [if_pos rfl] at H; exact H
               clear H
               have H := H1
               clear H1
               replace H := Option.bind_eq_some_iff.mp H
               obtain ⟨t148, A300, H⟩ := H
               replace H : (if t148 = true then (some 20) else (some 0)) = some r := H
               have A30 := Aside0.mk A300
               clear A300
               by_cases c31 : t148 = true
               · subst c31
                 have H1 : (some 20) = some r := by rw [if_pos rfl] at H; exact H
                 clear H
                 have H := H1
                 clear H1
                 obtain rfl := Option.some.inj H
                 obtain ⟨hcz32_0, hcz32_1, hcz32_2, hfz32_0, hfz32_1, hfz32_2⟩ := q3 BK144
                 go_wp2_with (first | ((with_reducible refine gate_callee (f := 60) rfl ?_); refine goesL_ (some 31) rfl rfl Tryd.func60 (by kernel_rfl) rfl #[.string a0_1] rfl ql ?_; (with_reducible refine (idiomref02_Digits.calls kj1 a0_1 true _ A12.out).mono ?_); rintro e w' ⟨rfl, ⟨nd, rfl⟩⟩; refine ⟨_, rfl, ?_⟩) | (go_at_call 60; (with_reducible refine (idiomref02_Digits.calls kj1 a0_2 true _ A14.out).mono ?_); rintro e w' ⟨rfl, ⟨nd, rfl⟩⟩; have p17 : 0 ≤ (0 : Int) := (by omega); have q17 : 0 < a0_1.size := (by have : (0 : Int) < (a0_1.size : Int) := of_decide_eq_true qa; omega); have hx17 : ∀ h : 0 < a0_1.size, ((a0_1[0]'h).toNat : Int) = bt a0_1 0 := bt_at a0_1 0; clear p17; have qi17 : (0 < (a0_1.size : Int)) = True := eq_true (of_decide_eq_true qa); replace q17 := eq_true q17) | (go_at_call 61; (with_reducible refine (idiomref02_Nought.calls kj1 true a0_1 a0_2 true _ A30.out).mono ?_); rintro e w33 ⟨rfl, hb⟩; replace BK144 := qb BK144 hb; replace HB := qn HB hb; (try clear hb); (try clear hb2); (try clear hk); (try clear hi)))
                 go_ret
                 exact ⟨qe, qh HB⟩
               · replace c31 := Bool.eq_false_iff.mpr c31
                 subst c31
                 have H1 : (some 0) = some r := by rw [if_neg (show ¬ (false = true) by decide)] at H; exact H
                 clear H
                 have H := H1
                 clear H1
                 obtain rfl := Option.some.inj H
                 obtain ⟨hcz34_0, hcz34_1, hcz34_2, hfz34_0, hfz34_1, hfz34_2⟩ := q3 BK144
                 go_wp2_with (first | ((with_reducible refine gate_callee (f := 60) rfl ?_); refine goesL_ (some 31) rfl rfl Tryd.func60 (by kernel_rfl) rfl #[.string a0_1] rfl ql ?_; (with_reducible refine (idiomref02_Digits.calls kj1 a0_1 true _ A12.out).mono ?_); rintro e w' ⟨rfl, ⟨nd, rfl⟩⟩; refine ⟨_, rfl, ?_⟩) | (go_at_call 60; (with_reducible refine (idiomref02_Digits.calls kj1 a0_2 true _ A14.out).mono ?_); rintro e w' ⟨rfl, ⟨nd, rfl⟩⟩; have p17 : 0 ≤ (0 : Int) := (by omega); have q17 : 0 < a0_1.size := (by have : (0 : Int) < (a0_1.size : Int) := of_decide_eq_true qa; omega); have hx17 : ∀ h : 0 < a0_1.size, ((a0_1[0]'h).toNat : Int) = bt a0_1 0 := bt_at a0_1 0; clear p17; have qi17 : (0 < (a0_1.size : Int)) = True := eq_true (of_decide_eq_true qa); replace q17 := eq_true q17) | (go_at_call 61; (with_reducible refine (idiomref02_Nought.calls kj1 true a0_1 a0_2 false _ A30.out).mono ?_); rintro e w35 ⟨rfl, hb⟩; replace BK144 := qb BK144 hb; replace HB := qn HB hb; (try clear hb); (try clear hb2); (try clear hk); (try clear hi)))
                 go_ret
                 exact ⟨qe, qh HB⟩
             · replace c29 := Bool.eq_false_iff.mpr c29
               subst c29
               have H1 : (some 0) = some r := by rw [if_neg (show ¬ (false = true) by decide)] at H; exact H
               clear H
               have H := H1
               clear H1
               obtain rfl := Option.some.inj H
               obtain ⟨hcz36_0, hcz36_1, hcz36_2, hfz36_0, hfz36_1, hfz36_2⟩ := q3 BK144
               go_wp2_with (first | ((with_reducible refine gate_callee (f := 60) rfl ?_); refine goesL_ (some 31) rfl rfl Tryd.func60 (by kernel_rfl) rfl #[.string a0_1] rfl ql ?_; (with_reducible refine (idiomref02_Digits.calls kj1 a0_1 true _ A12.out).mono ?_); rintro e w' ⟨rfl, ⟨nd, rfl⟩⟩; refine ⟨_, rfl, ?_⟩) | (go_at_call 60; (with_reducible refine (idiomref02_Digits.calls kj1 a0_2 true _ A14.out).mono ?_); rintro e w' ⟨rfl, ⟨nd, rfl⟩⟩; have p17 : 0 ≤ (0 : Int) := (by omega); have q17 : 0 < a0_1.size := (by have : (0 : Int) < (a0_1.size : Int) := of_decide_eq_true qa; omega); have hx17 : ∀ h : 0 < a0_1.size, ((a0_1[0]'h).toNat : Int) = bt a0_1 0 := bt_at a0_1 0; clear p17; have qi17 : (0 < (a0_1.size : Int)) = True := eq_true (of_decide_eq_true qa); replace q17 := eq_true q17))
               go_ret
               exact ⟨qe, qh HB⟩
         · rw [if_neg c16] at H
           exact absurd H (by simp)
       · replace c15 := Bool.eq_false_iff.mpr c15
         subst c15
         have H1 : (some 20) = some r := by rw [if_neg (show ¬ (false = true) by decide)] at H; exact H
         clear H
         have H := H1
         clear H1
         obtain rfl := Option.some.inj H
         obtain ⟨hcz37_0, hcz37_1, hcz37_2, hfz37_0, hfz37_1, hfz37_2⟩ := q3 BK144
         go_wp2_with (first | ((with_reducible refine gate_callee (f := 60) rfl ?_); refine goesL_ (some 31) rfl rfl Tryd.func60 (by kernel_rfl) rfl #[.string a0_1] rfl ql ?_; (with_reducible refine (idiomref02_Digits.calls kj1 a0_1 true _ A12.out).mono ?_); rintro e w' ⟨rfl, ⟨nd, rfl⟩⟩; refine ⟨_, rfl, ?_⟩) | (go_at_call 60; (with_reducible refine (idiomref02_Digits.calls kj1 a0_2 false _ A14.out).mono ?_); rintro e w' ⟨rfl, ⟨nd, rfl⟩⟩))
         go_ret
         exact ⟨qe, qh HB⟩
     · replace c13 := Bool.eq_false_iff.mpr c13
       subst c13
       have H1 : (some 20) = some r := by rw [if_neg (show ¬ (false = true) by decide)] at H; exact H
       clear H
       have H := H1
       clear H1
       obtain rfl := Option.some.inj H
       obtain ⟨hcz38_0, hcz38_1, hcz38_2, hfz38_0, hfz38_1, hfz38_2⟩ := q3 BK144
       go_wp2_with (first | ((with_reducible refine gate_callee (f := 60) rfl ?_); refine goesL_ (some 31) rfl rfl Tryd.func60 (by kernel_rfl) rfl #[.string a0_1] rfl ql ?_; (with_reducible refine (idiomref02_Digits.calls kj1 a0_1 false _ A12.out).mono ?_); rintro e w' ⟨rfl, ⟨nd, rfl⟩⟩; refine ⟨_, rfl, ?_⟩))
       go_ret
       exact ⟨qe, qh HB⟩

end Go.Proofs.YtpmhebdaphjinaaDoor.F
namespace Go.Proofs.YtpmhebdaphjinaaDoor.F
open Go.RowKit Go.Proofs.YtpmhebdaphjinaaDoorW.PrintWords Go.Proofs.YtpmhebdaphjinaaDoorW.PrintLast Go.Proofs.YtpmhebdaphjinaaDoorW.PrintMore Go.Proofs.YtpmhebdaphjinaaDoor.Q
attribute [local go_sem] max2_int min2_int max_two min_two max_three min_three max_four min_four   -- for this text's walks alone
set_option linter.unusedVariables false
set_option linter.unusedSimpArgs false

def idiomref03_asked.f (k : Nat) (a0_0 : Bool) (a0_1 : ByteArray) (a0_2 : ByteArray) (a1 : Int) : Option (Int) := (idiomref02_Check.f k a0_0 a0_1 a0_2).bind fun t150 => (if t150 = 0 then (if a1 < 1 then (some 30) else (if a1 > 8 then (some 30) else (some 0))) else (some t150))
theorem idiomref03_asked.mono : ∀ a0 a1 a2 a3 k, LeO (idiomref03_asked.f k a0 a1 a2 a3) (idiomref03_asked.f (k + 1) a0 a1 a2 a3) := by
 intro a0 a1 a2 a3 k
 unfold idiomref03_asked.f
 repeat' first
  | (with_reducible exact idiomref02_Check.mono _ _ _ _)
  | (with_reducible exact LeO.refl _)
  | (with_reducible exact LeO.none _)
  | (with_reducible refine LeO.ite ?_ ?_)
  | (with_reducible refine LeO.bind ?_ (fun _ => ?_))
  | exact idiomref02_Check.mono _ _ _ _
  | exact LeO.none _
  | refine LeO.ite ?_ ?_
  | refine LeO.bind ?_ (fun _ => ?_)
set_option maxHeartbeats 8000000 in
set_option maxRecDepth 100000 in
theorem idiomref03_asked.calls (k : Nat) (a0_0 : Bool) (a0_1 : ByteArray) (a0_2 : ByteArray) (a1 : Int) (r : Int) (w : World) (h : idiomref03_asked.f k a0_0 a0_1 a0_2 a1 = some r) :
 Calls Tryd.prog 26 #[.agg #[.bool a0_0, .string a0_1, .string a0_2], .int .i64 a1] w fun e w' => e = .returned (.int .i64 r) ∧ Below w.heap.size w w' := by
 have hu23 := Tryd.underlying23
 have HB := Aside0.mk (Below.refl w.heap.size w)
 have H : ((idiomref02_Check.f k a0_0 a0_1 a0_2).bind fun t150 => (if t150 = 0 then (if a1 < 1 then (some 30) else (if a1 > 8 then (some 30) else (some 0))) else (some t150))) = some r := h
 clear h
 replace H := Option.bind_eq_some_iff.mp H
 obtain ⟨t150, A30, H⟩ := H
 replace H : (if t150 = 0 then (if a1 < 1 then (some 30) else (if a1 > 8 then (some 30) else (some 0))) else (some t150)) = some r := H
 have A3 := Aside0.mk A30
 clear A30
 by_cases c4 : t150 = 0
 · rw [if_pos c4] at H
   have c4b0 : (t150 == 0) = true := beq_iff_eq.mpr c4
   have c4b1 : (t150 != 0) = false := bne_eq_false_iff_eq.mpr c4
   try have c4b1z := c4b1
   (try simp only [bne] at c4b1z)
   clear c4
   by_cases c5 : a1 < 1
   · rw [if_pos c5] at H
     have c5b0 : decide (a1 < 1) = true := decide_eq_true c5
     clear c5
     obtain rfl := Option.some.inj H
     go_enter Tryd.func26, Tryd.ntmps26
     go_wp2_with (first | ((with_reducible refine gate_dst (N := 2) rfl ?_); refine qx 2 #[.bool a0_0, .string a0_1, .string a0_2] 23 ?_; intro gb149 hg w6 hbox hb; have BK149 := Aside0.mk (hbox); have GW149 := qs hg HB; have GE149 := GW149; replace HB := qn HB hb; clear hb hbox hg; obtain ⟨hcz7_0, hcz7_1, hcz7_2, hfz7_0, hfz7_1, hfz7_2⟩ := q3 BK149) | ((with_reducible refine gate_callee (f := 32) rfl ?_); refine goesL_ (some 7) rfl rfl Tryd.func32 (by kernel_rfl) rfl #[.agg #[.bool a0_0, .string a0_1, .string a0_2]] rfl ql ?_; (with_reducible refine (idiomref02_Check.calls k a0_0 a0_1 a0_2 t150 _ A3.out).mono ?_); rintro e w8 ⟨rfl, hb⟩; refine ⟨_, rfl, ?_⟩; replace BK149 := qb BK149 hb; replace HB := qn HB hb; (try clear hb); (try clear hb2); (try clear hk); (try clear hi)))
     go_ret
     exact ⟨qe, qh HB⟩
   · rw [if_neg c5] at H
     have c5b0 : decide (a1 < 1) = false := decide_eq_false c5
     clear c5
     by_cases c9 : a1 > 8
     · rw [if_pos c9] at H
       have c9b0 : decide (8 < a1) = true := decide_eq_true c9
       clear c9
       obtain rfl := Option.some.inj H
       go_enter Tryd.func26, Tryd.ntmps26
       go_wp2_with (first | ((with_reducible refine gate_dst (N := 2) rfl ?_); refine qx 2 #[.bool a0_0, .string a0_1, .string a0_2] 23 ?_; intro gb149 hg w10 hbox hb; have BK149 := Aside0.mk (hbox); have GW149 := qs hg HB; have GE149 := GW149; replace HB := qn HB hb; clear hb hbox hg; obtain ⟨hcz11_0, hcz11_1, hcz11_2, hfz11_0, hfz11_1, hfz11_2⟩ := q3 BK149) | ((with_reducible refine gate_callee (f := 32) rfl ?_); refine goesL_ (some 7) rfl rfl Tryd.func32 (by kernel_rfl) rfl #[.agg #[.bool a0_0, .string a0_1, .string a0_2]] rfl ql ?_; (with_reducible refine (idiomref02_Check.calls k a0_0 a0_1 a0_2 t150 _ A3.out).mono ?_); rintro e w12 ⟨rfl, hb⟩; refine ⟨_, rfl, ?_⟩; replace BK149 := qb BK149 hb; replace HB := qn HB hb; (try clear hb); (try clear hb2); (try clear hk); (try clear hi)))
       go_ret
       exact ⟨qe, qh HB⟩
     · rw [if_neg c9] at H
       have c9b0 : decide (8 < a1) = false := decide_eq_false c9
       clear c9
       obtain rfl := Option.some.inj H
       go_enter Tryd.func26, Tryd.ntmps26
       go_wp2_with (first | ((with_reducible refine gate_dst (N := 2) rfl ?_); refine qx 2 #[.bool a0_0, .string a0_1, .string a0_2] 23 ?_; intro gb149 hg w13 hbox hb; have BK149 := Aside0.mk (hbox); have GW149 := qs hg HB; have GE149 := GW149; replace HB := qn HB hb; clear hb hbox hg; obtain ⟨hcz14_0, hcz14_1, hcz14_2, hfz14_0, hfz14_1, hfz14_2⟩ := q3 BK149) | ((with_reducible refine gate_callee (f := 32) rfl ?_); refine goesL_ (some 7) rfl rfl Tryd.func32 (by kernel_rfl) rfl #[.agg #[.bool a0_0, .string a0_1, .string a0_2]] rfl ql ?_; (with_reducible refine (idiomref02_Check.calls k a0_0 a0_1 a0_2 t150 _ A3.out).mono ?_); rintro e w15 ⟨rfl, hb⟩; refine ⟨_, rfl, ?_⟩; replace BK149 := qb BK149 hb; replace HB := qn HB hb; (try clear hb); (try clear hb2); (try clear hk); (try clear hi)))
       go_ret
       exact ⟨qe, qh HB⟩
 · rw [if_neg c4] at H
   have c4b0 : (t150 == 0) = false := beq_eq_false_iff_ne.mpr c4
   have c4b1 : (t150 != 0) = true := bne_iff_ne.mpr c4
   try have c4b1z := c4b1
   (try simp only [bne] at c4b1z)
   obtain rfl := Option.some.inj H
   go_enter Tryd.func26, Tryd.ntmps26
   go_wp2_with (first | ((with_reducible refine gate_dst (N := 2) rfl ?_); refine qx 2 #[.bool a0_0, .string a0_1, .string a0_2] 23 ?_; intro gb149 hg w16 hbox hb; have BK149 := Aside0.mk (hbox); have GW149 := qs hg HB; have GE149 := GW149; replace HB := qn HB hb; clear hb hbox hg; obtain ⟨hcz17_0, hcz17_1, hcz17_2, hfz17_0, hfz17_1, hfz17_2⟩ := q3 BK149) | ((with_reducible refine gate_callee (f := 32) rfl ?_); refine goesL_ (some 7) rfl rfl Tryd.func32 (by kernel_rfl) rfl #[.agg #[.bool a0_0, .string a0_1, .string a0_2]] rfl ql ?_; (with_reducible refine (idiomref02_Check.calls k a0_0 a0_1 a0_2 t150 _ A3.out).mono ?_); rintro e w18 ⟨rfl, hb⟩; refine ⟨_, rfl, ?_⟩; replace BK149 := qb BK149 hb; replace HB := qn HB hb; (try clear hb); (try clear hb2); (try clear hk); (try clear hi)))
   go_ret
   exact ⟨qe, qh HB⟩

def idiomref03_Lead.l0 : Nat → ByteArray → Option (ByteArray)
 | 0, _ => none
 | k + 1, x0 => if (x0.size : Int) > 1 then (if 0 < (x0.size : Int) then (if (bt x0 0) = 48 then (if 1 ≤ (x0.size : Int) then (idiomref03_Lead.l0 k (x0.extract 1 x0.size)) else (none)) else (if x0.toList = ([] : List UInt8) then (some (⟨#[48]⟩ : ByteArray)) else (some x0))) else (none)) else (if x0.toList = ([] : List UInt8) then (some (⟨#[48]⟩ : ByteArray)) else (some x0))
def idiomref03_Lead.f (k : Nat) (a0 : ByteArray) : Option (ByteArray) := idiomref03_Lead.l0 k a0
theorem idiomref03_Lead.mono_l : ∀ k, (∀ y0, LeO (idiomref03_Lead.l0 k y0) (idiomref03_Lead.l0 (k + 1) y0))
 | 0 => fun _ r h => by simp [idiomref03_Lead.l0] at h
 | k + 1 => by
  have ih0 := idiomref03_Lead.mono_l k
  · intro y0
    unfold idiomref03_Lead.l0
    repeat' first
    | (with_reducible exact ih0 _)
    | (with_reducible exact LeO.refl _)
    | (with_reducible exact LeO.none _)
    | (with_reducible refine LeO.ite ?_ ?_)
    | (with_reducible refine LeO.bind ?_ (fun _ => ?_))
    | exact ih0 _
    | exact LeO.none _
    | refine LeO.ite ?_ ?_
    | refine LeO.bind ?_ (fun _ => ?_)
theorem idiomref03_Lead.mono : ∀ a0 k, LeO (idiomref03_Lead.f k a0) (idiomref03_Lead.f (k + 1) a0) := by
 intro a0 k
 have ih0 := idiomref03_Lead.mono_l k
 unfold idiomref03_Lead.f
 repeat' first
  | (with_reducible exact ih0 _)
  | (with_reducible exact LeO.refl _)
  | (with_reducible exact LeO.none _)
  | (with_reducible refine LeO.ite ?_ ?_)
  | (with_reducible refine LeO.bind ?_ (fun _ => ?_))
  | exact ih0 _
  | exact LeO.none _
  | refine LeO.ite ?_ ?_
  | refine LeO.bind ?_ (fun _ => ?_)
set_option maxHeartbeats 8000000 in
set_option maxRecDepth 100000 in
theorem idiomref03_Lead.calls (k : Nat) (a0 : ByteArray) (r : ByteArray) (w : World) (h : idiomref03_Lead.f k a0 = some r) :
 Calls Tryd.prog 41 #[.string a0] w fun e w' => e = .returned (.string r) ∧ Drawn0 w w' := by
 have H : (idiomref03_Lead.l0 k a0) = some r := h
 clear h
 have H' := Aside0.mk H
 clear H
 go_enter Tryd.func41, Tryd.ntmps41
 go_wp2
 (try simp only [Act.put, List.setIfInBounds_toArray, List.set_cons_zero, List.set_cons_succ])
 go_loopg [0] k (fun kq v0 w' => ∃ (x0_1 : ByteArray), v0 = .string x0_1 ∧ Aside0 (idiomref03_Lead.l0 kq x0_1 = some r) ∧ Aside0 (kq ≤ k) ∧ Drawn0 w w')
 case atStart => exact ⟨(a0), (by first | rfl | (simp; done) | (simp [*]; done)), H', ⟨Nat.le_refl _⟩, by repeat (first | exact Drawn0.refl _ | apply Drawn0.step)⟩
 case round =>
  clear H'
  obtain ⟨x0_1, rfl, HA, HK1, ⟨m1, rfl⟩⟩ := hrel
  cases gk with
  | zero => exact absurd HA.out (by simp [idiomref03_Lead.l0])
  | succ k1 =>
   have H := HA.out
   clear HA
   simp only [idiomref03_Lead.l0] at H
   by_cases c2 : (x0_1.size : Int) > 1
   · rw [if_pos c2] at H
     have c2b0 : decide (1 < (x0_1.size : Int)) = true := decide_eq_true c2
     have c2b1 : decide (1 < x0_1.size) = true := decide_eq_true (by omega)
     clear c2
     by_cases c3 : 0 < (x0_1.size : Int)
     · rw [if_pos c3] at H
       have c3b0 : decide (0 < (x0_1.size : Int)) = true := decide_eq_true c3
       have c3b1 : decide (0 < x0_1.size) = true := decide_eq_true (by omega)
       clear c3
       by_cases c5 : (bt x0_1 0) = 48
       · rw [if_pos c5] at H
         have c5b0 : ((bt x0_1 0) == 48) = true := beq_iff_eq.mpr c5
         have c5b1 : ((bt x0_1 0) != 48) = false := bne_eq_false_iff_eq.mpr c5
         clear c5
         by_cases c6 : 1 ≤ (x0_1.size : Int)
         · rw [if_pos c6] at H
           have c6b0 := eq_true c6
           have c6b1 : decide (1 ≤ (x0_1.size : Int)) = true := decide_eq_true c6
           clear c6
           have H' := Aside0.mk H
           clear H
           have p4 : 0 ≤ (0 : Int) := (by omega)
           have q4 : 0 < x0_1.size := (by have : (0 : Int) < (x0_1.size : Int) := of_decide_eq_true qa; omega)
           have hx4 : ∀ h : 0 < x0_1.size, ((x0_1[0]'h).toNat : Int) = bt x0_1 0 := bt_at x0_1 0
           clear p4
           have qi4 : (0 < (x0_1.size : Int)) = True := eq_true (of_decide_eq_true qa)
           replace q4 := eq_true q4
           go_wp2
           go_roundg k1
           case measure => have := HK1.out; omega
           case rel => exact ⟨(x0_1.extract 1 x0_1.size), (by first | rfl | (simp; done) | (simp [*]; done)), H', ⟨by have := HK1.out; omega⟩, by repeat (first | exact Drawn0.refl _ | apply Drawn0.step)⟩
         · rw [if_neg c6] at H
           exact absurd H (by simp)
       · rw [if_neg c5] at H
         have c5b0 : ((bt x0_1 0) == 48) = false := beq_eq_false_iff_ne.mpr c5
         have c5b1 : ((bt x0_1 0) != 48) = true := bne_iff_ne.mpr c5
         by_cases c7 : x0_1.toList = ([] : List UInt8)
         · rw [if_pos c7] at H
           have c7b0 : (x0_1.toList == ([] : List UInt8)) = true := beq_iff_eq.mpr c7
           try have c7b0z := Aid.empty_of c7b0
           have c7b1 : (x0_1.toList != ([] : List UInt8)) = false := bne_eq_false_iff_eq.mpr c7
           clear c7
           obtain rfl := Option.some.inj H
           have p4 : 0 ≤ (0 : Int) := (by omega)
           have q4 : 0 < x0_1.size := (by have : (0 : Int) < (x0_1.size : Int) := of_decide_eq_true qa; omega)
           have hx4 : ∀ h : 0 < x0_1.size, ((x0_1[0]'h).toNat : Int) = bt x0_1 0 := bt_at x0_1 0
           clear p4
           have qi4 : (0 < (x0_1.size : Int)) = True := eq_true (of_decide_eq_true qa)
           replace q4 := eq_true q4
           go_wp2
           go_ret
           exact ⟨by first | rfl | (simp; done) | (simp [*]; done), by repeat (first | exact Drawn0.refl _ | apply Drawn0.step)⟩
         · rw [if_neg c7] at H
           have c7b0 : (x0_1.toList == ([] : List UInt8)) = false := beq_eq_false_iff_ne.mpr c7
           try have c7b0z := Aid.empty_of c7b0
           have c7b1 : (x0_1.toList != ([] : List UInt8)) = true := bne_iff_ne.mpr c7
           obtain rfl := Option.some.inj H
           have p4 : 0 ≤ (0 : Int) := (by omega)
           have q4 : 0 < x0_1.size := (by have : (0 : Int) < (x0_1.size : Int) := of_decide_eq_true qa; omega)
           have hx4 : ∀ h : 0 < x0_1.size, ((x0_1[0]'h).toNat : Int) = bt x0_1 0 := bt_at x0_1 0
           clear p4
           have qi4 : (0 < (x0_1.size : Int)) = True := eq_true (of_decide_eq_true qa)
           replace q4 := eq_true q4
           go_wp2
           go_ret
           exact ⟨by first | rfl | (simp; done) | (simp [*]; done), by repeat (first | exact Drawn0.refl _ | apply Drawn0.step)⟩
     · rw [if_neg c3] at H
       exact absurd H (by simp)
   · rw [if_neg c2] at H
     have c2b0 : decide (1 < (x0_1.size : Int)) = false := decide_eq_false c2
     have c2b1 : decide (1 < x0_1.size) = false := decide_eq_false (by omega)
     clear c2
     by_cases c8 : x0_1.toList = ([] : List UInt8)
     · rw [if_pos c8] at H
       have c8b0 : (x0_1.toList == ([] : List UInt8)) = true := beq_iff_eq.mpr c8
       try have c8b0z := Aid.empty_of c8b0
       have c8b1 : (x0_1.toList != ([] : List UInt8)) = false := bne_eq_false_iff_eq.mpr c8
       clear c8
       obtain rfl := Option.some.inj H
       go_wp2
       go_ret
       exact ⟨by first | rfl | (simp; done) | (simp [*]; done), by repeat (first | exact Drawn0.refl _ | apply Drawn0.step)⟩
     · rw [if_neg c8] at H
       have c8b0 : (x0_1.toList == ([] : List UInt8)) = false := beq_eq_false_iff_ne.mpr c8
       try have c8b0z := Aid.empty_of c8b0
       have c8b1 : (x0_1.toList != ([] : List UInt8)) = true := bne_iff_ne.mpr c8
       obtain rfl := Option.some.inj H
       go_wp2
       go_ret
       exact ⟨by first | rfl | (simp; done) | (simp [*]; done), by repeat (first | exact Drawn0.refl _ | apply Drawn0.step)⟩

def idiomref03_cmp.j0 : Nat → ByteArray → ByteArray → Bool → Option (Int)
 | 0, _, _, _ => none
 | k + 1, x0, x1, x9 => if x9 = true then (some (-1)) else (if x0.toList = x1.toList then (some 0) else (some 1))
def idiomref03_cmp.f (k : Nat) (a0 : ByteArray) (a1 : ByteArray) : Option (Int) := (idiomref03_Lead.f k a0).bind fun t151 => ((idiomref03_Lead.f k a1).bind fun t152 => (if (t151.size : Int) = (t152.size : Int) then (idiomref03_cmp.j0 k t151 t152 (Op.bytesLess t151.toList t152.toList)) else (if (t151.size : Int) < (t152.size : Int) then (idiomref03_cmp.j0 k t151 t152 true) else (idiomref03_cmp.j0 k t151 t152 false))))
theorem idiomref03_cmp.mono_l : ∀ k, (∀ y0 y1 y2, LeO (idiomref03_cmp.j0 k y0 y1 y2) (idiomref03_cmp.j0 (k + 1) y0 y1 y2))
 | 0 => fun _ _ _ r h => by simp [idiomref03_cmp.j0] at h
 | k + 1 => by
  have ih0 := idiomref03_cmp.mono_l k
  · intro y0 y1 y2
    unfold idiomref03_cmp.j0
    repeat' first
    | (with_reducible exact ih0 _ _ _)
    | (with_reducible exact idiomref03_Lead.mono _ _)
    | (with_reducible exact LeO.refl _)
    | (with_reducible exact LeO.none _)
    | (with_reducible refine LeO.ite ?_ ?_)
    | (with_reducible refine LeO.bind ?_ (fun _ => ?_))
    | exact ih0 _ _ _
    | exact idiomref03_Lead.mono _ _
    | exact LeO.none _
    | refine LeO.ite ?_ ?_
    | refine LeO.bind ?_ (fun _ => ?_)
theorem idiomref03_cmp.mono : ∀ a0 a1 k, LeO (idiomref03_cmp.f k a0 a1) (idiomref03_cmp.f (k + 1) a0 a1) := by
 intro a0 a1 k
 have ih0 := idiomref03_cmp.mono_l k
 unfold idiomref03_cmp.f
 repeat' first
  | (with_reducible exact ih0 _ _ _)
  | (with_reducible exact idiomref03_Lead.mono _ _)
  | (with_reducible exact LeO.refl _)
  | (with_reducible exact LeO.none _)
  | (with_reducible refine LeO.ite ?_ ?_)
  | (with_reducible refine LeO.bind ?_ (fun _ => ?_))
  | exact ih0 _ _ _
  | exact idiomref03_Lead.mono _ _
  | exact LeO.none _
  | refine LeO.ite ?_ ?_
  | refine LeO.bind ?_ (fun _ => ?_)
set_option maxHeartbeats 8000000 in
set_option maxRecDepth 100000 in
theorem idiomref03_cmp.calls (k : Nat) (a0 : ByteArray) (a1 : ByteArray) (r : Int) (w : World) (h : idiomref03_cmp.f k a0 a1 = some r) :
 Calls Tryd.prog 87 #[.string a0, .string a1] w fun e w' => e = .returned (.int .i64 r) ∧ Drawn0 w w' := by
 have H : ((idiomref03_Lead.f k a0).bind fun t151 => ((idiomref03_Lead.f k a1).bind fun t152 => (if (t151.size : Int) = (t152.size : Int) then (idiomref03_cmp.j0 k t151 t152 (Op.bytesLess t151.toList t152.toList)) else (if (t151.size : Int) < (t152.size : Int) then (idiomref03_cmp.j0 k t151 t152 true) else (idiomref03_cmp.j0 k t151 t152 false))))) = some r := h
 clear h
 replace H := Option.bind_eq_some_iff.mp H
 obtain ⟨t151, A30, H⟩ := H
 replace H : ((idiomref03_Lead.f k a1).bind fun t152 => (if (t151.size : Int) = (t152.size : Int) then (idiomref03_cmp.j0 k t151 t152 (Op.bytesLess t151.toList t152.toList)) else (if (t151.size : Int) < (t152.size : Int) then (idiomref03_cmp.j0 k t151 t152 true) else (idiomref03_cmp.j0 k t151 t152 false)))) = some r := H
 have A3 := Aside0.mk A30
 clear A30
 replace H := Option.bind_eq_some_iff.mp H
 obtain ⟨t152, A40, H⟩ := H
 replace H : (if (t151.size : Int) = (t152.size : Int) then (idiomref03_cmp.j0 k t151 t152 (Op.bytesLess t151.toList t152.toList)) else (if (t151.size : Int) < (t152.size : Int) then (idiomref03_cmp.j0 k t151 t152 true) else (idiomref03_cmp.j0 k t151 t152 false))) = some r := H
 have A4 := Aside0.mk A40
 clear A40
 have HC5 := Aside0.mk H
 clear H
 go_enter Tryd.func87, Tryd.ntmps87
 go_upto_region 2 with (first | ((with_reducible refine gate_callee (f := 41) rfl ?_); refine goesL_ (some 6) rfl rfl Tryd.func41 (by kernel_rfl) rfl #[.string a0] rfl ql ?_; (with_reducible refine (idiomref03_Lead.calls k a0 t151 _ A3.out).mono ?_); rintro e w' ⟨rfl, ⟨nd, rfl⟩⟩; refine ⟨_, rfl, ?_⟩) | ((with_reducible refine gate_callee (f := 41) rfl ?_); refine goesL_ (some 8) rfl rfl Tryd.func41 (by kernel_rfl) rfl #[.string a1] rfl ql ?_; (with_reducible refine (idiomref03_Lead.calls k a1 t152 _ A4.out).mono ?_); rintro e w' ⟨rfl, ⟨nd, rfl⟩⟩; refine ⟨_, rfl, ?_⟩))
 (try simp only [Act.put, List.setIfInBounds_toArray, List.set_cons_zero, List.set_cons_succ])
 go_cut [9] (fun v9 wc => ∃ (kq : Nat) (x9_4 : Bool), v9 = .bool x9_4 ∧ Aside0 (idiomref03_cmp.j0 kq t151 t152 x9_4 = some r) ∧ Aside0 (kq ≤ k) ∧ Drawn0 w wc)
 case first =>
  have H := HC5.out
  clear HC5
  by_cases c6 : (t151.size : Int) = (t152.size : Int)
  · rw [if_pos c6] at H
    have c6b0 : ((t151.size : Int) == (t152.size : Int)) = true := beq_iff_eq.mpr c6
    have c6b1 : ((t151.size : Int) != (t152.size : Int)) = false := bne_eq_false_iff_eq.mpr c6
    try have c6b1z := c6b1
    (try simp only [bne] at c6b1z)
    have c6b2 : (t151.size == t152.size) = true := by first | simpa using c6 | (simp at c6 ⊢; omega)
    clear c6
    (first | rw [c6b0] | (simp only [i64_w, i32_w]; rw [c6b0]) | skip)
    have H' := Aside0.mk H
    clear H
    go_wp2
    go_meet
    case rel => exact ⟨_, ((Op.bytesLess t151.toList t152.toList)), (by first | rfl | (simp; done) | (simp [*]; done)), H', ⟨by first | omega | exact Nat.le_refl _⟩, by repeat (first | exact Drawn0.refl _ | apply Drawn0.step)⟩
  · rw [if_neg c6] at H
    have c6b0 : ((t151.size : Int) == (t152.size : Int)) = false := beq_eq_false_iff_ne.mpr c6
    have c6b1 : ((t151.size : Int) != (t152.size : Int)) = true := bne_iff_ne.mpr c6
    try have c6b1z := c6b1
    (try simp only [bne] at c6b1z)
    have c6b2 : (t151.size == t152.size) = false := by first | simpa using c6 | (simp at c6 ⊢; omega)
    (first | rw [c6b0] | (simp only [i64_w, i32_w]; rw [c6b0]) | skip)
    by_cases c7 : (t151.size : Int) < (t152.size : Int)
    · rw [if_pos c7] at H
      have c7b0 : decide ((t151.size : Int) < (t152.size : Int)) = true := decide_eq_true c7
      have c7b1 : decide (t151.size < t152.size) = true := decide_eq_true (Int.ofNat_lt.mp c7)
      clear c7
      have H' := Aside0.mk H
      clear H
      go_wp2
      go_meet
      case rel => exact ⟨_, (true), (by first | rfl | (simp; done) | (simp [*]; done)), H', ⟨by first | omega | exact Nat.le_refl _⟩, by repeat (first | exact Drawn0.refl _ | apply Drawn0.step)⟩
    · rw [if_neg c7] at H
      have c7b0 : decide ((t151.size : Int) < (t152.size : Int)) = false := decide_eq_false c7
      have c7b1 : decide (t151.size < t152.size) = false := decide_eq_false (fun h => c7 (Int.ofNat_lt.mpr h))
      clear c7
      have H' := Aside0.mk H
      clear H
      go_wp2
      go_meet
      case rel => exact ⟨_, (false), (by first | rfl | (simp; done) | (simp [*]; done)), H', ⟨by first | omega | exact Nat.le_refl _⟩, by repeat (first | exact Drawn0.refl _ | apply Drawn0.step)⟩
 case rest =>
  clear HC5
  try clear p2
  try clear c4
  try clear c6
  try clear c6b0
  try clear c6b1
  try clear c6b2
  try clear c7
  try clear c7b0
  try clear c7b1
  obtain ⟨kq, x9_4, rfl, HA, HJ4, ⟨mc4, rfl⟩⟩ := hcut
  cases kq with
  | zero => exact absurd HA.out (by simp [idiomref03_cmp.j0])
  | succ kj4 =>
   have H := HA.out
   clear HA
   simp only [idiomref03_cmp.j0] at H
   by_cases c8 : x9_4 = true
   · subst c8
     have H1 : (some (-1)) = some r := by rw [if_pos rfl] at H; exact H
     clear H
     have H := H1
     clear H1
     obtain rfl := Option.some.inj H
     go_wp2
     go_ret
     exact ⟨by first | rfl | (simp; done) | (simp [*]; done), by repeat (first | exact Drawn0.refl _ | apply Drawn0.step)⟩
   · replace c8 := Bool.eq_false_iff.mpr c8
     subst c8
     have H1 : (if t151.toList = t152.toList then (some 0) else (some 1)) = some r := by rw [if_neg (show ¬ (false = true) by decide)] at H; exact H
     clear H
     have H := H1
     clear H1
     by_cases c9 : t151.toList = t152.toList
     · rw [if_pos c9] at H
       have c9b0 : (t151.toList == t152.toList) = true := beq_iff_eq.mpr c9
       have c9b1 : (t151.toList != t152.toList) = false := bne_eq_false_iff_eq.mpr c9
       clear c9
       obtain rfl := Option.some.inj H
       go_wp2
       go_ret
       exact ⟨by first | rfl | (simp; done) | (simp [*]; done), by repeat (first | exact Drawn0.refl _ | apply Drawn0.step)⟩
     · rw [if_neg c9] at H
       have c9b0 : (t151.toList == t152.toList) = false := beq_eq_false_iff_ne.mpr c9
       have c9b1 : (t151.toList != t152.toList) = true := bne_iff_ne.mpr c9
       obtain rfl := Option.some.inj H
       go_wp2
       go_ret
       exact ⟨by first | rfl | (simp; done) | (simp [*]; done), by repeat (first | exact Drawn0.refl _ | apply Drawn0.step)⟩

end Go.Proofs.YtpmhebdaphjinaaDoor.F
