/- Part 2 of 3 of the proof of the law RunesUnescapes: it is true at every input. Conditions: those of the given row, no others. -/
import Derived.Test.YtigikjihagmokaaDoorPkRunesUnescapes0
import Derived.Lib.OthersKept
import Derived.Lib.TrimUEq
import Derived.Lib.LaidU8
import Derived.WalkKit
import Derived.BigCall
import Derived.Shelf.Strings.BuilderRune
import Derived.Lib.MapLaws
import Derived.Test.YtigikjihagmokaaDoorProg
import Derived.Below
import Derived.Deep.Draws
import Derived.Deep.AppendLies
import Derived.Maps.AppendAt
import Derived.OwnWalk
import Derived.Laws.BytesArg
import Derived.Laws.MakeOwn
import Derived.Laws.OwnMore
import Derived.Deep.OwnRows
import Derived.Tactics
import Derived.Lib.ConvBytes
import Derived.Laws.Slices
import Derived.KernelRfl
import Derived.RowKit3
import Derived.Deep.LoopGhost
import Derived.Deep.QuietTactic
import Derived.BigQuiet
import Derived.WideLaws
import Derived.Deep.DeepCutAuto
import Derived.Deep.CutBlock
import Derived.Deep.RegionHeld3
import Derived.Laws.Rows
import Derived.Lib.AppendStr
import Derived.ArgAppend
import Derived.Laws.IdiomCopy
import Derived.OrdersHeld
import Derived.Laws.BitsLemmas
import Derived.RowKit
import Derived.Test.YtigikjihagmokaaDoorWWords
import Derived.Test.YtigikjihagmokaaDoorWLast
import Derived.Test.YtigikjihagmokaaDoorWApart
import Derived.Test.YtigikjihagmokaaDoorWKept
import Derived.Laws.StructEq
import Derived.Test.YtigikjihagmokaaDoorWRepsOne
import Derived.Test.YtigikjihagmokaaDoorWMore
namespace Go.Proofs.YtigikjihagmokaaDoor.F
open Go.RowKit Go.Proofs.YtigikjihagmokaaDoorW.PrintWords Go.Proofs.YtigikjihagmokaaDoorW.PrintLast Go.Proofs.YtigikjihagmokaaDoorW.PrintMore Go.Proofs.YtigikjihagmokaaDoor.Q
attribute [local go_sem] max2_int min2_int max_two min_two max_three min_three max_four min_four   -- for this text's walks alone
set_option linter.unusedVariables false
set_option linter.unusedSimpArgs false

mutual
def runes_escaped.j0 : Nat → List Int → ByteArray → Int → Option (List Int × Int)
 | 0, _, _, _ => none
 | k + 1, x0, x1, x6 => if 1 ≤ (x1.size : Int) then ((runes_number.f k (x1.extract 1 x1.size) x6).bind fun bt233 => (if bt233.2 = true then (if x6 > 2 then ((utf8_ValidRune.f k bt233.1).bind fun t235 => (runes_escaped.j1 k x0 x6 bt233.1 (!t235))) else (runes_escaped.j1 k x0 x6 bt233.1 false)) else (runes_escaped.j1 k x0 x6 bt233.1 true))) else (none)
def runes_escaped.j1 : Nat → List Int → Int → Int → Bool → Option (List Int × Int)
 | 0, _, _, _, _ => none
 | k + 1, x0, x6, x7, x48 => if x48 = true then (some (x0, 0)) else (if x6 = 2 then (if x0.length < 140737488355328 then (some ((x0 ++ [(x7) % 256]), 3)) else (none)) else ((utf8_AppendRune.f k x0 x7).bind fun t239 => (some (t239, wrap64 (1 + x6)))))
end
def runes_escaped.f (k : Nat) (l0 : List Int) (a1 : ByteArray) : Option (List Int × Int) := if a1.toList = ([] : List UInt8) then (some (l0, 0)) else (if 0 < (a1.size : Int) then (if (bt a1 0) = 92 then (if l0.length < 140737488355328 then (some ((l0 ++ [92]), 1)) else (none)) else (if (bt a1 0) = 110 then (if l0.length < 140737488355328 then (some ((l0 ++ [10]), 1)) else (none)) else (if (bt a1 0) = 114 then (if l0.length < 140737488355328 then (some ((l0 ++ [13]), 1)) else (none)) else (if (bt a1 0) = 116 then (if l0.length < 140737488355328 then (some ((l0 ++ [9]), 1)) else (none)) else (if (bt a1 0) = 120 then (runes_escaped.j0 k l0 a1 2) else (if (bt a1 0) = 117 then (runes_escaped.j0 k l0 a1 4) else (if (bt a1 0) = 85 then (runes_escaped.j0 k l0 a1 6) else (some (l0, 0))))))))) else (none))
theorem runes_escaped.mono_l : ∀ k, (∀ y0 y1 y2, LeO (runes_escaped.j0 k y0 y1 y2) (runes_escaped.j0 (k + 1) y0 y1 y2)) ∧ (∀ y0 y1 y2 y3, LeO (runes_escaped.j1 k y0 y1 y2 y3) (runes_escaped.j1 (k + 1) y0 y1 y2 y3))
 | 0 => ⟨fun _ _ _ r h => by simp [runes_escaped.j0] at h, fun _ _ _ _ r h => by simp [runes_escaped.j1] at h⟩
 | k + 1 => by
  obtain ⟨ih0, ih1⟩ := runes_escaped.mono_l k
  refine ⟨?_, ?_⟩
  · intro y0 y1 y2
    unfold runes_escaped.j0
    repeat' first
    | (with_reducible exact ih0 _ _ _)
    | (with_reducible exact ih1 _ _ _ _)
    | (with_reducible exact runes_number.mono _ _ _)
    | (with_reducible exact utf8_AppendRune.mono _ _ _)
    | (with_reducible exact utf8_ValidRune.mono _ _)
    | (with_reducible exact LeO.refl _)
    | (with_reducible exact LeO.none _)
    | (with_reducible refine LeO.ite ?_ ?_)
    | (with_reducible refine LeO.bind ?_ (fun _ => ?_))
    | exact ih0 _ _ _
    | exact ih1 _ _ _ _
    | exact runes_number.mono _ _ _
    | exact utf8_AppendRune.mono _ _ _
    | exact utf8_ValidRune.mono _ _
    | exact LeO.none _
    | refine LeO.ite ?_ ?_
    | refine LeO.bind ?_ (fun _ => ?_)
  · intro y0 y1 y2 y3
    unfold runes_escaped.j1
    repeat' first
    | (with_reducible exact ih0 _ _ _)
    | (with_reducible exact ih1 _ _ _ _)
    | (with_reducible exact runes_number.mono _ _ _)
    | (with_reducible exact utf8_AppendRune.mono _ _ _)
    | (with_reducible exact utf8_ValidRune.mono _ _)
    | (with_reducible exact LeO.refl _)
    | (with_reducible exact LeO.none _)
    | (with_reducible refine LeO.ite ?_ ?_)
    | (with_reducible refine LeO.bind ?_ (fun _ => ?_))
    | exact ih0 _ _ _
    | exact ih1 _ _ _ _
    | exact runes_number.mono _ _ _
    | exact utf8_AppendRune.mono _ _ _
    | exact utf8_ValidRune.mono _ _
    | exact LeO.none _
    | refine LeO.ite ?_ ?_
    | refine LeO.bind ?_ (fun _ => ?_)
theorem runes_escaped.mono : ∀ a0 a1 k, LeO (runes_escaped.f k a0 a1) (runes_escaped.f (k + 1) a0 a1) := by
 intro a0 a1 k
 obtain ⟨ih0, ih1⟩ := runes_escaped.mono_l k
 unfold runes_escaped.f
 repeat' first
  | (with_reducible exact ih0 _ _ _)
  | (with_reducible exact ih1 _ _ _ _)
  | (with_reducible exact runes_number.mono _ _ _)
  | (with_reducible exact utf8_AppendRune.mono _ _ _)
  | (with_reducible exact utf8_ValidRune.mono _ _)
  | (with_reducible exact LeO.refl _)
  | (with_reducible exact LeO.none _)
  | (with_reducible refine LeO.ite ?_ ?_)
  | (with_reducible refine LeO.bind ?_ (fun _ => ?_))
  | exact ih0 _ _ _
  | exact ih1 _ _ _ _
  | exact runes_number.mono _ _ _
  | exact utf8_AppendRune.mono _ _ _
  | exact utf8_ValidRune.mono _ _
  | exact LeO.none _
  | refine LeO.ite ?_ ?_
  | refine LeO.bind ?_ (fun _ => ?_)
set_option maxHeartbeats 8000000 in
set_option maxRecDepth 100000 in
theorem runes_escaped.calls (k : Nat) (P0_ : Nat → Prop) (u9000_ : Value) (l0 : List Int) (a1 : ByteArray) (r1 : List Int) (r2 : Int) (w0 w : World) (hB : Below w0.heap.size w0 w) (ho0 : Kd.R (Kd.int .u8) 5 w w0.heap.size P0_ u9000_ l0) (h : runes_escaped.f k l0 a1 = some (r1, r2)) :
 Calls Tryd.prog 45 #[u9000_, .string a1] w fun e w' => ∃ v0_ : Value, e = .returned (.tuple #[v0_, .int .i64 r2]) ∧ Kd.R (Kd.int .u8) 5 w' w0.heap.size (fun k_ => (P0_ k_ ∨ w.heap.size ≤ k_)) v0_ r1 ∧ Below w0.heap.size w0 w' ∧ Kept w w' (fun k_ => P0_ k_) := by
 have HO0 := Aside0.mk (show Kd.R (Kd.int .u8) 5 w w0.heap.size (fun k_ => (P0_ k_ ∨ w.heap.size ≤ k_)) u9000_ l0 from Kd.R_mono ho0 (fun k_ hk => (.inl hk)))
 have HK := Aside0.mk (Kept.refl w (fun k_ => P0_ k_))
 have HW0 := Aside0.mk hB.size
 have HB := Aside0.mk hB
 clear hB
 have H : (if a1.toList = ([] : List UInt8) then (some (l0, 0)) else (if 0 < (a1.size : Int) then (if (bt a1 0) = 92 then (if l0.length < 140737488355328 then (some ((l0 ++ [92]), 1)) else (none)) else (if (bt a1 0) = 110 then (if l0.length < 140737488355328 then (some ((l0 ++ [10]), 1)) else (none)) else (if (bt a1 0) = 114 then (if l0.length < 140737488355328 then (some ((l0 ++ [13]), 1)) else (none)) else (if (bt a1 0) = 116 then (if l0.length < 140737488355328 then (some ((l0 ++ [9]), 1)) else (none)) else (if (bt a1 0) = 120 then (runes_escaped.j0 k l0 a1 2) else (if (bt a1 0) = 117 then (runes_escaped.j0 k l0 a1 4) else (if (bt a1 0) = 85 then (runes_escaped.j0 k l0 a1 6) else (some (l0, 0))))))))) else (none))) = some (r1, r2) := h
 clear h
 by_cases c3 : a1.toList = ([] : List UInt8)
 · rw [if_pos c3] at H
   have c3b0 : (a1.toList == ([] : List UInt8)) = true := beq_iff_eq.mpr c3
   try have c3b0z := Aid.empty_of c3b0
   have c3b1 : (a1.toList != ([] : List UInt8)) = false := bne_eq_false_iff_eq.mpr c3
   clear c3
   simp only [Option.some.injEq, Prod.mk.injEq] at H
   obtain ⟨rfl, rfl⟩ := H
   go_enter Tryd.func45, Tryd.ntmps45
   go_wp2
   go_ret2
   exact ⟨_, by first | rfl | (simp [errW_none, errW_some] <;> rfl) | (simp [*, errW_none, errW_some] <;> rfl), by (with_reducible repeat (first | apply Kd.R_alloc | apply Kd.R_drewN | apply Kd.R_drew)); exact HO0.out, qh HB, by repeat (first | (with_reducible first | exact HK.out | apply Kept.alloc | apply Kept.drewN | apply Kept.drew) | exact HK.out)⟩
 · rw [if_neg c3] at H
   have c3b0 : (a1.toList == ([] : List UInt8)) = false := beq_eq_false_iff_ne.mpr c3
   try have c3b0z := Aid.empty_of c3b0
   have c3b1 : (a1.toList != ([] : List UInt8)) = true := bne_iff_ne.mpr c3
   by_cases c4 : 0 < (a1.size : Int)
   · rw [if_pos c4] at H
     have c4b0 : decide (0 < (a1.size : Int)) = true := decide_eq_true c4
     have c4b1 : decide (0 < a1.size) = true := decide_eq_true (by omega)
     clear c4
     have HC6 := Aside0.mk H
     clear H
     have p5 : 0 ≤ (0 : Int) := (by omega)
     have q5 : 0 < a1.size := (by have : (0 : Int) < (a1.size : Int) := of_decide_eq_true qa; omega)
     have hx5 : ∀ h : 0 < a1.size, ((a1[0]'h).toNat : Int) = bt a1 0 := bt_at a1 0
     clear p5
     have qi5 : (0 < (a1.size : Int)) = True := eq_true (of_decide_eq_true qa)
     replace q5 := eq_true q5
     go_enter Tryd.func45, Tryd.ntmps45
     go_upto_block 0 with (fail)
     go_cut [6] (fun v6 wc => ∃ (kq : Nat) (x6_5 : Int), v6 = .int .i64 x6_5 ∧ Aside0 (runes_escaped.j0 kq l0 a1 x6_5 = some (r1, r2)) ∧ Aside0 (kq ≤ k) ∧ Aside0 (Kd.R (Kd.int .u8) 5 wc w0.heap.size (fun k_ => (P0_ k_ ∨ w.heap.size ≤ k_)) u9000_ l0) ∧ Aside0 (Kept w wc (fun k_ => P0_ k_)) ∧ Aside0 (Below w0.heap.size w0 wc))
     case first =>
      have H := HC6.out
      clear HC6
      by_cases c7 : (bt a1 0) = 92
      · rw [if_pos c7] at H
        have c7b0 : ((bt a1 0) == 92) = true := beq_iff_eq.mpr c7
        have c7b1 : ((bt a1 0) != 92) = false := bne_eq_false_iff_eq.mpr c7
        clear c7
        (first | rw [c7b0] | (simp only [i64_w, i32_w]; rw [c7b0]) | skip)
        by_cases c8 : l0.length < 140737488355328
        · rw [if_pos c8] at H
          have LMc8 := Aside0.mk c8
          clear c8
          obtain ⟨y221, hy221⟩ : ∃ y_ : List Int, y_ = (l0 ++ [92]) := ⟨_, rfl⟩
          replace H : (some (y221, 1)) = some (r1, r2) := by first | (rw [hy221]; with_reducible exact H) | (have H2_ := (Option.bind_some _ _).symm.trans H; rw [hy221]; with_reducible exact H2_) | (have H2_ := (Option.bind_some _ _).symm.trans H; with_reducible exact H2_) | with_reducible exact H | (rw [hy221]; exact H) | exact H
          have Ny221 := Aside0.mk hy221
          clear hy221
          simp only [Option.some.injEq, Prod.mk.injEq] at H
          obtain ⟨rfl, rfl⟩ := H
          go_wp2_with (first | ((with_reducible refine gate_builtin (b := .append) (xs := #[.tmp 17, .tmp 18]) rfl ?_); at_builtin; refine Kd.R_append (Kd.int .u8) (w0 := w0) w0.heap.size rfl (.tmp 17) (.tmp 18) 41 5 (.int .u8 0) 1 rfl Tryd.underlying41 info5 rfl (by decide) (by omega) u9000_ l0 92 [.int .u8 92] (fun k_ => (P0_ k_ ∨ w.heap.size ≤ k_)) (fun _ => False) rfl rfl ?aP (fun _ hk => hk.elim) ?aF ?aO ?aB ?aS ?aL ?_; (case aP => exact rfl); (case aB => exact (qh HB)); (case aF => exact (fun k_ hk => (.inr (Nat.le_trans (by first | exact HK.out.1 | exact (show Kept w _ (fun k_ => P0_ k_) from by repeat (first | (with_reducible first | exact HK.out | apply Kept.alloc | apply Kept.drewN | apply Kept.drew) | exact HK.out)).1) hk)))); (case aO => exact (by (with_reducible repeat (first | apply Kd.R_alloc | apply Kd.R_drewN | apply Kd.R_drew)); exact HO0.out)); (case aS => exact (below_size (qh HB))); (case aL => have := LMc8.out; omega); intro v222 w9 ho hb hg hat; rw [← Ny221.out] at ho; have n0_ := Aside0.mk (hb); have n1_ := Aside0.mk (Kept.of_grown (S := (fun k_ => P0_ k_)) hg (by repeat (first | (with_reducible first | exact HK.out | apply Kept.alloc | apply Kept.drewN | apply Kept.drew) | exact HK.out)) (fun k_ e_ => (HO0.out.1 k_ e_))); have n2_ := Aside0.mk (ho); clear HB; clear HK; clear HO0; have HB := n0_; have HK := n1_; have HO223 := n2_; clear n0_ n1_ n2_; clear ho hb hg hat))
          go_ret2
          exact ⟨_, by first | rfl | (simp [errW_none, errW_some] <;> rfl) | (simp [*, errW_none, errW_some] <;> rfl), by (with_reducible repeat (first | apply Kd.R_alloc | apply Kd.R_drewN | apply Kd.R_drew)); exact HO223.out, qh HB, by repeat (first | (with_reducible first | exact HK.out | apply Kept.alloc | apply Kept.drewN | apply Kept.drew) | exact HK.out)⟩
        · rw [if_neg c8] at H
          exact absurd H (by simp)
      · rw [if_neg c7] at H
        have c7b0 : ((bt a1 0) == 92) = false := beq_eq_false_iff_ne.mpr c7
        have c7b1 : ((bt a1 0) != 92) = true := bne_iff_ne.mpr c7
        (first | rw [c7b0] | (simp only [i64_w, i32_w]; rw [c7b0]) | skip)
        by_cases c10 : (bt a1 0) = 110
        · rw [if_pos c10] at H
          have c10b0 : ((bt a1 0) == 110) = true := beq_iff_eq.mpr c10
          have c10b1 : ((bt a1 0) != 110) = false := bne_eq_false_iff_eq.mpr c10
          clear c10
          by_cases c11 : l0.length < 140737488355328
          · rw [if_pos c11] at H
            have LMc11 := Aside0.mk c11
            clear c11
            obtain ⟨y224, hy224⟩ : ∃ y_ : List Int, y_ = (l0 ++ [10]) := ⟨_, rfl⟩
            replace H : (some (y224, 1)) = some (r1, r2) := by first | (rw [hy224]; with_reducible exact H) | (have H2_ := (Option.bind_some _ _).symm.trans H; rw [hy224]; with_reducible exact H2_) | (have H2_ := (Option.bind_some _ _).symm.trans H; with_reducible exact H2_) | with_reducible exact H | (rw [hy224]; exact H) | exact H
            have Ny224 := Aside0.mk hy224
            clear hy224
            simp only [Option.some.injEq, Prod.mk.injEq] at H
            obtain ⟨rfl, rfl⟩ := H
            go_wp2_with (first | ((with_reducible refine gate_builtin (b := .append) (xs := #[.tmp 22, .tmp 23]) rfl ?_); at_builtin; refine Kd.R_append (Kd.int .u8) (w0 := w0) w0.heap.size rfl (.tmp 22) (.tmp 23) 41 5 (.int .u8 0) 1 rfl Tryd.underlying41 info5 rfl (by decide) (by omega) u9000_ l0 10 [.int .u8 10] (fun k_ => (P0_ k_ ∨ w.heap.size ≤ k_)) (fun _ => False) rfl rfl ?aP (fun _ hk => hk.elim) ?aF ?aO ?aB ?aS ?aL ?_; (case aP => exact rfl); (case aB => exact (qh HB)); (case aF => exact (fun k_ hk => (.inr (Nat.le_trans (by first | exact HK.out.1 | exact (show Kept w _ (fun k_ => P0_ k_) from by repeat (first | (with_reducible first | exact HK.out | apply Kept.alloc | apply Kept.drewN | apply Kept.drew) | exact HK.out)).1) hk)))); (case aO => exact (by (with_reducible repeat (first | apply Kd.R_alloc | apply Kd.R_drewN | apply Kd.R_drew)); exact HO0.out)); (case aS => exact (below_size (qh HB))); (case aL => have := LMc11.out; omega); intro v225 w12 ho hb hg hat; rw [← Ny224.out] at ho; have n0_ := Aside0.mk (hb); have n1_ := Aside0.mk (Kept.of_grown (S := (fun k_ => P0_ k_)) hg (by repeat (first | (with_reducible first | exact HK.out | apply Kept.alloc | apply Kept.drewN | apply Kept.drew) | exact HK.out)) (fun k_ e_ => (HO0.out.1 k_ e_))); have n2_ := Aside0.mk (ho); clear HB; clear HK; clear HO0; have HB := n0_; have HK := n1_; have HO226 := n2_; clear n0_ n1_ n2_; clear ho hb hg hat))
            go_ret2
            exact ⟨_, by first | rfl | (simp [errW_none, errW_some] <;> rfl) | (simp [*, errW_none, errW_some] <;> rfl), by (with_reducible repeat (first | apply Kd.R_alloc | apply Kd.R_drewN | apply Kd.R_drew)); exact HO226.out, qh HB, by repeat (first | (with_reducible first | exact HK.out | apply Kept.alloc | apply Kept.drewN | apply Kept.drew) | exact HK.out)⟩
          · rw [if_neg c11] at H
            exact absurd H (by simp)
        · rw [if_neg c10] at H
          have c10b0 : ((bt a1 0) == 110) = false := beq_eq_false_iff_ne.mpr c10
          have c10b1 : ((bt a1 0) != 110) = true := bne_iff_ne.mpr c10
          by_cases c13 : (bt a1 0) = 114
          · rw [if_pos c13] at H
            have c13b0 : ((bt a1 0) == 114) = true := beq_iff_eq.mpr c13
            have c13b1 : ((bt a1 0) != 114) = false := bne_eq_false_iff_eq.mpr c13
            clear c13
            by_cases c14 : l0.length < 140737488355328
            · rw [if_pos c14] at H
              have LMc14 := Aside0.mk c14
              clear c14
              obtain ⟨y227, hy227⟩ : ∃ y_ : List Int, y_ = (l0 ++ [13]) := ⟨_, rfl⟩
              replace H : (some (y227, 1)) = some (r1, r2) := by first | (rw [hy227]; with_reducible exact H) | (have H2_ := (Option.bind_some _ _).symm.trans H; rw [hy227]; with_reducible exact H2_) | (have H2_ := (Option.bind_some _ _).symm.trans H; with_reducible exact H2_) | with_reducible exact H | (rw [hy227]; exact H) | exact H
              have Ny227 := Aside0.mk hy227
              clear hy227
              simp only [Option.some.injEq, Prod.mk.injEq] at H
              obtain ⟨rfl, rfl⟩ := H
              go_wp2_with (first | ((with_reducible refine gate_builtin (b := .append) (xs := #[.tmp 27, .tmp 28]) rfl ?_); at_builtin; refine Kd.R_append (Kd.int .u8) (w0 := w0) w0.heap.size rfl (.tmp 27) (.tmp 28) 41 5 (.int .u8 0) 1 rfl Tryd.underlying41 info5 rfl (by decide) (by omega) u9000_ l0 13 [.int .u8 13] (fun k_ => (P0_ k_ ∨ w.heap.size ≤ k_)) (fun _ => False) rfl rfl ?aP (fun _ hk => hk.elim) ?aF ?aO ?aB ?aS ?aL ?_; (case aP => exact rfl); (case aB => exact (qh HB)); (case aF => exact (fun k_ hk => (.inr (Nat.le_trans (by first | exact HK.out.1 | exact (show Kept w _ (fun k_ => P0_ k_) from by repeat (first | (with_reducible first | exact HK.out | apply Kept.alloc | apply Kept.drewN | apply Kept.drew) | exact HK.out)).1) hk)))); (case aO => exact (by (with_reducible repeat (first | apply Kd.R_alloc | apply Kd.R_drewN | apply Kd.R_drew)); exact HO0.out)); (case aS => exact (below_size (qh HB))); (case aL => have := LMc14.out; omega); intro v228 w15 ho hb hg hat; rw [← Ny227.out] at ho; have n0_ := Aside0.mk (hb); have n1_ := Aside0.mk (Kept.of_grown (S := (fun k_ => P0_ k_)) hg (by repeat (first | (with_reducible first | exact HK.out | apply Kept.alloc | apply Kept.drewN | apply Kept.drew) | exact HK.out)) (fun k_ e_ => (HO0.out.1 k_ e_))); have n2_ := Aside0.mk (ho); clear HB; clear HK; clear HO0; have HB := n0_; have HK := n1_; have HO229 := n2_; clear n0_ n1_ n2_; clear ho hb hg hat))
              go_ret2
              exact ⟨_, by first | rfl | (simp [errW_none, errW_some] <;> rfl) | (simp [*, errW_none, errW_some] <;> rfl), by (with_reducible repeat (first | apply Kd.R_alloc | apply Kd.R_drewN | apply Kd.R_drew)); exact HO229.out, qh HB, by repeat (first | (with_reducible first | exact HK.out | apply Kept.alloc | apply Kept.drewN | apply Kept.drew) | exact HK.out)⟩
            · rw [if_neg c14] at H
              exact absurd H (by simp)
          · rw [if_neg c13] at H
            have c13b0 : ((bt a1 0) == 114) = false := beq_eq_false_iff_ne.mpr c13
            have c13b1 : ((bt a1 0) != 114) = true := bne_iff_ne.mpr c13
            by_cases c16 : (bt a1 0) = 116
            · rw [if_pos c16] at H
              have c16b0 : ((bt a1 0) == 116) = true := beq_iff_eq.mpr c16
              have c16b1 : ((bt a1 0) != 116) = false := bne_eq_false_iff_eq.mpr c16
              clear c16
              by_cases c17 : l0.length < 140737488355328
              · rw [if_pos c17] at H
                have LMc17 := Aside0.mk c17
                clear c17
                obtain ⟨y230, hy230⟩ : ∃ y_ : List Int, y_ = (l0 ++ [9]) := ⟨_, rfl⟩
                replace H : (some (y230, 1)) = some (r1, r2) := by first | (rw [hy230]; with_reducible exact H) | (have H2_ := (Option.bind_some _ _).symm.trans H; rw [hy230]; with_reducible exact H2_) | (have H2_ := (Option.bind_some _ _).symm.trans H; with_reducible exact H2_) | with_reducible exact H | (rw [hy230]; exact H) | exact H
                have Ny230 := Aside0.mk hy230
                clear hy230
                simp only [Option.some.injEq, Prod.mk.injEq] at H
                obtain ⟨rfl, rfl⟩ := H
                go_wp2_with (first | ((with_reducible refine gate_builtin (b := .append) (xs := #[.tmp 32, .tmp 33]) rfl ?_); at_builtin; refine Kd.R_append (Kd.int .u8) (w0 := w0) w0.heap.size rfl (.tmp 32) (.tmp 33) 41 5 (.int .u8 0) 1 rfl Tryd.underlying41 info5 rfl (by decide) (by omega) u9000_ l0 9 [.int .u8 9] (fun k_ => (P0_ k_ ∨ w.heap.size ≤ k_)) (fun _ => False) rfl rfl ?aP (fun _ hk => hk.elim) ?aF ?aO ?aB ?aS ?aL ?_; (case aP => exact rfl); (case aB => exact (qh HB)); (case aF => exact (fun k_ hk => (.inr (Nat.le_trans (by first | exact HK.out.1 | exact (show Kept w _ (fun k_ => P0_ k_) from by repeat (first | (with_reducible first | exact HK.out | apply Kept.alloc | apply Kept.drewN | apply Kept.drew) | exact HK.out)).1) hk)))); (case aO => exact (by (with_reducible repeat (first | apply Kd.R_alloc | apply Kd.R_drewN | apply Kd.R_drew)); exact HO0.out)); (case aS => exact (below_size (qh HB))); (case aL => have := LMc17.out; omega); intro v231 w18 ho hb hg hat; rw [← Ny230.out] at ho; have n0_ := Aside0.mk (hb); have n1_ := Aside0.mk (Kept.of_grown (S := (fun k_ => P0_ k_)) hg (by repeat (first | (with_reducible first | exact HK.out | apply Kept.alloc | apply Kept.drewN | apply Kept.drew) | exact HK.out)) (fun k_ e_ => (HO0.out.1 k_ e_))); have n2_ := Aside0.mk (ho); clear HB; clear HK; clear HO0; have HB := n0_; have HK := n1_; have HO232 := n2_; clear n0_ n1_ n2_; clear ho hb hg hat))
                go_ret2
                exact ⟨_, by first | rfl | (simp [errW_none, errW_some] <;> rfl) | (simp [*, errW_none, errW_some] <;> rfl), by (with_reducible repeat (first | apply Kd.R_alloc | apply Kd.R_drewN | apply Kd.R_drew)); exact HO232.out, qh HB, by repeat (first | (with_reducible first | exact HK.out | apply Kept.alloc | apply Kept.drewN | apply Kept.drew) | exact HK.out)⟩
              · rw [if_neg c17] at H
                exact absurd H (by simp)
            · rw [if_neg c16] at H
              have c16b0 : ((bt a1 0) == 116) = false := beq_eq_false_iff_ne.mpr c16
              have c16b1 : ((bt a1 0) != 116) = true := bne_iff_ne.mpr c16
              by_cases c19 : (bt a1 0) = 120
              · rw [if_pos c19] at H
                have c19b0 : ((bt a1 0) == 120) = true := beq_iff_eq.mpr c19
                have c19b1 : ((bt a1 0) != 120) = false := bne_eq_false_iff_eq.mpr c19
                clear c19
                have H' := Aside0.mk H
                clear H
                go_wp2
                go_meet
                case rel => exact ⟨_, (2), (by first | rfl | (simp; done) | (simp [*]; done)), H', ⟨by first | omega | exact Nat.le_refl _⟩, ⟨by (with_reducible repeat (first | apply Kd.R_alloc | apply Kd.R_drewN | apply Kd.R_drew)); exact HO0.out⟩, ⟨by repeat (first | (with_reducible first | exact HK.out | apply Kept.alloc | apply Kept.drewN | apply Kept.drew) | exact HK.out)⟩, ⟨qh HB⟩⟩
              · rw [if_neg c19] at H
                have c19b0 : ((bt a1 0) == 120) = false := beq_eq_false_iff_ne.mpr c19
                have c19b1 : ((bt a1 0) != 120) = true := bne_iff_ne.mpr c19
                by_cases c20 : (bt a1 0) = 117
                · rw [if_pos c20] at H
                  have c20b0 : ((bt a1 0) == 117) = true := beq_iff_eq.mpr c20
                  have c20b1 : ((bt a1 0) != 117) = false := bne_eq_false_iff_eq.mpr c20
                  clear c20
                  have H' := Aside0.mk H
                  clear H
                  go_wp2
                  go_meet
                  case rel => exact ⟨_, (4), (by first | rfl | (simp; done) | (simp [*]; done)), H', ⟨by first | omega | exact Nat.le_refl _⟩, ⟨by (with_reducible repeat (first | apply Kd.R_alloc | apply Kd.R_drewN | apply Kd.R_drew)); exact HO0.out⟩, ⟨by repeat (first | (with_reducible first | exact HK.out | apply Kept.alloc | apply Kept.drewN | apply Kept.drew) | exact HK.out)⟩, ⟨qh HB⟩⟩
                · rw [if_neg c20] at H
                  have c20b0 : ((bt a1 0) == 117) = false := beq_eq_false_iff_ne.mpr c20
                  have c20b1 : ((bt a1 0) != 117) = true := bne_iff_ne.mpr c20
                  by_cases c21 : (bt a1 0) = 85
                  · rw [if_pos c21] at H
                    have c21b0 : ((bt a1 0) == 85) = true := beq_iff_eq.mpr c21
                    have c21b1 : ((bt a1 0) != 85) = false := bne_eq_false_iff_eq.mpr c21
                    clear c21
                    have H' := Aside0.mk H
                    clear H
                    go_wp2
                    go_meet
                    case rel => exact ⟨_, (6), (by first | rfl | (simp; done) | (simp [*]; done)), H', ⟨by first | omega | exact Nat.le_refl _⟩, ⟨by (with_reducible repeat (first | apply Kd.R_alloc | apply Kd.R_drewN | apply Kd.R_drew)); exact HO0.out⟩, ⟨by repeat (first | (with_reducible first | exact HK.out | apply Kept.alloc | apply Kept.drewN | apply Kept.drew) | exact HK.out)⟩, ⟨qh HB⟩⟩
                  · rw [if_neg c21] at H
                    have c21b0 : ((bt a1 0) == 85) = false := beq_eq_false_iff_ne.mpr c21
                    have c21b1 : ((bt a1 0) != 85) = true := bne_iff_ne.mpr c21
                    simp only [Option.some.injEq, Prod.mk.injEq] at H
                    obtain ⟨rfl, rfl⟩ := H
                    go_wp2
                    go_ret2
                    exact ⟨_, by first | rfl | (simp [errW_none, errW_some] <;> rfl) | (simp [*, errW_none, errW_some] <;> rfl), by (with_reducible repeat (first | apply Kd.R_alloc | apply Kd.R_drewN | apply Kd.R_drew)); exact HO0.out, qh HB, by repeat (first | (with_reducible first | exact HK.out | apply Kept.alloc | apply Kept.drewN | apply Kept.drew) | exact HK.out)⟩
     case rest =>
      clear HC6
      try clear c1
      try clear c2
      try clear p2
      try clear c3
      try clear c3b0
      try clear c3b1
      try clear c4
      try clear c4b0
      try clear c4b1
      try clear p5
      try clear q5
      try clear hx5
      try clear qi5
      try clear c7
      try clear c7b0
      try clear c7b1
      try clear c8
      try clear c10
      try clear c10b0
      try clear c10b1
      try clear c11
      try clear c13
      try clear c13b0
      try clear c13b1
      try clear c14
      try clear c16
      try clear c16b0
      try clear c16b1
      try clear c17
      try clear c19
      try clear c19b0
      try clear c19b1
      try clear c20
      try clear c20b0
      try clear c20b1
      try clear c21
      try clear c21b0
      try clear c21b1
      try clear p5
      try clear q5
      obtain ⟨kq, x6_5, rfl, HA, HJ5, HO_0, HK, HB⟩ := hcut
      cases kq with
      | zero => exact absurd HA.out (by simp [runes_escaped.j0])
      | succ kj5 =>
       have H := HA.out
       clear HA
       simp only [runes_escaped.j0] at H
       by_cases c22 : 1 ≤ (a1.size : Int)
       · rw [if_pos c22] at H
         have c22b0 := eq_true c22
         have c22b1 : decide (1 ≤ (a1.size : Int)) = true := decide_eq_true c22
         clear c22
         replace H := Option.bind_eq_some_iff.mp H
         obtain ⟨⟨t233, t234⟩, A230, H⟩ := H
         replace H : (if t234 = true then (if x6_5 > 2 then ((utf8_ValidRune.f kj5 t233).bind fun t235 => (runes_escaped.j1 kj5 l0 x6_5 t233 (!t235))) else (runes_escaped.j1 kj5 l0 x6_5 t233 false)) else (runes_escaped.j1 kj5 l0 x6_5 t233 true)) = some (r1, r2) := H
         have A23 := Aside0.mk A230
         clear A230
         have HC24 := Aside0.mk H
         clear H
         go_upto_region 20 with (first | ((with_reducible refine gate_callee (f := 52) rfl ?_); refine goesL_ (some 45) rfl rfl Tryd.func52 (by kernel_rfl) rfl #[.string (a1.extract 1 a1.size), .int .i64 x6_5] rfl ql ?_; (with_reducible refine (runes_number.calls kj5 (a1.extract 1 a1.size) x6_5 t233 t234 _ A23.out).mono ?_); rintro e w' ⟨rfl, ⟨nd, rfl⟩⟩; refine ⟨_, rfl, ?_⟩))
         (try simp only [Act.put, List.setIfInBounds_toArray, List.set_cons_zero, List.set_cons_succ])
         go_cut [48] (fun v48 wc => ∃ (kq : Nat) (x48_23 : Bool), v48 = .bool x48_23 ∧ Aside0 (runes_escaped.j1 kq l0 x6_5 t233 x48_23 = some (r1, r2)) ∧ Aside0 (kq ≤ kj5) ∧ Aside0 (Kd.R (Kd.int .u8) 5 wc w0.heap.size (fun k_ => (P0_ k_ ∨ w.heap.size ≤ k_)) u9000_ l0) ∧ Aside0 (Kept w wc (fun k_ => P0_ k_)) ∧ Aside0 (Below w0.heap.size w0 wc))
         case first =>
          have H := HC24.out
          clear HC24
          by_cases c25 : t234 = true
          · subst c25
            have H1 : (if x6_5 > 2 then ((utf8_ValidRune.f kj5 t233).bind fun t235 => (runes_escaped.j1 kj5 l0 x6_5 t233 (!t235))) else (runes_escaped.j1 kj5 l0 x6_5 t233 false)) = some (r1, r2) := by rw [if_pos rfl] at H; exact H
            clear H
            have H := H1
            clear H1
            by_cases c26 : x6_5 > 2
            · rw [if_pos c26] at H
              have c26b0 : decide (2 < x6_5) = true := decide_eq_true c26
              clear c26
              (first | rw [c26b0] | (simp only [i64_w, i32_w]; rw [c26b0]) | skip)
              replace H := Option.bind_eq_some_iff.mp H
              obtain ⟨t235, A270, H⟩ := H
              replace H : (runes_escaped.j1 kj5 l0 x6_5 t233 (!t235)) = some (r1, r2) := H
              have A27 := Aside0.mk A270
              clear A270
              have H' := Aside0.mk H
              clear H
              go_wp2_with (first | (go_at_call 53; (with_reducible refine (utf8_ValidRune.calls kj5 t233 t235 _ A27.out).mono ?_); rintro e w' ⟨rfl, ⟨nd, rfl⟩⟩))
              go_meet
              case rel => exact ⟨_, (!t235), (by first | rfl | (simp; done) | (simp [*]; done)), H', ⟨by have := HJ5.out; first | omega | exact Nat.le_refl _⟩, ⟨by (with_reducible repeat (first | apply Kd.R_alloc | apply Kd.R_drewN | apply Kd.R_drew)); exact HO_0.out⟩, ⟨by repeat (first | (with_reducible first | exact HK.out | apply Kept.alloc | apply Kept.drewN | apply Kept.drew) | exact HK.out)⟩, ⟨qh HB⟩⟩
            · rw [if_neg c26] at H
              have c26b0 : decide (2 < x6_5) = false := decide_eq_false c26
              clear c26
              (first | rw [c26b0] | (simp only [i64_w, i32_w]; rw [c26b0]) | skip)
              have H' := Aside0.mk H
              clear H
              go_wp2
              go_meet
              case rel => exact ⟨_, (false), (by first | rfl | (simp; done) | (simp [*]; done)), H', ⟨by have := HJ5.out; first | omega | exact Nat.le_refl _⟩, ⟨by (with_reducible repeat (first | apply Kd.R_alloc | apply Kd.R_drewN | apply Kd.R_drew)); exact HO_0.out⟩, ⟨by repeat (first | (with_reducible first | exact HK.out | apply Kept.alloc | apply Kept.drewN | apply Kept.drew) | exact HK.out)⟩, ⟨qh HB⟩⟩
          · replace c25 := Bool.eq_false_iff.mpr c25
            subst c25
            have H1 : (runes_escaped.j1 kj5 l0 x6_5 t233 true) = some (r1, r2) := by rw [if_neg (show ¬ (false = true) by decide)] at H; exact H
            clear H
            have H := H1
            clear H1
            have H' := Aside0.mk H
            clear H
            go_wp2
            go_meet
            case rel => exact ⟨_, (true), (by first | rfl | (simp; done) | (simp [*]; done)), H', ⟨by have := HJ5.out; first | omega | exact Nat.le_refl _⟩, ⟨by (with_reducible repeat (first | apply Kd.R_alloc | apply Kd.R_drewN | apply Kd.R_drew)); exact HO_0.out⟩, ⟨by repeat (first | (with_reducible first | exact HK.out | apply Kept.alloc | apply Kept.drewN | apply Kept.drew) | exact HK.out)⟩, ⟨qh HB⟩⟩
         case rest =>
          clear HC24
          try clear c1
          try clear c2
          try clear p2
          try clear c3
          try clear c3b0
          try clear c3b1
          try clear c4
          try clear c4b0
          try clear c4b1
          try clear c5
          try clear p5
          try clear q5
          try clear hx5
          try clear qi5
          try clear c7
          try clear c7b0
          try clear c7b1
          try clear c8
          try clear c10
          try clear c10b0
          try clear c10b1
          try clear c11
          try clear c13
          try clear c13b0
          try clear c13b1
          try clear c14
          try clear c16
          try clear c16b0
          try clear c16b1
          try clear c17
          try clear c19
          try clear c19b0
          try clear c19b1
          try clear c20
          try clear c20b0
          try clear c20b1
          try clear c21
          try clear c21b0
          try clear c21b1
          try clear c22
          try clear c22b0
          try clear c22b1
          try clear c25
          try clear c26
          try clear c26b0
          try clear p2
          try clear p5
          try clear q5
          obtain ⟨kq, x48_23, rfl, HA, HJ23, HO_0, HK, HB⟩ := hcut
          cases kq with
          | zero => exact absurd HA.out (by simp [runes_escaped.j1])
          | succ kj23 =>
           have H := HA.out
           clear HA
           simp only [runes_escaped.j1] at H
           by_cases c28 : x48_23 = true
           · subst c28
             have H1 : (some (l0, 0)) = some (r1, r2) := by rw [if_pos rfl] at H; exact H
             clear H
             have H := H1
             clear H1
             simp only [Option.some.injEq, Prod.mk.injEq] at H
             obtain ⟨rfl, rfl⟩ := H
             go_wp2
             go_ret2
             exact ⟨_, by first | rfl | (simp [errW_none, errW_some] <;> rfl) | (simp [*, errW_none, errW_some] <;> rfl), by (with_reducible repeat (first | apply Kd.R_alloc | apply Kd.R_drewN | apply Kd.R_drew)); exact HO_0.out, qh HB, by repeat (first | (with_reducible first | exact HK.out | apply Kept.alloc | apply Kept.drewN | apply Kept.drew) | exact HK.out)⟩
           · replace c28 := Bool.eq_false_iff.mpr c28
             subst c28
             have H1 : (if x6_5 = 2 then (if l0.length < 140737488355328 then (some ((l0 ++ [(t233) % 256]), 3)) else (none)) else ((utf8_AppendRune.f kj23 l0 t233).bind fun t239 => (some (t239, wrap64 (1 + x6_5))))) = some (r1, r2) := by rw [if_neg (show ¬ (false = true) by decide)] at H; exact H
             clear H
             have H := H1
             clear H1
             by_cases c29 : x6_5 = 2
             · rw [if_pos c29] at H
               have c29b0 : (x6_5 == 2) = true := beq_iff_eq.mpr c29
               have c29b1 : (x6_5 != 2) = false := bne_eq_false_iff_eq.mpr c29
               try have c29b1z := c29b1
               (try simp only [bne] at c29b1z)
               clear c29
               by_cases c30 : l0.length < 140737488355328
               · rw [if_pos c30] at H
                 have LMc30 := Aside0.mk c30
                 clear c30
                 obtain ⟨y236, hy236⟩ : ∃ y_ : List Int, y_ = (l0 ++ [(t233) % 256]) := ⟨_, rfl⟩
                 replace H : (some (y236, 3)) = some (r1, r2) := by first | (rw [hy236]; with_reducible exact H) | (have H2_ := (Option.bind_some _ _).symm.trans H; rw [hy236]; with_reducible exact H2_) | (have H2_ := (Option.bind_some _ _).symm.trans H; with_reducible exact H2_) | with_reducible exact H | (rw [hy236]; exact H) | exact H
                 have Ny236 := Aside0.mk hy236
                 clear hy236
                 simp only [Option.some.injEq, Prod.mk.injEq] at H
                 obtain ⟨rfl, rfl⟩ := H
                 go_wp2_with (first | ((with_reducible refine gate_builtin (b := .append) (xs := #[.tmp 64, .tmp 67]) rfl ?_); at_builtin; refine Kd.R_append (Kd.int .u8) (w0 := w0) w0.heap.size rfl (.tmp 64) (.tmp 67) 41 5 (.int .u8 0) 1 rfl Tryd.underlying41 info5 rfl (by decide) (by omega) u9000_ l0 ((t233) % 256) [.int .u8 ((t233) % 256)] (fun k_ => (P0_ k_ ∨ w.heap.size ≤ k_)) (fun _ => False) rfl rfl ?aP (fun _ hk => hk.elim) ?aF ?aO ?aB ?aS ?aL ?_; (case aP => exact rfl); (case aB => exact (qh HB)); (case aF => exact (fun k_ hk => (.inr (Nat.le_trans (by first | exact HK.out.1 | exact (show Kept w _ (fun k_ => P0_ k_) from by repeat (first | (with_reducible first | exact HK.out | apply Kept.alloc | apply Kept.drewN | apply Kept.drew) | exact HK.out)).1) hk)))); (case aO => exact (by (with_reducible repeat (first | apply Kd.R_alloc | apply Kd.R_drewN | apply Kd.R_drew)); exact HO_0.out)); (case aS => exact (below_size (qh HB))); (case aL => have := LMc30.out; omega); intro v237 w31 ho hb hg hat; rw [← Ny236.out] at ho; have n0_ := Aside0.mk (hb); have n1_ := Aside0.mk (Kept.of_grown (S := (fun k_ => P0_ k_)) hg (by repeat (first | (with_reducible first | exact HK.out | apply Kept.alloc | apply Kept.drewN | apply Kept.drew) | exact HK.out)) (fun k_ e_ => (HO_0.out.1 k_ e_))); have n2_ := Aside0.mk (ho); clear HB; clear HK; clear HO_0; have HB := n0_; have HK := n1_; have HO238 := n2_; clear n0_ n1_ n2_; clear ho hb hg hat))
                 go_ret2
                 exact ⟨_, by first | rfl | (simp [errW_none, errW_some] <;> rfl) | (simp [*, errW_none, errW_some] <;> rfl), by (with_reducible repeat (first | apply Kd.R_alloc | apply Kd.R_drewN | apply Kd.R_drew)); exact HO238.out, qh HB, by repeat (first | (with_reducible first | exact HK.out | apply Kept.alloc | apply Kept.drewN | apply Kept.drew) | exact HK.out)⟩
               · rw [if_neg c30] at H
                 exact absurd H (by simp)
             · rw [if_neg c29] at H
               have c29b0 : (x6_5 == 2) = false := beq_eq_false_iff_ne.mpr c29
               have c29b1 : (x6_5 != 2) = true := bne_iff_ne.mpr c29
               try have c29b1z := c29b1
               (try simp only [bne] at c29b1z)
               replace H := Option.bind_eq_some_iff.mp H
               obtain ⟨t239, A320, H⟩ := H
               replace H : (some (t239, wrap64 (1 + x6_5))) = some (r1, r2) := H
               have A32 := Aside0.mk A320
               clear A320
               simp only [Option.some.injEq, Prod.mk.injEq] at H
               obtain ⟨rfl, rfl⟩ := H
               obtain ⟨Ao33, co33, eo33⟩ := Kd.R_slice HO_0.out
               subst eo33
               go_wp2_with (first | ((with_reducible refine gate_callee (f := 51) rfl ?_); refine goesL_ (some 71) rfl rfl Tryd.func51 (by kernel_rfl) rfl #[.slice Ao33 l0.length co33, .int .i32 t233] rfl ql ?_; (with_reducible refine (utf8_AppendRune.calls kj23 (fun k_ => some k_ = (.slice Ao33 l0.length co33 : Value).ownBlock) (.slice Ao33 l0.length co33) l0 t233 t239 w0 _ ?side1 ?side2 A32.out).mono ?_); (case side1 => repeat (first | (with_reducible first | exact HB.out | apply below_alloc | apply pw_below_drewN | apply below_drew1) | exact HB.out)); (case side2 => exact Kd.R_tight rfl HO_0.out); rintro e w34 ⟨v240, rfl, ho0, hb, hkp⟩; refine ⟨_, rfl, ?_⟩; have n0_ := Aside0.mk (Kd.R_mono (ok' := fun k_ => (P0_ k_ ∨ w.heap.size ≤ k_)) ho0 (fun k_ hk_ => Or.elim hk_ (fun hs_ => (HO_0.out.1 k_ (hs_).symm)) (fun hn_ => (.inr (Nat.le_trans (by first | exact HK.out.1 | exact (show Kept w _ (fun k_ => P0_ k_) from by repeat (first | (with_reducible first | exact HK.out | apply Kept.alloc | apply Kept.drewN | apply Kept.drew) | exact HK.out)).1) hn_))))); have n1_ := Aside0.mk (Kept.then_ (S := (fun k_ => P0_ k_)) (by repeat (first | (with_reducible first | exact HK.out | apply Kept.alloc | apply Kept.drewN | apply Kept.drew) | exact HK.out)) hkp (fun k_ hs_ => (fun e_ => (HO_0.out.1 k_ e_.symm)) hs_)); have n2_ := Aside0.mk (hb); clear HK; clear HB; clear HO_0; have HO241 := n0_; have HK := n1_; have HB := n2_; clear n0_ n1_ n2_; (try clear hb); (try clear hkp); (try clear ho0)))
               go_ret2
               exact ⟨_, by first | rfl | (simp [errW_none, errW_some] <;> rfl) | (simp [*, errW_none, errW_some] <;> rfl), by (with_reducible repeat (first | apply Kd.R_alloc | apply Kd.R_drewN | apply Kd.R_drew)); exact HO241.out, qh HB, by repeat (first | (with_reducible first | exact HK.out | apply Kept.alloc | apply Kept.drewN | apply Kept.drew) | exact HK.out)⟩
       · rw [if_neg c22] at H
         exact absurd H (by simp)
   · rw [if_neg c4] at H
     exact absurd H (by simp)

end Go.Proofs.YtigikjihagmokaaDoor.F
namespace Go.Proofs.YtigikjihagmokaaDoor.F
open Go.RowKit Go.Proofs.YtigikjihagmokaaDoorW.PrintWords Go.Proofs.YtigikjihagmokaaDoorW.PrintLast Go.Proofs.YtigikjihagmokaaDoorW.PrintMore Go.Proofs.YtigikjihagmokaaDoor.Q
attribute [local go_sem] max2_int min2_int max_two min_two max_three min_three max_four min_four   -- for this text's walks alone
set_option linter.unusedVariables false
set_option linter.unusedSimpArgs false

def runes_Unescape.l0 : Nat → ByteArray → List Int → Int → Option (ByteArray × Int × Int)
 | 0, _, _, _ => none
 | k + 1, x0, x5, x6 => if x6 < (x0.size : Int) then (if 0 ≤ x6 then (if (bt x0 x6) = 92 then (if 0 ≤ (wrap64 (x6 + 1)) then (if (wrap64 (x6 + 1)) ≤ (x0.size : Int) then ((runes_escaped.f k x5 (x0.extract ((wrap64 (x6 + 1)) : Int).toNat x0.size)).bind fun bt242 => (if bt242.2 = 0 then (some ((⟨#[]⟩ : ByteArray), x6, 10)) else (runes_Unescape.l0 k x0 bt242.1 (wrap64 ((wrap64 (x6 + bt242.2)) + 1))))) else (none)) else (none)) else (if x5.length < 140737488355328 then (runes_Unescape.l0 k x0 (x5 ++ [bt x0 x6]) (wrap64 (x6 + 1))) else (none))) else (none)) else (some (strOfNums x5, 0, 0))
def runes_Unescape.f (k : Nat) (a0 : ByteArray) : Option (ByteArray × Int × Int) := if (a0.size : Int) > 1048576 then (some ((⟨#[]⟩ : ByteArray), 0, 2)) else (runes_Unescape.l0 k a0 ([] : List Int) 0)
theorem runes_Unescape.mono_l : ∀ k, (∀ y0 y1 y2, LeO (runes_Unescape.l0 k y0 y1 y2) (runes_Unescape.l0 (k + 1) y0 y1 y2))
 | 0 => fun _ _ _ r h => by simp [runes_Unescape.l0] at h
 | k + 1 => by
  have ih0 := runes_Unescape.mono_l k
  · intro y0 y1 y2
    unfold runes_Unescape.l0
    repeat' first
    | (with_reducible exact ih0 _ _ _)
    | (with_reducible exact runes_escaped.mono _ _ _)
    | (with_reducible exact LeO.refl _)
    | (with_reducible exact LeO.none _)
    | (with_reducible refine LeO.ite ?_ ?_)
    | (with_reducible refine LeO.bind ?_ (fun _ => ?_))
    | exact ih0 _ _ _
    | exact runes_escaped.mono _ _ _
    | exact LeO.none _
    | refine LeO.ite ?_ ?_
    | refine LeO.bind ?_ (fun _ => ?_)
theorem runes_Unescape.mono : ∀ a0 k, LeO (runes_Unescape.f k a0) (runes_Unescape.f (k + 1) a0) := by
 intro a0 k
 have ih0 := runes_Unescape.mono_l k
 unfold runes_Unescape.f
 repeat' first
  | (with_reducible exact ih0 _ _ _)
  | (with_reducible exact runes_escaped.mono _ _ _)
  | (with_reducible exact LeO.refl _)
  | (with_reducible exact LeO.none _)
  | (with_reducible refine LeO.ite ?_ ?_)
  | (with_reducible refine LeO.bind ?_ (fun _ => ?_))
  | exact ih0 _ _ _
  | exact runes_escaped.mono _ _ _
  | exact LeO.none _
  | refine LeO.ite ?_ ?_
  | refine LeO.bind ?_ (fun _ => ?_)
set_option maxHeartbeats 8000000 in
set_option maxRecDepth 100000 in
theorem runes_Unescape.calls (k : Nat) (a0 : ByteArray) (r1 : ByteArray) (r2 : Int) (r3 : Int) (w : World) (h : runes_Unescape.f k a0 = some (r1, r2, r3)) :
 Calls Tryd.prog 29 #[.string a0] w fun e w' => e = .returned (.tuple #[.string r1, .int .i64 r2, .int .i64 r3]) ∧ Below w.heap.size w w' := by
 have HB := Aside0.mk (Below.refl w.heap.size w)
 have H : (if (a0.size : Int) > 1048576 then (some ((⟨#[]⟩ : ByteArray), 0, 2)) else (runes_Unescape.l0 k a0 ([] : List Int) 0)) = some (r1, r2, r3) := h
 clear h
 by_cases c2 : (a0.size : Int) > 1048576
 · rw [if_pos c2] at H
   have c2b0 : decide (1048576 < (a0.size : Int)) = true := decide_eq_true c2
   have c2b1 : decide (1048576 < a0.size) = true := decide_eq_true (by omega)
   clear c2
   simp only [Option.some.injEq, Prod.mk.injEq] at H
   obtain ⟨rfl, rfl, rfl⟩ := H
   go_enter Tryd.func29, Tryd.ntmps29
   go_wp2
   go_ret3
   exact ⟨qe, qh HB⟩
 · rw [if_neg c2] at H
   have c2b0 : decide (1048576 < (a0.size : Int)) = false := decide_eq_false c2
   have c2b1 : decide (1048576 < a0.size) = false := decide_eq_false (by omega)
   clear c2
   have H' := Aside0.mk H
   clear H
   go_enter Tryd.func29, Tryd.ntmps29
   go_wp2
   (try simp only [Act.put, List.setIfInBounds_toArray, List.set_cons_zero, List.set_cons_succ])
   go_loopg [5, 6] k (fun kq v5 v6 w' => ∃ (x5_1 : List Int) (x6_1 : Int), v6 = .int .i64 x6_1 ∧ Aside0 (runes_Unescape.l0 kq a0 x5_1 x6_1 = some (r1, r2, r3)) ∧ Aside0 (kq ≤ k) ∧ Aside0 (Kd.R (Kd.int .u8) 5 w' w.heap.size (fun _ => True) v5 x5_1) ∧ Aside0 (Below w.heap.size w w'))
   case atStart => exact ⟨(([] : List Int)), (0), (by first | rfl | (simp; done) | (simp [*]; done)), H', ⟨Nat.le_refl _⟩, ⟨by first | exact Kd.R_nil _ _ _ _ _ | exact Kd.N_nil _ _ _ _ _ | exact Kd.V_nil _ _ _ _ _ | exact Kd.Q_nil _ _ _ _ _ | exact Kd.S_nil _ _ _ _ _⟩, ⟨qh HB⟩⟩
   case round =>
    clear H'
    try clear c2
    try clear c2b0
    try clear c2b1
    try clear p2
    obtain ⟨x5_1, x6_1, rfl, HA, HK1, HO_5, HB⟩ := hrel
    cases gk with
    | zero => exact absurd HA.out (by simp [runes_Unescape.l0])
    | succ k1 =>
     have H := HA.out
     clear HA
     simp only [runes_Unescape.l0] at H
     by_cases c3 : x6_1 < (a0.size : Int)
     · rw [if_pos c3] at H
       have c3b0 : decide (x6_1 < (a0.size : Int)) = true := decide_eq_true c3
       clear c3
       by_cases c4 : 0 ≤ x6_1
       · rw [if_pos c4] at H
         have c4b0 : decide (0 ≤ x6_1) = true := decide_eq_true c4
         clear c4
         by_cases c6 : (bt a0 x6_1) = 92
         · rw [if_pos c6] at H
           have c6b0 : ((bt a0 x6_1) == 92) = true := beq_iff_eq.mpr c6
           have c6b1 : ((bt a0 x6_1) != 92) = false := bne_eq_false_iff_eq.mpr c6
           clear c6
           obtain ⟨ji7, hji7⟩ : ∃ j_ : Int, (wrap64 (x6_1 + 1)) = j_ := ⟨_, rfl⟩
           replace H : (if 0 ≤ (ji7) then (if (ji7) ≤ (a0.size : Int) then ((runes_escaped.f k1 x5_1 (a0.extract ((ji7) : Int).toNat a0.size)).bind fun bt242 => (if bt242.2 = 0 then (some ((⟨#[]⟩ : ByteArray), x6_1, 10)) else (runes_Unescape.l0 k1 a0 bt242.1 (wrap64 ((wrap64 (x6_1 + bt242.2)) + 1))))) else (none)) else (none)) = some (r1, r2, r3) := by first | (rw [hji7] at H; exact H) | (simp only [hji7] at H ⊢; exact H)
           have hji7w : (IntKind.i64.wrap (x6_1 + 1)) = ji7 := (i64_w _).trans hji7
           by_cases c8 : 0 ≤ (ji7)
           · rw [if_pos c8] at H
             have c8b0 := eq_true c8
             have c8b1 : decide (0 ≤ (ji7)) = true := decide_eq_true c8
             clear c8
             by_cases c9 : (ji7) ≤ (a0.size : Int)
             · rw [if_pos c9] at H
               have c9b0 := eq_true c9
               have c9b1 : decide ((ji7) ≤ (a0.size : Int)) = true := decide_eq_true c9
               clear c9
               replace H := Option.bind_eq_some_iff.mp H
               obtain ⟨⟨t242, t245⟩, A100, H⟩ := H
               replace H : (if t245 = 0 then (some ((⟨#[]⟩ : ByteArray), x6_1, 10)) else (runes_Unescape.l0 k1 a0 t242 (wrap64 ((wrap64 (x6_1 + t245)) + 1)))) = some (r1, r2, r3) := H
               have A10 := Aside0.mk A100
               clear A100
               by_cases c11 : t245 = 0
               · rw [if_pos c11] at H
                 have c11b0 : (t245 == 0) = true := beq_iff_eq.mpr c11
                 have c11b1 : (t245 != 0) = false := bne_eq_false_iff_eq.mpr c11
                 try have c11b1z := c11b1
                 (try simp only [bne] at c11b1z)
                 clear c11
                 simp only [Option.some.injEq, Prod.mk.injEq] at H
                 obtain ⟨rfl, rfl, rfl⟩ := H
                 have p5 : 0 ≤ (x6_1 : Int) := of_decide_eq_true qa
                 have q5 : x6_1 < (a0.size : Int) := of_decide_eq_true qa
                 have hx5 := bt_at a0 x6_1
                 replace p5 := eq_true p5
                 replace q5 := eq_true q5
                 obtain ⟨Ao12, co12, eo12⟩ := Kd.R_slice HO_5.out
                 subst eo12
                 go_wp2_with (first | ((with_reducible refine gate_callee (f := 45) rfl ?_); refine goesL_ (some 33) rfl rfl Tryd.func45 (by kernel_rfl) rfl #[.slice Ao12 x5_1.length co12, .string (a0.extract ((ji7) : Int).toNat a0.size)] rfl (by (try simp only [List.map_toArray, List.map_cons, List.map_nil]); first | done | (simp only [hji7]; rfl) | rfl | (simp only [List.length_drop, List.length_take]; rfl)) ?_; (with_reducible refine (runes_escaped.calls k1 (fun k_ => some k_ = (.slice Ao12 x5_1.length co12 : Value).ownBlock) (.slice Ao12 x5_1.length co12) x5_1 (a0.extract ((ji7) : Int).toNat a0.size) t242 t245 w _ ?side1 ?side2 A10.out).mono ?_); (case side1 => repeat (first | (with_reducible first | exact HB.out | apply below_alloc | apply pw_below_drewN | apply below_drew1) | exact HB.out)); (case side2 => exact Kd.R_tight rfl HO_5.out); rintro e w13 ⟨v243, rfl, ho0, hb, hkp⟩; refine ⟨_, rfl, ?_⟩; have n0_ := Aside0.mk (Kd.R_mono (ok' := fun k_ => True) ho0 (fun k_ hk_ => trivial)); have n1_ := Aside0.mk (hb); clear HB; clear HO_5; have HO244 := n0_; have HB := n1_; clear n0_ n1_; (try clear hb); (try clear hkp); (try clear ho0)))
                 go_ret3
                 exact ⟨by first | rfl | (exact congrArg (fun b => Ending.returned (.bool b)) (Aid.bne_nil _)) | (exact congrArg (fun b => Ending.returned (.bool b)) (Aid.eq_nil _)) | (simp [errW_none, errW_some] <;> rfl) | (simp only [← hji7]; first | rfl | (simp [errW_none, errW_some] <;> rfl)) | (simp [*, errW_none, errW_some] <;> rfl), qh HB⟩
               · rw [if_neg c11] at H
                 have c11b0 : (t245 == 0) = false := beq_eq_false_iff_ne.mpr c11
                 have c11b1 : (t245 != 0) = true := bne_iff_ne.mpr c11
                 try have c11b1z := c11b1
                 (try simp only [bne] at c11b1z)
                 have H' := Aside0.mk H
                 clear H
                 have p5 : 0 ≤ (x6_1 : Int) := of_decide_eq_true qa
                 have q5 : x6_1 < (a0.size : Int) := of_decide_eq_true qa
                 have hx5 := bt_at a0 x6_1
                 replace p5 := eq_true p5
                 replace q5 := eq_true q5
                 obtain ⟨Ao14, co14, eo14⟩ := Kd.R_slice HO_5.out
                 subst eo14
                 go_wp2_with (first | ((with_reducible refine gate_callee (f := 45) rfl ?_); refine goesL_ (some 33) rfl rfl Tryd.func45 (by kernel_rfl) rfl #[.slice Ao14 x5_1.length co14, .string (a0.extract ((ji7) : Int).toNat a0.size)] rfl (by (try simp only [List.map_toArray, List.map_cons, List.map_nil]); first | done | (simp only [hji7]; rfl) | rfl | (simp only [List.length_drop, List.length_take]; rfl)) ?_; (with_reducible refine (runes_escaped.calls k1 (fun k_ => some k_ = (.slice Ao14 x5_1.length co14 : Value).ownBlock) (.slice Ao14 x5_1.length co14) x5_1 (a0.extract ((ji7) : Int).toNat a0.size) t242 t245 w _ ?side1 ?side2 A10.out).mono ?_); (case side1 => repeat (first | (with_reducible first | exact HB.out | apply below_alloc | apply pw_below_drewN | apply below_drew1) | exact HB.out)); (case side2 => exact Kd.R_tight rfl HO_5.out); rintro e w15 ⟨v243, rfl, ho0, hb, hkp⟩; refine ⟨_, rfl, ?_⟩; have n0_ := Aside0.mk (Kd.R_mono (ok' := fun k_ => True) ho0 (fun k_ hk_ => trivial)); have n1_ := Aside0.mk (hb); clear HB; clear HO_5; have HO244 := n0_; have HB := n1_; clear n0_ n1_; (try clear hb); (try clear hkp); (try clear ho0)))
                 go_roundg k1
                 case measure => have := HK1.out; omega
                 case rel => exact ⟨(t242), (wrap64 ((wrap64 (x6_1 + t245)) + 1)), (by first | rfl | (simp; done) | (simp [*]; done)), H', ⟨by have := HK1.out; omega⟩, ⟨by (with_reducible repeat (first | apply Kd.R_alloc | apply Kd.R_drewN | apply Kd.R_drew)); exact HO244.out⟩, ⟨qh HB⟩⟩
             · rw [if_neg c9] at H
               exact absurd H (by simp)
           · rw [if_neg c8] at H
             exact absurd H (by simp)
         · rw [if_neg c6] at H
           have c6b0 : ((bt a0 x6_1) == 92) = false := beq_eq_false_iff_ne.mpr c6
           have c6b1 : ((bt a0 x6_1) != 92) = true := bne_iff_ne.mpr c6
           by_cases c17 : x5_1.length < 140737488355328
           · rw [if_pos c17] at H
             have LMc17 := Aside0.mk c17
             clear c17
             obtain ⟨y246, hy246⟩ : ∃ y_ : List Int, y_ = (x5_1 ++ [bt a0 x6_1]) := ⟨_, rfl⟩
             replace H : (runes_Unescape.l0 k1 a0 y246 (wrap64 (x6_1 + 1))) = some (r1, r2, r3) := by first | (rw [hy246]; with_reducible exact H) | (have H2_ := (Option.bind_some _ _).symm.trans H; rw [hy246]; with_reducible exact H2_) | (have H2_ := (Option.bind_some _ _).symm.trans H; with_reducible exact H2_) | with_reducible exact H | (rw [hy246]; exact H) | exact H
             have Ny246 := Aside0.mk hy246
             clear hy246
             have H' := Aside0.mk H
             clear H
             have p5 : 0 ≤ (x6_1 : Int) := of_decide_eq_true qa
             have q5 : x6_1 < (a0.size : Int) := of_decide_eq_true qa
             have hx5 := bt_at a0 x6_1
             replace p5 := eq_true p5
             replace q5 := eq_true q5
             have p16 : 0 ≤ (x6_1 : Int) := of_decide_eq_true qa
             have q16 : x6_1 < (a0.size : Int) := of_decide_eq_true qa
             have hx16 := bt_at a0 x6_1
             replace p16 := eq_true p16
             replace q16 := eq_true q16
             go_wp2_with (first | ((with_reducible refine gate_builtin (b := .append) (xs := #[.tmp 21, .tmp 25]) rfl ?_); at_builtin; refine Kd.R_append (Kd.int .u8) (w0 := w) w.heap.size rfl (.tmp 21) (.tmp 25) 41 5 (.int .u8 0) 1 rfl Tryd.underlying41 info5 rfl (by decide) (by omega) u5 x5_1 (bt a0 x6_1) [.int .u8 (bt a0 x6_1)] (fun _ => True) (fun _ => False) rfl rfl ?aP (fun _ hk => hk.elim) ?aF ?aO ?aB ?aS ?aL ?_; (case aP => exact rfl); (case aB => exact (qh HB)); (case aF => exact (fun _ _ => trivial)); (case aO => exact (by (with_reducible repeat (first | apply Kd.R_alloc | apply Kd.R_drewN | apply Kd.R_drew)); exact HO_5.out)); (case aS => exact (below_size (qh HB))); (case aL => have := LMc17.out; omega); intro v247 w18 ho hb hg hat; rw [← Ny246.out] at ho; have n0_ := Aside0.mk (hb); have n1_ := Aside0.mk (ho); clear HB; clear HO_5; have HB := n0_; have HO248 := n1_; clear n0_ n1_; clear ho hb hg hat))
             go_roundg k1
             case measure => have := HK1.out; omega
             case rel => exact ⟨(y246), (wrap64 (x6_1 + 1)), (by first | rfl | (simp; done) | (simp [*]; done)), H', ⟨by have := HK1.out; omega⟩, ⟨by (with_reducible repeat (first | apply Kd.R_alloc | apply Kd.R_drewN | apply Kd.R_drew)); exact HO248.out⟩, ⟨qh HB⟩⟩
           · rw [if_neg c17] at H
             exact absurd H (by simp)
       · rw [if_neg c4] at H
         exact absurd H (by simp)
     · rw [if_neg c3] at H
       have c3b0 : decide (x6_1 < (a0.size : Int)) = false := decide_eq_false c3
       clear c3
       simp only [Option.some.injEq, Prod.mk.injEq] at H
       obtain ⟨rfl, rfl, rfl⟩ := H
       have hcv19 := own_string (P := Tryd.prog) Tryd.underlying41 Tryd.underlying5 Tryd.underlying9 (Kd.own_of_R HO_5.out)
       go_wp2
       go_ret3
       exact ⟨qe, qh HB⟩

end Go.Proofs.YtigikjihagmokaaDoor.F
namespace Go.Proofs.YtigikjihagmokaaDoor.F
open Go.RowKit Go.Proofs.YtigikjihagmokaaDoorW.PrintWords Go.Proofs.YtigikjihagmokaaDoorW.PrintLast Go.Proofs.YtigikjihagmokaaDoorW.PrintMore Go.Proofs.YtigikjihagmokaaDoor.Q
attribute [local go_sem] max2_int min2_int max_two min_two max_three min_three max_four min_four   -- for this text's walks alone
set_option linter.unusedVariables false
set_option linter.unusedSimpArgs false

mutual
def idiomref01_unhex.l0 : Nat → ByteArray → Int → Int → Int → Int → Option (Int)
 | 0, _, _, _, _, _ => none
 | k + 1, x0, x1, x2, x7, x8 => if x8 < x2 then (if 0 ≤ (wrap64 (x1 + x8)) then (if (wrap64 (x1 + x8)) < (x0.size : Int) then (if (wrap64 (bt x0 (wrap64 (x1 + x8)))) ≥ 48 then (idiomref01_unhex.j1 k x0 x1 x2 x7 x8 (wrap64 (bt x0 (wrap64 (x1 + x8)))) (decide ((wrap64 (bt x0 (wrap64 (x1 + x8)))) ≤ 57))) else (idiomref01_unhex.j1 k x0 x1 x2 x7 x8 (wrap64 (bt x0 (wrap64 (x1 + x8)))) false)) else (none)) else (none)) else (some x7)
def idiomref01_unhex.j1 : Nat → ByteArray → Int → Int → Int → Int → Int → Bool → Option (Int)
 | 0, _, _, _, _, _, _, _ => none
 | k + 1, x0, x1, x2, x7, x8, x9, x27 => if x27 = true then (idiomref01_unhex.l0 k x0 x1 x2 (wrap64 ((wrap64 ((wrap64 (x7 * 16)) + x9)) - 48)) (wrap64 (x8 + 1))) else (if x9 ≥ 97 then (idiomref01_unhex.j2 k x0 x1 x2 x7 x8 x9 (decide (x9 ≤ 102))) else (idiomref01_unhex.j2 k x0 x1 x2 x7 x8 x9 false))
def idiomref01_unhex.j2 : Nat → ByteArray → Int → Int → Int → Int → Int → Bool → Option (Int)
 | 0, _, _, _, _, _, _, _ => none
 | k + 1, x0, x1, x2, x7, x8, x9, x39 => if x39 = true then (idiomref01_unhex.l0 k x0 x1 x2 (wrap64 ((wrap64 ((wrap64 ((wrap64 (x7 * 16)) + x9)) - 97)) + 10)) (wrap64 (x8 + 1))) else (if x9 ≥ 65 then (if x9 ≤ 70 then (idiomref01_unhex.l0 k x0 x1 x2 (wrap64 ((wrap64 ((wrap64 ((wrap64 (x7 * 16)) + x9)) - 65)) + 10)) (wrap64 (x8 + 1))) else (some (-1))) else (some (-1)))
end
def idiomref01_unhex.f (k : Nat) (a0 : ByteArray) (a1 : Int) (a2 : Int) : Option (Int) := if (wrap64 ((a0.size : Int) - a1)) < a2 then (some (-1)) else (idiomref01_unhex.l0 k a0 a1 a2 0 0)
theorem idiomref01_unhex.mono_l : ∀ k, (∀ y0 y1 y2 y3 y4, LeO (idiomref01_unhex.l0 k y0 y1 y2 y3 y4) (idiomref01_unhex.l0 (k + 1) y0 y1 y2 y3 y4)) ∧ (∀ y0 y1 y2 y3 y4 y5 y6, LeO (idiomref01_unhex.j1 k y0 y1 y2 y3 y4 y5 y6) (idiomref01_unhex.j1 (k + 1) y0 y1 y2 y3 y4 y5 y6)) ∧ (∀ y0 y1 y2 y3 y4 y5 y6, LeO (idiomref01_unhex.j2 k y0 y1 y2 y3 y4 y5 y6) (idiomref01_unhex.j2 (k + 1) y0 y1 y2 y3 y4 y5 y6))
 | 0 => ⟨fun _ _ _ _ _ r h => by simp [idiomref01_unhex.l0] at h, fun _ _ _ _ _ _ _ r h => by simp [idiomref01_unhex.j1] at h, fun _ _ _ _ _ _ _ r h => by simp [idiomref01_unhex.j2] at h⟩
 | k + 1 => by
  obtain ⟨ih0, ih1, ih2⟩ := idiomref01_unhex.mono_l k
  refine ⟨?_, ?_, ?_⟩
  · intro y0 y1 y2 y3 y4
    unfold idiomref01_unhex.l0
    repeat' first
    | (with_reducible exact ih0 _ _ _ _ _)
    | (with_reducible exact ih1 _ _ _ _ _ _ _)
    | (with_reducible exact ih2 _ _ _ _ _ _ _)
    | (with_reducible exact LeO.refl _)
    | (with_reducible exact LeO.none _)
    | (with_reducible refine LeO.ite ?_ ?_)
    | (with_reducible refine LeO.bind ?_ (fun _ => ?_))
    | exact ih0 _ _ _ _ _
    | exact ih1 _ _ _ _ _ _ _
    | exact ih2 _ _ _ _ _ _ _
    | exact LeO.none _
    | refine LeO.ite ?_ ?_
    | refine LeO.bind ?_ (fun _ => ?_)
  · intro y0 y1 y2 y3 y4 y5 y6
    unfold idiomref01_unhex.j1
    repeat' first
    | (with_reducible exact ih0 _ _ _ _ _)
    | (with_reducible exact ih1 _ _ _ _ _ _ _)
    | (with_reducible exact ih2 _ _ _ _ _ _ _)
    | (with_reducible exact LeO.refl _)
    | (with_reducible exact LeO.none _)
    | (with_reducible refine LeO.ite ?_ ?_)
    | (with_reducible refine LeO.bind ?_ (fun _ => ?_))
    | exact ih0 _ _ _ _ _
    | exact ih1 _ _ _ _ _ _ _
    | exact ih2 _ _ _ _ _ _ _
    | exact LeO.none _
    | refine LeO.ite ?_ ?_
    | refine LeO.bind ?_ (fun _ => ?_)
  · intro y0 y1 y2 y3 y4 y5 y6
    unfold idiomref01_unhex.j2
    repeat' first
    | (with_reducible exact ih0 _ _ _ _ _)
    | (with_reducible exact ih1 _ _ _ _ _ _ _)
    | (with_reducible exact ih2 _ _ _ _ _ _ _)
    | (with_reducible exact LeO.refl _)
    | (with_reducible exact LeO.none _)
    | (with_reducible refine LeO.ite ?_ ?_)
    | (with_reducible refine LeO.bind ?_ (fun _ => ?_))
    | exact ih0 _ _ _ _ _
    | exact ih1 _ _ _ _ _ _ _
    | exact ih2 _ _ _ _ _ _ _
    | exact LeO.none _
    | refine LeO.ite ?_ ?_
    | refine LeO.bind ?_ (fun _ => ?_)
theorem idiomref01_unhex.mono : ∀ a0 a1 a2 k, LeO (idiomref01_unhex.f k a0 a1 a2) (idiomref01_unhex.f (k + 1) a0 a1 a2) := by
 intro a0 a1 a2 k
 obtain ⟨ih0, ih1, ih2⟩ := idiomref01_unhex.mono_l k
 unfold idiomref01_unhex.f
 repeat' first
  | (with_reducible exact ih0 _ _ _ _ _)
  | (with_reducible exact ih1 _ _ _ _ _ _ _)
  | (with_reducible exact ih2 _ _ _ _ _ _ _)
  | (with_reducible exact LeO.refl _)
  | (with_reducible exact LeO.none _)
  | (with_reducible refine LeO.ite ?_ ?_)
  | (with_reducible refine LeO.bind ?_ (fun _ => ?_))
  | exact ih0 _ _ _ _ _
  | exact ih1 _ _ _ _ _ _ _
  | exact ih2 _ _ _ _ _ _ _
  | exact LeO.none _
  | refine LeO.ite ?_ ?_
  | refine LeO.bind ?_ (fun _ => ?_)
set_option maxHeartbeats 8000000 in
set_option maxRecDepth 100000 in
theorem idiomref01_unhex.calls (k : Nat) (a0 : ByteArray) (a1 : Int) (a2 : Int) (r : Int) (w : World) (h : idiomref01_unhex.f k a0 a1 a2 = some r) :
 Calls Tryd.prog 54 #[.string a0, .int .i64 a1, .int .i64 a2] w fun e w' => e = .returned (.int .i64 r) ∧ Drawn0 w w' := by
 have H : (if (wrap64 ((a0.size : Int) - a1)) < a2 then (some (-1)) else (idiomref01_unhex.l0 k a0 a1 a2 0 0)) = some r := h
 clear h
 by_cases c4 : (wrap64 ((a0.size : Int) - a1)) < a2
 · rw [if_pos c4] at H
   have c4b0 : decide ((wrap64 ((a0.size : Int) - a1)) < a2) = true := decide_eq_true c4
   clear c4
   obtain rfl := Option.some.inj H
   go_enter Tryd.func54, Tryd.ntmps54
   go_wp2
   go_ret
   exact ⟨by first | rfl | (simp; done) | (simp [*]; done), by repeat (first | exact Drawn0.refl _ | apply Drawn0.step)⟩
 · rw [if_neg c4] at H
   have c4b0 : decide ((wrap64 ((a0.size : Int) - a1)) < a2) = false := decide_eq_false c4
   clear c4
   have H' := Aside0.mk H
   clear H
   go_enter Tryd.func54, Tryd.ntmps54
   go_wp2
   (try simp only [Act.put, List.setIfInBounds_toArray, List.set_cons_zero, List.set_cons_succ])
   go_loopg [7, 8] k (fun kq v7 v8 w' => ∃ (x7_1 : Int) (x8_1 : Int), v7 = .int .i64 x7_1 ∧ v8 = .int .i64 x8_1 ∧ Aside0 (idiomref01_unhex.l0 kq a0 a1 a2 x7_1 x8_1 = some r) ∧ Aside0 (kq ≤ k) ∧ Drawn0 w w')
   case atStart => exact ⟨(0), (0), (by first | rfl | (simp; done) | (simp [*]; done)), (by first | rfl | (simp; done) | (simp [*]; done)), H', ⟨Nat.le_refl _⟩, by repeat (first | exact Drawn0.refl _ | apply Drawn0.step)⟩
   case round =>
    clear H'
    try clear p2
    try clear c4
    try clear c4b0
    obtain ⟨x7_1, x8_1, rfl, rfl, HA, HK1, ⟨m1, rfl⟩⟩ := hrel
    cases gk with
    | zero => exact absurd HA.out (by simp [idiomref01_unhex.l0])
    | succ k1 =>
     have H := HA.out
     clear HA
     simp only [idiomref01_unhex.l0] at H
     by_cases c5 : x8_1 < a2
     · rw [if_pos c5] at H
       have c5b0 : decide (x8_1 < a2) = true := decide_eq_true c5
       clear c5
       obtain ⟨ji6, hji6⟩ : ∃ j_ : Int, (wrap64 (a1 + x8_1)) = j_ := ⟨_, rfl⟩
       replace H : (if 0 ≤ (ji6) then (if (ji6) < (a0.size : Int) then (if (wrap64 (bt a0 (ji6))) ≥ 48 then (idiomref01_unhex.j1 k1 a0 a1 a2 x7_1 x8_1 (wrap64 (bt a0 (ji6))) (decide ((wrap64 (bt a0 (ji6))) ≤ 57))) else (idiomref01_unhex.j1 k1 a0 a1 a2 x7_1 x8_1 (wrap64 (bt a0 (ji6))) false)) else (none)) else (none)) = some r := by first | (rw [hji6] at H; exact H) | (simp only [hji6] at H ⊢; exact H)
       have hji6w : (IntKind.i64.wrap (a1 + x8_1)) = ji6 := (i64_w _).trans hji6
       by_cases c7 : 0 ≤ (ji6)
       · rw [if_pos c7] at H
         have c7b0 : decide (0 ≤ (ji6)) = true := decide_eq_true c7
         clear c7
         by_cases c8 : (ji6) < (a0.size : Int)
         · rw [if_pos c8] at H
           have c8b0 : decide ((ji6) < (a0.size : Int)) = true := decide_eq_true c8
           clear c8
           have HC10 := Aside0.mk H
           clear H
           have p9 : 0 ≤ ((ji6) : Int) := of_decide_eq_true qa
           have q9 : (ji6) < (a0.size : Int) := of_decide_eq_true qa
           have hx9 := bt_at a0 (ji6)
           replace p9 := eq_true p9
           replace q9 := eq_true q9
           go_upto_region 9 with (fail)
           go_cut [27] (fun v27 wc => ∃ (kq : Nat) (x27_9 : Bool), v27 = .bool x27_9 ∧ Aside0 (idiomref01_unhex.j1 kq a0 a1 a2 x7_1 x8_1 (wrap64 (bt a0 (ji6))) x27_9 = some r) ∧ Aside0 (kq ≤ k1) ∧ Drawn0 w wc)
           case first =>
            have H := HC10.out
            clear HC10
            by_cases c11 : (wrap64 (bt a0 (ji6))) ≥ 48
            · rw [if_pos c11] at H
              have c11b0 : decide (48 ≤ (wrap64 (bt a0 (ji6)))) = true := decide_eq_true c11
              clear c11
              (first | rw [c11b0] | (simp only [i64_w, i32_w]; rw [c11b0]) | skip)
              have H' := Aside0.mk H
              clear H
              go_wp2
              go_meet
              case rel => exact ⟨_, (decide ((wrap64 (bt a0 (ji6))) ≤ 57)), (by first | rfl | (simp; done) | (simp only [← hji6] <;> (first | rfl | simp)) | (simp [*]; done)), H', ⟨by have := HK1.out; first | omega | exact Nat.le_refl _⟩, by repeat (first | exact Drawn0.refl _ | apply Drawn0.step)⟩
            · rw [if_neg c11] at H
              have c11b0 : decide (48 ≤ (wrap64 (bt a0 (ji6)))) = false := decide_eq_false c11
              clear c11
              (first | rw [c11b0] | (simp only [i64_w, i32_w]; rw [c11b0]) | skip)
              have H' := Aside0.mk H
              clear H
              go_wp2
              go_meet
              case rel => exact ⟨_, (false), (by first | rfl | (simp; done) | (simp [*]; done)), H', ⟨by have := HK1.out; first | omega | exact Nat.le_refl _⟩, by repeat (first | exact Drawn0.refl _ | apply Drawn0.step)⟩
           case rest =>
            clear HC10
            try clear c1
            try clear p2
            try clear c4
            try clear c4b0
            try clear c5
            try clear c5b0
            try clear p6
            try clear c7
            try clear c7b0
            try clear c8
            try clear c8b0
            try clear p9
            try clear q9
            try clear hx9
            try clear c11
            try clear c11b0
            try clear p2
            try clear p9
            try clear q9
            obtain ⟨kq, x27_9, rfl, HA, HJ9, ⟨mc9, rfl⟩⟩ := hcut
            cases kq with
            | zero => exact absurd HA.out (by simp [idiomref01_unhex.j1])
            | succ kj9 =>
             have H := HA.out
             clear HA
             simp only [idiomref01_unhex.j1] at H
             by_cases c12 : x27_9 = true
             · subst c12
               have H1 : (idiomref01_unhex.l0 kj9 a0 a1 a2 (wrap64 ((wrap64 ((wrap64 (x7_1 * 16)) + (wrap64 (bt a0 (ji6))))) - 48)) (wrap64 (x8_1 + 1))) = some r := by rw [if_pos rfl] at H; exact H
               clear H
               have H := H1
               clear H1
               have H' := Aside0.mk H
               clear H
               go_wp2
               go_roundg kj9
               case measure => have := HK1.out; have := HJ9.out; omega
               case rel => exact ⟨(wrap64 ((wrap64 ((wrap64 (x7_1 * 16)) + (wrap64 (bt a0 (ji6))))) - 48)), (wrap64 (x8_1 + 1)), (by first | rfl | (simp; done) | (simp only [← hji6] <;> (first | rfl | simp)) | (simp [*]; done)), (by first | rfl | (simp; done) | (simp [*]; done)), H', ⟨by have := HK1.out; have := HJ9.out; omega⟩, by repeat (first | exact Drawn0.refl _ | apply Drawn0.step)⟩
             · replace c12 := Bool.eq_false_iff.mpr c12
               subst c12
               have H1 : (if (wrap64 (bt a0 (ji6))) ≥ 97 then (idiomref01_unhex.j2 kj9 a0 a1 a2 x7_1 x8_1 (wrap64 (bt a0 (ji6))) (decide ((wrap64 (bt a0 (ji6))) ≤ 102))) else (idiomref01_unhex.j2 kj9 a0 a1 a2 x7_1 x8_1 (wrap64 (bt a0 (ji6))) false)) = some r := by rw [if_neg (show ¬ (false = true) by decide)] at H; exact H
               clear H
               have H := H1
               clear H1
               have HC13 := Aside0.mk H
               clear H
               go_upto_region 11 with (fail)
               go_cut [39] (fun v39 wc => ∃ (kq : Nat) (x39_12 : Bool), v39 = .bool x39_12 ∧ Aside0 (idiomref01_unhex.j2 kq a0 a1 a2 x7_1 x8_1 (wrap64 (bt a0 (ji6))) x39_12 = some r) ∧ Aside0 (kq ≤ kj9) ∧ Drawn0 w wc)
               case first =>
                have H := HC13.out
                clear HC13
                by_cases c14 : (wrap64 (bt a0 (ji6))) ≥ 97
                · rw [if_pos c14] at H
                  have c14b0 : decide (97 ≤ (wrap64 (bt a0 (ji6)))) = true := decide_eq_true c14
                  clear c14
                  (first | rw [c14b0] | (simp only [i64_w, i32_w]; rw [c14b0]) | skip)
                  have H' := Aside0.mk H
                  clear H
                  go_wp2
                  go_meet
                  case rel => exact ⟨_, (decide ((wrap64 (bt a0 (ji6))) ≤ 102)), (by first | rfl | (simp; done) | (simp only [← hji6] <;> (first | rfl | simp)) | (simp [*]; done)), H', ⟨by have := HK1.out; have := HJ9.out; first | omega | exact Nat.le_refl _⟩, by repeat (first | exact Drawn0.refl _ | apply Drawn0.step)⟩
                · rw [if_neg c14] at H
                  have c14b0 : decide (97 ≤ (wrap64 (bt a0 (ji6)))) = false := decide_eq_false c14
                  clear c14
                  (first | rw [c14b0] | (simp only [i64_w, i32_w]; rw [c14b0]) | skip)
                  have H' := Aside0.mk H
                  clear H
                  go_wp2
                  go_meet
                  case rel => exact ⟨_, (false), (by first | rfl | (simp; done) | (simp [*]; done)), H', ⟨by have := HK1.out; have := HJ9.out; first | omega | exact Nat.le_refl _⟩, by repeat (first | exact Drawn0.refl _ | apply Drawn0.step)⟩
               case rest =>
                clear HC13
                try clear c1
                try clear p2
                try clear c4
                try clear c4b0
                try clear c5
                try clear c5b0
                try clear p6
                try clear c7
                try clear c7b0
                try clear c8
                try clear c8b0
                try clear c9
                try clear p9
                try clear q9
                try clear hx9
                try clear c11
                try clear c11b0
                try clear c12
                try clear c14
                try clear c14b0
                try clear p2
                try clear p6
                try clear p9
                try clear q9
                obtain ⟨kq, x39_12, rfl, HA, HJ12, ⟨mc12, rfl⟩⟩ := hcut
                cases kq with
                | zero => exact absurd HA.out (by simp [idiomref01_unhex.j2])
                | succ kj12 =>
                 have H := HA.out
                 clear HA
                 simp only [idiomref01_unhex.j2] at H
                 by_cases c15 : x39_12 = true
                 · subst c15
                   have H1 : (idiomref01_unhex.l0 kj12 a0 a1 a2 (wrap64 ((wrap64 ((wrap64 ((wrap64 (x7_1 * 16)) + (wrap64 (bt a0 (ji6))))) - 97)) + 10)) (wrap64 (x8_1 + 1))) = some r := by rw [if_pos rfl] at H; exact H
                   clear H
                   have H := H1
                   clear H1
                   have H' := Aside0.mk H
                   clear H
                   go_wp2
                   go_roundg kj12
                   case measure => have := HK1.out; have := HJ9.out; have := HJ12.out; omega
                   case rel => exact ⟨(wrap64 ((wrap64 ((wrap64 ((wrap64 (x7_1 * 16)) + (wrap64 (bt a0 (ji6))))) - 97)) + 10)), (wrap64 (x8_1 + 1)), (by first | rfl | (simp; done) | (simp only [← hji6] <;> (first | rfl | simp)) | (simp [*]; done)), (by first | rfl | (simp; done) | (simp [*]; done)), H', ⟨by have := HK1.out; have := HJ9.out; have := HJ12.out; omega⟩, by repeat (first | exact Drawn0.refl _ | apply Drawn0.step)⟩
                 · replace c15 := Bool.eq_false_iff.mpr c15
                   subst c15
                   have H1 : (if (wrap64 (bt a0 (ji6))) ≥ 65 then (if (wrap64 (bt a0 (ji6))) ≤ 70 then (idiomref01_unhex.l0 kj12 a0 a1 a2 (wrap64 ((wrap64 ((wrap64 ((wrap64 (x7_1 * 16)) + (wrap64 (bt a0 (ji6))))) - 65)) + 10)) (wrap64 (x8_1 + 1))) else (some (-1))) else (some (-1))) = some r := by rw [if_neg (show ¬ (false = true) by decide)] at H; exact H
                   clear H
                   have H := H1
                   clear H1
                   by_cases c16 : (wrap64 (bt a0 (ji6))) ≥ 65
                   · rw [if_pos c16] at H
                     have c16b0 : decide (65 ≤ (wrap64 (bt a0 (ji6)))) = true := decide_eq_true c16
                     clear c16
                     by_cases c17 : (wrap64 (bt a0 (ji6))) ≤ 70
                     · rw [if_pos c17] at H
                       have c17b0 : decide ((wrap64 (bt a0 (ji6))) ≤ 70) = true := decide_eq_true c17
                       clear c17
                       have H' := Aside0.mk H
                       clear H
                       go_wp2
                       go_roundg kj12
                       case measure => have := HK1.out; have := HJ9.out; have := HJ12.out; omega
                       case rel => exact ⟨(wrap64 ((wrap64 ((wrap64 ((wrap64 (x7_1 * 16)) + (wrap64 (bt a0 (ji6))))) - 65)) + 10)), (wrap64 (x8_1 + 1)), (by first | rfl | (simp; done) | (simp only [← hji6] <;> (first | rfl | simp)) | (simp [*]; done)), (by first | rfl | (simp; done) | (simp [*]; done)), H', ⟨by have := HK1.out; have := HJ9.out; have := HJ12.out; omega⟩, by repeat (first | exact Drawn0.refl _ | apply Drawn0.step)⟩
                     · rw [if_neg c17] at H
                       have c17b0 : decide ((wrap64 (bt a0 (ji6))) ≤ 70) = false := decide_eq_false c17
                       clear c17
                       obtain rfl := Option.some.inj H
                       go_wp2
                       go_ret
                       exact ⟨by first | rfl | (simp; done) | (simp only [← hji6] <;> (first | rfl | simp)) | (simp [*]; done), by repeat (first | exact Drawn0.refl _ | apply Drawn0.step)⟩
                   · rw [if_neg c16] at H
                     have c16b0 : decide (65 ≤ (wrap64 (bt a0 (ji6)))) = false := decide_eq_false c16
                     clear c16
                     obtain rfl := Option.some.inj H
                     go_wp2
                     go_ret
                     exact ⟨by first | rfl | (simp; done) | (simp only [← hji6] <;> (first | rfl | simp)) | (simp [*]; done), by repeat (first | exact Drawn0.refl _ | apply Drawn0.step)⟩
         · rw [if_neg c8] at H
           exact absurd H (by simp)
       · rw [if_neg c7] at H
         exact absurd H (by simp)
     · rw [if_neg c5] at H
       have c5b0 : decide (x8_1 < a2) = false := decide_eq_false c5
       clear c5
       obtain rfl := Option.some.inj H
       go_wp2
       go_ret
       exact ⟨by first | rfl | (simp; done) | (simp [*]; done), by repeat (first | exact Drawn0.refl _ | apply Drawn0.step)⟩

def idiomref01_Put.f (a0 : Int) : Option (ByteArray) := if a0 < 128 then (some (strOfNums (([(a0) % 256] : List Int)))) else (if a0 < 2048 then (some (strOfNums (([(wrap64 (192 + (wrap64 (Int.tdiv a0 64)))) % 256, (wrap64 (128 + (Int.tmod a0 64))) % 256] : List Int)))) else (if a0 < 65536 then (some (strOfNums (([(wrap64 (224 + (wrap64 (Int.tdiv a0 4096)))) % 256, (wrap64 (128 + (Int.tmod (wrap64 (Int.tdiv a0 64)) 64))) % 256, (wrap64 (128 + (Int.tmod a0 64))) % 256] : List Int)))) else (some (strOfNums (([(wrap64 (240 + (wrap64 (Int.tdiv a0 262144)))) % 256, (wrap64 (128 + (Int.tmod (wrap64 (Int.tdiv a0 4096)) 64))) % 256, (wrap64 (128 + (Int.tmod (wrap64 (Int.tdiv a0 64)) 64))) % 256, (wrap64 (128 + (Int.tmod a0 64))) % 256] : List Int))))))
set_option maxHeartbeats 8000000 in
set_option maxRecDepth 100000 in
theorem idiomref01_Put.calls (a0 : Int) (r : ByteArray) (w : World) (h : idiomref01_Put.f a0 = some r) :
 Calls Tryd.prog 55 #[.int .i64 a0] w fun e w' => e = .returned (.string r) ∧ Below w.heap.size w w' := by
 have HB := Aside0.mk (Below.refl w.heap.size w)
 have H : (if a0 < 128 then (some (strOfNums (([(a0) % 256] : List Int)))) else (if a0 < 2048 then (some (strOfNums (([(wrap64 (192 + (wrap64 (Int.tdiv a0 64)))) % 256, (wrap64 (128 + (Int.tmod a0 64))) % 256] : List Int)))) else (if a0 < 65536 then (some (strOfNums (([(wrap64 (224 + (wrap64 (Int.tdiv a0 4096)))) % 256, (wrap64 (128 + (Int.tmod (wrap64 (Int.tdiv a0 64)) 64))) % 256, (wrap64 (128 + (Int.tmod a0 64))) % 256] : List Int)))) else (some (strOfNums (([(wrap64 (240 + (wrap64 (Int.tdiv a0 262144)))) % 256, (wrap64 (128 + (Int.tmod (wrap64 (Int.tdiv a0 4096)) 64))) % 256, (wrap64 (128 + (Int.tmod (wrap64 (Int.tdiv a0 64)) 64))) % 256, (wrap64 (128 + (Int.tmod a0 64))) % 256] : List Int))))))) = some r := h
 clear h
 by_cases c2 : a0 < 128
 · rw [if_pos c2] at H
   have c2b0 : decide (a0 < 128) = true := decide_eq_true c2
   clear c2
   obtain ⟨y249, hy249⟩ : ∃ y_ : List Int, y_ = (([(a0) % 256] : List Int)) := ⟨_, rfl⟩
   replace H : (some (strOfNums y249)) = some r := by first | (rw [hy249]; with_reducible exact H) | (have H2_ := (Option.bind_some _ _).symm.trans H; rw [hy249]; with_reducible exact H2_) | (have H2_ := (Option.bind_some _ _).symm.trans H; with_reducible exact H2_) | with_reducible exact H | (rw [hy249]; exact H) | exact H
   have Ny249 := Aside0.mk hy249
   clear hy249
   obtain rfl := Option.some.inj H
   go_enter Tryd.func55, Tryd.ntmps55
   go_wp2_with (first | ((with_reducible refine gate_dst (N := 8) rfl ?_); refine Kd.R_lit (Kd.int .u8) _ 5 ?hg (N := 8) ?hd (xs := ([(a0) % 256] : List Int)) (inner := [.int .u8 ((a0) % 256)]) (ok := fun _ => True) (okp := fun _ => True) ?hr ?hp (fun _ hk => hk) trivial (Below.refl _ _) (Nat.le_refl _) (by simp) ?_; (case hd => rfl); (case hg => rfl); (case hr => first | (go_simp; done) | (go_simp; rfl)); (case hp => exact (Reps.one (show Kd.M (Kd.int .u8) _ _ _ ((a0) % 256) [.int .u8 ((a0) % 256)] from rfl) (Reps.none _ _))); intro v250 w3 ho4 hb hg_ hnew_; clear hg_ hnew_; (first | rw [← Ny249.out] at ho4 | (simp only [Int.reduceToNat] at ho4; rw [← Ny249.out] at ho4)); have HO251 := Aside0.mk (Kd.R_lower ho4 (below_size (qh HB))); replace HB := qn HB hb; clear hb ho4; have hcv5 := own_string (P := Tryd.prog) Tryd.underlying41 Tryd.underlying5 Tryd.underlying9 (Kd.own_of_R HO251.out)))
   go_ret
   exact ⟨qe, qh HB⟩
 · rw [if_neg c2] at H
   have c2b0 : decide (a0 < 128) = false := decide_eq_false c2
   clear c2
   by_cases c6 : a0 < 2048
   · rw [if_pos c6] at H
     have c6b0 : decide (a0 < 2048) = true := decide_eq_true c6
     clear c6
     obtain ⟨y252, hy252⟩ : ∃ y_ : List Int, y_ = (([(wrap64 (192 + (wrap64 (Int.tdiv a0 64)))) % 256, (wrap64 (128 + (Int.tmod a0 64))) % 256] : List Int)) := ⟨_, rfl⟩
     replace H : (some (strOfNums y252)) = some r := by first | (rw [hy252]; with_reducible exact H) | (have H2_ := (Option.bind_some _ _).symm.trans H; rw [hy252]; with_reducible exact H2_) | (have H2_ := (Option.bind_some _ _).symm.trans H; with_reducible exact H2_) | with_reducible exact H | (rw [hy252]; exact H) | exact H
     have Ny252 := Aside0.mk hy252
     clear hy252
     obtain rfl := Option.some.inj H
     go_enter Tryd.func55, Tryd.ntmps55
     go_wp2_with (first | ((with_reducible refine gate_dst (N := 21) rfl ?_); refine Kd.R_lit (Kd.int .u8) _ 5 ?hg (N := 21) ?hd (xs := ([(wrap64 (192 + (wrap64 (Int.tdiv a0 64)))) % 256, (wrap64 (128 + (Int.tmod a0 64))) % 256] : List Int)) (inner := [.int .u8 ((wrap64 (192 + (wrap64 (Int.tdiv a0 64)))) % 256), .int .u8 ((wrap64 (128 + (Int.tmod a0 64))) % 256)]) (ok := fun _ => True) (okp := fun _ => True) ?hr ?hp (fun _ hk => hk) trivial (Below.refl _ _) (Nat.le_refl _) (by simp) ?_; (case hd => rfl); (case hg => rfl); (case hr => first | (go_simp; done) | (go_simp; rfl)); (case hp => exact (Reps.one (show Kd.M (Kd.int .u8) _ _ _ ((wrap64 (192 + (wrap64 (Int.tdiv a0 64)))) % 256) [.int .u8 ((wrap64 (192 + (wrap64 (Int.tdiv a0 64)))) % 256)] from rfl) (Reps.one (show Kd.M (Kd.int .u8) _ _ _ ((wrap64 (128 + (Int.tmod a0 64))) % 256) [.int .u8 ((wrap64 (128 + (Int.tmod a0 64))) % 256)] from rfl) (Reps.none _ _)))); intro v253 w7 ho8 hb hg_ hnew_; clear hg_ hnew_; (first | rw [← Ny252.out] at ho8 | (simp only [Int.reduceToNat] at ho8; rw [← Ny252.out] at ho8)); have HO254 := Aside0.mk (Kd.R_lower ho8 (below_size (qh HB))); replace HB := qn HB hb; clear hb ho8; have hcv9 := own_string (P := Tryd.prog) Tryd.underlying41 Tryd.underlying5 Tryd.underlying9 (Kd.own_of_R HO254.out)))
     go_ret
     exact ⟨qe, qh HB⟩
   · rw [if_neg c6] at H
     have c6b0 : decide (a0 < 2048) = false := decide_eq_false c6
     clear c6
     by_cases c10 : a0 < 65536
     · rw [if_pos c10] at H
       have c10b0 : decide (a0 < 65536) = true := decide_eq_true c10
       clear c10
       obtain ⟨y255, hy255⟩ : ∃ y_ : List Int, y_ = (([(wrap64 (224 + (wrap64 (Int.tdiv a0 4096)))) % 256, (wrap64 (128 + (Int.tmod (wrap64 (Int.tdiv a0 64)) 64))) % 256, (wrap64 (128 + (Int.tmod a0 64))) % 256] : List Int)) := ⟨_, rfl⟩
       replace H : (some (strOfNums y255)) = some r := by first | (rw [hy255]; with_reducible exact H) | (have H2_ := (Option.bind_some _ _).symm.trans H; rw [hy255]; with_reducible exact H2_) | (have H2_ := (Option.bind_some _ _).symm.trans H; with_reducible exact H2_) | with_reducible exact H | (rw [hy255]; exact H) | exact H
       have Ny255 := Aside0.mk hy255
       clear hy255
       obtain rfl := Option.some.inj H
       go_enter Tryd.func55, Tryd.ntmps55
       go_wp2_with (first | ((with_reducible refine gate_dst (N := 39) rfl ?_); refine Kd.R_lit (Kd.int .u8) _ 5 ?hg (N := 39) ?hd (xs := ([(wrap64 (224 + (wrap64 (Int.tdiv a0 4096)))) % 256, (wrap64 (128 + (Int.tmod (wrap64 (Int.tdiv a0 64)) 64))) % 256, (wrap64 (128 + (Int.tmod a0 64))) % 256] : List Int)) (inner := [.int .u8 ((wrap64 (224 + (wrap64 (Int.tdiv a0 4096)))) % 256), .int .u8 ((wrap64 (128 + (Int.tmod (wrap64 (Int.tdiv a0 64)) 64))) % 256), .int .u8 ((wrap64 (128 + (Int.tmod a0 64))) % 256)]) (ok := fun _ => True) (okp := fun _ => True) ?hr ?hp (fun _ hk => hk) trivial (Below.refl _ _) (Nat.le_refl _) (by simp) ?_; (case hd => rfl); (case hg => rfl); (case hr => first | (go_simp; done) | (go_simp; rfl)); (case hp => exact (Reps.one (show Kd.M (Kd.int .u8) _ _ _ ((wrap64 (224 + (wrap64 (Int.tdiv a0 4096)))) % 256) [.int .u8 ((wrap64 (224 + (wrap64 (Int.tdiv a0 4096)))) % 256)] from rfl) (Reps.one (show Kd.M (Kd.int .u8) _ _ _ ((wrap64 (128 + (Int.tmod (wrap64 (Int.tdiv a0 64)) 64))) % 256) [.int .u8 ((wrap64 (128 + (Int.tmod (wrap64 (Int.tdiv a0 64)) 64))) % 256)] from rfl) (Reps.one (show Kd.M (Kd.int .u8) _ _ _ ((wrap64 (128 + (Int.tmod a0 64))) % 256) [.int .u8 ((wrap64 (128 + (Int.tmod a0 64))) % 256)] from rfl) (Reps.none _ _))))); intro v256 w11 ho12 hb hg_ hnew_; clear hg_ hnew_; (first | rw [← Ny255.out] at ho12 | (simp only [Int.reduceToNat] at ho12; rw [← Ny255.out] at ho12)); have HO257 := Aside0.mk (Kd.R_lower ho12 (below_size (qh HB))); replace HB := qn HB hb; clear hb ho12; have hcv13 := own_string (P := Tryd.prog) Tryd.underlying41 Tryd.underlying5 Tryd.underlying9 (Kd.own_of_R HO257.out)))
       go_ret
       exact ⟨qe, qh HB⟩
     · rw [if_neg c10] at H
       have c10b0 : decide (a0 < 65536) = false := decide_eq_false c10
       clear c10
       obtain ⟨y258, hy258⟩ : ∃ y_ : List Int, y_ = (([(wrap64 (240 + (wrap64 (Int.tdiv a0 262144)))) % 256, (wrap64 (128 + (Int.tmod (wrap64 (Int.tdiv a0 4096)) 64))) % 256, (wrap64 (128 + (Int.tmod (wrap64 (Int.tdiv a0 64)) 64))) % 256, (wrap64 (128 + (Int.tmod a0 64))) % 256] : List Int)) := ⟨_, rfl⟩
       replace H : (some (strOfNums y258)) = some r := by first | (rw [hy258]; with_reducible exact H) | (have H2_ := (Option.bind_some _ _).symm.trans H; rw [hy258]; with_reducible exact H2_) | (have H2_ := (Option.bind_some _ _).symm.trans H; with_reducible exact H2_) | with_reducible exact H | (rw [hy258]; exact H) | exact H
       have Ny258 := Aside0.mk hy258
       clear hy258
       obtain rfl := Option.some.inj H
       go_enter Tryd.func55, Tryd.ntmps55
       go_wp2_with (first | ((with_reducible refine gate_dst (N := 59) rfl ?_); refine Kd.R_lit (Kd.int .u8) _ 5 ?hg (N := 59) ?hd (xs := ([(wrap64 (240 + (wrap64 (Int.tdiv a0 262144)))) % 256, (wrap64 (128 + (Int.tmod (wrap64 (Int.tdiv a0 4096)) 64))) % 256, (wrap64 (128 + (Int.tmod (wrap64 (Int.tdiv a0 64)) 64))) % 256, (wrap64 (128 + (Int.tmod a0 64))) % 256] : List Int)) (inner := [.int .u8 ((wrap64 (240 + (wrap64 (Int.tdiv a0 262144)))) % 256), .int .u8 ((wrap64 (128 + (Int.tmod (wrap64 (Int.tdiv a0 4096)) 64))) % 256), .int .u8 ((wrap64 (128 + (Int.tmod (wrap64 (Int.tdiv a0 64)) 64))) % 256), .int .u8 ((wrap64 (128 + (Int.tmod a0 64))) % 256)]) (ok := fun _ => True) (okp := fun _ => True) ?hr ?hp (fun _ hk => hk) trivial (Below.refl _ _) (Nat.le_refl _) (by simp) ?_; (case hd => rfl); (case hg => rfl); (case hr => first | (go_simp; done) | (go_simp; rfl)); (case hp => exact (Reps.one (show Kd.M (Kd.int .u8) _ _ _ ((wrap64 (240 + (wrap64 (Int.tdiv a0 262144)))) % 256) [.int .u8 ((wrap64 (240 + (wrap64 (Int.tdiv a0 262144)))) % 256)] from rfl) (Reps.one (show Kd.M (Kd.int .u8) _ _ _ ((wrap64 (128 + (Int.tmod (wrap64 (Int.tdiv a0 4096)) 64))) % 256) [.int .u8 ((wrap64 (128 + (Int.tmod (wrap64 (Int.tdiv a0 4096)) 64))) % 256)] from rfl) (Reps.one (show Kd.M (Kd.int .u8) _ _ _ ((wrap64 (128 + (Int.tmod (wrap64 (Int.tdiv a0 64)) 64))) % 256) [.int .u8 ((wrap64 (128 + (Int.tmod (wrap64 (Int.tdiv a0 64)) 64))) % 256)] from rfl) (Reps.one (show Kd.M (Kd.int .u8) _ _ _ ((wrap64 (128 + (Int.tmod a0 64))) % 256) [.int .u8 ((wrap64 (128 + (Int.tmod a0 64))) % 256)] from rfl) (Reps.none _ _)))))); intro v259 w14 ho15 hb hg_ hnew_; clear hg_ hnew_; (first | rw [← Ny258.out] at ho15 | (simp only [Int.reduceToNat] at ho15; rw [← Ny258.out] at ho15)); have HO260 := Aside0.mk (Kd.R_lower ho15 (below_size (qh HB))); replace HB := qn HB hb; clear hb ho15; have hcv16 := own_string (P := Tryd.prog) Tryd.underlying41 Tryd.underlying5 Tryd.underlying9 (Kd.own_of_R HO260.out)))
       go_ret
       exact ⟨qe, qh HB⟩

end Go.Proofs.YtigikjihagmokaaDoor.F
namespace Go.Proofs.YtigikjihagmokaaDoor.F
open Go.RowKit Go.Proofs.YtigikjihagmokaaDoorW.PrintWords Go.Proofs.YtigikjihagmokaaDoorW.PrintLast Go.Proofs.YtigikjihagmokaaDoorW.PrintMore Go.Proofs.YtigikjihagmokaaDoor.Q
attribute [local go_sem] max2_int min2_int max_two min_two max_three min_three max_four min_four   -- for this text's walks alone
set_option linter.unusedVariables false
set_option linter.unusedSimpArgs false

def idiomref01_one.j0 : Nat → ByteArray → Int → Int → Option (ByteArray × Int)
 | 0, _, _, _ => none
 | k + 1, x0, x1, x7 => (idiomref01_unhex.f k x0 (wrap64 (x1 + 2)) x7).bind fun t261 => (if t261 < 0 then (some ((⟨#[]⟩ : ByteArray), 0)) else (if x7 = 2 then (some (strOfNums (([(t261) % 256] : List Int)), 4)) else (if t261 > 1114111 then (some ((⟨#[]⟩ : ByteArray), 0)) else (if t261 ≥ 55296 then (if t261 ≤ 57343 then (some ((⟨#[]⟩ : ByteArray), 0)) else ((idiomref01_Put.f t261).bind fun t265 => (some (t265, wrap64 (2 + x7))))) else ((idiomref01_Put.f t261).bind fun t266 => (some (t266, wrap64 (2 + x7))))))))
def idiomref01_one.f (k : Nat) (a0 : ByteArray) (a1 : Int) : Option (ByteArray × Int) := if (wrap64 (a1 + 1)) ≥ (a0.size : Int) then (some ((⟨#[]⟩ : ByteArray), 0)) else (if 0 ≤ (wrap64 (a1 + 1)) then (if (wrap64 (a1 + 1)) < (a0.size : Int) then (if (bt a0 (wrap64 (a1 + 1))) = 92 then (some ((⟨#[92]⟩ : ByteArray), 2)) else (if (bt a0 (wrap64 (a1 + 1))) = 110 then (some ((⟨#[10]⟩ : ByteArray), 2)) else (if (bt a0 (wrap64 (a1 + 1))) = 114 then (some ((⟨#[13]⟩ : ByteArray), 2)) else (if (bt a0 (wrap64 (a1 + 1))) = 116 then (some ((⟨#[9]⟩ : ByteArray), 2)) else (if (bt a0 (wrap64 (a1 + 1))) = 120 then (idiomref01_one.j0 k a0 a1 2) else (if (bt a0 (wrap64 (a1 + 1))) = 117 then (idiomref01_one.j0 k a0 a1 4) else (if (bt a0 (wrap64 (a1 + 1))) = 85 then (idiomref01_one.j0 k a0 a1 6) else (some ((⟨#[]⟩ : ByteArray), 0))))))))) else (none)) else (none))
theorem idiomref01_one.mono_l : ∀ k, (∀ y0 y1 y2, LeO (idiomref01_one.j0 k y0 y1 y2) (idiomref01_one.j0 (k + 1) y0 y1 y2))
 | 0 => fun _ _ _ r h => by simp [idiomref01_one.j0] at h
 | k + 1 => by
  have ih0 := idiomref01_one.mono_l k
  · intro y0 y1 y2
    unfold idiomref01_one.j0
    repeat' first
    | (with_reducible exact ih0 _ _ _)
    | (with_reducible exact idiomref01_unhex.mono _ _ _ _)
    | (with_reducible exact LeO.refl _)
    | (with_reducible exact LeO.none _)
    | (with_reducible refine LeO.ite ?_ ?_)
    | (with_reducible refine LeO.bind ?_ (fun _ => ?_))
    | exact ih0 _ _ _
    | exact idiomref01_unhex.mono _ _ _ _
    | exact LeO.none _
    | refine LeO.ite ?_ ?_
    | refine LeO.bind ?_ (fun _ => ?_)
theorem idiomref01_one.mono : ∀ a0 a1 k, LeO (idiomref01_one.f k a0 a1) (idiomref01_one.f (k + 1) a0 a1) := by
 intro a0 a1 k
 have ih0 := idiomref01_one.mono_l k
 unfold idiomref01_one.f
 repeat' first
  | (with_reducible exact ih0 _ _ _)
  | (with_reducible exact idiomref01_unhex.mono _ _ _ _)
  | (with_reducible exact LeO.refl _)
  | (with_reducible exact LeO.none _)
  | (with_reducible refine LeO.ite ?_ ?_)
  | (with_reducible refine LeO.bind ?_ (fun _ => ?_))
  | exact ih0 _ _ _
  | exact idiomref01_unhex.mono _ _ _ _
  | exact LeO.none _
  | refine LeO.ite ?_ ?_
  | refine LeO.bind ?_ (fun _ => ?_)
set_option maxHeartbeats 8000000 in
set_option maxRecDepth 100000 in
theorem idiomref01_one.calls (k : Nat) (a0 : ByteArray) (a1 : Int) (r1 : ByteArray) (r2 : Int) (w : World) (h : idiomref01_one.f k a0 a1 = some (r1, r2)) :
 Calls Tryd.prog 46 #[.string a0, .int .i64 a1] w fun e w' => e = .returned (.tuple #[.string r1, .int .i64 r2]) ∧ Below w.heap.size w w' := by
 have HB := Aside0.mk (Below.refl w.heap.size w)
 have H : (if (wrap64 (a1 + 1)) ≥ (a0.size : Int) then (some ((⟨#[]⟩ : ByteArray), 0)) else (if 0 ≤ (wrap64 (a1 + 1)) then (if (wrap64 (a1 + 1)) < (a0.size : Int) then (if (bt a0 (wrap64 (a1 + 1))) = 92 then (some ((⟨#[92]⟩ : ByteArray), 2)) else (if (bt a0 (wrap64 (a1 + 1))) = 110 then (some ((⟨#[10]⟩ : ByteArray), 2)) else (if (bt a0 (wrap64 (a1 + 1))) = 114 then (some ((⟨#[13]⟩ : ByteArray), 2)) else (if (bt a0 (wrap64 (a1 + 1))) = 116 then (some ((⟨#[9]⟩ : ByteArray), 2)) else (if (bt a0 (wrap64 (a1 + 1))) = 120 then (idiomref01_one.j0 k a0 a1 2) else (if (bt a0 (wrap64 (a1 + 1))) = 117 then (idiomref01_one.j0 k a0 a1 4) else (if (bt a0 (wrap64 (a1 + 1))) = 85 then (idiomref01_one.j0 k a0 a1 6) else (some ((⟨#[]⟩ : ByteArray), 0))))))))) else (none)) else (none))) = some (r1, r2) := h
 clear h
 by_cases c3 : (wrap64 (a1 + 1)) ≥ (a0.size : Int)
 · rw [if_pos c3] at H
   have c3b0 : decide ((a0.size : Int) ≤ (wrap64 (a1 + 1))) = true := decide_eq_true c3
   clear c3
   simp only [Option.some.injEq, Prod.mk.injEq] at H
   obtain ⟨rfl, rfl⟩ := H
   go_enter Tryd.func46, Tryd.ntmps46
   go_wp2
   go_ret2
   exact ⟨qe, qh HB⟩
 · rw [if_neg c3] at H
   have c3b0 : decide ((a0.size : Int) ≤ (wrap64 (a1 + 1))) = false := decide_eq_false c3
   clear c3
   obtain ⟨ji4, hji4⟩ : ∃ j_ : Int, (wrap64 (a1 + 1)) = j_ := ⟨_, rfl⟩
   replace H : (if 0 ≤ (ji4) then (if (ji4) < (a0.size : Int) then (if (bt a0 (ji4)) = 92 then (some ((⟨#[92]⟩ : ByteArray), 2)) else (if (bt a0 (ji4)) = 110 then (some ((⟨#[10]⟩ : ByteArray), 2)) else (if (bt a0 (ji4)) = 114 then (some ((⟨#[13]⟩ : ByteArray), 2)) else (if (bt a0 (ji4)) = 116 then (some ((⟨#[9]⟩ : ByteArray), 2)) else (if (bt a0 (ji4)) = 120 then (idiomref01_one.j0 k a0 a1 2) else (if (bt a0 (ji4)) = 117 then (idiomref01_one.j0 k a0 a1 4) else (if (bt a0 (ji4)) = 85 then (idiomref01_one.j0 k a0 a1 6) else (some ((⟨#[]⟩ : ByteArray), 0))))))))) else (none)) else (none)) = some (r1, r2) := by first | (rw [hji4] at H; exact H) | (simp only [hji4] at H ⊢; exact H)
   (try rw [hji4] at c3b0)
   have hji4w : (IntKind.i64.wrap (a1 + 1)) = ji4 := (i64_w _).trans hji4
   by_cases c5 : 0 ≤ (ji4)
   · rw [if_pos c5] at H
     have c5b0 : decide (0 ≤ (ji4)) = true := decide_eq_true c5
     clear c5
     by_cases c6 : (ji4) < (a0.size : Int)
     · rw [if_pos c6] at H
       have c6b0 : decide ((ji4) < (a0.size : Int)) = true := decide_eq_true c6
       clear c6
       have HC8 := Aside0.mk H
       clear H
       have p7 : 0 ≤ ((ji4) : Int) := of_decide_eq_true qa
       have q7 : (ji4) < (a0.size : Int) := of_decide_eq_true qa
       have hx7 := bt_at a0 (ji4)
       replace p7 := eq_true p7
       replace q7 := eq_true q7
       go_enter Tryd.func46, Tryd.ntmps46
       go_upto_block 0 with (fail)
       go_cut [7] (fun v7 wc => ∃ (kq : Nat) (x7_7 : Int), v7 = .int .i64 x7_7 ∧ Aside0 (idiomref01_one.j0 kq a0 a1 x7_7 = some (r1, r2)) ∧ Aside0 (kq ≤ k) ∧ Aside0 (Below w.heap.size w wc))
       case first =>
        have H := HC8.out
        clear HC8
        by_cases c9 : (bt a0 (ji4)) = 92
        · rw [if_pos c9] at H
          have c9b0 : ((bt a0 (ji4)) == 92) = true := beq_iff_eq.mpr c9
          have c9b1 : ((bt a0 (ji4)) != 92) = false := bne_eq_false_iff_eq.mpr c9
          clear c9
          (first | rw [c9b0] | (simp only [i64_w, i32_w]; rw [c9b0]) | skip)
          simp only [Option.some.injEq, Prod.mk.injEq] at H
          obtain ⟨rfl, rfl⟩ := H
          go_wp2
          go_ret2
          exact ⟨by first | rfl | (exact congrArg (fun b => Ending.returned (.bool b)) (Aid.bne_nil _)) | (exact congrArg (fun b => Ending.returned (.bool b)) (Aid.eq_nil _)) | (simp [errW_none, errW_some] <;> rfl) | (simp only [← hji4]; first | rfl | (simp [errW_none, errW_some] <;> rfl)) | (simp [*, errW_none, errW_some] <;> rfl), qh HB⟩
        · rw [if_neg c9] at H
          have c9b0 : ((bt a0 (ji4)) == 92) = false := beq_eq_false_iff_ne.mpr c9
          have c9b1 : ((bt a0 (ji4)) != 92) = true := bne_iff_ne.mpr c9
          (first | rw [c9b0] | (simp only [i64_w, i32_w]; rw [c9b0]) | skip)
          by_cases c10 : (bt a0 (ji4)) = 110
          · rw [if_pos c10] at H
            have c10b0 : ((bt a0 (ji4)) == 110) = true := beq_iff_eq.mpr c10
            have c10b1 : ((bt a0 (ji4)) != 110) = false := bne_eq_false_iff_eq.mpr c10
            clear c10
            simp only [Option.some.injEq, Prod.mk.injEq] at H
            obtain ⟨rfl, rfl⟩ := H
            go_wp2
            go_ret2
            exact ⟨by first | rfl | (exact congrArg (fun b => Ending.returned (.bool b)) (Aid.bne_nil _)) | (exact congrArg (fun b => Ending.returned (.bool b)) (Aid.eq_nil _)) | (simp [errW_none, errW_some] <;> rfl) | (simp only [← hji4]; first | rfl | (simp [errW_none, errW_some] <;> rfl)) | (simp [*, errW_none, errW_some] <;> rfl), qh HB⟩
          · rw [if_neg c10] at H
            have c10b0 : ((bt a0 (ji4)) == 110) = false := beq_eq_false_iff_ne.mpr c10
            have c10b1 : ((bt a0 (ji4)) != 110) = true := bne_iff_ne.mpr c10
            by_cases c11 : (bt a0 (ji4)) = 114
            · rw [if_pos c11] at H
              have c11b0 : ((bt a0 (ji4)) == 114) = true := beq_iff_eq.mpr c11
              have c11b1 : ((bt a0 (ji4)) != 114) = false := bne_eq_false_iff_eq.mpr c11
              clear c11
              simp only [Option.some.injEq, Prod.mk.injEq] at H
              obtain ⟨rfl, rfl⟩ := H
              go_wp2
              go_ret2
              exact ⟨by first | rfl | (exact congrArg (fun b => Ending.returned (.bool b)) (Aid.bne_nil _)) | (exact congrArg (fun b => Ending.returned (.bool b)) (Aid.eq_nil _)) | (simp [errW_none, errW_some] <;> rfl) | (simp only [← hji4]; first | rfl | (simp [errW_none, errW_some] <;> rfl)) | (simp [*, errW_none, errW_some] <;> rfl), qh HB⟩
            · rw [if_neg c11] at H
              have c11b0 : ((bt a0 (ji4)) == 114) = false := beq_eq_false_iff_ne.mpr c11
              have c11b1 : ((bt a0 (ji4)) != 114) = true := bne_iff_ne.mpr c11
              by_cases c12 : (bt a0 (ji4)) = 116
              · rw [if_pos c12] at H
                have c12b0 : ((bt a0 (ji4)) == 116) = true := beq_iff_eq.mpr c12
                have c12b1 : ((bt a0 (ji4)) != 116) = false := bne_eq_false_iff_eq.mpr c12
                clear c12
                simp only [Option.some.injEq, Prod.mk.injEq] at H
                obtain ⟨rfl, rfl⟩ := H
                go_wp2
                go_ret2
                exact ⟨by first | rfl | (exact congrArg (fun b => Ending.returned (.bool b)) (Aid.bne_nil _)) | (exact congrArg (fun b => Ending.returned (.bool b)) (Aid.eq_nil _)) | (simp [errW_none, errW_some] <;> rfl) | (simp only [← hji4]; first | rfl | (simp [errW_none, errW_some] <;> rfl)) | (simp [*, errW_none, errW_some] <;> rfl), qh HB⟩
              · rw [if_neg c12] at H
                have c12b0 : ((bt a0 (ji4)) == 116) = false := beq_eq_false_iff_ne.mpr c12
                have c12b1 : ((bt a0 (ji4)) != 116) = true := bne_iff_ne.mpr c12
                by_cases c13 : (bt a0 (ji4)) = 120
                · rw [if_pos c13] at H
                  have c13b0 : ((bt a0 (ji4)) == 120) = true := beq_iff_eq.mpr c13
                  have c13b1 : ((bt a0 (ji4)) != 120) = false := bne_eq_false_iff_eq.mpr c13
                  clear c13
                  have H' := Aside0.mk H
                  clear H
                  go_wp2
                  go_meet
                  case rel => exact ⟨_, (2), (by first | rfl | (simp; done) | (simp [*]; done)), H', ⟨by first | omega | exact Nat.le_refl _⟩, ⟨qh HB⟩⟩
                · rw [if_neg c13] at H
                  have c13b0 : ((bt a0 (ji4)) == 120) = false := beq_eq_false_iff_ne.mpr c13
                  have c13b1 : ((bt a0 (ji4)) != 120) = true := bne_iff_ne.mpr c13
                  by_cases c14 : (bt a0 (ji4)) = 117
                  · rw [if_pos c14] at H
                    have c14b0 : ((bt a0 (ji4)) == 117) = true := beq_iff_eq.mpr c14
                    have c14b1 : ((bt a0 (ji4)) != 117) = false := bne_eq_false_iff_eq.mpr c14
                    clear c14
                    have H' := Aside0.mk H
                    clear H
                    go_wp2
                    go_meet
                    case rel => exact ⟨_, (4), (by first | rfl | (simp; done) | (simp [*]; done)), H', ⟨by first | omega | exact Nat.le_refl _⟩, ⟨qh HB⟩⟩
                  · rw [if_neg c14] at H
                    have c14b0 : ((bt a0 (ji4)) == 117) = false := beq_eq_false_iff_ne.mpr c14
                    have c14b1 : ((bt a0 (ji4)) != 117) = true := bne_iff_ne.mpr c14
                    by_cases c15 : (bt a0 (ji4)) = 85
                    · rw [if_pos c15] at H
                      have c15b0 : ((bt a0 (ji4)) == 85) = true := beq_iff_eq.mpr c15
                      have c15b1 : ((bt a0 (ji4)) != 85) = false := bne_eq_false_iff_eq.mpr c15
                      clear c15
                      have H' := Aside0.mk H
                      clear H
                      go_wp2
                      go_meet
                      case rel => exact ⟨_, (6), (by first | rfl | (simp; done) | (simp [*]; done)), H', ⟨by first | omega | exact Nat.le_refl _⟩, ⟨qh HB⟩⟩
                    · rw [if_neg c15] at H
                      have c15b0 : ((bt a0 (ji4)) == 85) = false := beq_eq_false_iff_ne.mpr c15
                      have c15b1 : ((bt a0 (ji4)) != 85) = true := bne_iff_ne.mpr c15
                      simp only [Option.some.injEq, Prod.mk.injEq] at H
                      obtain ⟨rfl, rfl⟩ := H
                      go_wp2
                      go_ret2
                      exact ⟨by first | rfl | (exact congrArg (fun b => Ending.returned (.bool b)) (Aid.bne_nil _)) | (exact congrArg (fun b => Ending.returned (.bool b)) (Aid.eq_nil _)) | (simp [errW_none, errW_some] <;> rfl) | (simp only [← hji4]; first | rfl | (simp [errW_none, errW_some] <;> rfl)) | (simp [*, errW_none, errW_some] <;> rfl), qh HB⟩
       case rest =>
        clear HC8
        try clear c1
        try clear p2
        try clear c3
        try clear c3b0
        try clear c4
        try clear c5
        try clear c5b0
        try clear c6
        try clear c6b0
        try clear p6
        try clear p7
        try clear q7
        try clear hx7
        try clear c9
        try clear c9b0
        try clear c9b1
        try clear c10
        try clear c10b0
        try clear c10b1
        try clear c11
        try clear c11b0
        try clear c11b1
        try clear c12
        try clear c12b0
        try clear c12b1
        try clear c13
        try clear c13b0
        try clear c13b1
        try clear c14
        try clear c14b0
        try clear c14b1
        try clear c15
        try clear c15b0
        try clear c15b1
        try clear p7
        try clear q7
        obtain ⟨kq, x7_7, rfl, HA, HJ7, HB⟩ := hcut
        cases kq with
        | zero => exact absurd HA.out (by simp [idiomref01_one.j0])
        | succ kj7 =>
         have H := HA.out
         clear HA
         simp only [idiomref01_one.j0] at H
         replace H := Option.bind_eq_some_iff.mp H
         obtain ⟨t261, A160, H⟩ := H
         replace H : (if t261 < 0 then (some ((⟨#[]⟩ : ByteArray), 0)) else (if x7_7 = 2 then (some (strOfNums (([(t261) % 256] : List Int)), 4)) else (if t261 > 1114111 then (some ((⟨#[]⟩ : ByteArray), 0)) else (if t261 ≥ 55296 then (if t261 ≤ 57343 then (some ((⟨#[]⟩ : ByteArray), 0)) else ((idiomref01_Put.f t261).bind fun t265 => (some (t265, wrap64 (2 + x7_7))))) else ((idiomref01_Put.f t261).bind fun t266 => (some (t266, wrap64 (2 + x7_7)))))))) = some (r1, r2) := H
         have A16 := Aside0.mk A160
         clear A160
         by_cases c17 : t261 < 0
         · rw [if_pos c17] at H
           have c17b0 : decide (t261 < 0) = true := decide_eq_true c17
           clear c17
           simp only [Option.some.injEq, Prod.mk.injEq] at H
           obtain ⟨rfl, rfl⟩ := H
           go_wp2_with (first | ((with_reducible refine gate_callee (f := 54) rfl ?_); refine goesL_ (some 35) rfl rfl Tryd.func54 (by kernel_rfl) rfl #[.string a0, .int .i64 (wrap64 (a1 + 2)), .int .i64 x7_7] rfl ql ?_; (with_reducible refine (idiomref01_unhex.calls kj7 a0 (wrap64 (a1 + 2)) x7_7 t261 _ A16.out).mono ?_); rintro e w' ⟨rfl, ⟨nd, rfl⟩⟩; refine ⟨_, rfl, ?_⟩))
           go_ret2
           exact ⟨by first | rfl | (exact congrArg (fun b => Ending.returned (.bool b)) (Aid.bne_nil _)) | (exact congrArg (fun b => Ending.returned (.bool b)) (Aid.eq_nil _)) | (simp [errW_none, errW_some] <;> rfl) | (simp only [← hji4]; first | rfl | (simp [errW_none, errW_some] <;> rfl)) | (simp [*, errW_none, errW_some] <;> rfl), qh HB⟩
         · rw [if_neg c17] at H
           have c17b0 : decide (t261 < 0) = false := decide_eq_false c17
           clear c17
           by_cases c18 : x7_7 = 2
           · rw [if_pos c18] at H
             have c18b0 : (x7_7 == 2) = true := beq_iff_eq.mpr c18
             have c18b1 : (x7_7 != 2) = false := bne_eq_false_iff_eq.mpr c18
             try have c18b1z := c18b1
             (try simp only [bne] at c18b1z)
             clear c18
             obtain ⟨y262, hy262⟩ : ∃ y_ : List Int, y_ = (([(t261) % 256] : List Int)) := ⟨_, rfl⟩
             replace H : (some (strOfNums y262, 4)) = some (r1, r2) := by first | (rw [hy262]; with_reducible exact H) | (have H2_ := (Option.bind_some _ _).symm.trans H; rw [hy262]; with_reducible exact H2_) | (have H2_ := (Option.bind_some _ _).symm.trans H; with_reducible exact H2_) | with_reducible exact H | (rw [hy262]; exact H) | exact H
             have Ny262 := Aside0.mk hy262
             clear hy262
             simp only [Option.some.injEq, Prod.mk.injEq] at H
             obtain ⟨rfl, rfl⟩ := H
             go_wp2_with (first | ((with_reducible refine gate_callee (f := 54) rfl ?_); refine goesL_ (some 35) rfl rfl Tryd.func54 (by kernel_rfl) rfl #[.string a0, .int .i64 (wrap64 (a1 + 2)), .int .i64 x7_7] rfl ql ?_; (with_reducible refine (idiomref01_unhex.calls kj7 a0 (wrap64 (a1 + 2)) x7_7 t261 _ A16.out).mono ?_); rintro e w' ⟨rfl, ⟨nd, rfl⟩⟩; refine ⟨_, rfl, ?_⟩) | ((with_reducible refine gate_dst (N := 42) rfl ?_); refine Kd.R_lit (Kd.int .u8) _ 5 ?hg (N := 42) ?hd (xs := ([(t261) % 256] : List Int)) (inner := [.int .u8 ((t261) % 256)]) (ok := fun _ => True) (okp := fun _ => True) ?hr ?hp (fun _ hk => hk) trivial (Below.refl _ _) (Nat.le_refl _) (by simp) ?_; (case hd => rfl); (case hg => rfl); (case hr => first | (go_simp; done) | (go_simp; rfl)); (case hp => exact (Reps.one (show Kd.M (Kd.int .u8) _ _ _ ((t261) % 256) [.int .u8 ((t261) % 256)] from rfl) (Reps.none _ _))); intro v263 w19 ho20 hb hg_ hnew_; clear hg_ hnew_; (first | rw [← Ny262.out] at ho20 | (simp only [Int.reduceToNat] at ho20; rw [← Ny262.out] at ho20)); have HO264 := Aside0.mk (Kd.R_lower ho20 (below_size (qh HB))); replace HB := qn HB hb; clear hb ho20; have hcv21 := own_string (P := Tryd.prog) Tryd.underlying41 Tryd.underlying5 Tryd.underlying9 (Kd.own_of_R HO264.out)))
             go_ret2
             exact ⟨by first | rfl | (exact congrArg (fun b => Ending.returned (.bool b)) (Aid.bne_nil _)) | (exact congrArg (fun b => Ending.returned (.bool b)) (Aid.eq_nil _)) | (simp [errW_none, errW_some] <;> rfl) | (simp only [← hji4]; first | rfl | (simp [errW_none, errW_some] <;> rfl)) | (simp [*, errW_none, errW_some] <;> rfl), qh HB⟩
           · rw [if_neg c18] at H
             have c18b0 : (x7_7 == 2) = false := beq_eq_false_iff_ne.mpr c18
             have c18b1 : (x7_7 != 2) = true := bne_iff_ne.mpr c18
             try have c18b1z := c18b1
             (try simp only [bne] at c18b1z)
             by_cases c22 : t261 > 1114111
             · rw [if_pos c22] at H
               have c22b0 : decide (1114111 < t261) = true := decide_eq_true c22
               clear c22
               simp only [Option.some.injEq, Prod.mk.injEq] at H
               obtain ⟨rfl, rfl⟩ := H
               go_wp2_with (first | ((with_reducible refine gate_callee (f := 54) rfl ?_); refine goesL_ (some 35) rfl rfl Tryd.func54 (by kernel_rfl) rfl #[.string a0, .int .i64 (wrap64 (a1 + 2)), .int .i64 x7_7] rfl ql ?_; (with_reducible refine (idiomref01_unhex.calls kj7 a0 (wrap64 (a1 + 2)) x7_7 t261 _ A16.out).mono ?_); rintro e w' ⟨rfl, ⟨nd, rfl⟩⟩; refine ⟨_, rfl, ?_⟩))
               go_ret2
               exact ⟨by first | rfl | (exact congrArg (fun b => Ending.returned (.bool b)) (Aid.bne_nil _)) | (exact congrArg (fun b => Ending.returned (.bool b)) (Aid.eq_nil _)) | (simp [errW_none, errW_some] <;> rfl) | (simp only [← hji4]; first | rfl | (simp [errW_none, errW_some] <;> rfl)) | (simp [*, errW_none, errW_some] <;> rfl), qh HB⟩
             · rw [if_neg c22] at H
               have c22b0 : decide (1114111 < t261) = false := decide_eq_false c22
               clear c22
               by_cases c23 : t261 ≥ 55296
               · rw [if_pos c23] at H
                 have c23b0 : decide (55296 ≤ t261) = true := decide_eq_true c23
                 clear c23
                 by_cases c24 : t261 ≤ 57343
                 · rw [if_pos c24] at H
                   have c24b0 : decide (t261 ≤ 57343) = true := decide_eq_true c24
                   clear c24
                   simp only [Option.some.injEq, Prod.mk.injEq] at H
                   obtain ⟨rfl, rfl⟩ := H
                   go_wp2_with (first | ((with_reducible refine gate_callee (f := 54) rfl ?_); refine goesL_ (some 35) rfl rfl Tryd.func54 (by kernel_rfl) rfl #[.string a0, .int .i64 (wrap64 (a1 + 2)), .int .i64 x7_7] rfl ql ?_; (with_reducible refine (idiomref01_unhex.calls kj7 a0 (wrap64 (a1 + 2)) x7_7 t261 _ A16.out).mono ?_); rintro e w' ⟨rfl, ⟨nd, rfl⟩⟩; refine ⟨_, rfl, ?_⟩))
                   go_ret2
                   exact ⟨by first | rfl | (exact congrArg (fun b => Ending.returned (.bool b)) (Aid.bne_nil _)) | (exact congrArg (fun b => Ending.returned (.bool b)) (Aid.eq_nil _)) | (simp [errW_none, errW_some] <;> rfl) | (simp only [← hji4]; first | rfl | (simp [errW_none, errW_some] <;> rfl)) | (simp [*, errW_none, errW_some] <;> rfl), qh HB⟩
                 · rw [if_neg c24] at H
                   have c24b0 : decide (t261 ≤ 57343) = false := decide_eq_false c24
                   clear c24
                   replace H := Option.bind_eq_some_iff.mp H
                   obtain ⟨t265, A250, H⟩ := H
                   replace H : (some (t265, wrap64 (2 + x7_7))) = some (r1, r2) := H
                   have A25 := Aside0.mk A250
                   clear A250
                   simp only [Option.some.injEq, Prod.mk.injEq] at H
                   obtain ⟨rfl, rfl⟩ := H
                   go_wp2_with (first | ((with_reducible refine gate_callee (f := 54) rfl ?_); refine goesL_ (some 35) rfl rfl Tryd.func54 (by kernel_rfl) rfl #[.string a0, .int .i64 (wrap64 (a1 + 2)), .int .i64 x7_7] rfl ql ?_; (with_reducible refine (idiomref01_unhex.calls kj7 a0 (wrap64 (a1 + 2)) x7_7 t261 _ A16.out).mono ?_); rintro e w' ⟨rfl, ⟨nd, rfl⟩⟩; refine ⟨_, rfl, ?_⟩) | ((with_reducible refine gate_callee (f := 55) rfl ?_); refine goesL_ (some 55) rfl rfl Tryd.func55 (by kernel_rfl) rfl #[.int .i64 t261] rfl ql ?_; (with_reducible refine (idiomref01_Put.calls t261 t265 _ A25.out).mono ?_); rintro e w26 ⟨rfl, hb⟩; refine ⟨_, rfl, ?_⟩; replace HB := qn HB hb; (try clear hb); (try clear hb2); (try clear hk); (try clear hi)))
                   go_ret2
                   exact ⟨by first | rfl | (exact congrArg (fun b => Ending.returned (.bool b)) (Aid.bne_nil _)) | (exact congrArg (fun b => Ending.returned (.bool b)) (Aid.eq_nil _)) | (simp [errW_none, errW_some] <;> rfl) | (simp only [← hji4]; first | rfl | (simp [errW_none, errW_some] <;> rfl)) | (simp [*, errW_none, errW_some] <;> rfl), qh HB⟩
               · rw [if_neg c23] at H
                 have c23b0 : decide (55296 ≤ t261) = false := decide_eq_false c23
                 clear c23
                 replace H := Option.bind_eq_some_iff.mp H
                 obtain ⟨t266, A270, H⟩ := H
                 replace H : (some (t266, wrap64 (2 + x7_7))) = some (r1, r2) := H
                 have A27 := Aside0.mk A270
                 clear A270
                 simp only [Option.some.injEq, Prod.mk.injEq] at H
                 obtain ⟨rfl, rfl⟩ := H
                 go_wp2_with (first | ((with_reducible refine gate_callee (f := 54) rfl ?_); refine goesL_ (some 35) rfl rfl Tryd.func54 (by kernel_rfl) rfl #[.string a0, .int .i64 (wrap64 (a1 + 2)), .int .i64 x7_7] rfl ql ?_; (with_reducible refine (idiomref01_unhex.calls kj7 a0 (wrap64 (a1 + 2)) x7_7 t261 _ A16.out).mono ?_); rintro e w' ⟨rfl, ⟨nd, rfl⟩⟩; refine ⟨_, rfl, ?_⟩) | ((with_reducible refine gate_callee (f := 55) rfl ?_); refine goesL_ (some 55) rfl rfl Tryd.func55 (by kernel_rfl) rfl #[.int .i64 t261] rfl ql ?_; (with_reducible refine (idiomref01_Put.calls t261 t266 _ A27.out).mono ?_); rintro e w28 ⟨rfl, hb⟩; refine ⟨_, rfl, ?_⟩; replace HB := qn HB hb; (try clear hb); (try clear hb2); (try clear hk); (try clear hi)))
                 go_ret2
                 exact ⟨by first | rfl | (exact congrArg (fun b => Ending.returned (.bool b)) (Aid.bne_nil _)) | (exact congrArg (fun b => Ending.returned (.bool b)) (Aid.eq_nil _)) | (simp [errW_none, errW_some] <;> rfl) | (simp only [← hji4]; first | rfl | (simp [errW_none, errW_some] <;> rfl)) | (simp [*, errW_none, errW_some] <;> rfl), qh HB⟩
     · rw [if_neg c6] at H
       exact absurd H (by simp)
   · rw [if_neg c5] at H
     exact absurd H (by simp)

end Go.Proofs.YtigikjihagmokaaDoor.F
set_option linter.unusedVariables false
set_option linter.unusedSimpArgs false
namespace Go.Proofs.YtigikjihagmokaaDoor.Esc01
open Go.RowKit
/-- A hexadecimal digit's number. -/
def hexv (c : Nat) : Option Nat := if 48 ≤ c ∧ c ≤ 57 then some (c - 48) else if 97 ≤ c ∧ c ≤ 102 then some (c - 87) else if 65 ≤ c ∧ c ≤ 70 then some (c - 55) else none
/-- That of so many digits. -/
def hexL : Nat → List UInt8 → Nat → Option Nat
  | 0, _, n => some n
  | _ + 1, [], _ => none
  | d + 1, c :: l, n => match hexv c.toNat with
    | some v => hexL d l (n * 16 + v)
    | none => none
def good (n : Nat) : Bool := decide (n < 55296 ∨ 57344 ≤ n ∧ n ≤ 1114111)
/-- What stands behind a backslash: the bytes it stands for, its length. -/
def escL : List UInt8 → Option (List UInt8 × Nat)
  | [] => none
  | c :: l =>
    if c = 92 then some ([92], 1) else if c = 110 then some ([10], 1) else if c = 114 then some ([13], 1) else if c = 116 then some ([9], 1)
    else if c = 120 then (hexL 2 l 0).bind fun n => some ([n.toUInt8], 3)
    else if c = 117 then (hexL 4 l 0).bind fun n => if good n = true then some (Lib.encodeRune (n : Int), 5) else none
    else if c = 85 then (hexL 6 l 0).bind fun n => if good n = true then some (Lib.encodeRune (n : Int), 7) else none
    else none
/-- The bytes, or the place of what is no escape. -/
def unL : Nat → List UInt8 → Nat → List UInt8 → List UInt8 ⊕ Nat
  | 0, _, _, acc => .inl acc
  | _ + 1, [], _, acc => .inl acc
  | f + 1, c :: l, i, acc =>
    if c = 92 then match escL l with
      | some (p, n) => unL f (l.drop n) (i + 1 + n) (acc ++ p)
      | none => .inr i
    else unL f l (i + 1) (acc ++ [c])
end Go.Proofs.YtigikjihagmokaaDoor.Esc01
namespace Go.Proofs.YtigikjihagmokaaDoor.X
open Go.RowKit Go.Proofs.YtigikjihagmokaaDoorW.PrintWords Go.Proofs.YtigikjihagmokaaDoorW.PrintLast Go.Proofs.YtigikjihagmokaaDoorW.PrintMore
attribute [local go_sem] max2_int min2_int max_two min_two max_three min_three max_four min_four   -- for this text's walks alone
set_option linter.unusedVariables false
set_option linter.unusedSimpArgs false



def errW : Option Int → Value
 | none => .nilIface
 | some c => .iface 0 (.int .i64 c)
theorem errW_none : errW none = .nilIface := rfl
theorem errW_some (c : Int) : errW (some c) = .iface 0 (.int .i64 c) := rfl

theorem info5 : (Tryd.prog.info? 5).map (fun i => (i.zero, i.size, i.bytes)) = some (some (.int .u8 0), 1, 1) := by kernel_rfl
theorem info9 : (Tryd.prog.info? 9).map (fun i => (i.zero, i.size, i.bytes)) = some (some (.string ⟨#[]⟩), 1, 16) := by kernel_rfl
end Go.Proofs.YtigikjihagmokaaDoor.X
namespace Go.Proofs.YtigikjihagmokaaDoor.F
open Go.RowKit Go.Proofs.YtigikjihagmokaaDoorW.PrintWords Go.Proofs.YtigikjihagmokaaDoorW.PrintLast Go.Proofs.YtigikjihagmokaaDoorW.PrintMore Go.Proofs.YtigikjihagmokaaDoor.Q
attribute [local go_sem] max2_int min2_int max_two min_two max_three min_three max_four min_four   -- for this text's walks alone
set_option linter.unusedVariables false
set_option linter.unusedSimpArgs false

def idiomref01_Unescape.l0 : Nat → ByteArray → List Int → Int → Option (ByteArray × Int × Int)
 | 0, _, _, _ => none
 | k + 1, x0, x5, x6 => if x6 < (x0.size : Int) then (if 0 ≤ x6 then (if (bt x0 x6) = 92 then ((idiomref01_one.f k x0 x6).bind fun bt270 => (if bt270.2 = 0 then (some ((⟨#[]⟩ : ByteArray), x6, 10)) else (if x5.length + bt270.1.size < 140737488355328 then (idiomref01_Unescape.l0 k x0 (x5 ++ bytesOf bt270.1) (wrap64 (x6 + bt270.2))) else (none)))) else (if x5.length < 140737488355328 then (idiomref01_Unescape.l0 k x0 (x5 ++ [bt x0 x6]) (wrap64 (x6 + 1))) else (none))) else (none)) else (some (strOfNums x5, 0, 0))
def idiomref01_Unescape.f (k : Nat) (a0 : ByteArray) : Option (ByteArray × Int × Int) := if (a0.size : Int) > 1048576 then (some ((⟨#[]⟩ : ByteArray), 0, 2)) else (idiomref01_Unescape.l0 k a0 (([] : List Int)) 0)
theorem idiomref01_Unescape.mono_l : ∀ k, (∀ y0 y1 y2, LeO (idiomref01_Unescape.l0 k y0 y1 y2) (idiomref01_Unescape.l0 (k + 1) y0 y1 y2))
 | 0 => fun _ _ _ r h => by simp [idiomref01_Unescape.l0] at h
 | k + 1 => by
  have ih0 := idiomref01_Unescape.mono_l k
  · intro y0 y1 y2
    unfold idiomref01_Unescape.l0
    repeat' first
    | (with_reducible exact ih0 _ _ _)
    | (with_reducible exact idiomref01_one.mono _ _ _)
    | (with_reducible exact LeO.refl _)
    | (with_reducible exact LeO.none _)
    | (with_reducible refine LeO.ite ?_ ?_)
    | (with_reducible refine LeO.bind ?_ (fun _ => ?_))
    | exact ih0 _ _ _
    | exact idiomref01_one.mono _ _ _
    | exact LeO.none _
    | refine LeO.ite ?_ ?_
    | refine LeO.bind ?_ (fun _ => ?_)
theorem idiomref01_Unescape.mono : ∀ a0 k, LeO (idiomref01_Unescape.f k a0) (idiomref01_Unescape.f (k + 1) a0) := by
 intro a0 k
 have ih0 := idiomref01_Unescape.mono_l k
 unfold idiomref01_Unescape.f
 repeat' first
  | (with_reducible exact ih0 _ _ _)
  | (with_reducible exact idiomref01_one.mono _ _ _)
  | (with_reducible exact LeO.refl _)
  | (with_reducible exact LeO.none _)
  | (with_reducible refine LeO.ite ?_ ?_)
  | (with_reducible refine LeO.bind ?_ (fun _ => ?_))
  | exact ih0 _ _ _
  | exact idiomref01_one.mono _ _ _
  | exact LeO.none _
  | refine LeO.ite ?_ ?_
  | refine LeO.bind ?_ (fun _ => ?_)
set_option maxHeartbeats 8000000 in
set_option maxRecDepth 100000 in
theorem idiomref01_Unescape.calls (k : Nat) (a0 : ByteArray) (r1 : ByteArray) (r2 : Int) (r3 : Int) (w : World) (h : idiomref01_Unescape.f k a0 = some (r1, r2, r3)) :
 Calls Tryd.prog 30 #[.string a0] w fun e w' => e = .returned (.tuple #[.string r1, .int .i64 r2, .int .i64 r3]) ∧ Below w.heap.size w w' := by
 have HB := Aside0.mk (Below.refl w.heap.size w)
 have H : (if (a0.size : Int) > 1048576 then (some ((⟨#[]⟩ : ByteArray), 0, 2)) else (idiomref01_Unescape.l0 k a0 (([] : List Int)) 0)) = some (r1, r2, r3) := h
 clear h
 by_cases c2 : (a0.size : Int) > 1048576
 · rw [if_pos c2] at H
   have c2b0 : decide (1048576 < (a0.size : Int)) = true := decide_eq_true c2
   have c2b1 : decide (1048576 < a0.size) = true := decide_eq_true (by omega)
   clear c2
   simp only [Option.some.injEq, Prod.mk.injEq] at H
   obtain ⟨rfl, rfl, rfl⟩ := H
   go_enter Tryd.func30, Tryd.ntmps30
   go_wp2
   go_ret3
   exact ⟨qe, qh HB⟩
 · rw [if_neg c2] at H
   have c2b0 : decide (1048576 < (a0.size : Int)) = false := decide_eq_false c2
   have c2b1 : decide (1048576 < a0.size) = false := decide_eq_false (by omega)
   clear c2
   obtain ⟨y267, hy267⟩ : ∃ y_ : List Int, y_ = (([] : List Int)) := ⟨_, rfl⟩
   replace H : (idiomref01_Unescape.l0 k a0 y267 0) = some (r1, r2, r3) := by first | (rw [hy267]; with_reducible exact H) | (have H2_ := (Option.bind_some _ _).symm.trans H; rw [hy267]; with_reducible exact H2_) | (have H2_ := (Option.bind_some _ _).symm.trans H; with_reducible exact H2_) | with_reducible exact H | (rw [hy267]; exact H) | exact H
   have Ny267 := Aside0.mk hy267
   clear hy267
   have H' := Aside0.mk H
   clear H
   go_enter Tryd.func30, Tryd.ntmps30
   go_wp2_with (first | ((with_reducible refine gate_dst (N := 12) rfl ?_); refine Kd.R_lit (Kd.int .u8) _ 5 ?hg (N := 12) ?hd (xs := ([] : List Int)) (inner := []) (ok := fun _ => True) (okp := fun _ => True) ?hr ?hp (fun _ hk => hk) trivial (Below.refl _ _) (Nat.le_refl _) (by simp) ?_; (case hd => rfl); (case hg => rfl); (case hr => first | (go_simp; done) | (go_simp; rfl)); (case hp => exact (Reps.none _ _)); intro v268 w3 ho4 hb hg_ hnew_; clear hg_ hnew_; (first | rw [← Ny267.out] at ho4 | (simp only [Int.reduceToNat] at ho4; rw [← Ny267.out] at ho4)); have HO269 := Aside0.mk (Kd.R_lower ho4 (below_size (qh HB))); replace HB := qn HB hb; clear hb ho4))
   (try simp only [Act.put, List.setIfInBounds_toArray, List.set_cons_zero, List.set_cons_succ])
   go_loopg [5, 6] k (fun kq v5 v6 w' => ∃ (x5_1 : List Int) (x6_1 : Int), v6 = .int .i64 x6_1 ∧ Aside0 (idiomref01_Unescape.l0 kq a0 x5_1 x6_1 = some (r1, r2, r3)) ∧ Aside0 (kq ≤ k) ∧ Aside0 (Kd.R (Kd.int .u8) 5 w' w.heap.size (fun _ => True) v5 x5_1) ∧ Aside0 (Below w.heap.size w w'))
   case atStart => exact ⟨(y267), (0), (by first | rfl | (simp; done) | (simp [*]; done)), H', ⟨Nat.le_refl _⟩, ⟨by (with_reducible repeat (first | apply Kd.R_alloc | apply Kd.R_drewN | apply Kd.R_drew)); exact HO269.out⟩, ⟨qh HB⟩⟩
   case round =>
    clear H'
    try clear c2
    try clear c2b0
    try clear c2b1
    try clear p2
    try clear c3
    obtain ⟨x5_1, x6_1, rfl, HA, HK1, HO_5, HB⟩ := hrel
    cases gk with
    | zero => exact absurd HA.out (by simp [idiomref01_Unescape.l0])
    | succ k1 =>
     have H := HA.out
     clear HA
     simp only [idiomref01_Unescape.l0] at H
     by_cases c5 : x6_1 < (a0.size : Int)
     · rw [if_pos c5] at H
       have c5b0 : decide (x6_1 < (a0.size : Int)) = true := decide_eq_true c5
       clear c5
       by_cases c6 : 0 ≤ x6_1
       · rw [if_pos c6] at H
         have c6b0 : decide (0 ≤ x6_1) = true := decide_eq_true c6
         clear c6
         by_cases c8 : (bt a0 x6_1) = 92
         · rw [if_pos c8] at H
           have c8b0 : ((bt a0 x6_1) == 92) = true := beq_iff_eq.mpr c8
           have c8b1 : ((bt a0 x6_1) != 92) = false := bne_eq_false_iff_eq.mpr c8
           clear c8
           replace H := Option.bind_eq_some_iff.mp H
           obtain ⟨⟨t270, t271⟩, A90, H⟩ := H
           replace H : (if t271 = 0 then (some ((⟨#[]⟩ : ByteArray), x6_1, 10)) else (if x5_1.length + t270.size < 140737488355328 then (idiomref01_Unescape.l0 k1 a0 (x5_1 ++ bytesOf t270) (wrap64 (x6_1 + t271))) else (none))) = some (r1, r2, r3) := H
           have A9 := Aside0.mk A90
           clear A90
           by_cases c10 : t271 = 0
           · rw [if_pos c10] at H
             have c10b0 : (t271 == 0) = true := beq_iff_eq.mpr c10
             have c10b1 : (t271 != 0) = false := bne_eq_false_iff_eq.mpr c10
             try have c10b1z := c10b1
             (try simp only [bne] at c10b1z)
             clear c10
             simp only [Option.some.injEq, Prod.mk.injEq] at H
             obtain ⟨rfl, rfl, rfl⟩ := H
             have p7 : 0 ≤ (x6_1 : Int) := of_decide_eq_true qa
             have q7 : x6_1 < (a0.size : Int) := of_decide_eq_true qa
             have hx7 := bt_at a0 x6_1
             replace p7 := eq_true p7
             replace q7 := eq_true q7
             go_wp2_with (first | ((with_reducible refine gate_callee (f := 46) rfl ?_); refine goesL_ (some 32) rfl rfl Tryd.func46 (by kernel_rfl) rfl #[.string a0, .int .i64 x6_1] rfl ql ?_; (with_reducible refine (idiomref01_one.calls k1 a0 x6_1 t270 t271 _ A9.out).mono ?_); rintro e w11 ⟨rfl, hb⟩; refine ⟨_, rfl, ?_⟩; replace HO_5 := Aside0.mk (Kd.R_below (by (with_reducible repeat (first | apply Kd.R_alloc | apply Kd.R_drewN | apply Kd.R_drew)); exact HO_5.out) hb); replace HB := qn HB hb; (try clear hb); (try clear hb2); (try clear hk); (try clear hi)))
             go_ret3
             exact ⟨qe, qh HB⟩
           · rw [if_neg c10] at H
             have c10b0 : (t271 == 0) = false := beq_eq_false_iff_ne.mpr c10
             have c10b1 : (t271 != 0) = true := bne_iff_ne.mpr c10
             try have c10b1z := c10b1
             (try simp only [bne] at c10b1z)
             by_cases c12 : x5_1.length + t270.size < 140737488355328
             · rw [if_pos c12] at H
               have LMc12 := Aside0.mk c12
               clear c12
               obtain ⟨y272, hy272⟩ : ∃ y_ : List Int, y_ = (x5_1 ++ bytesOf t270) := ⟨_, rfl⟩
               replace H : (idiomref01_Unescape.l0 k1 a0 y272 (wrap64 (x6_1 + t271))) = some (r1, r2, r3) := by first | (rw [hy272]; with_reducible exact H) | (have H2_ := (Option.bind_some _ _).symm.trans H; rw [hy272]; with_reducible exact H2_) | (have H2_ := (Option.bind_some _ _).symm.trans H; with_reducible exact H2_) | with_reducible exact H | (rw [hy272]; exact H) | exact H
               have Ny272 := Aside0.mk hy272
               clear hy272
               have H' := Aside0.mk H
               clear H
               have p7 : 0 ≤ (x6_1 : Int) := of_decide_eq_true qa
               have q7 : x6_1 < (a0.size : Int) := of_decide_eq_true qa
               have hx7 := bt_at a0 x6_1
               replace p7 := eq_true p7
               replace q7 := eq_true q7
               go_wp2_with (first | ((with_reducible refine gate_callee (f := 46) rfl ?_); refine goesL_ (some 32) rfl rfl Tryd.func46 (by kernel_rfl) rfl #[.string a0, .int .i64 x6_1] rfl ql ?_; (with_reducible refine (idiomref01_one.calls k1 a0 x6_1 t270 t271 _ A9.out).mono ?_); rintro e w13 ⟨rfl, hb⟩; refine ⟨_, rfl, ?_⟩; replace HO_5 := Aside0.mk (Kd.R_below (by (with_reducible repeat (first | apply Kd.R_alloc | apply Kd.R_drewN | apply Kd.R_drew)); exact HO_5.out) hb); replace HB := qn HB hb; (try clear hb); (try clear hb2); (try clear hk); (try clear hi)) | (at_builtin; refine print_append_str (w0 := w) w.heap.size rfl (.tmp 38) _ 41 9 5 rfl Tryd.underlying41 Tryd.underlying9 info5 u5 x5_1 t270 rfl rfl ?aO ?aB ?aS ?aL ?_; (case aB => exact (qh HB)); (case aO => exact (Kd.own_of_R (by (with_reducible repeat (first | apply Kd.R_alloc | apply Kd.R_drewN | apply Kd.R_drew)); exact HO_5.out))); (case aS => exact (below_size (qh HB))); (case aL => have := LMc12.out; omega); intro v273 w14 ho0 hb hg; have ho := Kd.R_of_own (h1 := fun _ => rfl) (ok := fun _ => True) ho0 (fun _ _ => trivial); clear ho0; have hat := True.intro; rw [← Ny272.out] at ho; change Kd.R (Kd.int .u8) 5 w14 w.heap.size (fun _ => True) v273 y272 at ho; have n0_ := Aside0.mk (hb); have n1_ := Aside0.mk (ho); clear HB; clear HO_5; have HB := n0_; have HO274 := n1_; clear n0_ n1_; clear ho hb hg hat))
               go_roundg k1
               case measure => have := HK1.out; omega
               case rel => exact ⟨(y272), (wrap64 (x6_1 + t271)), (by first | rfl | (simp; done) | (simp [*]; done)), H', ⟨by have := HK1.out; omega⟩, ⟨by (with_reducible repeat (first | apply Kd.R_alloc | apply Kd.R_drewN | apply Kd.R_drew)); exact HO274.out⟩, ⟨qh HB⟩⟩
             · rw [if_neg c12] at H
               exact absurd H (by simp)
         · rw [if_neg c8] at H
           have c8b0 : ((bt a0 x6_1) == 92) = false := beq_eq_false_iff_ne.mpr c8
           have c8b1 : ((bt a0 x6_1) != 92) = true := bne_iff_ne.mpr c8
           by_cases c16 : x5_1.length < 140737488355328
           · rw [if_pos c16] at H
             have LMc16 := Aside0.mk c16
             clear c16
             obtain ⟨y275, hy275⟩ : ∃ y_ : List Int, y_ = (x5_1 ++ [bt a0 x6_1]) := ⟨_, rfl⟩
             replace H : (idiomref01_Unescape.l0 k1 a0 y275 (wrap64 (x6_1 + 1))) = some (r1, r2, r3) := by first | (rw [hy275]; with_reducible exact H) | (have H2_ := (Option.bind_some _ _).symm.trans H; rw [hy275]; with_reducible exact H2_) | (have H2_ := (Option.bind_some _ _).symm.trans H; with_reducible exact H2_) | with_reducible exact H | (rw [hy275]; exact H) | exact H
             have Ny275 := Aside0.mk hy275
             clear hy275
             have H' := Aside0.mk H
             clear H
             have p7 : 0 ≤ (x6_1 : Int) := of_decide_eq_true qa
             have q7 : x6_1 < (a0.size : Int) := of_decide_eq_true qa
             have hx7 := bt_at a0 x6_1
             replace p7 := eq_true p7
             replace q7 := eq_true q7
             have p15 : 0 ≤ (x6_1 : Int) := of_decide_eq_true qa
             have q15 : x6_1 < (a0.size : Int) := of_decide_eq_true qa
             have hx15 := bt_at a0 x6_1
             replace p15 := eq_true p15
             replace q15 := eq_true q15
             go_wp2_with (first | ((with_reducible refine gate_builtin (b := .append) (xs := #[.tmp 21, .tmp 25]) rfl ?_); at_builtin; refine Kd.R_append (Kd.int .u8) (w0 := w) w.heap.size rfl (.tmp 21) (.tmp 25) 41 5 (.int .u8 0) 1 rfl Tryd.underlying41 info5 rfl (by decide) (by omega) u5 x5_1 (bt a0 x6_1) [.int .u8 (bt a0 x6_1)] (fun _ => True) (fun _ => False) rfl rfl ?aP (fun _ hk => hk.elim) ?aF ?aO ?aB ?aS ?aL ?_; (case aP => exact rfl); (case aB => exact (qh HB)); (case aF => exact (fun _ _ => trivial)); (case aO => exact (by (with_reducible repeat (first | apply Kd.R_alloc | apply Kd.R_drewN | apply Kd.R_drew)); exact HO_5.out)); (case aS => exact (below_size (qh HB))); (case aL => have := LMc16.out; omega); intro v276 w17 ho hb hg hat; rw [← Ny275.out] at ho; have n0_ := Aside0.mk (hb); have n1_ := Aside0.mk (ho); clear HB; clear HO_5; have HB := n0_; have HO277 := n1_; clear n0_ n1_; clear ho hb hg hat))
             go_roundg k1
             case measure => have := HK1.out; omega
             case rel => exact ⟨(y275), (wrap64 (x6_1 + 1)), (by first | rfl | (simp; done) | (simp [*]; done)), H', ⟨by have := HK1.out; omega⟩, ⟨by (with_reducible repeat (first | apply Kd.R_alloc | apply Kd.R_drewN | apply Kd.R_drew)); exact HO277.out⟩, ⟨qh HB⟩⟩
           · rw [if_neg c16] at H
             exact absurd H (by simp)
       · rw [if_neg c6] at H
         exact absurd H (by simp)
     · rw [if_neg c5] at H
       have c5b0 : decide (x6_1 < (a0.size : Int)) = false := decide_eq_false c5
       clear c5
       simp only [Option.some.injEq, Prod.mk.injEq] at H
       obtain ⟨rfl, rfl, rfl⟩ := H
       have hcv18 := own_string (P := Tryd.prog) Tryd.underlying41 Tryd.underlying5 Tryd.underlying9 (Kd.own_of_R HO_5.out)
       go_wp2
       go_ret3
       exact ⟨qe, qh HB⟩

def idiomlaw01_RunesUnescapes.f (k : Nat) (a0 : ByteArray) : Option (Bool) := (runes_Unescape.f k a0).bind fun bt278 => ((idiomref01_Unescape.f k a0).bind fun bt281 => (if bt278.1.toList = bt281.1.toList then (if bt278.2.1 = bt281.2.1 then (if bt278.2.2 = bt281.2.2 then ((idiomlaw01_awake.f).bind fun t284 => (some t284)) else (none)) else (none)) else (none)))
theorem idiomlaw01_RunesUnescapes.mono : ∀ a0 k, LeO (idiomlaw01_RunesUnescapes.f k a0) (idiomlaw01_RunesUnescapes.f (k + 1) a0) := by
 intro a0 k
 unfold idiomlaw01_RunesUnescapes.f
 repeat' first
  | (with_reducible exact idiomref01_Unescape.mono _ _)
  | (with_reducible exact runes_Unescape.mono _ _)
  | (with_reducible exact LeO.refl _)
  | (with_reducible exact LeO.none _)
  | (with_reducible refine LeO.ite ?_ ?_)
  | (with_reducible refine LeO.bind ?_ (fun _ => ?_))
  | exact idiomref01_Unescape.mono _ _
  | exact runes_Unescape.mono _ _
  | exact LeO.none _
  | refine LeO.ite ?_ ?_
  | refine LeO.bind ?_ (fun _ => ?_)
set_option maxHeartbeats 8000000 in
set_option maxRecDepth 100000 in
theorem idiomlaw01_RunesUnescapes.calls (k : Nat) (a0 : ByteArray) (r : Bool) (w : World) (h : idiomlaw01_RunesUnescapes.f k a0 = some r) :
 Calls Tryd.prog 10 #[.string a0] w fun e w' => e = .returned (.bool r) ∧ Below w.heap.size w w' := by
 have HB := Aside0.mk (Below.refl w.heap.size w)
 have H : ((runes_Unescape.f k a0).bind fun bt278 => ((idiomref01_Unescape.f k a0).bind fun bt281 => (if bt278.1.toList = bt281.1.toList then (if bt278.2.1 = bt281.2.1 then (if bt278.2.2 = bt281.2.2 then ((idiomlaw01_awake.f).bind fun t284 => (some t284)) else (none)) else (none)) else (none)))) = some r := h
 clear h
 replace H := Option.bind_eq_some_iff.mp H
 obtain ⟨⟨t278, t279, t280⟩, A20, H⟩ := H
 replace H : ((idiomref01_Unescape.f k a0).bind fun bt281 => (if t278.toList = bt281.1.toList then (if t279 = bt281.2.1 then (if t280 = bt281.2.2 then ((idiomlaw01_awake.f).bind fun t284 => (some t284)) else (none)) else (none)) else (none))) = some r := H
 have A2 := Aside0.mk A20
 clear A20
 replace H := Option.bind_eq_some_iff.mp H
 obtain ⟨⟨t281, t282, t283⟩, A30, H⟩ := H
 replace H : (if t278.toList = t281.toList then (if t279 = t282 then (if t280 = t283 then ((idiomlaw01_awake.f).bind fun t284 => (some t284)) else (none)) else (none)) else (none)) = some r := H
 have A3 := Aside0.mk A30
 clear A30
 by_cases c4 : t278.toList = t281.toList
 · rw [if_pos c4] at H
   have c4b0 : (t278.toList == t281.toList) = true := beq_iff_eq.mpr c4
   have c4b1 : (t278.toList != t281.toList) = false := bne_eq_false_iff_eq.mpr c4
   clear c4
   by_cases c5 : t279 = t282
   · rw [if_pos c5] at H
     have c5b0 : (t279 == t282) = true := beq_iff_eq.mpr c5
     have c5b1 : (t279 != t282) = false := bne_eq_false_iff_eq.mpr c5
     try have c5b1z := c5b1
     (try simp only [bne] at c5b1z)
     clear c5
     by_cases c6 : t280 = t283
     · rw [if_pos c6] at H
       have c6b0 : (t280 == t283) = true := beq_iff_eq.mpr c6
       have c6b1 : (t280 != t283) = false := bne_eq_false_iff_eq.mpr c6
       try have c6b1z := c6b1
       (try simp only [bne] at c6b1z)
       clear c6
       replace H := Option.bind_eq_some_iff.mp H
       obtain ⟨t284, A70, H⟩ := H
       replace H : (some t284) = some r := H
       have A7 := Aside0.mk A70
       clear A70
       obtain rfl := Option.some.inj H
       go_enter Tryd.func10, Tryd.ntmps10
       go_wp2_with (first | ((with_reducible refine gate_callee (f := 29) rfl ?_); refine goesL_ (some 11) rfl rfl Tryd.func29 (by kernel_rfl) rfl #[.string a0] rfl ql ?_; (with_reducible refine (runes_Unescape.calls k a0 t278 t279 t280 _ A2.out).mono ?_); rintro e w8 ⟨rfl, hb⟩; refine ⟨_, rfl, ?_⟩; replace HB := qn HB hb; (try clear hb); (try clear hb2); (try clear hk); (try clear hi)) | ((with_reducible refine gate_callee (f := 30) rfl ?_); refine goesL_ (some 17) rfl rfl Tryd.func30 (by kernel_rfl) rfl #[.string a0] rfl ql ?_; (with_reducible refine (idiomref01_Unescape.calls k a0 t281 t282 t283 _ A3.out).mono ?_); rintro e w9 ⟨rfl, hb⟩; refine ⟨_, rfl, ?_⟩; replace HB := qn HB hb; (try clear hb); (try clear hb2); (try clear hk); (try clear hi)) | (go_at_call 16; (with_reducible refine (idiomlaw01_awake.calls  t284 _ A7.out).mono ?_); rintro e w10 ⟨rfl, hb⟩; replace HB := qn HB hb; (try clear hb); (try clear hb2); (try clear hk); (try clear hi)))
       go_ret
       exact ⟨qe, qh HB⟩
     · rw [if_neg c6] at H
       exact absurd H (by simp)
   · rw [if_neg c5] at H
     exact absurd H (by simp)
 · rw [if_neg c4] at H
   exact absurd H (by simp)

/-- THE ONE PURE STATEMENT of idiomlaw01_RunesUnescapes: yours. -/
def idiomlaw01_RunesUnescapes.Pure : Prop := ∀ (a0 : ByteArray), a0.size ≤ 140737488351232 → ∃ k, idiomlaw01_RunesUnescapes.f k a0 = some true
theorem idiomlaw01_RunesUnescapes.walk (P : idiomlaw01_RunesUnescapes.Pure) (a0 : ByteArray) (w : World) (w0 : a0.size ≤ 140737488351232) :
 Calls Tryd.prog 10 #[.string a0] w fun e w' => e = .returned (.bool true) ∧ Below w.heap.size w w' := by
 obtain ⟨k, h⟩ := P a0 w0
 refine (idiomlaw01_RunesUnescapes.calls k a0 true w h).mono ?_
 rintro e w' ⟨rfl, hd⟩
 exact ⟨rfl, hd⟩

end Go.Proofs.YtigikjihagmokaaDoor.F
set_option linter.unusedVariables false
set_option linter.unusedSimpArgs false
namespace Go.Proofs.YtigikjihagmokaaDoor.RunesAwake
open Go.RowKit Go.Proofs.YtigikjihagmokaaDoorW.PrintWords Go.Proofs.YtigikjihagmokaaDoorW.PrintLast Go.Proofs.YtigikjihagmokaaDoorW.PrintMore Go.Proofs.YtigikjihagmokaaDoor.F
theorem Ev.some {α : Type} {g : Nat → Option α} {r : α} (h : ∀ k, g (k + 1) = some r) : Ev g r := Ev.step (f := fun _ => Option.some r) h (Ev.now r)
theorem w64 {x : Int} (h0 : -9223372036854775808 ≤ x) (h1 : x ≤ 9223372036854775807) : wrap64 x = x := by unfold wrap64; omega
theorem toL (l : Array UInt8) : (⟨l⟩ : ByteArray).toList = l.toList := by rw [ByteArray.toList_eq]
theorem awake : idiomlaw01_awake.f = some true := by
  have p0 : Fill.piece ⟨#[123, 49, 125, 45, 123, 48, 125]⟩ [(⟨#[97]⟩ : ByteArray), ⟨#[98]⟩] 0 = some (⟨#[98]⟩, 3) := by
    unfold Fill.piece
    rw [if_pos (by rw [ByteArray.toList_eq]; rfl)]
    rfl
  have p3 : Fill.piece ⟨#[123, 49, 125, 45, 123, 48, 125]⟩ [(⟨#[97]⟩ : ByteArray), ⟨#[98]⟩] 3 = some (⟨#[45]⟩, 4) := by
    unfold Fill.piece
    rw [if_neg (by rw [ByteArray.toList_eq]; decide)]
    rfl
  have p4 : Fill.piece ⟨#[123, 49, 125, 45, 123, 48, 125]⟩ [(⟨#[97]⟩ : ByteArray), ⟨#[98]⟩] 4 = some (⟨#[97]⟩, 7) := by
    unfold Fill.piece
    rw [if_pos (by rw [ByteArray.toList_eq]; rfl)]
    rfl
  have sz : ((⟨#[123, 49, 125, 45, 123, 48, 125]⟩ : ByteArray).size : Int) = 7 := rfl
  have s1 : ((⟨#[98]⟩ : ByteArray).size : Int) = 1 := rfl
  have s2 : ((⟨#[45]⟩ : ByteArray).size : Int) = 1 := rfl
  have s3 : ((⟨#[97]⟩ : ByteArray).size : Int) = 1 := rfl
  have e : Fill.f ⟨#[123, 49, 125, 45, 123, 48, 125]⟩ [(⟨#[97]⟩ : ByteArray), ⟨#[98]⟩] = (⟨#[98, 45, 97]⟩, 0) := by
    unfold Fill.f
    rw [sz, if_neg (by decide), show (⟨#[123, 49, 125, 45, 123, 48, 125]⟩ : ByteArray).size + 1 = 8 from rfl]
    simp only [Fill.go]
    rw [sz, if_pos (by decide), p0]
    simp only []
    rw [s1, if_neg (by decide), if_pos (by decide), p3]
    simp only []
    rw [s2, if_neg (by decide), if_pos (by decide), p4]
    simp only []
    rw [s3, if_neg (by decide), if_neg (by decide)]
    rfl
  unfold idiomlaw01_awake.f runes_Fill.f
  rw [e, Option.bind_some]
  simp only []
  rw [if_pos (by rw [toL])]
  simp only [if_true]
  unfold runes_Ident.f
  rw [if_pos (by rw [toL])]
  rfl
theorem awake_ev : Ev (fun _ : Nat => idiomlaw01_awake.f.bind fun t => some t) true := by rw [awake]; exact Ev.now _
end Go.Proofs.YtigikjihagmokaaDoor.RunesAwake
set_option linter.unusedVariables false
set_option linter.unusedSimpArgs false
namespace Go.Proofs.YtigikjihagmokaaDoor.Step01
open Go.RowKit Go.Proofs.YtigikjihagmokaaDoorW.PrintWords Go.Proofs.YtigikjihagmokaaDoorW.PrintLast Go.Proofs.YtigikjihagmokaaDoorW.PrintMore Go.Proofs.YtigikjihagmokaaDoor.F Go.Proofs.YtigikjihagmokaaDoor.RunesAwake
theorem bt_nat (s : ByteArray) (i : Nat) (h : i < s.size) : bt s (i : Int) = ((s.get! i).toNat : Int) := by
  have h2 : ((i : Int)).toNat < s.size := by omega
  rw [← bt_at s (i : Int) h2]
  congr 1
  have e : s.get! i = s[i]'h := by
    show s.data[i]! = s.data[i]'h
    exact getElem!_pos s.data i h
  rw [e]
  congr 1
end Go.Proofs.YtigikjihagmokaaDoor.Step01
