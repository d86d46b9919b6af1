/- Part 2 of 3 of the proof of the law RunesBack: it is true at every input. Conditions: those of the given row, no others. -/
import Derived.Test.YtigikjihagmokaaDoorPkRunesBack0
import Derived.Lib.OthersKept
import Derived.Lib.TrimUEq
import Derived.Lib.LaidU8
import Derived.WalkKit
import Derived.BigCall
import Derived.Shelf.Strings.BuilderRune
import Derived.Lib.MapLaws
import Derived.Test.YtigikjihagmokaaDoorProg
import Derived.Below
import Derived.Deep.Draws
import Derived.Deep.AppendLies
import Derived.Maps.AppendAt
import Derived.OwnWalk
import Derived.Laws.BytesArg
import Derived.Laws.MakeOwn
import Derived.Laws.OwnMore
import Derived.Deep.OwnRows
import Derived.Tactics
import Derived.Lib.ConvBytes
import Derived.Laws.Slices
import Derived.KernelRfl
import Derived.RowKit3
import Derived.Deep.LoopGhost
import Derived.Deep.QuietTactic
import Derived.BigQuiet
import Derived.WideLaws
import Derived.Deep.DeepCutAuto
import Derived.Deep.CutBlock
import Derived.Deep.RegionHeld3
import Derived.Laws.Rows
import Derived.Lib.AppendStr
import Derived.ArgAppend
import Derived.Laws.IdiomCopy
import Derived.OrdersHeld
import Derived.Laws.BitsLemmas
import Derived.RowKit
import Derived.Test.YtigikjihagmokaaDoorWWords
import Derived.Test.YtigikjihagmokaaDoorWLast
import Derived.Test.YtigikjihagmokaaDoorWApart
import Derived.Test.YtigikjihagmokaaDoorWKept
import Derived.Laws.StructEq
import Derived.Test.YtigikjihagmokaaDoorWRepsOne
import Derived.Test.YtigikjihagmokaaDoorWMore
namespace Go.Proofs.YtigikjihagmokaaDoor.F
open Go.RowKit Go.Proofs.YtigikjihagmokaaDoorW.PrintWords Go.Proofs.YtigikjihagmokaaDoorW.PrintLast Go.Proofs.YtigikjihagmokaaDoorW.PrintMore Go.Proofs.YtigikjihagmokaaDoor.Q
attribute [local go_sem] max2_int min2_int max_two min_two max_three min_three max_four min_four   -- for this text's walks alone
set_option linter.unusedVariables false
set_option linter.unusedSimpArgs false

mutual
def runes_escaped.j0 : Nat → List Int → ByteArray → Int → Option (List Int × Int)
 | 0, _, _, _ => none
 | k + 1, x0, x1, x6 => if 1 ≤ (x1.size : Int) then ((runes_number.f k (x1.extract 1 x1.size) x6).bind fun bt233 => (if bt233.2 = true then (if x6 > 2 then ((utf8_ValidRune.f k bt233.1).bind fun t235 => (runes_escaped.j1 k x0 x6 bt233.1 (!t235))) else (runes_escaped.j1 k x0 x6 bt233.1 false)) else (runes_escaped.j1 k x0 x6 bt233.1 true))) else (none)
def runes_escaped.j1 : Nat → List Int → Int → Int → Bool → Option (List Int × Int)
 | 0, _, _, _, _ => none
 | k + 1, x0, x6, x7, x48 => if x48 = true then (some (x0, 0)) else (if x6 = 2 then (if x0.length < 140737488355328 then (some ((x0 ++ [(x7) % 256]), 3)) else (none)) else ((utf8_AppendRune.f k x0 x7).bind fun t239 => (some (t239, wrap64 (1 + x6)))))
end
def runes_escaped.f (k : Nat) (l0 : List Int) (a1 : ByteArray) : Option (List Int × Int) := if a1.toList = ([] : List UInt8) then (some (l0, 0)) else (if 0 < (a1.size : Int) then (if (bt a1 0) = 92 then (if l0.length < 140737488355328 then (some ((l0 ++ [92]), 1)) else (none)) else (if (bt a1 0) = 110 then (if l0.length < 140737488355328 then (some ((l0 ++ [10]), 1)) else (none)) else (if (bt a1 0) = 114 then (if l0.length < 140737488355328 then (some ((l0 ++ [13]), 1)) else (none)) else (if (bt a1 0) = 116 then (if l0.length < 140737488355328 then (some ((l0 ++ [9]), 1)) else (none)) else (if (bt a1 0) = 120 then (runes_escaped.j0 k l0 a1 2) else (if (bt a1 0) = 117 then (runes_escaped.j0 k l0 a1 4) else (if (bt a1 0) = 85 then (runes_escaped.j0 k l0 a1 6) else (some (l0, 0))))))))) else (none))
theorem runes_escaped.mono_l : ∀ k, (∀ y0 y1 y2, LeO (runes_escaped.j0 k y0 y1 y2) (runes_escaped.j0 (k + 1) y0 y1 y2)) ∧ (∀ y0 y1 y2 y3, LeO (runes_escaped.j1 k y0 y1 y2 y3) (runes_escaped.j1 (k + 1) y0 y1 y2 y3))
 | 0 => ⟨fun _ _ _ r h => by simp [runes_escaped.j0] at h, fun _ _ _ _ r h => by simp [runes_escaped.j1] at h⟩
 | k + 1 => by
  obtain ⟨ih0, ih1⟩ := runes_escaped.mono_l k
  refine ⟨?_, ?_⟩
  · intro y0 y1 y2
    unfold runes_escaped.j0
    repeat' first
    | (with_reducible exact ih0 _ _ _)
    | (with_reducible exact ih1 _ _ _ _)
    | (with_reducible exact runes_number.mono _ _ _)
    | (with_reducible exact utf8_AppendRune.mono _ _ _)
    | (with_reducible exact utf8_ValidRune.mono _ _)
    | (with_reducible exact LeO.refl _)
    | (with_reducible exact LeO.none _)
    | (with_reducible refine LeO.ite ?_ ?_)
    | (with_reducible refine LeO.bind ?_ (fun _ => ?_))
    | exact ih0 _ _ _
    | exact ih1 _ _ _ _
    | exact runes_number.mono _ _ _
    | exact utf8_AppendRune.mono _ _ _
    | exact utf8_ValidRune.mono _ _
    | exact LeO.none _
    | refine LeO.ite ?_ ?_
    | refine LeO.bind ?_ (fun _ => ?_)
  · intro y0 y1 y2 y3
    unfold runes_escaped.j1
    repeat' first
    | (with_reducible exact ih0 _ _ _)
    | (with_reducible exact ih1 _ _ _ _)
    | (with_reducible exact runes_number.mono _ _ _)
    | (with_reducible exact utf8_AppendRune.mono _ _ _)
    | (with_reducible exact utf8_ValidRune.mono _ _)
    | (with_reducible exact LeO.refl _)
    | (with_reducible exact LeO.none _)
    | (with_reducible refine LeO.ite ?_ ?_)
    | (with_reducible refine LeO.bind ?_ (fun _ => ?_))
    | exact ih0 _ _ _
    | exact ih1 _ _ _ _
    | exact runes_number.mono _ _ _
    | exact utf8_AppendRune.mono _ _ _
    | exact utf8_ValidRune.mono _ _
    | exact LeO.none _
    | refine LeO.ite ?_ ?_
    | refine LeO.bind ?_ (fun _ => ?_)
theorem runes_escaped.mono : ∀ a0 a1 k, LeO (runes_escaped.f k a0 a1) (runes_escaped.f (k + 1) a0 a1) := by
 intro a0 a1 k
 obtain ⟨ih0, ih1⟩ := runes_escaped.mono_l k
 unfold runes_escaped.f
 repeat' first
  | (with_reducible exact ih0 _ _ _)
  | (with_reducible exact ih1 _ _ _ _)
  | (with_reducible exact runes_number.mono _ _ _)
  | (with_reducible exact utf8_AppendRune.mono _ _ _)
  | (with_reducible exact utf8_ValidRune.mono _ _)
  | (with_reducible exact LeO.refl _)
  | (with_reducible exact LeO.none _)
  | (with_reducible refine LeO.ite ?_ ?_)
  | (with_reducible refine LeO.bind ?_ (fun _ => ?_))
  | exact ih0 _ _ _
  | exact ih1 _ _ _ _
  | exact runes_number.mono _ _ _
  | exact utf8_AppendRune.mono _ _ _
  | exact utf8_ValidRune.mono _ _
  | exact LeO.none _
  | refine LeO.ite ?_ ?_
  | refine LeO.bind ?_ (fun _ => ?_)
set_option maxHeartbeats 8000000 in
set_option maxRecDepth 100000 in
theorem runes_escaped.calls (k : Nat) (P0_ : Nat → Prop) (u9000_ : Value) (l0 : List Int) (a1 : ByteArray) (r1 : List Int) (r2 : Int) (w0 w : World) (hB : Below w0.heap.size w0 w) (ho0 : Kd.R (Kd.int .u8) 5 w w0.heap.size P0_ u9000_ l0) (h : runes_escaped.f k l0 a1 = some (r1, r2)) :
 Calls Tryd.prog 45 #[u9000_, .string a1] w fun e w' => ∃ v0_ : Value, e = .returned (.tuple #[v0_, .int .i64 r2]) ∧ Kd.R (Kd.int .u8) 5 w' w0.heap.size (fun k_ => (P0_ k_ ∨ w.heap.size ≤ k_)) v0_ r1 ∧ Below w0.heap.size w0 w' ∧ Kept w w' (fun k_ => P0_ k_) := by
 have HO0 := Aside0.mk (show Kd.R (Kd.int .u8) 5 w w0.heap.size (fun k_ => (P0_ k_ ∨ w.heap.size ≤ k_)) u9000_ l0 from Kd.R_mono ho0 (fun k_ hk => (.inl hk)))
 have HK := Aside0.mk (Kept.refl w (fun k_ => P0_ k_))
 have HW0 := Aside0.mk hB.size
 have HB := Aside0.mk hB
 clear hB
 have H : (if a1.toList = ([] : List UInt8) then (some (l0, 0)) else (if 0 < (a1.size : Int) then (if (bt a1 0) = 92 then (if l0.length < 140737488355328 then (some ((l0 ++ [92]), 1)) else (none)) else (if (bt a1 0) = 110 then (if l0.length < 140737488355328 then (some ((l0 ++ [10]), 1)) else (none)) else (if (bt a1 0) = 114 then (if l0.length < 140737488355328 then (some ((l0 ++ [13]), 1)) else (none)) else (if (bt a1 0) = 116 then (if l0.length < 140737488355328 then (some ((l0 ++ [9]), 1)) else (none)) else (if (bt a1 0) = 120 then (runes_escaped.j0 k l0 a1 2) else (if (bt a1 0) = 117 then (runes_escaped.j0 k l0 a1 4) else (if (bt a1 0) = 85 then (runes_escaped.j0 k l0 a1 6) else (some (l0, 0))))))))) else (none))) = some (r1, r2) := h
 clear h
 by_cases c3 : a1.toList = ([] : List UInt8)
 · rw [if_pos c3] at H
   have c3b0 : (a1.toList == ([] : List UInt8)) = true := beq_iff_eq.mpr c3
   try have c3b0z := Aid.empty_of c3b0
   have c3b1 : (a1.toList != ([] : List UInt8)) = false := bne_eq_false_iff_eq.mpr c3
   clear c3
   simp only [Option.some.injEq, Prod.mk.injEq] at H
   obtain ⟨rfl, rfl⟩ := H
   go_enter Tryd.func45, Tryd.ntmps45
   go_wp2
   go_ret2
   exact ⟨_, by first | rfl | (simp [errW_none, errW_some] <;> rfl) | (simp [*, errW_none, errW_some] <;> rfl), by (with_reducible repeat (first | apply Kd.R_alloc | apply Kd.R_drewN | apply Kd.R_drew)); exact HO0.out, qh HB, by repeat (first | (with_reducible first | exact HK.out | apply Kept.alloc | apply Kept.drewN | apply Kept.drew) | exact HK.out)⟩
 · rw [if_neg c3] at H
   have c3b0 : (a1.toList == ([] : List UInt8)) = false := beq_eq_false_iff_ne.mpr c3
   try have c3b0z := Aid.empty_of c3b0
   have c3b1 : (a1.toList != ([] : List UInt8)) = true := bne_iff_ne.mpr c3
   by_cases c4 : 0 < (a1.size : Int)
   · rw [if_pos c4] at H
     have c4b0 : decide (0 < (a1.size : Int)) = true := decide_eq_true c4
     have c4b1 : decide (0 < a1.size) = true := decide_eq_true (by omega)
     clear c4
     have HC6 := Aside0.mk H
     clear H
     have p5 : 0 ≤ (0 : Int) := (by omega)
     have q5 : 0 < a1.size := (by have : (0 : Int) < (a1.size : Int) := of_decide_eq_true qa; omega)
     have hx5 : ∀ h : 0 < a1.size, ((a1[0]'h).toNat : Int) = bt a1 0 := bt_at a1 0
     clear p5
     have qi5 : (0 < (a1.size : Int)) = True := eq_true (of_decide_eq_true qa)
     replace q5 := eq_true q5
     go_enter Tryd.func45, Tryd.ntmps45
     go_upto_block 0 with (fail)
     go_cut [6] (fun v6 wc => ∃ (kq : Nat) (x6_5 : Int), v6 = .int .i64 x6_5 ∧ Aside0 (runes_escaped.j0 kq l0 a1 x6_5 = some (r1, r2)) ∧ Aside0 (kq ≤ k) ∧ Aside0 (Kd.R (Kd.int .u8) 5 wc w0.heap.size (fun k_ => (P0_ k_ ∨ w.heap.size ≤ k_)) u9000_ l0) ∧ Aside0 (Kept w wc (fun k_ => P0_ k_)) ∧ Aside0 (Below w0.heap.size w0 wc))
     case first =>
      have H := HC6.out
      clear HC6
      by_cases c7 : (bt a1 0) = 92
      · rw [if_pos c7] at H
        have c7b0 : ((bt a1 0) == 92) = true := beq_iff_eq.mpr c7
        have c7b1 : ((bt a1 0) != 92) = false := bne_eq_false_iff_eq.mpr c7
        clear c7
        (first | rw [c7b0] | (simp only [i64_w, i32_w]; rw [c7b0]) | skip)
        by_cases c8 : l0.length < 140737488355328
        · rw [if_pos c8] at H
          have LMc8 := Aside0.mk c8
          clear c8
          obtain ⟨y221, hy221⟩ : ∃ y_ : List Int, y_ = (l0 ++ [92]) := ⟨_, rfl⟩
          replace H : (some (y221, 1)) = some (r1, r2) := by first | (rw [hy221]; with_reducible exact H) | (have H2_ := (Option.bind_some _ _).symm.trans H; rw [hy221]; with_reducible exact H2_) | (have H2_ := (Option.bind_some _ _).symm.trans H; with_reducible exact H2_) | with_reducible exact H | (rw [hy221]; exact H) | exact H
          have Ny221 := Aside0.mk hy221
          clear hy221
          simp only [Option.some.injEq, Prod.mk.injEq] at H
          obtain ⟨rfl, rfl⟩ := H
          go_wp2_with (first | ((with_reducible refine gate_builtin (b := .append) (xs := #[.tmp 17, .tmp 18]) rfl ?_); at_builtin; refine Kd.R_append (Kd.int .u8) (w0 := w0) w0.heap.size rfl (.tmp 17) (.tmp 18) 41 5 (.int .u8 0) 1 rfl Tryd.underlying41 info5 rfl (by decide) (by omega) u9000_ l0 92 [.int .u8 92] (fun k_ => (P0_ k_ ∨ w.heap.size ≤ k_)) (fun _ => False) rfl rfl ?aP (fun _ hk => hk.elim) ?aF ?aO ?aB ?aS ?aL ?_; (case aP => exact rfl); (case aB => exact (qh HB)); (case aF => exact (fun k_ hk => (.inr (Nat.le_trans (by first | exact HK.out.1 | exact (show Kept w _ (fun k_ => P0_ k_) from by repeat (first | (with_reducible first | exact HK.out | apply Kept.alloc | apply Kept.drewN | apply Kept.drew) | exact HK.out)).1) hk)))); (case aO => exact (by (with_reducible repeat (first | apply Kd.R_alloc | apply Kd.R_drewN | apply Kd.R_drew)); exact HO0.out)); (case aS => exact (below_size (qh HB))); (case aL => have := LMc8.out; omega); intro v222 w9 ho hb hg hat; rw [← Ny221.out] at ho; have n0_ := Aside0.mk (hb); have n1_ := Aside0.mk (Kept.of_grown (S := (fun k_ => P0_ k_)) hg (by repeat (first | (with_reducible first | exact HK.out | apply Kept.alloc | apply Kept.drewN | apply Kept.drew) | exact HK.out)) (fun k_ e_ => (HO0.out.1 k_ e_))); have n2_ := Aside0.mk (ho); clear HB; clear HK; clear HO0; have HB := n0_; have HK := n1_; have HO223 := n2_; clear n0_ n1_ n2_; clear ho hb hg hat))
          go_ret2
          exact ⟨_, by first | rfl | (simp [errW_none, errW_some] <;> rfl) | (simp [*, errW_none, errW_some] <;> rfl), by (with_reducible repeat (first | apply Kd.R_alloc | apply Kd.R_drewN | apply Kd.R_drew)); exact HO223.out, qh HB, by repeat (first | (with_reducible first | exact HK.out | apply Kept.alloc | apply Kept.drewN | apply Kept.drew) | exact HK.out)⟩
        · rw [if_neg c8] at H
          exact absurd H (by simp)
      · rw [if_neg c7] at H
        have c7b0 : ((bt a1 0) == 92) = false := beq_eq_false_iff_ne.mpr c7
        have c7b1 : ((bt a1 0) != 92) = true := bne_iff_ne.mpr c7
        (first | rw [c7b0] | (simp only [i64_w, i32_w]; rw [c7b0]) | skip)
        by_cases c10 : (bt a1 0) = 110
        · rw [if_pos c10] at H
          have c10b0 : ((bt a1 0) == 110) = true := beq_iff_eq.mpr c10
          have c10b1 : ((bt a1 0) != 110) = false := bne_eq_false_iff_eq.mpr c10
          clear c10
          by_cases c11 : l0.length < 140737488355328
          · rw [if_pos c11] at H
            have LMc11 := Aside0.mk c11
            clear c11
            obtain ⟨y224, hy224⟩ : ∃ y_ : List Int, y_ = (l0 ++ [10]) := ⟨_, rfl⟩
            replace H : (some (y224, 1)) = some (r1, r2) := by first | (rw [hy224]; with_reducible exact H) | (have H2_ := (Option.bind_some _ _).symm.trans H; rw [hy224]; with_reducible exact H2_) | (have H2_ := (Option.bind_some _ _).symm.trans H; with_reducible exact H2_) | with_reducible exact H | (rw [hy224]; exact H) | exact H
            have Ny224 := Aside0.mk hy224
            clear hy224
            simp only [Option.some.injEq, Prod.mk.injEq] at H
            obtain ⟨rfl, rfl⟩ := H
            go_wp2_with (first | ((with_reducible refine gate_builtin (b := .append) (xs := #[.tmp 22, .tmp 23]) rfl ?_); at_builtin; refine Kd.R_append (Kd.int .u8) (w0 := w0) w0.heap.size rfl (.tmp 22) (.tmp 23) 41 5 (.int .u8 0) 1 rfl Tryd.underlying41 info5 rfl (by decide) (by omega) u9000_ l0 10 [.int .u8 10] (fun k_ => (P0_ k_ ∨ w.heap.size ≤ k_)) (fun _ => False) rfl rfl ?aP (fun _ hk => hk.elim) ?aF ?aO ?aB ?aS ?aL ?_; (case aP => exact rfl); (case aB => exact (qh HB)); (case aF => exact (fun k_ hk => (.inr (Nat.le_trans (by first | exact HK.out.1 | exact (show Kept w _ (fun k_ => P0_ k_) from by repeat (first | (with_reducible first | exact HK.out | apply Kept.alloc | apply Kept.drewN | apply Kept.drew) | exact HK.out)).1) hk)))); (case aO => exact (by (with_reducible repeat (first | apply Kd.R_alloc | apply Kd.R_drewN | apply Kd.R_drew)); exact HO0.out)); (case aS => exact (below_size (qh HB))); (case aL => have := LMc11.out; omega); intro v225 w12 ho hb hg hat; rw [← Ny224.out] at ho; have n0_ := Aside0.mk (hb); have n1_ := Aside0.mk (Kept.of_grown (S := (fun k_ => P0_ k_)) hg (by repeat (first | (with_reducible first | exact HK.out | apply Kept.alloc | apply Kept.drewN | apply Kept.drew) | exact HK.out)) (fun k_ e_ => (HO0.out.1 k_ e_))); have n2_ := Aside0.mk (ho); clear HB; clear HK; clear HO0; have HB := n0_; have HK := n1_; have HO226 := n2_; clear n0_ n1_ n2_; clear ho hb hg hat))
            go_ret2
            exact ⟨_, by first | rfl | (simp [errW_none, errW_some] <;> rfl) | (simp [*, errW_none, errW_some] <;> rfl), by (with_reducible repeat (first | apply Kd.R_alloc | apply Kd.R_drewN | apply Kd.R_drew)); exact HO226.out, qh HB, by repeat (first | (with_reducible first | exact HK.out | apply Kept.alloc | apply Kept.drewN | apply Kept.drew) | exact HK.out)⟩
          · rw [if_neg c11] at H
            exact absurd H (by simp)
        · rw [if_neg c10] at H
          have c10b0 : ((bt a1 0) == 110) = false := beq_eq_false_iff_ne.mpr c10
          have c10b1 : ((bt a1 0) != 110) = true := bne_iff_ne.mpr c10
          by_cases c13 : (bt a1 0) = 114
          · rw [if_pos c13] at H
            have c13b0 : ((bt a1 0) == 114) = true := beq_iff_eq.mpr c13
            have c13b1 : ((bt a1 0) != 114) = false := bne_eq_false_iff_eq.mpr c13
            clear c13
            by_cases c14 : l0.length < 140737488355328
            · rw [if_pos c14] at H
              have LMc14 := Aside0.mk c14
              clear c14
              obtain ⟨y227, hy227⟩ : ∃ y_ : List Int, y_ = (l0 ++ [13]) := ⟨_, rfl⟩
              replace H : (some (y227, 1)) = some (r1, r2) := by first | (rw [hy227]; with_reducible exact H) | (have H2_ := (Option.bind_some _ _).symm.trans H; rw [hy227]; with_reducible exact H2_) | (have H2_ := (Option.bind_some _ _).symm.trans H; with_reducible exact H2_) | with_reducible exact H | (rw [hy227]; exact H) | exact H
              have Ny227 := Aside0.mk hy227
              clear hy227
              simp only [Option.some.injEq, Prod.mk.injEq] at H
              obtain ⟨rfl, rfl⟩ := H
              go_wp2_with (first | ((with_reducible refine gate_builtin (b := .append) (xs := #[.tmp 27, .tmp 28]) rfl ?_); at_builtin; refine Kd.R_append (Kd.int .u8) (w0 := w0) w0.heap.size rfl (.tmp 27) (.tmp 28) 41 5 (.int .u8 0) 1 rfl Tryd.underlying41 info5 rfl (by decide) (by omega) u9000_ l0 13 [.int .u8 13] (fun k_ => (P0_ k_ ∨ w.heap.size ≤ k_)) (fun _ => False) rfl rfl ?aP (fun _ hk => hk.elim) ?aF ?aO ?aB ?aS ?aL ?_; (case aP => exact rfl); (case aB => exact (qh HB)); (case aF => exact (fun k_ hk => (.inr (Nat.le_trans (by first | exact HK.out.1 | exact (show Kept w _ (fun k_ => P0_ k_) from by repeat (first | (with_reducible first | exact HK.out | apply Kept.alloc | apply Kept.drewN | apply Kept.drew) | exact HK.out)).1) hk)))); (case aO => exact (by (with_reducible repeat (first | apply Kd.R_alloc | apply Kd.R_drewN | apply Kd.R_drew)); exact HO0.out)); (case aS => exact (below_size (qh HB))); (case aL => have := LMc14.out; omega); intro v228 w15 ho hb hg hat; rw [← Ny227.out] at ho; have n0_ := Aside0.mk (hb); have n1_ := Aside0.mk (Kept.of_grown (S := (fun k_ => P0_ k_)) hg (by repeat (first | (with_reducible first | exact HK.out | apply Kept.alloc | apply Kept.drewN | apply Kept.drew) | exact HK.out)) (fun k_ e_ => (HO0.out.1 k_ e_))); have n2_ := Aside0.mk (ho); clear HB; clear HK; clear HO0; have HB := n0_; have HK := n1_; have HO229 := n2_; clear n0_ n1_ n2_; clear ho hb hg hat))
              go_ret2
              exact ⟨_, by first | rfl | (simp [errW_none, errW_some] <;> rfl) | (simp [*, errW_none, errW_some] <;> rfl), by (with_reducible repeat (first | apply Kd.R_alloc | apply Kd.R_drewN | apply Kd.R_drew)); exact HO229.out, qh HB, by repeat (first | (with_reducible first | exact HK.out | apply Kept.alloc | apply Kept.drewN | apply Kept.drew) | exact HK.out)⟩
            · rw [if_neg c14] at H
              exact absurd H (by simp)
          · rw [if_neg c13] at H
            have c13b0 : ((bt a1 0) == 114) = false := beq_eq_false_iff_ne.mpr c13
            have c13b1 : ((bt a1 0) != 114) = true := bne_iff_ne.mpr c13
            by_cases c16 : (bt a1 0) = 116
            · rw [if_pos c16] at H
              have c16b0 : ((bt a1 0) == 116) = true := beq_iff_eq.mpr c16
              have c16b1 : ((bt a1 0) != 116) = false := bne_eq_false_iff_eq.mpr c16
              clear c16
              by_cases c17 : l0.length < 140737488355328
              · rw [if_pos c17] at H
                have LMc17 := Aside0.mk c17
                clear c17
                obtain ⟨y230, hy230⟩ : ∃ y_ : List Int, y_ = (l0 ++ [9]) := ⟨_, rfl⟩
                replace H : (some (y230, 1)) = some (r1, r2) := by first | (rw [hy230]; with_reducible exact H) | (have H2_ := (Option.bind_some _ _).symm.trans H; rw [hy230]; with_reducible exact H2_) | (have H2_ := (Option.bind_some _ _).symm.trans H; with_reducible exact H2_) | with_reducible exact H | (rw [hy230]; exact H) | exact H
                have Ny230 := Aside0.mk hy230
                clear hy230
                simp only [Option.some.injEq, Prod.mk.injEq] at H
                obtain ⟨rfl, rfl⟩ := H
                go_wp2_with (first | ((with_reducible refine gate_builtin (b := .append) (xs := #[.tmp 32, .tmp 33]) rfl ?_); at_builtin; refine Kd.R_append (Kd.int .u8) (w0 := w0) w0.heap.size rfl (.tmp 32) (.tmp 33) 41 5 (.int .u8 0) 1 rfl Tryd.underlying41 info5 rfl (by decide) (by omega) u9000_ l0 9 [.int .u8 9] (fun k_ => (P0_ k_ ∨ w.heap.size ≤ k_)) (fun _ => False) rfl rfl ?aP (fun _ hk => hk.elim) ?aF ?aO ?aB ?aS ?aL ?_; (case aP => exact rfl); (case aB => exact (qh HB)); (case aF => exact (fun k_ hk => (.inr (Nat.le_trans (by first | exact HK.out.1 | exact (show Kept w _ (fun k_ => P0_ k_) from by repeat (first | (with_reducible first | exact HK.out | apply Kept.alloc | apply Kept.drewN | apply Kept.drew) | exact HK.out)).1) hk)))); (case aO => exact (by (with_reducible repeat (first | apply Kd.R_alloc | apply Kd.R_drewN | apply Kd.R_drew)); exact HO0.out)); (case aS => exact (below_size (qh HB))); (case aL => have := LMc17.out; omega); intro v231 w18 ho hb hg hat; rw [← Ny230.out] at ho; have n0_ := Aside0.mk (hb); have n1_ := Aside0.mk (Kept.of_grown (S := (fun k_ => P0_ k_)) hg (by repeat (first | (with_reducible first | exact HK.out | apply Kept.alloc | apply Kept.drewN | apply Kept.drew) | exact HK.out)) (fun k_ e_ => (HO0.out.1 k_ e_))); have n2_ := Aside0.mk (ho); clear HB; clear HK; clear HO0; have HB := n0_; have HK := n1_; have HO232 := n2_; clear n0_ n1_ n2_; clear ho hb hg hat))
                go_ret2
                exact ⟨_, by first | rfl | (simp [errW_none, errW_some] <;> rfl) | (simp [*, errW_none, errW_some] <;> rfl), by (with_reducible repeat (first | apply Kd.R_alloc | apply Kd.R_drewN | apply Kd.R_drew)); exact HO232.out, qh HB, by repeat (first | (with_reducible first | exact HK.out | apply Kept.alloc | apply Kept.drewN | apply Kept.drew) | exact HK.out)⟩
              · rw [if_neg c17] at H
                exact absurd H (by simp)
            · rw [if_neg c16] at H
              have c16b0 : ((bt a1 0) == 116) = false := beq_eq_false_iff_ne.mpr c16
              have c16b1 : ((bt a1 0) != 116) = true := bne_iff_ne.mpr c16
              by_cases c19 : (bt a1 0) = 120
              · rw [if_pos c19] at H
                have c19b0 : ((bt a1 0) == 120) = true := beq_iff_eq.mpr c19
                have c19b1 : ((bt a1 0) != 120) = false := bne_eq_false_iff_eq.mpr c19
                clear c19
                have H' := Aside0.mk H
                clear H
                go_wp2
                go_meet
                case rel => exact ⟨_, (2), (by first | rfl | (simp; done) | (simp [*]; done)), H', ⟨by first | omega | exact Nat.le_refl _⟩, ⟨by (with_reducible repeat (first | apply Kd.R_alloc | apply Kd.R_drewN | apply Kd.R_drew)); exact HO0.out⟩, ⟨by repeat (first | (with_reducible first | exact HK.out | apply Kept.alloc | apply Kept.drewN | apply Kept.drew) | exact HK.out)⟩, ⟨qh HB⟩⟩
              · rw [if_neg c19] at H
                have c19b0 : ((bt a1 0) == 120) = false := beq_eq_false_iff_ne.mpr c19
                have c19b1 : ((bt a1 0) != 120) = true := bne_iff_ne.mpr c19
                by_cases c20 : (bt a1 0) = 117
                · rw [if_pos c20] at H
                  have c20b0 : ((bt a1 0) == 117) = true := beq_iff_eq.mpr c20
                  have c20b1 : ((bt a1 0) != 117) = false := bne_eq_false_iff_eq.mpr c20
                  clear c20
                  have H' := Aside0.mk H
                  clear H
                  go_wp2
                  go_meet
                  case rel => exact ⟨_, (4), (by first | rfl | (simp; done) | (simp [*]; done)), H', ⟨by first | omega | exact Nat.le_refl _⟩, ⟨by (with_reducible repeat (first | apply Kd.R_alloc | apply Kd.R_drewN | apply Kd.R_drew)); exact HO0.out⟩, ⟨by repeat (first | (with_reducible first | exact HK.out | apply Kept.alloc | apply Kept.drewN | apply Kept.drew) | exact HK.out)⟩, ⟨qh HB⟩⟩
                · rw [if_neg c20] at H
                  have c20b0 : ((bt a1 0) == 117) = false := beq_eq_false_iff_ne.mpr c20
                  have c20b1 : ((bt a1 0) != 117) = true := bne_iff_ne.mpr c20
                  by_cases c21 : (bt a1 0) = 85
                  · rw [if_pos c21] at H
                    have c21b0 : ((bt a1 0) == 85) = true := beq_iff_eq.mpr c21
                    have c21b1 : ((bt a1 0) != 85) = false := bne_eq_false_iff_eq.mpr c21
                    clear c21
                    have H' := Aside0.mk H
                    clear H
                    go_wp2
                    go_meet
                    case rel => exact ⟨_, (6), (by first | rfl | (simp; done) | (simp [*]; done)), H', ⟨by first | omega | exact Nat.le_refl _⟩, ⟨by (with_reducible repeat (first | apply Kd.R_alloc | apply Kd.R_drewN | apply Kd.R_drew)); exact HO0.out⟩, ⟨by repeat (first | (with_reducible first | exact HK.out | apply Kept.alloc | apply Kept.drewN | apply Kept.drew) | exact HK.out)⟩, ⟨qh HB⟩⟩
                  · rw [if_neg c21] at H
                    have c21b0 : ((bt a1 0) == 85) = false := beq_eq_false_iff_ne.mpr c21
                    have c21b1 : ((bt a1 0) != 85) = true := bne_iff_ne.mpr c21
                    simp only [Option.some.injEq, Prod.mk.injEq] at H
                    obtain ⟨rfl, rfl⟩ := H
                    go_wp2
                    go_ret2
                    exact ⟨_, by first | rfl | (simp [errW_none, errW_some] <;> rfl) | (simp [*, errW_none, errW_some] <;> rfl), by (with_reducible repeat (first | apply Kd.R_alloc | apply Kd.R_drewN | apply Kd.R_drew)); exact HO0.out, qh HB, by repeat (first | (with_reducible first | exact HK.out | apply Kept.alloc | apply Kept.drewN | apply Kept.drew) | exact HK.out)⟩
     case rest =>
      clear HC6
      try clear c1
      try clear c2
      try clear p2
      try clear c3
      try clear c3b0
      try clear c3b1
      try clear c4
      try clear c4b0
      try clear c4b1
      try clear p5
      try clear q5
      try clear hx5
      try clear qi5
      try clear c7
      try clear c7b0
      try clear c7b1
      try clear c8
      try clear c10
      try clear c10b0
      try clear c10b1
      try clear c11
      try clear c13
      try clear c13b0
      try clear c13b1
      try clear c14
      try clear c16
      try clear c16b0
      try clear c16b1
      try clear c17
      try clear c19
      try clear c19b0
      try clear c19b1
      try clear c20
      try clear c20b0
      try clear c20b1
      try clear c21
      try clear c21b0
      try clear c21b1
      try clear p5
      try clear q5
      obtain ⟨kq, x6_5, rfl, HA, HJ5, HO_0, HK, HB⟩ := hcut
      cases kq with
      | zero => exact absurd HA.out (by simp [runes_escaped.j0])
      | succ kj5 =>
       have H := HA.out
       clear HA
       simp only [runes_escaped.j0] at H
       by_cases c22 : 1 ≤ (a1.size : Int)
       · rw [if_pos c22] at H
         have c22b0 := eq_true c22
         have c22b1 : decide (1 ≤ (a1.size : Int)) = true := decide_eq_true c22
         clear c22
         replace H := Option.bind_eq_some_iff.mp H
         obtain ⟨⟨t233, t234⟩, A230, H⟩ := H
         replace H : (if t234 = true then (if x6_5 > 2 then ((utf8_ValidRune.f kj5 t233).bind fun t235 => (runes_escaped.j1 kj5 l0 x6_5 t233 (!t235))) else (runes_escaped.j1 kj5 l0 x6_5 t233 false)) else (runes_escaped.j1 kj5 l0 x6_5 t233 true)) = some (r1, r2) := H
         have A23 := Aside0.mk A230
         clear A230
         have HC24 := Aside0.mk H
         clear H
         go_upto_region 20 with (first | ((with_reducible refine gate_callee (f := 52) rfl ?_); refine goesL_ (some 45) rfl rfl Tryd.func52 (by kernel_rfl) rfl #[.string (a1.extract 1 a1.size), .int .i64 x6_5] rfl ql ?_; (with_reducible refine (runes_number.calls kj5 (a1.extract 1 a1.size) x6_5 t233 t234 _ A23.out).mono ?_); rintro e w' ⟨rfl, ⟨nd, rfl⟩⟩; refine ⟨_, rfl, ?_⟩))
         (try simp only [Act.put, List.setIfInBounds_toArray, List.set_cons_zero, List.set_cons_succ])
         go_cut [48] (fun v48 wc => ∃ (kq : Nat) (x48_23 : Bool), v48 = .bool x48_23 ∧ Aside0 (runes_escaped.j1 kq l0 x6_5 t233 x48_23 = some (r1, r2)) ∧ Aside0 (kq ≤ kj5) ∧ Aside0 (Kd.R (Kd.int .u8) 5 wc w0.heap.size (fun k_ => (P0_ k_ ∨ w.heap.size ≤ k_)) u9000_ l0) ∧ Aside0 (Kept w wc (fun k_ => P0_ k_)) ∧ Aside0 (Below w0.heap.size w0 wc))
         case first =>
          have H := HC24.out
          clear HC24
          by_cases c25 : t234 = true
          · subst c25
            have H1 : (if x6_5 > 2 then ((utf8_ValidRune.f kj5 t233).bind fun t235 => (runes_escaped.j1 kj5 l0 x6_5 t233 (!t235))) else (runes_escaped.j1 kj5 l0 x6_5 t233 false)) = some (r1, r2) := by rw [if_pos rfl] at H; exact H
            clear H
            have H := H1
            clear H1
            by_cases c26 : x6_5 > 2
            · rw [if_pos c26] at H
              have c26b0 : decide (2 < x6_5) = true := decide_eq_true c26
              clear c26
              (first | rw [c26b0] | (simp only [i64_w, i32_w]; rw [c26b0]) | skip)
              replace H := Option.bind_eq_some_iff.mp H
              obtain ⟨t235, A270, H⟩ := H
              replace H : (runes_escaped.j1 kj5 l0 x6_5 t233 (!t235)) = some (r1, r2) := H
              have A27 := Aside0.mk A270
              clear A270
              have H' := Aside0.mk H
              clear H
              go_wp2_with (first | (go_at_call 53; (with_reducible refine (utf8_ValidRune.calls kj5 t233 t235 _ A27.out).mono ?_); rintro e w' ⟨rfl, ⟨nd, rfl⟩⟩))
              go_meet
              case rel => exact ⟨_, (!t235), (by first | rfl | (simp; done) | (simp [*]; done)), H', ⟨by have := HJ5.out; first | omega | exact Nat.le_refl _⟩, ⟨by (with_reducible repeat (first | apply Kd.R_alloc | apply Kd.R_drewN | apply Kd.R_drew)); exact HO_0.out⟩, ⟨by repeat (first | (with_reducible first | exact HK.out | apply Kept.alloc | apply Kept.drewN | apply Kept.drew) | exact HK.out)⟩, ⟨qh HB⟩⟩
            · rw [if_neg c26] at H
              have c26b0 : decide (2 < x6_5) = false := decide_eq_false c26
              clear c26
              (first | rw [c26b0] | (simp only [i64_w, i32_w]; rw [c26b0]) | skip)
              have H' := Aside0.mk H
              clear H
              go_wp2
              go_meet
              case rel => exact ⟨_, (false), (by first | rfl | (simp; done) | (simp [*]; done)), H', ⟨by have := HJ5.out; first | omega | exact Nat.le_refl _⟩, ⟨by (with_reducible repeat (first | apply Kd.R_alloc | apply Kd.R_drewN | apply Kd.R_drew)); exact HO_0.out⟩, ⟨by repeat (first | (with_reducible first | exact HK.out | apply Kept.alloc | apply Kept.drewN | apply Kept.drew) | exact HK.out)⟩, ⟨qh HB⟩⟩
          · replace c25 := Bool.eq_false_iff.mpr c25
            subst c25
            have H1 : (runes_escaped.j1 kj5 l0 x6_5 t233 true) = some (r1, r2) := by rw [if_neg (show ¬ (false = true) by decide)] at H; exact H
            clear H
            have H := H1
            clear H1
            have H' := Aside0.mk H
            clear H
            go_wp2
            go_meet
            case rel => exact ⟨_, (true), (by first | rfl | (simp; done) | (simp [*]; done)), H', ⟨by have := HJ5.out; first | omega | exact Nat.le_refl _⟩, ⟨by (with_reducible repeat (first | apply Kd.R_alloc | apply Kd.R_drewN | apply Kd.R_drew)); exact HO_0.out⟩, ⟨by repeat (first | (with_reducible first | exact HK.out | apply Kept.alloc | apply Kept.drewN | apply Kept.drew) | exact HK.out)⟩, ⟨qh HB⟩⟩
         case rest =>
          clear HC24
          try clear c1
          try clear c2
          try clear p2
          try clear c3
          try clear c3b0
          try clear c3b1
          try clear c4
          try clear c4b0
          try clear c4b1
          try clear c5
          try clear p5
          try clear q5
          try clear hx5
          try clear qi5
          try clear c7
          try clear c7b0
          try clear c7b1
          try clear c8
          try clear c10
          try clear c10b0
          try clear c10b1
          try clear c11
          try clear c13
          try clear c13b0
          try clear c13b1
          try clear c14
          try clear c16
          try clear c16b0
          try clear c16b1
          try clear c17
          try clear c19
          try clear c19b0
          try clear c19b1
          try clear c20
          try clear c20b0
          try clear c20b1
          try clear c21
          try clear c21b0
          try clear c21b1
          try clear c22
          try clear c22b0
          try clear c22b1
          try clear c25
          try clear c26
          try clear c26b0
          try clear p2
          try clear p5
          try clear q5
          obtain ⟨kq, x48_23, rfl, HA, HJ23, HO_0, HK, HB⟩ := hcut
          cases kq with
          | zero => exact absurd HA.out (by simp [runes_escaped.j1])
          | succ kj23 =>
           have H := HA.out
           clear HA
           simp only [runes_escaped.j1] at H
           by_cases c28 : x48_23 = true
           · subst c28
             have H1 : (some (l0, 0)) = some (r1, r2) := by rw [if_pos rfl] at H; exact H
             clear H
             have H := H1
             clear H1
             simp only [Option.some.injEq, Prod.mk.injEq] at H
             obtain ⟨rfl, rfl⟩ := H
             go_wp2
             go_ret2
             exact ⟨_, by first | rfl | (simp [errW_none, errW_some] <;> rfl) | (simp [*, errW_none, errW_some] <;> rfl), by (with_reducible repeat (first | apply Kd.R_alloc | apply Kd.R_drewN | apply Kd.R_drew)); exact HO_0.out, qh HB, by repeat (first | (with_reducible first | exact HK.out | apply Kept.alloc | apply Kept.drewN | apply Kept.drew) | exact HK.out)⟩
           · replace c28 := Bool.eq_false_iff.mpr c28
             subst c28
             have H1 : (if x6_5 = 2 then (if l0.length < 140737488355328 then (some ((l0 ++ [(t233) % 256]), 3)) else (none)) else ((utf8_AppendRune.f kj23 l0 t233).bind fun t239 => (some (t239, wrap64 (1 + x6_5))))) = some (r1, r2) := by rw [if_neg (show ¬ (false = true) by decide)] at H; exact H
             clear H
             have H := H1
             clear H1
             by_cases c29 : x6_5 = 2
             · rw [if_pos c29] at H
               have c29b0 : (x6_5 == 2) = true := beq_iff_eq.mpr c29
               have c29b1 : (x6_5 != 2) = false := bne_eq_false_iff_eq.mpr c29
               try have c29b1z := c29b1
               (try simp only [bne] at c29b1z)
               clear c29
               by_cases c30 : l0.length < 140737488355328
               · rw [if_pos c30] at H
                 have LMc30 := Aside0.mk c30
                 clear c30
                 obtain ⟨y236, hy236⟩ : ∃ y_ : List Int, y_ = (l0 ++ [(t233) % 256]) := ⟨_, rfl⟩
                 replace H : (some (y236, 3)) = some (r1, r2) := by first | (rw [hy236]; with_reducible exact H) | (have H2_ := (Option.bind_some _ _).symm.trans H; rw [hy236]; with_reducible exact H2_) | (have H2_ := (Option.bind_some _ _).symm.trans H; with_reducible exact H2_) | with_reducible exact H | (rw [hy236]; exact H) | exact H
                 have Ny236 := Aside0.mk hy236
                 clear hy236
                 simp only [Option.some.injEq, Prod.mk.injEq] at H
                 obtain ⟨rfl, rfl⟩ := H
                 go_wp2_with (first | ((with_reducible refine gate_builtin (b := .append) (xs := #[.tmp 64, .tmp 67]) rfl ?_); at_builtin; refine Kd.R_append (Kd.int .u8) (w0 := w0) w0.heap.size rfl (.tmp 64) (.tmp 67) 41 5 (.int .u8 0) 1 rfl Tryd.underlying41 info5 rfl (by decide) (by omega) u9000_ l0 ((t233) % 256) [.int .u8 ((t233) % 256)] (fun k_ => (P0_ k_ ∨ w.heap.size ≤ k_)) (fun _ => False) rfl rfl ?aP (fun _ hk => hk.elim) ?aF ?aO ?aB ?aS ?aL ?_; (case aP => exact rfl); (case aB => exact (qh HB)); (case aF => exact (fun k_ hk => (.inr (Nat.le_trans (by first | exact HK.out.1 | exact (show Kept w _ (fun k_ => P0_ k_) from by repeat (first | (with_reducible first | exact HK.out | apply Kept.alloc | apply Kept.drewN | apply Kept.drew) | exact HK.out)).1) hk)))); (case aO => exact (by (with_reducible repeat (first | apply Kd.R_alloc | apply Kd.R_drewN | apply Kd.R_drew)); exact HO_0.out)); (case aS => exact (below_size (qh HB))); (case aL => have := LMc30.out; omega); intro v237 w31 ho hb hg hat; rw [← Ny236.out] at ho; have n0_ := Aside0.mk (hb); have n1_ := Aside0.mk (Kept.of_grown (S := (fun k_ => P0_ k_)) hg (by repeat (first | (with_reducible first | exact HK.out | apply Kept.alloc | apply Kept.drewN | apply Kept.drew) | exact HK.out)) (fun k_ e_ => (HO_0.out.1 k_ e_))); have n2_ := Aside0.mk (ho); clear HB; clear HK; clear HO_0; have HB := n0_; have HK := n1_; have HO238 := n2_; clear n0_ n1_ n2_; clear ho hb hg hat))
                 go_ret2
                 exact ⟨_, by first | rfl | (simp [errW_none, errW_some] <;> rfl) | (simp [*, errW_none, errW_some] <;> rfl), by (with_reducible repeat (first | apply Kd.R_alloc | apply Kd.R_drewN | apply Kd.R_drew)); exact HO238.out, qh HB, by repeat (first | (with_reducible first | exact HK.out | apply Kept.alloc | apply Kept.drewN | apply Kept.drew) | exact HK.out)⟩
               · rw [if_neg c30] at H
                 exact absurd H (by simp)
             · rw [if_neg c29] at H
               have c29b0 : (x6_5 == 2) = false := beq_eq_false_iff_ne.mpr c29
               have c29b1 : (x6_5 != 2) = true := bne_iff_ne.mpr c29
               try have c29b1z := c29b1
               (try simp only [bne] at c29b1z)
               replace H := Option.bind_eq_some_iff.mp H
               obtain ⟨t239, A320, H⟩ := H
               replace H : (some (t239, wrap64 (1 + x6_5))) = some (r1, r2) := H
               have A32 := Aside0.mk A320
               clear A320
               simp only [Option.some.injEq, Prod.mk.injEq] at H
               obtain ⟨rfl, rfl⟩ := H
               obtain ⟨Ao33, co33, eo33⟩ := Kd.R_slice HO_0.out
               subst eo33
               go_wp2_with (first | ((with_reducible refine gate_callee (f := 51) rfl ?_); refine goesL_ (some 71) rfl rfl Tryd.func51 (by kernel_rfl) rfl #[.slice Ao33 l0.length co33, .int .i32 t233] rfl ql ?_; (with_reducible refine (utf8_AppendRune.calls kj23 (fun k_ => some k_ = (.slice Ao33 l0.length co33 : Value).ownBlock) (.slice Ao33 l0.length co33) l0 t233 t239 w0 _ ?side1 ?side2 A32.out).mono ?_); (case side1 => repeat (first | (with_reducible first | exact HB.out | apply below_alloc | apply pw_below_drewN | apply below_drew1) | exact HB.out)); (case side2 => exact Kd.R_tight rfl HO_0.out); rintro e w34 ⟨v240, rfl, ho0, hb, hkp⟩; refine ⟨_, rfl, ?_⟩; have n0_ := Aside0.mk (Kd.R_mono (ok' := fun k_ => (P0_ k_ ∨ w.heap.size ≤ k_)) ho0 (fun k_ hk_ => Or.elim hk_ (fun hs_ => (HO_0.out.1 k_ (hs_).symm)) (fun hn_ => (.inr (Nat.le_trans (by first | exact HK.out.1 | exact (show Kept w _ (fun k_ => P0_ k_) from by repeat (first | (with_reducible first | exact HK.out | apply Kept.alloc | apply Kept.drewN | apply Kept.drew) | exact HK.out)).1) hn_))))); have n1_ := Aside0.mk (Kept.then_ (S := (fun k_ => P0_ k_)) (by repeat (first | (with_reducible first | exact HK.out | apply Kept.alloc | apply Kept.drewN | apply Kept.drew) | exact HK.out)) hkp (fun k_ hs_ => (fun e_ => (HO_0.out.1 k_ e_.symm)) hs_)); have n2_ := Aside0.mk (hb); clear HK; clear HB; clear HO_0; have HO241 := n0_; have HK := n1_; have HB := n2_; clear n0_ n1_ n2_; (try clear hb); (try clear hkp); (try clear ho0)))
               go_ret2
               exact ⟨_, by first | rfl | (simp [errW_none, errW_some] <;> rfl) | (simp [*, errW_none, errW_some] <;> rfl), by (with_reducible repeat (first | apply Kd.R_alloc | apply Kd.R_drewN | apply Kd.R_drew)); exact HO241.out, qh HB, by repeat (first | (with_reducible first | exact HK.out | apply Kept.alloc | apply Kept.drewN | apply Kept.drew) | exact HK.out)⟩
       · rw [if_neg c22] at H
         exact absurd H (by simp)
   · rw [if_neg c4] at H
     exact absurd H (by simp)

end Go.Proofs.YtigikjihagmokaaDoor.F
namespace Go.Proofs.YtigikjihagmokaaDoor.F
open Go.RowKit Go.Proofs.YtigikjihagmokaaDoorW.PrintWords Go.Proofs.YtigikjihagmokaaDoorW.PrintLast Go.Proofs.YtigikjihagmokaaDoorW.PrintMore Go.Proofs.YtigikjihagmokaaDoor.Q
attribute [local go_sem] max2_int min2_int max_two min_two max_three min_three max_four min_four   -- for this text's walks alone
set_option linter.unusedVariables false
set_option linter.unusedSimpArgs false

def runes_Unescape.l0 : Nat → ByteArray → List Int → Int → Option (ByteArray × Int × Int)
 | 0, _, _, _ => none
 | k + 1, x0, x5, x6 => if x6 < (x0.size : Int) then (if 0 ≤ x6 then (if (bt x0 x6) = 92 then (if 0 ≤ (wrap64 (x6 + 1)) then (if (wrap64 (x6 + 1)) ≤ (x0.size : Int) then ((runes_escaped.f k x5 (x0.extract ((wrap64 (x6 + 1)) : Int).toNat x0.size)).bind fun bt242 => (if bt242.2 = 0 then (some ((⟨#[]⟩ : ByteArray), x6, 10)) else (runes_Unescape.l0 k x0 bt242.1 (wrap64 ((wrap64 (x6 + bt242.2)) + 1))))) else (none)) else (none)) else (if x5.length < 140737488355328 then (runes_Unescape.l0 k x0 (x5 ++ [bt x0 x6]) (wrap64 (x6 + 1))) else (none))) else (none)) else (some (strOfNums x5, 0, 0))
def runes_Unescape.f (k : Nat) (a0 : ByteArray) : Option (ByteArray × Int × Int) := if (a0.size : Int) > 1048576 then (some ((⟨#[]⟩ : ByteArray), 0, 2)) else (runes_Unescape.l0 k a0 ([] : List Int) 0)
theorem runes_Unescape.mono_l : ∀ k, (∀ y0 y1 y2, LeO (runes_Unescape.l0 k y0 y1 y2) (runes_Unescape.l0 (k + 1) y0 y1 y2))
 | 0 => fun _ _ _ r h => by simp [runes_Unescape.l0] at h
 | k + 1 => by
  have ih0 := runes_Unescape.mono_l k
  · intro y0 y1 y2
    unfold runes_Unescape.l0
    repeat' first
    | (with_reducible exact ih0 _ _ _)
    | (with_reducible exact runes_escaped.mono _ _ _)
    | (with_reducible exact LeO.refl _)
    | (with_reducible exact LeO.none _)
    | (with_reducible refine LeO.ite ?_ ?_)
    | (with_reducible refine LeO.bind ?_ (fun _ => ?_))
    | exact ih0 _ _ _
    | exact runes_escaped.mono _ _ _
    | exact LeO.none _
    | refine LeO.ite ?_ ?_
    | refine LeO.bind ?_ (fun _ => ?_)
theorem runes_Unescape.mono : ∀ a0 k, LeO (runes_Unescape.f k a0) (runes_Unescape.f (k + 1) a0) := by
 intro a0 k
 have ih0 := runes_Unescape.mono_l k
 unfold runes_Unescape.f
 repeat' first
  | (with_reducible exact ih0 _ _ _)
  | (with_reducible exact runes_escaped.mono _ _ _)
  | (with_reducible exact LeO.refl _)
  | (with_reducible exact LeO.none _)
  | (with_reducible refine LeO.ite ?_ ?_)
  | (with_reducible refine LeO.bind ?_ (fun _ => ?_))
  | exact ih0 _ _ _
  | exact runes_escaped.mono _ _ _
  | exact LeO.none _
  | refine LeO.ite ?_ ?_
  | refine LeO.bind ?_ (fun _ => ?_)
set_option maxHeartbeats 8000000 in
set_option maxRecDepth 100000 in
theorem runes_Unescape.calls (k : Nat) (a0 : ByteArray) (r1 : ByteArray) (r2 : Int) (r3 : Int) (w : World) (h : runes_Unescape.f k a0 = some (r1, r2, r3)) :
 Calls Tryd.prog 29 #[.string a0] w fun e w' => e = .returned (.tuple #[.string r1, .int .i64 r2, .int .i64 r3]) ∧ Below w.heap.size w w' := by
 have HB := Aside0.mk (Below.refl w.heap.size w)
 have H : (if (a0.size : Int) > 1048576 then (some ((⟨#[]⟩ : ByteArray), 0, 2)) else (runes_Unescape.l0 k a0 ([] : List Int) 0)) = some (r1, r2, r3) := h
 clear h
 by_cases c2 : (a0.size : Int) > 1048576
 · rw [if_pos c2] at H
   have c2b0 : decide (1048576 < (a0.size : Int)) = true := decide_eq_true c2
   have c2b1 : decide (1048576 < a0.size) = true := decide_eq_true (by omega)
   clear c2
   simp only [Option.some.injEq, Prod.mk.injEq] at H
   obtain ⟨rfl, rfl, rfl⟩ := H
   go_enter Tryd.func29, Tryd.ntmps29
   go_wp2
   go_ret3
   exact ⟨qe, qh HB⟩
 · rw [if_neg c2] at H
   have c2b0 : decide (1048576 < (a0.size : Int)) = false := decide_eq_false c2
   have c2b1 : decide (1048576 < a0.size) = false := decide_eq_false (by omega)
   clear c2
   have H' := Aside0.mk H
   clear H
   go_enter Tryd.func29, Tryd.ntmps29
   go_wp2
   (try simp only [Act.put, List.setIfInBounds_toArray, List.set_cons_zero, List.set_cons_succ])
   go_loopg [5, 6] k (fun kq v5 v6 w' => ∃ (x5_1 : List Int) (x6_1 : Int), v6 = .int .i64 x6_1 ∧ Aside0 (runes_Unescape.l0 kq a0 x5_1 x6_1 = some (r1, r2, r3)) ∧ Aside0 (kq ≤ k) ∧ Aside0 (Kd.R (Kd.int .u8) 5 w' w.heap.size (fun _ => True) v5 x5_1) ∧ Aside0 (Below w.heap.size w w'))
   case atStart => exact ⟨(([] : List Int)), (0), (by first | rfl | (simp; done) | (simp [*]; done)), H', ⟨Nat.le_refl _⟩, ⟨by first | exact Kd.R_nil _ _ _ _ _ | exact Kd.N_nil _ _ _ _ _ | exact Kd.V_nil _ _ _ _ _ | exact Kd.Q_nil _ _ _ _ _ | exact Kd.S_nil _ _ _ _ _⟩, ⟨qh HB⟩⟩
   case round =>
    clear H'
    try clear c2
    try clear c2b0
    try clear c2b1
    try clear p2
    obtain ⟨x5_1, x6_1, rfl, HA, HK1, HO_5, HB⟩ := hrel
    cases gk with
    | zero => exact absurd HA.out (by simp [runes_Unescape.l0])
    | succ k1 =>
     have H := HA.out
     clear HA
     simp only [runes_Unescape.l0] at H
     by_cases c3 : x6_1 < (a0.size : Int)
     · rw [if_pos c3] at H
       have c3b0 : decide (x6_1 < (a0.size : Int)) = true := decide_eq_true c3
       clear c3
       by_cases c4 : 0 ≤ x6_1
       · rw [if_pos c4] at H
         have c4b0 : decide (0 ≤ x6_1) = true := decide_eq_true c4
         clear c4
         by_cases c6 : (bt a0 x6_1) = 92
         · rw [if_pos c6] at H
           have c6b0 : ((bt a0 x6_1) == 92) = true := beq_iff_eq.mpr c6
           have c6b1 : ((bt a0 x6_1) != 92) = false := bne_eq_false_iff_eq.mpr c6
           clear c6
           obtain ⟨ji7, hji7⟩ : ∃ j_ : Int, (wrap64 (x6_1 + 1)) = j_ := ⟨_, rfl⟩
           replace H : (if 0 ≤ (ji7) then (if (ji7) ≤ (a0.size : Int) then ((runes_escaped.f k1 x5_1 (a0.extract ((ji7) : Int).toNat a0.size)).bind fun bt242 => (if bt242.2 = 0 then (some ((⟨#[]⟩ : ByteArray), x6_1, 10)) else (runes_Unescape.l0 k1 a0 bt242.1 (wrap64 ((wrap64 (x6_1 + bt242.2)) + 1))))) else (none)) else (none)) = some (r1, r2, r3) := by first | (rw [hji7] at H; exact H) | (simp only [hji7] at H ⊢; exact H)
           have hji7w : (IntKind.i64.wrap (x6_1 + 1)) = ji7 := (i64_w _).trans hji7
           by_cases c8 : 0 ≤ (ji7)
           · rw [if_pos c8] at H
             have c8b0 := eq_true c8
             have c8b1 : decide (0 ≤ (ji7)) = true := decide_eq_true c8
             clear c8
             by_cases c9 : (ji7) ≤ (a0.size : Int)
             · rw [if_pos c9] at H
               have c9b0 := eq_true c9
               have c9b1 : decide ((ji7) ≤ (a0.size : Int)) = true := decide_eq_true c9
               clear c9
               replace H := Option.bind_eq_some_iff.mp H
               obtain ⟨⟨t242, t245⟩, A100, H⟩ := H
               replace H : (if t245 = 0 then (some ((⟨#[]⟩ : ByteArray), x6_1, 10)) else (runes_Unescape.l0 k1 a0 t242 (wrap64 ((wrap64 (x6_1 + t245)) + 1)))) = some (r1, r2, r3) := H
               have A10 := Aside0.mk A100
               clear A100
               by_cases c11 : t245 = 0
               · rw [if_pos c11] at H
                 have c11b0 : (t245 == 0) = true := beq_iff_eq.mpr c11
                 have c11b1 : (t245 != 0) = false := bne_eq_false_iff_eq.mpr c11
                 try have c11b1z := c11b1
                 (try simp only [bne] at c11b1z)
                 clear c11
                 simp only [Option.some.injEq, Prod.mk.injEq] at H
                 obtain ⟨rfl, rfl, rfl⟩ := H
                 have p5 : 0 ≤ (x6_1 : Int) := of_decide_eq_true qa
                 have q5 : x6_1 < (a0.size : Int) := of_decide_eq_true qa
                 have hx5 := bt_at a0 x6_1
                 replace p5 := eq_true p5
                 replace q5 := eq_true q5
                 obtain ⟨Ao12, co12, eo12⟩ := Kd.R_slice HO_5.out
                 subst eo12
                 go_wp2_with (first | ((with_reducible refine gate_callee (f := 45) rfl ?_); refine goesL_ (some 33) rfl rfl Tryd.func45 (by kernel_rfl) rfl #[.slice Ao12 x5_1.length co12, .string (a0.extract ((ji7) : Int).toNat a0.size)] rfl (by (try simp only [List.map_toArray, List.map_cons, List.map_nil]); first | done | (simp only [hji7]; rfl) | rfl | (simp only [List.length_drop, List.length_take]; rfl)) ?_; (with_reducible refine (runes_escaped.calls k1 (fun k_ => some k_ = (.slice Ao12 x5_1.length co12 : Value).ownBlock) (.slice Ao12 x5_1.length co12) x5_1 (a0.extract ((ji7) : Int).toNat a0.size) t242 t245 w _ ?side1 ?side2 A10.out).mono ?_); (case side1 => repeat (first | (with_reducible first | exact HB.out | apply below_alloc | apply pw_below_drewN | apply below_drew1) | exact HB.out)); (case side2 => exact Kd.R_tight rfl HO_5.out); rintro e w13 ⟨v243, rfl, ho0, hb, hkp⟩; refine ⟨_, rfl, ?_⟩; have n0_ := Aside0.mk (Kd.R_mono (ok' := fun k_ => True) ho0 (fun k_ hk_ => trivial)); have n1_ := Aside0.mk (hb); clear HB; clear HO_5; have HO244 := n0_; have HB := n1_; clear n0_ n1_; (try clear hb); (try clear hkp); (try clear ho0)))
                 go_ret3
                 exact ⟨by first | rfl | (exact congrArg (fun b => Ending.returned (.bool b)) (Aid.bne_nil _)) | (exact congrArg (fun b => Ending.returned (.bool b)) (Aid.eq_nil _)) | (simp [errW_none, errW_some] <;> rfl) | (simp only [← hji7]; first | rfl | (simp [errW_none, errW_some] <;> rfl)) | (simp [*, errW_none, errW_some] <;> rfl), qh HB⟩
               · rw [if_neg c11] at H
                 have c11b0 : (t245 == 0) = false := beq_eq_false_iff_ne.mpr c11
                 have c11b1 : (t245 != 0) = true := bne_iff_ne.mpr c11
                 try have c11b1z := c11b1
                 (try simp only [bne] at c11b1z)
                 have H' := Aside0.mk H
                 clear H
                 have p5 : 0 ≤ (x6_1 : Int) := of_decide_eq_true qa
                 have q5 : x6_1 < (a0.size : Int) := of_decide_eq_true qa
                 have hx5 := bt_at a0 x6_1
                 replace p5 := eq_true p5
                 replace q5 := eq_true q5
                 obtain ⟨Ao14, co14, eo14⟩ := Kd.R_slice HO_5.out
                 subst eo14
                 go_wp2_with (first | ((with_reducible refine gate_callee (f := 45) rfl ?_); refine goesL_ (some 33) rfl rfl Tryd.func45 (by kernel_rfl) rfl #[.slice Ao14 x5_1.length co14, .string (a0.extract ((ji7) : Int).toNat a0.size)] rfl (by (try simp only [List.map_toArray, List.map_cons, List.map_nil]); first | done | (simp only [hji7]; rfl) | rfl | (simp only [List.length_drop, List.length_take]; rfl)) ?_; (with_reducible refine (runes_escaped.calls k1 (fun k_ => some k_ = (.slice Ao14 x5_1.length co14 : Value).ownBlock) (.slice Ao14 x5_1.length co14) x5_1 (a0.extract ((ji7) : Int).toNat a0.size) t242 t245 w _ ?side1 ?side2 A10.out).mono ?_); (case side1 => repeat (first | (with_reducible first | exact HB.out | apply below_alloc | apply pw_below_drewN | apply below_drew1) | exact HB.out)); (case side2 => exact Kd.R_tight rfl HO_5.out); rintro e w15 ⟨v243, rfl, ho0, hb, hkp⟩; refine ⟨_, rfl, ?_⟩; have n0_ := Aside0.mk (Kd.R_mono (ok' := fun k_ => True) ho0 (fun k_ hk_ => trivial)); have n1_ := Aside0.mk (hb); clear HB; clear HO_5; have HO244 := n0_; have HB := n1_; clear n0_ n1_; (try clear hb); (try clear hkp); (try clear ho0)))
                 go_roundg k1
                 case measure => have := HK1.out; omega
                 case rel => exact ⟨(t242), (wrap64 ((wrap64 (x6_1 + t245)) + 1)), (by first | rfl | (simp; done) | (simp [*]; done)), H', ⟨by have := HK1.out; omega⟩, ⟨by (with_reducible repeat (first | apply Kd.R_alloc | apply Kd.R_drewN | apply Kd.R_drew)); exact HO244.out⟩, ⟨qh HB⟩⟩
             · rw [if_neg c9] at H
               exact absurd H (by simp)
           · rw [if_neg c8] at H
             exact absurd H (by simp)
         · rw [if_neg c6] at H
           have c6b0 : ((bt a0 x6_1) == 92) = false := beq_eq_false_iff_ne.mpr c6
           have c6b1 : ((bt a0 x6_1) != 92) = true := bne_iff_ne.mpr c6
           by_cases c17 : x5_1.length < 140737488355328
           · rw [if_pos c17] at H
             have LMc17 := Aside0.mk c17
             clear c17
             obtain ⟨y246, hy246⟩ : ∃ y_ : List Int, y_ = (x5_1 ++ [bt a0 x6_1]) := ⟨_, rfl⟩
             replace H : (runes_Unescape.l0 k1 a0 y246 (wrap64 (x6_1 + 1))) = some (r1, r2, r3) := by first | (rw [hy246]; with_reducible exact H) | (have H2_ := (Option.bind_some _ _).symm.trans H; rw [hy246]; with_reducible exact H2_) | (have H2_ := (Option.bind_some _ _).symm.trans H; with_reducible exact H2_) | with_reducible exact H | (rw [hy246]; exact H) | exact H
             have Ny246 := Aside0.mk hy246
             clear hy246
             have H' := Aside0.mk H
             clear H
             have p5 : 0 ≤ (x6_1 : Int) := of_decide_eq_true qa
             have q5 : x6_1 < (a0.size : Int) := of_decide_eq_true qa
             have hx5 := bt_at a0 x6_1
             replace p5 := eq_true p5
             replace q5 := eq_true q5
             have p16 : 0 ≤ (x6_1 : Int) := of_decide_eq_true qa
             have q16 : x6_1 < (a0.size : Int) := of_decide_eq_true qa
             have hx16 := bt_at a0 x6_1
             replace p16 := eq_true p16
             replace q16 := eq_true q16
             go_wp2_with (first | ((with_reducible refine gate_builtin (b := .append) (xs := #[.tmp 21, .tmp 25]) rfl ?_); at_builtin; refine Kd.R_append (Kd.int .u8) (w0 := w) w.heap.size rfl (.tmp 21) (.tmp 25) 41 5 (.int .u8 0) 1 rfl Tryd.underlying41 info5 rfl (by decide) (by omega) u5 x5_1 (bt a0 x6_1) [.int .u8 (bt a0 x6_1)] (fun _ => True) (fun _ => False) rfl rfl ?aP (fun _ hk => hk.elim) ?aF ?aO ?aB ?aS ?aL ?_; (case aP => exact rfl); (case aB => exact (qh HB)); (case aF => exact (fun _ _ => trivial)); (case aO => exact (by (with_reducible repeat (first | apply Kd.R_alloc | apply Kd.R_drewN | apply Kd.R_drew)); exact HO_5.out)); (case aS => exact (below_size (qh HB))); (case aL => have := LMc17.out; omega); intro v247 w18 ho hb hg hat; rw [← Ny246.out] at ho; have n0_ := Aside0.mk (hb); have n1_ := Aside0.mk (ho); clear HB; clear HO_5; have HB := n0_; have HO248 := n1_; clear n0_ n1_; clear ho hb hg hat))
             go_roundg k1
             case measure => have := HK1.out; omega
             case rel => exact ⟨(y246), (wrap64 (x6_1 + 1)), (by first | rfl | (simp; done) | (simp [*]; done)), H', ⟨by have := HK1.out; omega⟩, ⟨by (with_reducible repeat (first | apply Kd.R_alloc | apply Kd.R_drewN | apply Kd.R_drew)); exact HO248.out⟩, ⟨qh HB⟩⟩
           · rw [if_neg c17] at H
             exact absurd H (by simp)
       · rw [if_neg c4] at H
         exact absurd H (by simp)
     · rw [if_neg c3] at H
       have c3b0 : decide (x6_1 < (a0.size : Int)) = false := decide_eq_false c3
       clear c3
       simp only [Option.some.injEq, Prod.mk.injEq] at H
       obtain ⟨rfl, rfl, rfl⟩ := H
       have hcv19 := own_string (P := Tryd.prog) Tryd.underlying41 Tryd.underlying5 Tryd.underlying9 (Kd.own_of_R HO_5.out)
       go_wp2
       go_ret3
       exact ⟨qe, qh HB⟩

end Go.Proofs.YtigikjihagmokaaDoor.F
namespace Go.Proofs.YtigikjihagmokaaDoor.Stray
open Go.RowKit Go.Proofs.YtigikjihagmokaaDoorW.PrintWords Go.Proofs.YtigikjihagmokaaDoorW.PrintLast Go.Proofs.YtigikjihagmokaaDoorW.PrintMore Go.Proofs.YtigikjihagmokaaDoor.Aid
set_option linter.unusedVariables false
set_option linter.unusedSimpArgs false
/-- Go's tables of UTF-8 lie in a world. -/
abbrev Tabs (w : World) : Prop := Lib.Utf8Tabs 0 1 w
theorem Tabs.below {w w' : World} (h : Tabs w) (hb : Below w.heap.size w w') : Tabs w' := Utf8Tabs_below h hb
/-- Is what stands at a place one byte that is part of no rune? -/
def strayB (s : ByteArray) (pos : Nat) : Bool := decide (Utf8.decode s pos = (65533, 1))
theorem decode_rest (s : ByteArray) (pos : Nat) (h : pos < s.size) : Lib.decodeGo (s.extract pos s.size) = Utf8.decode s pos := by
  have e := Lib.decodeL_drop s pos
  rw [← e]
  have hs : s.extract pos s.size = ⟨(s.data.toList.drop pos).toArray⟩ := by
    apply ByteArray.ext
    rw [ByteArray.data_extract]
    apply Array.toList_inj.1
    rw [Array.toList_extract, List.extract_eq_take_drop]
    simp only []
    rw [List.take_of_length_le]
    rw [List.length_drop, Array.length_toList]
    exact Nat.le_refl _
  rw [hs]
  have h0 : (⟨(s.data.toList.drop pos).toArray⟩ : ByteArray).size ≠ 0 := by
    show (s.data.toList.drop pos).toArray.size ≠ 0
    rw [List.size_toArray, List.length_drop, Array.length_toList]
    have : s.data.size = s.size := rfl
    omega
  unfold Lib.decodeGo
  rw [if_neg h0]
  rfl
theorem width (s : ByteArray) (pos : Nat) (h : pos < s.size) : 1 ≤ (Utf8.decode s pos).2 := by
  by_cases ha : (s[pos]'h).toNat < 128
  · rw [decode_ascii s pos h ha]
    exact Nat.le_refl _
  · exact (decode_high s pos h (by omega)).2
set_option maxHeartbeats 4000000 in
set_option maxRecDepth 100000 in
theorem stray (s : ByteArray) (pos : Nat) (hp : pos < s.size) (hs : s.size ≤ 9223372036854775807) (w : World) (hT : Tabs w) : Calls Tryd.prog 33 #[.string s, .int .i64 pos, .int .i32 (Utf8.decode s pos).1] w fun e w' => e = .returned (.bool (strayB s pos)) ∧ Below w.heap.size w w' := by
  have hrest := decode_rest s pos hp
  go_enter Tryd.func33, Tryd.ntmps33
  by_cases h : (Utf8.decode s pos).1 = 65533
  · have hb : (((Utf8.decode s pos).1 : Int) != 65533) = false := bne_eq_false_iff_eq.mpr (by omega)
    have c := Tryd.utf8_DecodeRuneInString (s.extract pos s.size) w hT
    rw [hrest] at c
    have p1 : (0 ≤ (pos : Int)) = True := eq_true (by omega)
    have p2 : ((pos : Int) ≤ (s.size : Int)) = True := eq_true (by omega)
    have p3 : pos ≤ s.size := by omega
    have hq : strayB s pos = ((((Utf8.decode s pos).2 : Nat) : Int) == 1) := by
      unfold strayB
      rw [Bool.eq_iff_iff, decide_eq_true_eq, beq_iff_eq]
      constructor
      · intro e; rw [e]; rfl
      · intro e
        have e2 : (Utf8.decode s pos).2 = 1 := by omega
        exact Prod.ext h e2
    generalize Utf8.decode s pos = d at *
    clear hrest
    go_wp2_with (go_at_call 49; refine c.mono ?_)
    rintro e W1 ⟨rfl, hb1⟩
    go_wp2
    go_ret
    exact ⟨by rw [hq]; rfl, hb1⟩
  · have hb : (((Utf8.decode s pos).1 : Int) != 65533) = true := bne_iff_ne.mpr (by omega)
    have hq : strayB s pos = false := by
      unfold strayB
      exact decide_eq_false (fun e => h (by rw [e]))
    go_wp2
    go_ret
    exact ⟨by rw [hq]; rfl, Below.refl _ _⟩

end Go.Proofs.YtigikjihagmokaaDoor.Stray
set_option linter.unusedVariables false
set_option linter.unusedSimpArgs false
namespace Go.Proofs.YtigikjihagmokaaDoor.Rep01
open Go.RowKit
/-- What is decoded is a rune. -/
theorem dec_valid (l : List UInt8) : (Lib.decodeL l).1 < 55296 ∨ 57344 ≤ (Lib.decodeL l).1 ∧ (Lib.decodeL l).1 ≤ 1114111 := by
  rw [Lib.decodeL_N]
  have b0 := (l.getD 0 0).toNat_lt
  generalize (l.getD 0 0).toNat = x0 at *
  generalize (l.getD 1 0).toNat = x1 at *
  generalize (l.getD 2 0).toNat = x2 at *
  generalize (l.getD 3 0).toNat = x3 at *
  rcases Lib.decodeN_shape l.length x0 x1 x2 x3 with ⟨c, e⟩ | ⟨c1, c2, c3, cv, e⟩ | ⟨c1, c2, c3, c4, cv, cs, e⟩ | ⟨c1, c2, c3, c4, c5, cv, cw, e⟩ | e
  all_goals (rw [e]; simp only []; omega)
end Go.Proofs.YtigikjihagmokaaDoor.Rep01
set_option linter.unusedVariables false
set_option linter.unusedSimpArgs false
namespace Go.Proofs.YtigikjihagmokaaDoor.Esc01
open Go.RowKit
/-- A hexadecimal digit's number. -/
def hexv (c : Nat) : Option Nat := if 48 ≤ c ∧ c ≤ 57 then some (c - 48) else if 97 ≤ c ∧ c ≤ 102 then some (c - 87) else if 65 ≤ c ∧ c ≤ 70 then some (c - 55) else none
/-- That of so many digits. -/
def hexL : Nat → List UInt8 → Nat → Option Nat
  | 0, _, n => some n
  | _ + 1, [], _ => none
  | d + 1, c :: l, n => match hexv c.toNat with
    | some v => hexL d l (n * 16 + v)
    | none => none
def good (n : Nat) : Bool := decide (n < 55296 ∨ 57344 ≤ n ∧ n ≤ 1114111)
/-- What stands behind a backslash: the bytes it stands for, its length. -/
def escL : List UInt8 → Option (List UInt8 × Nat)
  | [] => none
  | c :: l =>
    if c = 92 then some ([92], 1) else if c = 110 then some ([10], 1) else if c = 114 then some ([13], 1) else if c = 116 then some ([9], 1)
    else if c = 120 then (hexL 2 l 0).bind fun n => some ([n.toUInt8], 3)
    else if c = 117 then (hexL 4 l 0).bind fun n => if good n = true then some (Lib.encodeRune (n : Int), 5) else none
    else if c = 85 then (hexL 6 l 0).bind fun n => if good n = true then some (Lib.encodeRune (n : Int), 7) else none
    else none
/-- The bytes, or the place of what is no escape. -/
def unL : Nat → List UInt8 → Nat → List UInt8 → List UInt8 ⊕ Nat
  | 0, _, _, acc => .inl acc
  | _ + 1, [], _, acc => .inl acc
  | f + 1, c :: l, i, acc =>
    if c = 92 then match escL l with
      | some (p, n) => unL f (l.drop n) (i + 1 + n) (acc ++ p)
      | none => .inr i
    else unL f l (i + 1) (acc ++ [c])
def dig (d : Nat) : UInt8 := if d < 10 then (48 + d).toUInt8 else (87 + d).toUInt8
def hx2 (n : Nat) : List UInt8 := [dig (n / 16 % 16), dig (n % 16)]
def hx4 (n : Nat) : List UInt8 := [dig (n / 4096 % 16), dig (n / 256 % 16), dig (n / 16 % 16), dig (n % 16)]
def hx6 (n : Nat) : List UInt8 := [dig (n / 1048576 % 16), dig (n / 65536 % 16), dig (n / 4096 % 16), dig (n / 256 % 16), dig (n / 16 % 16), dig (n % 16)]
/-- What a rune is written as. -/
def piece (stray : Bool) (c : UInt8) (r : Nat) : List UInt8 :=
  if stray = true then 92 :: 120 :: hx2 c.toNat
  else if r = 92 then [92, 92] else if r = 10 then [92, 110] else if r = 13 then [92, 114] else if r = 9 then [92, 116]
  else if 32 ≤ r ∧ r ≤ 126 then [r.toUInt8] else if r ≤ 65535 then 92 :: 117 :: hx4 r else 92 :: 85 :: hx6 r
def escapeL : Nat → List UInt8 → List UInt8
  | 0, _ => []
  | _ + 1, [] => []
  | k + 1, c :: l => piece (decide (Lib.decodeL (c :: l) = (65533, 1))) c (Lib.decodeL (c :: l)).1 ++ escapeL k ((c :: l).drop (Lib.decodeL (c :: l)).2)
theorem dig_nat (d : Nat) (h : d < 16) : (dig d).toNat = if d < 10 then 48 + d else 87 + d := by
  unfold dig
  split <;> (rw [Nat.toUInt8_eq, UInt8.toNat_ofNat']; omega)
theorem hexv_dig (d : Nat) (h : d < 16) : hexv (dig d).toNat = some d := by
  rw [dig_nat d h]
  unfold hexv
  split
  · rw [if_pos (by omega)]; congr 1; omega
  · rw [if_neg (by omega), if_pos (by omega)]; congr 1; omega
theorem hexL_dig (k d : Nat) (l : List UInt8) (n : Nat) (h : d < 16) : hexL (k + 1) (dig d :: l) n = hexL k l (n * 16 + d) := by
  simp only [hexL]
  rw [hexv_dig d h]
theorem hexL2 (n : Nat) (l : List UInt8) : hexL 2 (hx2 n ++ l) 0 = some (n % 256) := by
  unfold hx2
  simp only [List.cons_append, List.nil_append]
  rw [hexL_dig _ _ _ _ (by omega), hexL_dig _ _ _ _ (by omega)]
  simp only [hexL]
  congr 1; omega
theorem hexL4 (n : Nat) (l : List UInt8) : hexL 4 (hx4 n ++ l) 0 = some (n % 65536) := by
  unfold hx4
  simp only [List.cons_append, List.nil_append]
  rw [hexL_dig _ _ _ _ (by omega), hexL_dig _ _ _ _ (by omega), hexL_dig _ _ _ _ (by omega), hexL_dig _ _ _ _ (by omega)]
  simp only [hexL]
  congr 1; omega
theorem hexL6 (n : Nat) (l : List UInt8) : hexL 6 (hx6 n ++ l) 0 = some (n % 16777216) := by
  unfold hx6
  simp only [List.cons_append, List.nil_append]
  rw [hexL_dig _ _ _ _ (by omega), hexL_dig _ _ _ _ (by omega), hexL_dig _ _ _ _ (by omega), hexL_dig _ _ _ _ (by omega), hexL_dig _ _ _ _ (by omega), hexL_dig _ _ _ _ (by omega)]
  simp only [hexL]
  congr 1; omega
/-- What a piece stands for. -/
def stands (stray : Bool) (c : UInt8) (r : Nat) : List UInt8 := if stray = true then [c] else Lib.encodeRune (r : Int)
theorem enc_ascii (r : Nat) (h : r ≤ 127) : Lib.encodeRune (r : Int) = [r.toUInt8] := by
  unfold Lib.encodeRune
  rw [Lib.encodeRuneZ_one (by omega) (by omega)]
  simp
theorem un_piece (stray : Bool) (c : UInt8) (r : Nat) (hr : r < 55296 ∨ 57344 ≤ r ∧ r ≤ 1114111) (f i : Nat) (l acc : List UInt8) :
    unL (f + 1) (piece stray c r ++ l) i acc = unL f l (i + (piece stray c r).length) (acc ++ stands stray c r) := by
  have hb := c.toNat_lt
  have hg : good r = true := decide_eq_true hr
  unfold piece stands
  by_cases h0 : stray = true
  · rw [if_pos h0, if_pos h0]
    simp only [List.cons_append, unL, if_true, escL]
    rw [if_neg (by decide), if_neg (by decide), if_neg (by decide), if_neg (by decide), hexL2]
    have e : c.toNat % 256 = c.toNat := by omega
    rw [e]
    simp [hx2, Nat.add_assoc]
  rw [if_neg h0, if_neg h0]
  by_cases h1 : r = 92
  · subst h1
    rw [if_pos rfl, enc_ascii _ (by decide)]
    simp only [List.cons_append, unL, if_true, escL]
    simp [Nat.add_assoc]
  rw [if_neg h1]
  by_cases h2 : r = 10
  · subst h2
    rw [if_pos rfl, enc_ascii _ (by decide)]
    simp only [List.cons_append, unL, if_true, escL]
    rw [if_neg (by decide)]
    simp [Nat.add_assoc]
  rw [if_neg h2]
  by_cases h3 : r = 13
  · subst h3
    rw [if_pos rfl, enc_ascii _ (by decide)]
    simp only [List.cons_append, unL, if_true, escL]
    rw [if_neg (by decide), if_neg (by decide)]
    simp [Nat.add_assoc]
  rw [if_neg h3]
  by_cases h4 : r = 9
  · subst h4
    rw [if_pos rfl, enc_ascii _ (by decide)]
    simp only [List.cons_append, unL, if_true, escL]
    rw [if_neg (by decide), if_neg (by decide), if_neg (by decide)]
    simp [Nat.add_assoc]
  rw [if_neg h4]
  by_cases h5 : 32 ≤ r ∧ r ≤ 126
  · rw [if_pos h5, enc_ascii _ (by omega)]
    have e : ¬ r.toUInt8 = 92 := by
      intro h
      have h' := congrArg UInt8.toNat h
      rw [Nat.toUInt8_eq, UInt8.toNat_ofNat'] at h'
      have : (92 : UInt8).toNat = 92 := rfl
      omega
    simp only [List.cons_append, List.nil_append, unL]
    rw [if_neg e]
    rfl
  rw [if_neg h5]
  by_cases h6 : r ≤ 65535
  · rw [if_pos h6]
    simp only [List.cons_append, unL, if_true, escL]
    rw [if_neg (by decide), if_neg (by decide), if_neg (by decide), if_neg (by decide), if_neg (by decide), hexL4]
    have e : r % 65536 = r := by omega
    rw [e]
    simp [hx4, Nat.add_assoc, hg]
  · rw [if_neg h6]
    simp only [List.cons_append, unL, if_true, escL]
    rw [if_neg (by decide), if_neg (by decide), if_neg (by decide), if_neg (by decide), if_neg (by decide), if_neg (by decide), hexL6]
    have e : r % 16777216 = r := by omega
    rw [e]
    simp [hx6, Nat.add_assoc, hg]
theorem piece_len (stray : Bool) (c : UInt8) (r : Nat) : 1 ≤ (piece stray c r).length ∧ (piece stray c r).length ≤ 8 ∧ (stray = true ∨ r ≤ 65535 → (piece stray c r).length ≤ 6) := by
  unfold piece
  repeat' split
  all_goals simp_all [hx2, hx4, hx6]
theorem dig_plain (d : Nat) (h : d < 16) : 32 ≤ (dig d).toNat ∧ (dig d).toNat ≤ 126 := by
  rw [dig_nat d h]
  split <;> omega
theorem piece_plain (stray : Bool) (c : UInt8) (r : Nat) : ∀ b ∈ piece stray c r, 32 ≤ b.toNat ∧ b.toNat ≤ 126 := by
  have D : ∀ n, 32 ≤ (dig (n % 16)).toNat ∧ (dig (n % 16)).toNat ≤ 126 := fun n => dig_plain _ (by omega)
  unfold piece
  split
  · intro b hb
    simp only [hx2, List.mem_cons, List.not_mem_nil, or_false] at hb
    rcases hb with rfl | rfl | rfl | rfl <;> first | exact D _ | decide
  split
  · intro b hb
    simp only [List.mem_cons, List.not_mem_nil, or_false] at hb
    rcases hb with rfl | rfl <;> decide
  split
  · intro b hb
    simp only [List.mem_cons, List.not_mem_nil, or_false] at hb
    rcases hb with rfl | rfl <;> decide
  split
  · intro b hb
    simp only [List.mem_cons, List.not_mem_nil, or_false] at hb
    rcases hb with rfl | rfl <;> decide
  split
  · intro b hb
    simp only [List.mem_cons, List.not_mem_nil, or_false] at hb
    rcases hb with rfl | rfl <;> decide
  split
  · rename_i h
    intro b hb
    simp only [List.mem_cons, List.not_mem_nil, or_false] at hb
    subst hb
    rw [Nat.toUInt8_eq, UInt8.toNat_ofNat']
    omega
  split
  · intro b hb
    simp only [hx4, List.mem_cons, List.not_mem_nil, or_false] at hb
    rcases hb with rfl | rfl | rfl | rfl | rfl | rfl <;> first | exact D _ | decide
  · intro b hb
    simp only [hx6, List.mem_cons, List.not_mem_nil, or_false] at hb
    rcases hb with rfl | rfl | rfl | rfl | rfl | rfl | rfl | rfl <;> first | exact D _ | decide
theorem dec_pos (c : UInt8) (l : List UInt8) : 1 ≤ (Lib.decodeL (c :: l)).2 ∧ ((Lib.decodeL (c :: l)).1 ≤ 65535 ∨ 2 ≤ (Lib.decodeL (c :: l)).2) := by
  rw [Lib.decodeL_N]
  have b0 := ((c :: l).getD 0 0).toNat_lt
  generalize ((c :: l).getD 0 0).toNat = x0 at *
  generalize ((c :: l).getD 1 0).toNat = x1 at *
  generalize ((c :: l).getD 2 0).toNat = x2 at *
  generalize ((c :: l).getD 3 0).toNat = x3 at *
  rcases Lib.decodeN_shape (c :: l).length x0 x1 x2 x3 with ⟨c, e⟩ | ⟨c1, c2, c3, cv, e⟩ | ⟨c1, c2, c3, c4, cv, cs, e⟩ | ⟨c1, c2, c3, c4, c5, cv, cw, e⟩ | e
  all_goals (rw [e]; simp only []; omega)
theorem escape_plain : ∀ (k : Nat) (l : List UInt8), ∀ b ∈ escapeL k l, 32 ≤ b.toNat ∧ b.toNat ≤ 126 := by
  intro k
  induction k with
  | zero => intro l b hb; simp [escapeL] at hb
  | succ k ih =>
    intro l b hb
    cases l with
    | nil => simp [escapeL] at hb
    | cons c l =>
      simp only [escapeL, List.mem_append] at hb
      rcases hb with hb | hb
      · exact piece_plain _ _ _ b hb
      · exact ih _ b hb
theorem escape_len : ∀ (k : Nat) (l : List UInt8), (escapeL k l).length ≤ 6 * l.length := by
  intro k
  induction k with
  | zero => intro l; simp [escapeL]
  | succ k ih =>
    intro l
    cases l with
    | nil => simp [escapeL]
    | cons c l =>
      simp only [escapeL, List.length_append]
      have h1 := ih ((c :: l).drop (Lib.decodeL (c :: l)).2)
      obtain ⟨p1, p2, p3⟩ := piece_len (decide (Lib.decodeL (c :: l) = (65533, 1))) c (Lib.decodeL (c :: l)).1
      obtain ⟨d1, d2⟩ := dec_pos c l
      have d3 := Lib.decodeL_le (c :: l) (by simp)
      rw [List.length_drop] at h1
      rcases d2 with d2 | d2
      · have := p3 (.inr d2)
        omega
      · omega
theorem un_escape : ∀ (k : Nat) (l : List UInt8) (f i : Nat) (acc : List UInt8), l.length < k → (escapeL k l).length < f → unL f (escapeL k l) i acc = .inl (acc ++ l) := by
  intro k
  induction k with
  | zero => intro l f i acc h; omega
  | succ k ih =>
    intro l f i acc hk hf
    obtain ⟨f, rfl⟩ : ∃ g, f = g + 1 := ⟨f - 1, by omega⟩
    cases l with
    | nil => simp [escapeL, unL]
    | cons c l =>
      simp only [escapeL] at hf ⊢
      obtain ⟨d1, d2⟩ := dec_pos c l
      obtain ⟨p1, p2, p3⟩ := piece_len (decide (Lib.decodeL (c :: l) = (65533, 1))) c (Lib.decodeL (c :: l)).1
      rw [List.length_append] at hf
      rw [un_piece _ _ _ (Rep01.dec_valid (c :: l)), ih _ f _ _ (by rw [List.length_drop]; simp only [List.length_cons] at hk ⊢; omega) (by omega), List.append_assoc]
      congr 2
      unfold stands
      by_cases hs : Lib.decodeL (c :: l) = (65533, 1)
      · rw [if_pos (decide_eq_true hs), hs]
        rfl
      · rw [if_neg (by simp [hs]), Lib.encode_decode (c :: l) (by simp) (fun h => hs (Prod.ext h.1 h.2)), List.take_append_drop]
end Go.Proofs.YtigikjihagmokaaDoor.Esc01
namespace Go.Proofs.YtigikjihagmokaaDoor.X
open Go.RowKit Go.Proofs.YtigikjihagmokaaDoorW.PrintWords Go.Proofs.YtigikjihagmokaaDoorW.PrintLast Go.Proofs.YtigikjihagmokaaDoorW.PrintMore
attribute [local go_sem] max2_int min2_int max_two min_two max_three min_three max_four min_four   -- for this text's walks alone
set_option linter.unusedVariables false
set_option linter.unusedSimpArgs false



def errW : Option Int → Value
 | none => .nilIface
 | some c => .iface 0 (.int .i64 c)
theorem errW_none : errW none = .nilIface := rfl
theorem errW_some (c : Int) : errW (some c) = .iface 0 (.int .i64 c) := rfl

theorem info5 : (Tryd.prog.info? 5).map (fun i => (i.zero, i.size, i.bytes)) = some (some (.int .u8 0), 1, 1) := by kernel_rfl
theorem info9 : (Tryd.prog.info? 9).map (fun i => (i.zero, i.size, i.bytes)) = some (some (.string ⟨#[]⟩), 1, 16) := by kernel_rfl
end Go.Proofs.YtigikjihagmokaaDoor.X
namespace Go.Proofs.YtigikjihagmokaaDoor.X
open Go.RowKit Go.Proofs.YtigikjihagmokaaDoorW.PrintWords Go.Proofs.YtigikjihagmokaaDoorW.PrintLast Go.Proofs.YtigikjihagmokaaDoorW.PrintMore Go.Proofs.YtigikjihagmokaaDoor.Q
attribute [local go_sem] max2_int min2_int max_two min_two max_three min_three max_four min_four   -- for this text's walks alone
set_option linter.unusedVariables false
set_option linter.unusedSimpArgs false

def runes_hex.l0 : Nat → List Int → Int → Int → Option (List Int)
 | 0, _, _, _ => none
 | k + 1, x0, x2, x9 => if x9 ≥ 0 then (if 0 ≤ (wrap64 (4 * x9)) then (if 0 ≤ (Go.bits .and .u32 (shr .u32 x2 (wrap64 (4 * x9))) 15) then (if (Go.bits .and .u32 (shr .u32 x2 (wrap64 (4 * x9))) 15) < 16 then (if x0.length < 140737488355328 then (runes_hex.l0 k (x0 ++ [bt (⟨#[48, 49, 50, 51, 52, 53, 54, 55, 56, 57, 97, 98, 99, 100, 101, 102]⟩ : ByteArray) (Go.bits .and .u32 (shr .u32 x2 (wrap64 (4 * x9))) 15)]) x2 (wrap64 (x9 - 1))) else (none)) else (none)) else (none)) else (none)) else (some x0)
def runes_hex.f (k : Nat) (l0 : List Int) (a1 : Int) (a2 : Int) (a3 : Int) : Option (List Int) := (some (([92, a1] : List Int) : List Int)).bind fun y107 => (if l0.length + y107.length < 140737488355328 then (runes_hex.l0 k (l0 ++ y107) a2 (wrap64 (a3 - 1))) else (none))
theorem runes_hex.mono_l : ∀ k, (∀ y0 y1 y2, LeO (runes_hex.l0 k y0 y1 y2) (runes_hex.l0 (k + 1) y0 y1 y2))
 | 0 => fun _ _ _ r h => by simp [runes_hex.l0] at h
 | k + 1 => by
  have ih0 := runes_hex.mono_l k
  · intro y0 y1 y2
    unfold runes_hex.l0
    repeat' first
    | (with_reducible exact ih0 _ _ _)
    | (with_reducible exact LeO.refl _)
    | (with_reducible exact LeO.none _)
    | (with_reducible refine LeO.ite ?_ ?_)
    | (with_reducible refine LeO.bind ?_ (fun _ => ?_))
    | exact ih0 _ _ _
    | exact LeO.none _
    | refine LeO.ite ?_ ?_
    | refine LeO.bind ?_ (fun _ => ?_)
theorem runes_hex.mono : ∀ a0 a1 a2 a3 k, LeO (runes_hex.f k a0 a1 a2 a3) (runes_hex.f (k + 1) a0 a1 a2 a3) := by
 intro a0 a1 a2 a3 k
 have ih0 := runes_hex.mono_l k
 unfold runes_hex.f
 repeat' first
  | (with_reducible exact ih0 _ _ _)
  | (with_reducible exact LeO.refl _)
  | (with_reducible exact LeO.none _)
  | (with_reducible refine LeO.ite ?_ ?_)
  | (with_reducible refine LeO.bind ?_ (fun _ => ?_))
  | exact ih0 _ _ _
  | exact LeO.none _
  | refine LeO.ite ?_ ?_
  | refine LeO.bind ?_ (fun _ => ?_)
set_option maxHeartbeats 8000000 in
set_option maxRecDepth 100000 in
theorem runes_hex.calls (k : Nat) (P0_ : Nat → Prop) (u9000_ : Value) (l0 : List Int) (a1 : Int) (a2 : Int) (a3 : Int) (r : List Int) (w0 w : World) (hB : Below w0.heap.size w0 w) (ho0 : Kd.R (Kd.int .u8) 5 w w0.heap.size P0_ u9000_ l0) (h : runes_hex.f k l0 a1 a2 a3 = some r) :
 Calls Tryd.prog 40 #[u9000_, .int .u8 a1, .int .u32 a2, .int .i64 a3] w fun e w' => ∃ v0_ : Value, e = .returned (v0_) ∧ Kd.R (Kd.int .u8) 5 w' w0.heap.size (fun k_ => (P0_ k_ ∨ w.heap.size ≤ k_)) v0_ r ∧ Below w0.heap.size w0 w' ∧ Kept w w' (fun k_ => P0_ k_) := by
 have HO0 := Aside0.mk (show Kd.R (Kd.int .u8) 5 w w0.heap.size (fun k_ => (P0_ k_ ∨ w.heap.size ≤ k_)) u9000_ l0 from Kd.R_mono ho0 (fun k_ hk => (.inl hk)))
 have HK := Aside0.mk (Kept.refl w (fun k_ => P0_ k_))
 have HW0 := Aside0.mk hB.size
 have HB := Aside0.mk hB
 clear hB
 have H : ((some (([92, a1] : List Int) : List Int)).bind fun y107 => (if l0.length + y107.length < 140737488355328 then (runes_hex.l0 k (l0 ++ y107) a2 (wrap64 (a3 - 1))) else (none))) = some r := h
 clear h
 obtain ⟨y107, hy107⟩ : ∃ y_ : List Int, y_ = (([92, a1] : List Int)) := ⟨_, rfl⟩
 replace H : (if l0.length + y107.length < 140737488355328 then (runes_hex.l0 k (l0 ++ y107) a2 (wrap64 (a3 - 1))) else (none)) = some r := by first | (rw [hy107]; with_reducible exact H) | (have H2_ := (Option.bind_some _ _).symm.trans H; rw [hy107]; with_reducible exact H2_) | (have H2_ := (Option.bind_some _ _).symm.trans H; with_reducible exact H2_) | with_reducible exact H | (rw [hy107]; exact H) | exact H
 have Ny107 := Aside0.mk hy107
 clear hy107
 by_cases c5 : l0.length + y107.length < 140737488355328
 · rw [if_pos c5] at H
   have LMc5 := Aside0.mk c5
   clear c5
   obtain ⟨y110, hy110⟩ : ∃ y_ : List Int, y_ = (l0 ++ y107) := ⟨_, rfl⟩
   replace H : (runes_hex.l0 k y110 a2 (wrap64 (a3 - 1))) = some r := by first | (rw [hy110]; with_reducible exact H) | (have H2_ := (Option.bind_some _ _).symm.trans H; rw [hy110]; with_reducible exact H2_) | (have H2_ := (Option.bind_some _ _).symm.trans H; with_reducible exact H2_) | with_reducible exact H | (rw [hy110]; exact H) | exact H
   have Ny110 := Aside0.mk hy110
   clear hy110
   have H' := Aside0.mk H
   clear H
   go_enter Tryd.func40, Tryd.ntmps40
   go_wp2_with (first | ((with_reducible refine gate_dst (N := 12) rfl ?_); refine Kd.R_lit (Kd.int .u8) _ 5 ?hg (N := 12) ?hd (xs := ([92, a1] : List Int)) (inner := [.int .u8 92, .int .u8 a1]) (ok := fun _ => True) (okp := fun _ => True) ?hr ?hp (fun _ hk => hk) trivial (Below.refl _ _) (Nat.le_refl _) (by simp) ?_; (case hd => rfl); (case hg => rfl); (case hr => first | (go_simp; done) | (go_simp; rfl)); (case hp => exact (Reps.one (show Kd.M (Kd.int .u8) _ _ _ 92 [.int .u8 92] from rfl) (Reps.one (show Kd.M (Kd.int .u8) _ _ _ a1 [.int .u8 a1] from rfl) (Reps.none _ _)))); intro v108 w6 ho7 hb hg_ hnew_; clear hg_ hnew_; (first | rw [← Ny107.out] at ho7 | (simp only [Int.reduceToNat] at ho7; rw [← Ny107.out] at ho7)); have HO109 := Aside0.mk (Kd.R_lower (Kd.R_new' (Kd.R_newM (M := fun k_ => (P0_ k_ ∨ w.heap.size ≤ k_)) ho7 (by first | exact HK.out.1 | exact (show Kept w _ (fun k_ => P0_ k_) from by repeat (first | (with_reducible first | exact HK.out | apply Kept.alloc | apply Kept.drewN | apply Kept.drew) | exact HK.out)).1) (fun k_ h_ => .inr h_)) (Kd.R_lt (by (with_reducible repeat (first | apply Kd.R_alloc | apply Kd.R_drewN | apply Kd.R_drew)); exact HO0.out))) (below_size (qh HB))); replace HO0 := Aside0.mk (Kd.R_elder' (by (with_reducible repeat (first | apply Kd.R_alloc | apply Kd.R_drewN | apply Kd.R_drew)); exact HO0.out) (Kd.R_base ho7) hb); replace HK := Aside0.mk (Kept.below (S := (fun k_ => P0_ k_)) (by repeat (first | (with_reducible first | exact HK.out | apply Kept.alloc | apply Kept.drewN | apply Kept.drew) | exact HK.out)) hb); replace HB := qn HB hb; clear hb ho7; obtain ⟨Ao9, co9, eo9⟩ := Kd.R_slice HO109.out; subst eo9) | ((with_reducible refine gate_builtin (b := .append) (xs := #[.tmp 10, .tmp 12]) rfl ?_); at_builtin; refine Kd.R_append_rows (Kd.int .u8) (w0 := w0) w0.heap.size rfl (.tmp 10) (.tmp 12) 41 5 (.int .u8 0) 1 rfl Tryd.underlying41 info5 rfl (by decide) (by omega) u9000_ l0 y107 _ _ _ (fun k_ => (P0_ k_ ∨ w.heap.size ≤ k_) ∧ some k_ ≠ (.slice Ao9 y107.length co9 : Value).ownBlock) (fun _ => False) rfl rfl ?aO ?aR (fun _ _ h => h) (fun _ h => h.elim) ?aF ?aB ?aS ?aL ?_; (case aR => repeat (first | exact (Kd.R_reads' HO109.out).2.2 | (with_reducible refine Kd.C_alloc ?_ _) | (with_reducible refine Kd.C_drewN ?_ _) | (with_reducible refine Kd.C_drew ?_))); (case aB => exact (qh HB)); (case aF => exact (fun k_ hk => ⟨(.inr (Nat.le_trans (by first | exact HK.out.1 | exact (show Kept w _ (fun k_ => P0_ k_) from by repeat (first | (with_reducible first | exact HK.out | apply Kept.alloc | apply Kept.drewN | apply Kept.drew) | exact HK.out)).1) hk)), Kd.fresh' (Kd.R_lt (by (with_reducible repeat (first | apply Kd.R_alloc | apply Kd.R_drewN | apply Kd.R_drew)); exact HO109.out)) k_ hk⟩)); (case aO => exact (by (with_reducible repeat (first | apply Kd.R_alloc | apply Kd.R_drewN | apply Kd.R_drew)); exact HO0.out)); (case aS => exact (below_size (qh HB))); (case aL => have := LMc5.out; omega); intro v111 w8 ho hb hg hat; rw [← Ny110.out] at ho; have n0_ := Aside0.mk (Kd.R_after (ok := (fun k_ => (P0_ k_ ∨ w.heap.size ≤ k_))) (by (with_reducible repeat (first | apply Kd.R_alloc | apply Kd.R_drewN | apply Kd.R_drew)); exact Kd.R_mono HO109.out (fun _ hk => ⟨hk.1.1, hk.2⟩)) hg hat); have n1_ := Aside0.mk (hb); have n2_ := Aside0.mk (Kept.of_grown (S := (fun k_ => P0_ k_)) hg (by repeat (first | (with_reducible first | exact HK.out | apply Kept.alloc | apply Kept.drewN | apply Kept.drew) | exact HK.out)) (fun k_ e_ => (HO0.out.1 k_ e_).1)); have n3_ := Aside0.mk (ho); clear HO109; clear HB; clear HK; clear HO0; have HO109 := n0_; have HB := n1_; have HK := n2_; have HO112 := n3_; clear n0_ n1_ n2_ n3_; clear ho hb hg hat))
   (try simp only [Act.put, List.setIfInBounds_toArray, List.set_cons_zero, List.set_cons_succ])
   go_loopg [0, 9] k (fun kq v0 v9 w' => ∃ (x0_1 : List Int) (x9_1 : Int), v9 = .int .i64 x9_1 ∧ Aside0 (runes_hex.l0 kq x0_1 a2 x9_1 = some r) ∧ Aside0 (kq ≤ k) ∧ Aside0 (Kd.R (Kd.int .u8) 5 w' w0.heap.size (fun k_ => (P0_ k_ ∨ w.heap.size ≤ k_)) v0 x0_1) ∧ Aside0 (Kept w w' (fun k_ => P0_ k_)) ∧ Aside0 (Below w0.heap.size w0 w'))
   case atStart => exact ⟨(y110), (wrap64 (a3 - 1)), (by first | rfl | (simp; done) | (simp [*]; done)), H', ⟨Nat.le_refl _⟩, ⟨by (with_reducible repeat (first | apply Kd.R_alloc | apply Kd.R_drewN | apply Kd.R_drew)); exact Kd.R_mono HO112.out (fun _ hk => hk.1)⟩, ⟨by repeat (first | (with_reducible first | exact HK.out | apply Kept.alloc | apply Kept.drewN | apply Kept.drew) | exact HK.out)⟩, ⟨qh HB⟩⟩
   case round =>
    clear H'
    try clear p2
    try clear c4
    try clear c5
    try clear p6
    obtain ⟨x0_1, x9_1, rfl, HA, HK1, HO_0, HK, HB⟩ := hrel
    cases gk with
    | zero => exact absurd HA.out (by simp [runes_hex.l0])
    | succ k1 =>
     have H := HA.out
     clear HA
     simp only [runes_hex.l0] at H
     by_cases c10 : x9_1 ≥ 0
     · rw [if_pos c10] at H
       have c10b0 : decide (0 ≤ x9_1) = true := decide_eq_true c10
       clear c10
       obtain ⟨ji11, hji11⟩ : ∃ j_ : Int, (wrap64 (4 * x9_1)) = j_ := ⟨_, rfl⟩
       replace H : (if 0 ≤ (ji11) then (if 0 ≤ (Go.bits .and .u32 (shr .u32 a2 (ji11)) 15) then (if (Go.bits .and .u32 (shr .u32 a2 (ji11)) 15) < 16 then (if x0_1.length < 140737488355328 then (runes_hex.l0 k1 (x0_1 ++ [bt (⟨#[48, 49, 50, 51, 52, 53, 54, 55, 56, 57, 97, 98, 99, 100, 101, 102]⟩ : ByteArray) (Go.bits .and .u32 (shr .u32 a2 (ji11)) 15)]) a2 (wrap64 (x9_1 - 1))) else (none)) else (none)) else (none)) else (none)) = some r := by first | (rw [hji11] at H; exact H) | (simp only [hji11] at H ⊢; exact H)
       have hji11w : (IntKind.i64.wrap (4 * x9_1)) = ji11 := (i64_w _).trans hji11
       by_cases c12 : 0 ≤ (ji11)
       · rw [if_pos c12] at H
         have c12b0 := eq_true c12
         have c12b1 : decide (0 ≤ (ji11)) = true := decide_eq_true c12
         clear c12
         obtain ⟨ji13, hji13⟩ : ∃ j_ : Int, (shr .u32 a2 (ji11)) = j_ := ⟨_, rfl⟩
         replace H : (if 0 ≤ (Go.bits .and .u32 (ji13) 15) then (if (Go.bits .and .u32 (ji13) 15) < 16 then (if x0_1.length < 140737488355328 then (runes_hex.l0 k1 (x0_1 ++ [bt (⟨#[48, 49, 50, 51, 52, 53, 54, 55, 56, 57, 97, 98, 99, 100, 101, 102]⟩ : ByteArray) (Go.bits .and .u32 (ji13) 15)]) a2 (wrap64 (x9_1 - 1))) else (none)) else (none)) else (none)) = some r := by first | (rw [hji13] at H; exact H) | (simp only [hji13] at H ⊢; exact H)
         have hji13_ : (a2 / 2 ^ min (ji11).toNat 32) = ji13 := hji13
         try have hji13_z := hji13_
         (try simp only [go_sem, Int.ofNat_lt, ByteArray.size_extract, ByteArray.size_append, Nat.min_self, Int.natCast_add] at hji13_z)
         have hji13z : (ji11) ≤ 32 → (a2 / 2 ^ (ji11).toNat) = ji13 := shr_small hji13
         by_cases c14 : 0 ≤ (Go.bits .and .u32 (ji13) 15)
         · rw [if_pos c14] at H
           have c14b0 : decide (0 ≤ (Go.bits .and .u32 (ji13) 15)) = true := decide_eq_true c14
           clear c14
           by_cases c15 : (Go.bits .and .u32 (ji13) 15) < 16
           · rw [if_pos c15] at H
             have c15b0 : decide ((Go.bits .and .u32 (ji13) 15) < 16) = true := decide_eq_true c15
             clear c15
             by_cases c17 : x0_1.length < 140737488355328
             · rw [if_pos c17] at H
               have LMc17 := Aside0.mk c17
               clear c17
               obtain ⟨y113, hy113⟩ : ∃ y_ : List Int, y_ = (x0_1 ++ [bt (⟨#[48, 49, 50, 51, 52, 53, 54, 55, 56, 57, 97, 98, 99, 100, 101, 102]⟩ : ByteArray) (Go.bits .and .u32 (ji13) 15)]) := ⟨_, rfl⟩
               replace H : (runes_hex.l0 k1 y113 a2 (wrap64 (x9_1 - 1))) = some r := by first | (rw [hy113]; with_reducible exact H) | (have H2_ := (Option.bind_some _ _).symm.trans H; rw [hy113]; with_reducible exact H2_) | (have H2_ := (Option.bind_some _ _).symm.trans H; with_reducible exact H2_) | with_reducible exact H | (rw [hy113]; exact H) | exact H
               have Ny113 := Aside0.mk hy113
               clear hy113
               have H' := Aside0.mk H
               clear H
               have p16 : 0 ≤ ((Go.bits .and .u32 (ji13) 15) : Int) := of_decide_eq_true qa
               have q16 : (Go.bits .and .u32 (ji13) 15) < (16 : Int) := of_decide_eq_true qa
               have hx16 := bt_at (⟨#[48, 49, 50, 51, 52, 53, 54, 55, 56, 57, 97, 98, 99, 100, 101, 102]⟩ : ByteArray) (Go.bits .and .u32 (ji13) 15)
               replace p16 := eq_true p16
               replace q16 := eq_true q16
               go_wp2_with (first | ((with_reducible refine gate_builtin (b := .append) (xs := #[.tmp 20, .tmp 27]) rfl ?_); at_builtin; refine Kd.R_append (Kd.int .u8) (w0 := w0) w0.heap.size rfl (.tmp 20) (.tmp 27) 41 5 (.int .u8 0) 1 rfl Tryd.underlying41 info5 rfl (by decide) (by omega) u0 x0_1 (bt (⟨#[48, 49, 50, 51, 52, 53, 54, 55, 56, 57, 97, 98, 99, 100, 101, 102]⟩ : ByteArray) (Go.bits .and .u32 (ji13) 15)) [.int .u8 (bt (⟨#[48, 49, 50, 51, 52, 53, 54, 55, 56, 57, 97, 98, 99, 100, 101, 102]⟩ : ByteArray) (Go.bits .and .u32 (ji13) 15))] (fun k_ => (P0_ k_ ∨ w.heap.size ≤ k_)) (fun _ => False) rfl rfl ?aP (fun _ hk => hk.elim) ?aF ?aO ?aB ?aS ?aL ?_; (case aP => exact rfl); (case aB => exact (qh HB)); (case aF => exact (fun k_ hk => (.inr (Nat.le_trans (by first | exact HK.out.1 | exact (show Kept w _ (fun k_ => P0_ k_) from by repeat (first | (with_reducible first | exact HK.out | apply Kept.alloc | apply Kept.drewN | apply Kept.drew) | exact HK.out)).1) hk)))); (case aO => exact (by (with_reducible repeat (first | apply Kd.R_alloc | apply Kd.R_drewN | apply Kd.R_drew)); exact HO_0.out)); (case aS => exact (below_size (qh HB))); (case aL => have := LMc17.out; omega); intro v114 w18 ho hb hg hat; rw [← Ny113.out] at ho; have n0_ := Aside0.mk (hb); have n1_ := Aside0.mk (Kept.of_grown (S := (fun k_ => P0_ k_)) hg (by repeat (first | (with_reducible first | exact HK.out | apply Kept.alloc | apply Kept.drewN | apply Kept.drew) | exact HK.out)) (fun k_ e_ => (HO_0.out.1 k_ e_))); have n2_ := Aside0.mk (ho); clear HB; clear HK; clear HO_0; have HB := n0_; have HK := n1_; have HO115 := n2_; clear n0_ n1_ n2_; clear ho hb hg hat))
               go_roundg k1
               case measure => have := HK1.out; omega
               case rel => exact ⟨(y113), (wrap64 (x9_1 - 1)), (by first | rfl | (simp; done) | (simp [*]; done)), H', ⟨by have := HK1.out; omega⟩, ⟨by (with_reducible repeat (first | apply Kd.R_alloc | apply Kd.R_drewN | apply Kd.R_drew)); exact HO115.out⟩, ⟨by repeat (first | (with_reducible first | exact HK.out | apply Kept.alloc | apply Kept.drewN | apply Kept.drew) | exact HK.out)⟩, ⟨qh HB⟩⟩
             · rw [if_neg c17] at H
               exact absurd H (by simp)
           · rw [if_neg c15] at H
             exact absurd H (by simp)
         · rw [if_neg c14] at H
           exact absurd H (by simp)
       · rw [if_neg c12] at H
         exact absurd H (by simp)
     · rw [if_neg c10] at H
       have c10b0 : decide (0 ≤ x9_1) = false := decide_eq_false c10
       clear c10
       obtain rfl := Option.some.inj H
       go_wp2
       go_ret
       exact ⟨_, by first | rfl | (simp [errW_none, errW_some] <;> rfl) | (simp [*, errW_none, errW_some] <;> rfl), by (with_reducible repeat (first | apply Kd.R_alloc | apply Kd.R_drewN | apply Kd.R_drew)); exact HO_0.out, qh HB, by repeat (first | (with_reducible first | exact HK.out | apply Kept.alloc | apply Kept.drewN | apply Kept.drew) | exact HK.out)⟩
 · rw [if_neg c5] at H
   exact absurd H (by simp)

end Go.Proofs.YtigikjihagmokaaDoor.X
set_option linter.unusedVariables false
set_option linter.unusedSimpArgs false
namespace Go.Proofs.YtigikjihagmokaaDoor.EscP
open Go.RowKit Go.Proofs.YtigikjihagmokaaDoorW.PrintWords Go.Proofs.YtigikjihagmokaaDoorW.PrintLast Go.Proofs.YtigikjihagmokaaDoorW.PrintMore Go.Proofs.YtigikjihagmokaaDoor.Aid Go.Proofs.YtigikjihagmokaaDoor.Esc01 Go.Proofs.YtigikjihagmokaaDoor.X
theorem w64 {x : Int} (h0 : -9223372036854775808 ≤ x) (h1 : x ≤ 9223372036854775807) : wrap64 x = x := by unfold wrap64; omega
def ints (l : List UInt8) : List Int := l.map fun c => (c.toNat : Int)
theorem ints_length (l : List UInt8) : (ints l).length = l.length := by simp [ints]
theorem ints_app (a b : List UInt8) : ints (a ++ b) = ints a ++ ints b := by simp [ints]
theorem str_ints (l : List UInt8) : strOfNums (ints l) = ⟨l.toArray⟩ := by
  simp [strOfNums, ints, Function.comp_def]
def dl (s : ByteArray) (i : Nat) : List UInt8 := s.data.toList.drop i
theorem dl_cons (s : ByteArray) (i : Nat) (h : i < s.size) : dl s i = s.get! i :: dl s (i + 1) := by
  have hl : i < s.data.toList.length := by rw [Array.length_toList]; exact h
  unfold dl
  rw [List.drop_eq_getElem_cons hl]
  congr 1
  show s.data[i]'h = s.data[i]!
  exact (getElem!_pos s.data i h).symm
theorem dl_nil (s : ByteArray) (i : Nat) (h : s.size ≤ i) : dl s i = [] := by
  unfold dl
  exact List.drop_eq_nil_of_le (by rw [Array.length_toList]; exact h)
theorem dl_drop (s : ByteArray) (i n : Nat) : (dl s i).drop n = dl s (i + n) := by
  unfold dl
  rw [List.drop_drop]
theorem table (d : Nat) (h : d < 16) : bt (⟨#[48, 49, 50, 51, 52, 53, 54, 55, 56, 57, 97, 98, 99, 100, 101, 102]⟩ : ByteArray) (d : Int) = ((dig d).toNat : Int) := by
  have hd : d = 0 ∨ d = 1 ∨ d = 2 ∨ d = 3 ∨ d = 4 ∨ d = 5 ∨ d = 6 ∨ d = 7 ∨ d = 8 ∨ d = 9 ∨ d = 10 ∨ d = 11 ∨ d = 12 ∨ d = 13 ∨ d = 14 ∨ d = 15 := by omega
  rcases hd with rfl | rfl | rfl | rfl | rfl | rfl | rfl | rfl | rfl | rfl | rfl | rfl | rfl | rfl | rfl | rfl <;> rfl
theorem low4 (n : Nat) (h : n < 4294967296) : Go.bits .and .u32 (n : Int) 15 = ((n % 16 : Nat) : Int) := by
  have := bits_mask .u32 32 (by decide) (fun z h0 h1 => by rw [IntKind.wrap_u32]; omega) 4 (by decide) (n : Int) (by omega) (by omega)
  rw [show ((2 : Int) ^ 4 - 1) = 15 from rfl, show ((2 : Int) ^ 4) = 16 from rfl] at this
  rw [this]
  omega
theorem hex_step (k : Nat) (x : List Int) (n p : Nat) (i i' j : Int) (hx : x.length < 140737488355328) (hn : n < 4294967296) (h0 : 0 ≤ i) (hw : wrap64 (4 * i) = j) (h1 : 0 ≤ j) (h2 : shr .u32 (n : Int) j = ((n / p : Nat) : Int)) (h3 : wrap64 (i - 1) = i') :
    runes_hex.l0 (k + 1) x (n : Int) i = runes_hex.l0 k (x ++ [((dig (n / p % 16)).toNat : Int)]) (n : Int) i' := by
  have hp : n / p < 4294967296 := Nat.lt_of_le_of_lt (Nat.div_le_self _ _) hn
  simp only [runes_hex.l0]
  rw [if_pos h0, hw, if_pos h1, h2, low4 _ hp, if_pos (by omega), if_pos (by omega), if_pos hx, h3, table _ (by omega)]
theorem hex_end (k : Nat) (x : List Int) (n : Int) : runes_hex.l0 (k + 1) x n (-1) = some x := by
  simp only [runes_hex.l0]
  rw [if_neg (by decide)]
theorem hex2 (acc : List UInt8) (mark : UInt8) (n : Nat) (hn : n < 4294967296) (ha : acc.length ≤ 140737488000000) : runes_hex.f 8 (ints acc) (mark.toNat : Int) (n : Int) 2 = some (ints (acc ++ (92 :: mark :: hx2 n))) := by
  have hL := ints_length acc
  unfold runes_hex.f
  simp only [Option.bind_some]
  rw [if_pos (by simp only [List.length_cons, List.length_nil]; omega), show wrap64 (2 - 1) = 1 from (w64 (by omega) (by omega)).trans rfl,
    hex_step _ _ n 16 1 0 4 (by simp only [List.length_append, List.length_cons, List.length_nil]; omega) hn (by decide) ((w64 (by omega) (by omega)).trans rfl) (by decide) rfl ((w64 (by omega) (by omega)).trans rfl),
    hex_step _ _ n 1 0 (-1) 0 (by simp only [List.length_append, List.length_cons, List.length_nil]; omega) hn (by decide) ((w64 (by omega) (by omega)).trans rfl) (by decide) rfl ((w64 (by omega) (by omega)).trans rfl), hex_end]
  rw [Nat.div_one]
  simp [ints, hx2]
theorem hex4 (acc : List UInt8) (mark : UInt8) (n : Nat) (hn : n < 4294967296) (ha : acc.length ≤ 140737488000000) : runes_hex.f 8 (ints acc) (mark.toNat : Int) (n : Int) 4 = some (ints (acc ++ (92 :: mark :: hx4 n))) := by
  have hL := ints_length acc
  unfold runes_hex.f
  simp only [Option.bind_some]
  rw [if_pos (by simp only [List.length_cons, List.length_nil]; omega), show wrap64 (4 - 1) = 3 from (w64 (by omega) (by omega)).trans rfl,
    hex_step _ _ n 4096 3 2 12 (by simp only [List.length_append, List.length_cons, List.length_nil]; omega) hn (by decide) ((w64 (by omega) (by omega)).trans rfl) (by decide) rfl ((w64 (by omega) (by omega)).trans rfl),
    hex_step _ _ n 256 2 1 8 (by simp only [List.length_append, List.length_cons, List.length_nil]; omega) hn (by decide) ((w64 (by omega) (by omega)).trans rfl) (by decide) rfl ((w64 (by omega) (by omega)).trans rfl),
    hex_step _ _ n 16 1 0 4 (by simp only [List.length_append, List.length_cons, List.length_nil]; omega) hn (by decide) ((w64 (by omega) (by omega)).trans rfl) (by decide) rfl ((w64 (by omega) (by omega)).trans rfl),
    hex_step _ _ n 1 0 (-1) 0 (by simp only [List.length_append, List.length_cons, List.length_nil]; omega) hn (by decide) ((w64 (by omega) (by omega)).trans rfl) (by decide) rfl ((w64 (by omega) (by omega)).trans rfl), hex_end]
  rw [Nat.div_one]
  simp [ints, hx4]
theorem hex6 (acc : List UInt8) (mark : UInt8) (n : Nat) (hn : n < 4294967296) (ha : acc.length ≤ 140737488000000) : runes_hex.f 8 (ints acc) (mark.toNat : Int) (n : Int) 6 = some (ints (acc ++ (92 :: mark :: hx6 n))) := by
  have hL := ints_length acc
  unfold runes_hex.f
  simp only [Option.bind_some]
  rw [if_pos (by simp only [List.length_cons, List.length_nil]; omega), show wrap64 (6 - 1) = 5 from (w64 (by omega) (by omega)).trans rfl,
    hex_step _ _ n 1048576 5 4 20 (by simp only [List.length_append, List.length_cons, List.length_nil]; omega) hn (by decide) ((w64 (by omega) (by omega)).trans rfl) (by decide) rfl ((w64 (by omega) (by omega)).trans rfl),
    hex_step _ _ n 65536 4 3 16 (by simp only [List.length_append, List.length_cons, List.length_nil]; omega) hn (by decide) ((w64 (by omega) (by omega)).trans rfl) (by decide) rfl ((w64 (by omega) (by omega)).trans rfl),
    hex_step _ _ n 4096 3 2 12 (by simp only [List.length_append, List.length_cons, List.length_nil]; omega) hn (by decide) ((w64 (by omega) (by omega)).trans rfl) (by decide) rfl ((w64 (by omega) (by omega)).trans rfl),
    hex_step _ _ n 256 2 1 8 (by simp only [List.length_append, List.length_cons, List.length_nil]; omega) hn (by decide) ((w64 (by omega) (by omega)).trans rfl) (by decide) rfl ((w64 (by omega) (by omega)).trans rfl),
    hex_step _ _ n 16 1 0 4 (by simp only [List.length_append, List.length_cons, List.length_nil]; omega) hn (by decide) ((w64 (by omega) (by omega)).trans rfl) (by decide) rfl ((w64 (by omega) (by omega)).trans rfl),
    hex_step _ _ n 1 0 (-1) 0 (by simp only [List.length_append, List.length_cons, List.length_nil]; omega) hn (by decide) ((w64 (by omega) (by omega)).trans rfl) (by decide) rfl ((w64 (by omega) (by omega)).trans rfl), hex_end]
  rw [Nat.div_one]
  simp [ints, hx6]
def escape (s : ByteArray) : ByteArray := ⟨(escapeL (s.size + 1) s.data.toList).toArray⟩
theorem own_ne {w : World} {base e n k pos : Nat} {v : Value} {xs : List Value} {s : ByteArray} (h : w.ownsRow base e 1 v n xs) (hk : w.heap[k]? = some (.stringIter s pos)) : v.ownBlock ≠ some k := by
  intro hv
  rcases h.2 with ⟨rfl, _⟩ | ⟨g, cap, cur, rfl, _, hg, _⟩
  · cases hv
  · simp only [Value.ownBlock, Option.some.injEq] at hv
    subst hv
    rw [hg] at hk
    cases hk
theorem own_iter {w : World} {base e n k pos : Nat} {v : Value} {xs : List Value} {s : ByteArray} (h : w.ownsRow base e 1 v n xs) (hk : w.heap[k]? = some (.stringIter s pos)) (pos' : Nat) : (w.iterAt k s pos').ownsRow base e 1 v n xs := by
  have hne := own_ne h hk
  refine ⟨h.1, ?_⟩
  rcases h.2 with h2 | ⟨g, cap, cur, rfl, h3, h4, h5⟩
  · exact .inl h2
  · refine .inr ⟨g, cap, cur, rfl, h3, ?_, h5⟩
    rw [Lib.iterAt_other w k g s pos' (fun e => hne (by rw [e]; rfl))]
    exact h4
theorem toR {W : World} {n k pos : Nat} {v : Value} {acc : List UInt8} {s : ByteArray} (h : W.ownsRow n 5 1 v acc.length (nums .u8 (ints acc))) (hk : W.heap[k]? = some (.stringIter s pos)) : Kd.R (Kd.int .u8) 5 W n (fun j => j ≠ k) v (ints acc) :=
  Kd.R_of_own (h1 := fun _ => rfl) (by rw [ints_length]; exact h) (fun j hj e => own_ne h hk (by rw [hj, e]))
theorem ofR {W : World} {n : Nat} {v : Value} {l : List UInt8} {ok : Nat → Prop} (h : Kd.R (Kd.int .u8) 5 W n ok v (ints l)) : W.ownsRow n 5 1 v l.length (nums .u8 (ints l)) := by
  have e := Kd.own_of_R h
  rw [ints_length] at e
  exact e
theorem sz {W : World} {n : Nat} {v : Value} {l : List UInt8} (h : W.ownsRow n 5 1 v l.length (nums .u8 (ints l))) : W.ownsRow n 5 1 v (ints l).length (nums .u8 (ints l)) := by
  rw [ints_length]
  exact h
theorem two_app {W : World} {n : Nat} {v : Value} (l : List UInt8) (a b : UInt8) (h : W.ownsRow n 5 1 v (ints l ++ [(a.toNat : Int), (b.toNat : Int)]).length (nums .u8 (ints l ++ [(a.toNat : Int), (b.toNat : Int)]))) : W.ownsRow n 5 1 v (l ++ [a, b]).length (nums .u8 (ints (l ++ [a, b]))) := by
  rw [ints_app, ← ints_length (l ++ [a, b]), ints_app]
  exact h
theorem one_app {W : World} {n : Nat} {v : Value} (l : List UInt8) (a : UInt8) (h : W.ownsRow n 5 1 v (ints l ++ [(a.toNat : Int)]).length (nums .u8 (ints l ++ [(a.toNat : Int)]))) : W.ownsRow n 5 1 v (l ++ [a]).length (nums .u8 (ints (l ++ [a]))) := by
  rw [ints_app, ← ints_length (l ++ [a]), ints_app]
  exact h
theorem heap_size_alloc (W : World) (o : Obj) : (W.alloc o).heap.size = W.heap.size + 1 := by simp
theorem lit2 (W : World) (a b : Int) : ReadsInt (W.alloc (.cells #[.int .u8 a, .int .u8 b] 5)) .u8 (some ⟨W.heap.size, 0, none⟩) 2 [a, b] := by
  refine ⟨rfl, by decide, fun _ => ⟨_, rfl, ?_⟩⟩
  intro j hj
  have hb := (MapKept.heap_alloc W (.cells #[.int .u8 a, .int .u8 b] 5)).1
  rw [show (⟨W.heap.size, 0, none⟩ : Addr).add j = ⟨W.heap.size, j, none⟩ from by simp [Addr.add]; omega, Lib.cell_of_heap hb]
  rcases (by omega : j = 0 ∨ j = 1) with rfl | rfl <;> rfl
set_option maxHeartbeats 4000000 in
set_option maxRecDepth 100000 in
theorem escapeCalls (s : ByteArray) (hs : s.size ≤ 1048576) (w : World) (hT : Stray.Tabs w) : Calls Tryd.prog 21 #[.string s] w fun e w' => e = .returned (.string (escape s)) ∧ Below w.heap.size w w' := by
  go_enter Tryd.func21, Tryd.ntmps21
  go_wp2
  go_loopw [3] (fun v wr => ∃ (pos fuel : Nat) (acc : List UInt8), Aside0 (wr.ownsRow w.heap.size 5 1 v acc.length (nums .u8 (ints acc))) ∧ wr.heap[w.heap.size]? = some (.stringIter s pos) ∧ Aside0 (Below w.heap.size w wr) ∧ Aside0 (acc ++ escapeL fuel (dl s pos) = escapeL (s.size + 1) s.data.toList) ∧ Aside0 (s.size < pos + fuel ∧ acc.length ≤ 8 * pos)) (fun _ wr => s.size - wr.iterPos w.heap.size)
  case atStart =>
    refine ⟨0, s.size + 1, [], ⟨own_nil _ _ _ _⟩, ?_, ⟨(Below.refl _ w).alloc (Nat.le_refl _) _⟩, ⟨rfl⟩, ⟨by omega, by simp⟩⟩
    have := World.iter_heap w s 0
    simpa using this
  case round =>
    obtain ⟨pos, fuel, acc, HO, hit, HB, HF, HL⟩ := hrel
    have hsz : w.heap.size < wr.heap.size := (Array.getElem?_eq_some_iff.1 hit).1
    by_cases hp : pos < s.size
    · have hnx : ∀ ty, (Instr.next (.pointer (some ⟨w.heap.size, 0, none⟩)) true ty).run Tryd.prog wr = _ := fun ty => Lib.run_next_any_at wr w.heap.size s pos ty hit hp
      have hwd := Stray.width s pos hp
      have hd1 := decode_le s pos
      have hit2 := Lib.iterAt_heap wr w.heap.size s pos (pos + (Utf8.decode s pos).2) hit
      have hO2 := own_iter HO.out hit (pos + (Utf8.decode s pos).2)
      have hbw2 := Lib.below_iterAt HB.out (k := w.heap.size) (by omega) s (pos + (Utf8.decode s pos).2)
      have c := Stray.stray s pos hp (by omega) _ (hT.below hbw2)
      have hsz2 : w.heap.size < (wr.iterAt w.heap.size s (pos + (Utf8.decode s pos).2)).heap.size := by rw [Lib.iterAt_size]; exact hsz
      obtain ⟨k, rfl⟩ : ∃ k, fuel = k + 1 := ⟨fuel - 1, by have := HL.out.1; omega⟩
      have HF2 : Aside0 (acc ++ (piece (Stray.strayB s pos) (s.get! pos) (Utf8.decode s pos).1 ++ escapeL k (dl s (pos + (Utf8.decode s pos).2))) = escapeL (s.size + 1) s.data.toList) := ⟨by
        have h := HF.out
        rw [dl_cons s pos hp] at h
        simp only [escapeL] at h
        rw [← dl_cons s pos hp, show Lib.decodeL (dl s pos) = Utf8.decode s pos from Lib.decodeL_drop s pos, dl_drop] at h
        exact h⟩
      have HP := Aside0.mk hp
      have HL2 : Aside0 (s.size < pos + (Utf8.decode s pos).2 + k ∧ acc.length ≤ 8 * pos ∧ acc.length ≤ 8388608 ∧ 1 ≤ (Utf8.decode s pos).2) := ⟨by have := HL.out; omega⟩
      clear HF HL
      -- ways
      obtain ⟨b_, hb_⟩ : ∃ b_, b_ = Stray.strayB s pos := ⟨_, rfl⟩
      rw [← hb_] at c HF2
      have HIT := Aside0.mk hit
      have hbyte := (s.get! pos).toNat_lt
      have hmax := Rep01.dec_valid (dl s pos)
      rw [show Lib.decodeL (dl s pos) = Utf8.decode s pos from Lib.decodeL_drop s pos] at hmax
      have HZ0 : Aside0 ((((s[pos]'hp).toNat : Nat) : Int) % 4294967296 = (((s.get! pos).toNat : Nat) : Int)) := ⟨by
        have e3 : s.get! pos = s[pos]'hp := getElem!_pos s.data pos hp
        rw [← e3]; omega⟩
      have b2 := bt_at s (pos : Int)
      clear hb_ hit hwd HO HB
      generalize Utf8.decode s pos = d at *
      go_wp2_with (go_at_call 33; refine c.mono ?_)
      rintro e W1 ⟨rfl, b1⟩
      have hit3 : W1.heap[w.heap.size]? = some (.stringIter s (pos + d.2)) := (b1.block _ hsz2).trans hit2
      have hO3 := pw_own_below hO2 b1
      have hB3 := below_then hbw2 hbw2.size b1
      have hc3 : w.heap.size < W1.heap.size := Nat.lt_of_lt_of_le hsz2 b1.size
      clear hO2 hit2 hbw2 hsz2 b1 c hsz hnx
      by_cases hst : b_ = true
      · subst hst
        have hpc : Aside0 (piece true (s.get! pos) d.1 = 92 :: 120 :: hx2 (s.get! pos).toNat) := ⟨by unfold piece; rw [if_pos rfl]⟩
        have p1 : (0 ≤ (pos : Int)) = True := eq_true (by omega)
        have p2 : ((pos : Int) < (s.size : Int)) = True := eq_true (by omega)
        have HB8 : Aside0 ((s.get! pos).toNat < 4294967296) := ⟨by omega⟩
        have HZ := HZ0
        clear hbyte hmax hd1 b2
        have hx : ∀ z : Int, z = (((s.get! pos).toNat : Nat) : Int) → runes_hex.f 8 (ints acc) 120 z 2 = some (ints (acc ++ (92 :: 120 :: hx2 (s.get! pos).toNat))) := by
          intro z hz
          rw [hz]
          exact hex2 acc 120 _ HB8.out (by have := HL2.out; omega)
        go_wp2_with (go_at_call 40; refine (runes_hex.calls 8 (fun k => k ≠ w.heap.size) _ (ints acc) 120 _ 2 _ w _ hB3 (toR hO3 hit3) (hx _ (by exact HZ.out))).mono ?_)
        rintro e W2 ⟨v2, rfl, ho2, b2', k2⟩
        have hit4 : W2.heap[w.heap.size]? = some (.stringIter s (pos + d.2)) := (k2.2 _ hc3 (fun h => h rfl)).trans hit3
        have hO4 := ofR ho2
        clear ho2 k2 hit3 hO3 hB3
        go_wp2
        go_roundw
        case rel =>
          refine ⟨_, k, acc ++ (92 :: 120 :: hx2 (s.get! pos).toNat), ⟨hO4⟩, hit4, ⟨b2'⟩, ⟨?_⟩, ⟨?_⟩⟩
          · have h := HF2.out
            rw [hpc.out] at h
            rw [List.append_assoc]
            exact h
          · have h := HL2.out
            have hl := piece_len true (s.get! pos) d.1
            rw [hpc.out] at hl
            rw [List.length_append]
            omega
        case measure =>
          have h := HL2.out
          simp only [World.iterPos, hit4, HIT.out]
          have := HP.out
          omega
      obtain rfl : b_ = false := by simpa using hst
      clear hst HZ0 hbyte hp b2
      by_cases h0 : d.1 = 92
      · have hpc : Aside0 (piece false (s.get! pos) d.1 = [92, 92]) := ⟨by unfold piece; rw [if_neg (by decide), if_pos h0]⟩
        have e0 : (((d.1 : Nat) : Int) == 92) = true := by rw [beq_iff_eq]; omega
        clear hmax hd1 h0 
        go_wp2_with ((with_reducible refine gate_builtin (b := .append) (xs := #[.tmp 30, .tmp 31]) rfl ?_); at_builtin; refine print_append_row (w0 := w) w.heap.size rfl (.tmp 30) (.tmp 31) 41 5 .u8 1 rfl Tryd.underlying41 info5 (by decide) u3 (ints acc) [92, 92] _ 2 2 rfl rfl (sz (hO3.alloc _)) (lit2 _ 92 92) (hB3.alloc (Nat.le_of_lt hc3) _) (by rw [heap_size_alloc]; omega) (by have := HL2.out; have := ints_length acc; omega) ?_; intro v2 w2 ho hb hg hat)
        have hit4 : w2.heap[w.heap.size]? = some (.stringIter s (pos + d.2)) := (hg.block _ (by rw [heap_size_alloc]; omega) (fun e => own_ne hO3 hit3 e.symm)).trans ((Lib.alloc_old _ _ _ hc3).trans hit3)
        have hO4 := two_app acc 92 92 ho
        clear ho hg hat hit3 hO3 hB3
        go_roundw
        case rel =>
          refine ⟨_, k, acc ++ [92, 92], ⟨hO4⟩, hit4, ⟨hb⟩, ⟨?_⟩, ⟨?_⟩⟩
          · have h := HF2.out
            rw [hpc.out] at h
            rw [List.append_assoc]
            exact h
          · have h := HL2.out
            have hl := piece_len false (s.get! pos) d.1
            rw [hpc.out] at hl
            rw [List.length_append]
            omega
        case measure =>
          have h := HL2.out
          simp only [World.iterPos, hit4, HIT.out]
          have := HP.out
          omega
      by_cases h1 : d.1 = 10
      · have hpc : Aside0 (piece false (s.get! pos) d.1 = [92, 110]) := ⟨by unfold piece; rw [if_neg (by decide), if_neg h0, if_pos h1]⟩
        have e0 : (((d.1 : Nat) : Int) == 92) = false := by rw [beq_eq_false_iff_ne]; omega
        have e1 : (((d.1 : Nat) : Int) == 10) = true := by rw [beq_iff_eq]; omega
        clear hmax hd1 h1 h0
        go_wp2_with ((with_reducible refine gate_builtin (b := .append) (xs := #[.tmp 36, .tmp 37]) rfl ?_); at_builtin; refine print_append_row (w0 := w) w.heap.size rfl (.tmp 36) (.tmp 37) 41 5 .u8 1 rfl Tryd.underlying41 info5 (by decide) u3 (ints acc) [92, 110] _ 2 2 rfl rfl (sz (hO3.alloc _)) (lit2 _ 92 110) (hB3.alloc (Nat.le_of_lt hc3) _) (by rw [heap_size_alloc]; omega) (by have := HL2.out; have := ints_length acc; omega) ?_; intro v2 w2 ho hb hg hat)
        have hit4 : w2.heap[w.heap.size]? = some (.stringIter s (pos + d.2)) := (hg.block _ (by rw [heap_size_alloc]; omega) (fun e => own_ne hO3 hit3 e.symm)).trans ((Lib.alloc_old _ _ _ hc3).trans hit3)
        have hO4 := two_app acc 92 110 ho
        clear ho hg hat hit3 hO3 hB3
        go_roundw
        case rel =>
          refine ⟨_, k, acc ++ [92, 110], ⟨hO4⟩, hit4, ⟨hb⟩, ⟨?_⟩, ⟨?_⟩⟩
          · have h := HF2.out
            rw [hpc.out] at h
            rw [List.append_assoc]
            exact h
          · have h := HL2.out
            have hl := piece_len false (s.get! pos) d.1
            rw [hpc.out] at hl
            rw [List.length_append]
            omega
        case measure =>
          have h := HL2.out
          simp only [World.iterPos, hit4, HIT.out]
          have := HP.out
          omega
      by_cases h2 : d.1 = 13
      · have hpc : Aside0 (piece false (s.get! pos) d.1 = [92, 114]) := ⟨by unfold piece; rw [if_neg (by decide), if_neg h0, if_neg h1, if_pos h2]⟩
        have e0 : (((d.1 : Nat) : Int) == 92) = false := by rw [beq_eq_false_iff_ne]; omega
        have e1 : (((d.1 : Nat) : Int) == 10) = false := by rw [beq_eq_false_iff_ne]; omega
        have e2 : (((d.1 : Nat) : Int) == 13) = true := by rw [beq_iff_eq]; omega
        clear hmax hd1 h2 h0 h1
        go_wp2_with ((with_reducible refine gate_builtin (b := .append) (xs := #[.tmp 42, .tmp 43]) rfl ?_); at_builtin; refine print_append_row (w0 := w) w.heap.size rfl (.tmp 42) (.tmp 43) 41 5 .u8 1 rfl Tryd.underlying41 info5 (by decide) u3 (ints acc) [92, 114] _ 2 2 rfl rfl (sz (hO3.alloc _)) (lit2 _ 92 114) (hB3.alloc (Nat.le_of_lt hc3) _) (by rw [heap_size_alloc]; omega) (by have := HL2.out; have := ints_length acc; omega) ?_; intro v2 w2 ho hb hg hat)
        have hit4 : w2.heap[w.heap.size]? = some (.stringIter s (pos + d.2)) := (hg.block _ (by rw [heap_size_alloc]; omega) (fun e => own_ne hO3 hit3 e.symm)).trans ((Lib.alloc_old _ _ _ hc3).trans hit3)
        have hO4 := two_app acc 92 114 ho
        clear ho hg hat hit3 hO3 hB3
        go_roundw
        case rel =>
          refine ⟨_, k, acc ++ [92, 114], ⟨hO4⟩, hit4, ⟨hb⟩, ⟨?_⟩, ⟨?_⟩⟩
          · have h := HF2.out
            rw [hpc.out] at h
            rw [List.append_assoc]
            exact h
          · have h := HL2.out
            have hl := piece_len false (s.get! pos) d.1
            rw [hpc.out] at hl
            rw [List.length_append]
            omega
        case measure =>
          have h := HL2.out
          simp only [World.iterPos, hit4, HIT.out]
          have := HP.out
          omega
      by_cases h3 : d.1 = 9
      · have hpc : Aside0 (piece false (s.get! pos) d.1 = [92, 116]) := ⟨by unfold piece; rw [if_neg (by decide), if_neg h0, if_neg h1, if_neg h2, if_pos h3]⟩
        have e0 : (((d.1 : Nat) : Int) == 92) = false := by rw [beq_eq_false_iff_ne]; omega
        have e1 : (((d.1 : Nat) : Int) == 10) = false := by rw [beq_eq_false_iff_ne]; omega
        have e2 : (((d.1 : Nat) : Int) == 13) = false := by rw [beq_eq_false_iff_ne]; omega
        have e3 : (((d.1 : Nat) : Int) == 9) = true := by rw [beq_iff_eq]; omega
        clear hmax hd1 h3 h0 h1 h2
        go_wp2_with ((with_reducible refine gate_builtin (b := .append) (xs := #[.tmp 48, .tmp 49]) rfl ?_); at_builtin; refine print_append_row (w0 := w) w.heap.size rfl (.tmp 48) (.tmp 49) 41 5 .u8 1 rfl Tryd.underlying41 info5 (by decide) u3 (ints acc) [92, 116] _ 2 2 rfl rfl (sz (hO3.alloc _)) (lit2 _ 92 116) (hB3.alloc (Nat.le_of_lt hc3) _) (by rw [heap_size_alloc]; omega) (by have := HL2.out; have := ints_length acc; omega) ?_; intro v2 w2 ho hb hg hat)
        have hit4 : w2.heap[w.heap.size]? = some (.stringIter s (pos + d.2)) := (hg.block _ (by rw [heap_size_alloc]; omega) (fun e => own_ne hO3 hit3 e.symm)).trans ((Lib.alloc_old _ _ _ hc3).trans hit3)
        have hO4 := two_app acc 92 116 ho
        clear ho hg hat hit3 hO3 hB3
        go_roundw
        case rel =>
          refine ⟨_, k, acc ++ [92, 116], ⟨hO4⟩, hit4, ⟨hb⟩, ⟨?_⟩, ⟨?_⟩⟩
          · have h := HF2.out
            rw [hpc.out] at h
            rw [List.append_assoc]
            exact h
          · have h := HL2.out
            have hl := piece_len false (s.get! pos) d.1
            rw [hpc.out] at hl
            rw [List.length_append]
            omega
        case measure =>
          have h := HL2.out
          simp only [World.iterPos, hit4, HIT.out]
          have := HP.out
          omega
      have e0 : (((d.1 : Nat) : Int) == 92) = false := by rw [beq_eq_false_iff_ne]; omega
      have e1 : (((d.1 : Nat) : Int) == 10) = false := by rw [beq_eq_false_iff_ne]; omega
      have e2 : (((d.1 : Nat) : Int) == 13) = false := by rw [beq_eq_false_iff_ne]; omega
      have e3 : (((d.1 : Nat) : Int) == 9) = false := by rw [beq_eq_false_iff_ne]; omega
      by_cases h4 : 32 ≤ d.1 ∧ d.1 ≤ 126
      · have hpc : Aside0 (piece false (s.get! pos) d.1 = [d.1.toUInt8]) := ⟨by unfold piece; rw [if_neg (by decide), if_neg h0, if_neg h1, if_neg h2, if_neg h3, if_pos h4]⟩
        have g1 : decide (32 ≤ ((d.1 : Nat) : Int)) = true := decide_eq_true (by omega)
        have g2 : decide (((d.1 : Nat) : Int) ≤ 126) = true := decide_eq_true (by omega)
        have HM : Aside0 (((d.1 : Nat) : Int) % 256 = ((d.1.toUInt8.toNat : Nat) : Int)) := ⟨by rw [Nat.toUInt8_eq, UInt8.toNat_ofNat']; omega⟩
        clear hmax hd1 h0 h1 h2 h3 h4
        go_wp2_with ((with_reducible refine gate_builtin (b := .append) (xs := #[.tmp 58, .tmp 61]) rfl ?_); at_builtin; refine print_append_num (w0 := w) w.heap.size rfl (.tmp 58) (.tmp 61) 41 5 .u8 1 rfl Tryd.underlying41 info5 (by decide) u3 (ints acc) _ rfl rfl (sz hO3) hB3 (Nat.le_of_lt hc3) (by have := HL2.out; have := ints_length acc; omega) ?_; intro v2 w2 ho hb hg hat)
        have hit4 : w2.heap[w.heap.size]? = some (.stringIter s (pos + d.2)) := (hg.block _ hc3 (fun e => own_ne hO3 hit3 e.symm)).trans hit3
        rw [HM.out] at ho
        have hO4 := one_app acc d.1.toUInt8 ho
        clear ho hg hat hit3 hO3 hB3
        go_roundw
        case rel =>
          refine ⟨_, k, acc ++ [d.1.toUInt8], ⟨hO4⟩, hit4, ⟨hb⟩, ⟨?_⟩, ⟨?_⟩⟩
          · have h := HF2.out
            rw [hpc.out] at h
            rw [List.append_assoc]
            exact h
          · have h := HL2.out
            have hl := piece_len false (s.get! pos) d.1
            rw [hpc.out] at hl
            rw [List.length_append]
            omega
        case measure =>
          have h := HL2.out
          simp only [World.iterPos, hit4, HIT.out]
          have := HP.out
          omega
      have HZ : Aside0 (((d.1 : Nat) : Int) % 4294967296 = ((d.1 : Nat) : Int)) := ⟨by omega⟩
      have HB8 : Aside0 (d.1 < 4294967296) := ⟨by omega⟩
      by_cases h5 : d.1 ≤ 65535
      · have hpc : Aside0 (piece false (s.get! pos) d.1 = 92 :: 117 :: hx4 d.1) := ⟨by unfold piece; rw [if_neg (by decide), if_neg h0, if_neg h1, if_neg h2, if_neg h3, if_neg h4, if_pos h5]⟩
        have g3 : decide (((d.1 : Nat) : Int) ≤ 65535) = true := decide_eq_true (by omega)
        by_cases g0 : 32 ≤ d.1
        · have g1 : decide (32 ≤ ((d.1 : Nat) : Int)) = true := decide_eq_true (by omega)
          have g2 : decide (((d.1 : Nat) : Int) ≤ 126) = false := decide_eq_false (by omega)
          clear hmax hd1 h0 h1 h2 h3 h4 h5 g0
          have hx : ∀ z : Int, z = ((d.1 : Nat) : Int) → runes_hex.f 8 (ints acc) 117 z 4 = some (ints (acc ++ (92 :: 117 :: hx4 d.1))) := by
            intro z hz
            rw [hz]
            exact hex4 acc 117 _ HB8.out (by have := HL2.out; omega)
          go_wp2_with (go_at_call 40; refine (runes_hex.calls 8 (fun k => k ≠ w.heap.size) _ (ints acc) 117 _ 4 _ w _ hB3 (toR hO3 hit3) (hx _ (by exact HZ.out))).mono ?_)
          rintro e W2 ⟨v2, rfl, ho2, b2', k2⟩
          have hit4 : W2.heap[w.heap.size]? = some (.stringIter s (pos + d.2)) := (k2.2 _ hc3 (fun h => h rfl)).trans hit3
          have hO4 := ofR ho2
          clear ho2 k2 hit3 hO3 hB3
          go_wp2
          go_roundw
          case rel =>
            refine ⟨_, k, acc ++ (92 :: 117 :: hx4 d.1), ⟨hO4⟩, hit4, ⟨b2'⟩, ⟨?_⟩, ⟨?_⟩⟩
            · have h := HF2.out
              rw [hpc.out] at h
              rw [List.append_assoc]
              exact h
            · have h := HL2.out
              have hl := piece_len false (s.get! pos) d.1
              rw [hpc.out] at hl
              rw [List.length_append]
              omega
          case measure =>
            have h := HL2.out
            simp only [World.iterPos, hit4, HIT.out]
            have := HP.out
            omega
        · have g1 : decide (32 ≤ ((d.1 : Nat) : Int)) = false := decide_eq_false (by omega)
          clear hmax hd1 h0 h1 h2 h3 h4 h5 g0
          have hx : ∀ z : Int, z = ((d.1 : Nat) : Int) → runes_hex.f 8 (ints acc) 117 z 4 = some (ints (acc ++ (92 :: 117 :: hx4 d.1))) := by
            intro z hz
            rw [hz]
            exact hex4 acc 117 _ HB8.out (by have := HL2.out; omega)
          go_wp2_with (go_at_call 40; refine (runes_hex.calls 8 (fun k => k ≠ w.heap.size) _ (ints acc) 117 _ 4 _ w _ hB3 (toR hO3 hit3) (hx _ (by exact HZ.out))).mono ?_)
          rintro e W2 ⟨v2, rfl, ho2, b2', k2⟩
          have hit4 : W2.heap[w.heap.size]? = some (.stringIter s (pos + d.2)) := (k2.2 _ hc3 (fun h => h rfl)).trans hit3
          have hO4 := ofR ho2
          clear ho2 k2 hit3 hO3 hB3
          go_wp2
          go_roundw
          case rel =>
            refine ⟨_, k, acc ++ (92 :: 117 :: hx4 d.1), ⟨hO4⟩, hit4, ⟨b2'⟩, ⟨?_⟩, ⟨?_⟩⟩
            · have h := HF2.out
              rw [hpc.out] at h
              rw [List.append_assoc]
              exact h
            · have h := HL2.out
              have hl := piece_len false (s.get! pos) d.1
              rw [hpc.out] at hl
              rw [List.length_append]
              omega
          case measure =>
            have h := HL2.out
            simp only [World.iterPos, hit4, HIT.out]
            have := HP.out
            omega
      · have hpc : Aside0 (piece false (s.get! pos) d.1 = 92 :: 85 :: hx6 d.1) := ⟨by unfold piece; rw [if_neg (by decide), if_neg h0, if_neg h1, if_neg h2, if_neg h3, if_neg h4, if_neg h5]⟩
        have g3 : decide (((d.1 : Nat) : Int) ≤ 65535) = false := decide_eq_false (by omega)
        have g1 : decide (32 ≤ ((d.1 : Nat) : Int)) = true := decide_eq_true (by omega)
        have g2 : decide (((d.1 : Nat) : Int) ≤ 126) = false := decide_eq_false (by omega)
        clear hmax hd1 h0 h1 h2 h3 h4 h5
        have hx : ∀ z : Int, z = ((d.1 : Nat) : Int) → runes_hex.f 8 (ints acc) 85 z 6 = some (ints (acc ++ (92 :: 85 :: hx6 d.1))) := by
          intro z hz
          rw [hz]
          exact hex6 acc 85 _ HB8.out (by have := HL2.out; omega)
        go_wp2_with (go_at_call 40; refine (runes_hex.calls 8 (fun k => k ≠ w.heap.size) _ (ints acc) 85 _ 6 _ w _ hB3 (toR hO3 hit3) (hx _ (by exact HZ.out))).mono ?_)
        rintro e W2 ⟨v2, rfl, ho2, b2', k2⟩
        have hit4 : W2.heap[w.heap.size]? = some (.stringIter s (pos + d.2)) := (k2.2 _ hc3 (fun h => h rfl)).trans hit3
        have hO4 := ofR ho2
        clear ho2 k2 hit3 hO3 hB3
        go_wp2
        go_roundw
        case rel =>
          refine ⟨_, k, acc ++ (92 :: 85 :: hx6 d.1), ⟨hO4⟩, hit4, ⟨b2'⟩, ⟨?_⟩, ⟨?_⟩⟩
          · have h := HF2.out
            rw [hpc.out] at h
            rw [List.append_assoc]
            exact h
          · have h := HL2.out
            have hl := piece_len false (s.get! pos) d.1
            rw [hpc.out] at hl
            rw [List.length_append]
            omega
        case measure =>
          have h := HL2.out
          simp only [World.iterPos, hit4, HIT.out]
          have := HP.out
          omega
      -- end of ways
    · have hnx : ∀ ty, (Instr.next (.pointer (some ⟨w.heap.size, 0, none⟩)) true ty).run Tryd.prog wr = _ := fun ty => Lib.run_next_end_at wr w.heap.size s pos ty hit hp
      have hcv := own_string (P := Tryd.prog) Tryd.underlying41 Tryd.underlying5 Tryd.underlying9 HO.out
      have hr : Aside0 (strOfNums (ints acc) = escape s) := ⟨by
        rw [str_ints]
        unfold escape
        rw [← HF.out]
        rw [dl_nil s pos (by omega)]
        cases fuel <;> simp [escapeL]⟩
      rw [hr.out] at hcv
      go_wp2
      go_ret
      exact ⟨rfl, HB.out⟩
end Go.Proofs.YtigikjihagmokaaDoor.EscP
namespace Go.Proofs.YtigikjihagmokaaDoor.F
open Go.RowKit Go.Proofs.YtigikjihagmokaaDoorW.PrintWords Go.Proofs.YtigikjihagmokaaDoorW.PrintLast Go.Proofs.YtigikjihagmokaaDoorW.PrintMore Go.Proofs.YtigikjihagmokaaDoor.Q
attribute [local go_sem] max2_int min2_int max_two min_two max_three min_three max_four min_four   -- for this text's walks alone
set_option linter.unusedVariables false
set_option linter.unusedSimpArgs false

def runes_Escape.f (a0 : ByteArray) : Option (ByteArray) := if a0.size ≤ 1048576 then some (EscP.escape a0) else none
theorem runes_Escape.calls (a0 : ByteArray) (r : ByteArray) (w : World) (h : runes_Escape.f a0 = some r) (hG_ : Stray.Tabs w) :
 Calls Tryd.prog 21 #[.string a0] w fun e w' => e = .returned (.string r) ∧ Below w.heap.size w w' := by
 unfold runes_Escape.f at h
 split at h
 · rename_i hs
   obtain rfl := Option.some.inj h
   exact EscP.escapeCalls a0 hs w hG_
 · cases h

end Go.Proofs.YtigikjihagmokaaDoor.F
namespace Go.Proofs.YtigikjihagmokaaDoor.F
open Go.RowKit Go.Proofs.YtigikjihagmokaaDoorW.PrintWords Go.Proofs.YtigikjihagmokaaDoorW.PrintLast Go.Proofs.YtigikjihagmokaaDoorW.PrintMore Go.Proofs.YtigikjihagmokaaDoor.Q
attribute [local go_sem] max2_int min2_int max_two min_two max_three min_three max_four min_four   -- for this text's walks alone
set_option linter.unusedVariables false
set_option linter.unusedSimpArgs false

mutual
def idiomlaw01_RunesBack.j0 : Nat → ByteArray → Option (Bool)
 | 0, _ => none
 | k + 1, x0 => (runes_Escape.f x0).bind fun t326 => (idiomlaw01_RunesBack.l0 k x0 t326 0)
def idiomlaw01_RunesBack.l0 : Nat → ByteArray → ByteArray → Int → Option (Bool)
 | 0, _, _, _ => none
 | k + 1, x0, x3, x4 => if x4 < (x3.size : Int) then (if 0 ≤ x4 then (if (bt x3 x4) < 32 then (none) else (if (bt x3 x4) > 126 then (none) else (idiomlaw01_RunesBack.l0 k x0 x3 (wrap64 (x4 + 1))))) else (none)) else ((runes_Unescape.f k x3).bind fun bt327 => (if bt327.1.toList = x0.toList then (if bt327.2.1 = 0 then (if bt327.2.2 = 0 then ((idiomlaw01_awake.f).bind fun t330 => (some t330)) else (none)) else (none)) else (none)))
end
def idiomlaw01_RunesBack.f (k : Nat) (a0 : ByteArray) : Option (Bool) := if (a0.size : Int) > 131072 then (if 0 ≤ 131072 then (if 131072 ≤ (a0.size : Int) then (idiomlaw01_RunesBack.j0 k (a0.extract 0 131072)) else (none)) else (none)) else (idiomlaw01_RunesBack.j0 k a0)
theorem idiomlaw01_RunesBack.mono_l : ∀ k, (∀ y0, LeO (idiomlaw01_RunesBack.j0 k y0) (idiomlaw01_RunesBack.j0 (k + 1) y0)) ∧ (∀ y0 y1 y2, LeO (idiomlaw01_RunesBack.l0 k y0 y1 y2) (idiomlaw01_RunesBack.l0 (k + 1) y0 y1 y2))
 | 0 => ⟨fun _ r h => by simp [idiomlaw01_RunesBack.j0] at h, fun _ _ _ r h => by simp [idiomlaw01_RunesBack.l0] at h⟩
 | k + 1 => by
  obtain ⟨ih0, ih1⟩ := idiomlaw01_RunesBack.mono_l k
  refine ⟨?_, ?_⟩
  · intro y0
    unfold idiomlaw01_RunesBack.j0
    repeat' first
    | (with_reducible exact ih0 _)
    | (with_reducible exact ih1 _ _ _)
    | (with_reducible exact runes_Unescape.mono _ _)
    | (with_reducible exact LeO.refl _)
    | (with_reducible exact LeO.none _)
    | (with_reducible refine LeO.ite ?_ ?_)
    | (with_reducible refine LeO.bind ?_ (fun _ => ?_))
    | exact ih0 _
    | exact ih1 _ _ _
    | exact runes_Unescape.mono _ _
    | exact LeO.none _
    | refine LeO.ite ?_ ?_
    | refine LeO.bind ?_ (fun _ => ?_)
  · intro y0 y1 y2
    unfold idiomlaw01_RunesBack.l0
    repeat' first
    | (with_reducible exact ih0 _)
    | (with_reducible exact ih1 _ _ _)
    | (with_reducible exact runes_Unescape.mono _ _)
    | (with_reducible exact LeO.refl _)
    | (with_reducible exact LeO.none _)
    | (with_reducible refine LeO.ite ?_ ?_)
    | (with_reducible refine LeO.bind ?_ (fun _ => ?_))
    | exact ih0 _
    | exact ih1 _ _ _
    | exact runes_Unescape.mono _ _
    | exact LeO.none _
    | refine LeO.ite ?_ ?_
    | refine LeO.bind ?_ (fun _ => ?_)
theorem idiomlaw01_RunesBack.mono : ∀ a0 k, LeO (idiomlaw01_RunesBack.f k a0) (idiomlaw01_RunesBack.f (k + 1) a0) := by
 intro a0 k
 obtain ⟨ih0, ih1⟩ := idiomlaw01_RunesBack.mono_l k
 unfold idiomlaw01_RunesBack.f
 repeat' first
  | (with_reducible exact ih0 _)
  | (with_reducible exact ih1 _ _ _)
  | (with_reducible exact runes_Unescape.mono _ _)
  | (with_reducible exact LeO.refl _)
  | (with_reducible exact LeO.none _)
  | (with_reducible refine LeO.ite ?_ ?_)
  | (with_reducible refine LeO.bind ?_ (fun _ => ?_))
  | exact ih0 _
  | exact ih1 _ _ _
  | exact runes_Unescape.mono _ _
  | exact LeO.none _
  | refine LeO.ite ?_ ?_
  | refine LeO.bind ?_ (fun _ => ?_)
set_option maxHeartbeats 8000000 in
set_option maxRecDepth 100000 in
theorem idiomlaw01_RunesBack.calls (k : Nat) (a0 : ByteArray) (r : Bool) (w : World) (h : idiomlaw01_RunesBack.f k a0 = some r) (hG_ : Stray.Tabs w) :
 Calls Tryd.prog 11 #[.string a0] w fun e w' => e = .returned (.bool r) ∧ Below w.heap.size w w' := by
 have HG := Aside0.mk hG_
 clear hG_
 have HB := Aside0.mk (Below.refl w.heap.size w)
 have H : (if (a0.size : Int) > 131072 then (if 0 ≤ 131072 then (if 131072 ≤ (a0.size : Int) then (idiomlaw01_RunesBack.j0 k (a0.extract 0 131072)) else (none)) else (none)) else (idiomlaw01_RunesBack.j0 k a0)) = some r := h
 clear h
 have HC2 := Aside0.mk H
 clear H
 go_enter Tryd.func11, Tryd.ntmps11
 go_upto_if 10 with (fail)
 go_cut [0] (fun v0 wc => ∃ (kq : Nat) (x0_1 : ByteArray), v0 = .string x0_1 ∧ Aside0 (idiomlaw01_RunesBack.j0 kq x0_1 = some r) ∧ Aside0 (kq ≤ k) ∧ Aside0 (Below w.heap.size w wc))
 case first =>
  have H := HC2.out
  clear HC2
  by_cases c3 : (a0.size : Int) > 131072
  · rw [if_pos c3] at H
    have c3b0 : decide (131072 < (a0.size : Int)) = true := decide_eq_true c3
    have c3b1 : decide (131072 < a0.size) = true := decide_eq_true (by omega)
    clear c3
    (first | rw [c3b0] | (simp only [i64_w, i32_w]; rw [c3b0]) | skip)
    by_cases c4 : 0 ≤ 131072
    · rw [if_pos c4] at H
      have c4b0 := eq_true c4
      have c4b1 : decide (0 ≤ 131072) = true := decide_eq_true c4
      clear c4
      by_cases c5 : 131072 ≤ (a0.size : Int)
      · rw [if_pos c5] at H
        have c5b0 := eq_true c5
        have c5b1 : decide (131072 ≤ (a0.size : Int)) = true := decide_eq_true c5
        clear c5
        have H' := Aside0.mk H
        clear H
        go_wp2
        go_meet
        case rel => exact ⟨_, (a0.extract 0 131072), (by first | rfl | (simp; done) | (simp [*]; done)), H', ⟨by first | omega | exact Nat.le_refl _⟩, ⟨qh HB⟩⟩
      · rw [if_neg c5] at H
        exact absurd H (by simp)
    · rw [if_neg c4] at H
      exact absurd H (by simp)
  · rw [if_neg c3] at H
    have c3b0 : decide (131072 < (a0.size : Int)) = false := decide_eq_false c3
    have c3b1 : decide (131072 < a0.size) = false := decide_eq_false (by omega)
    clear c3
    (first | rw [c3b0] | (simp only [i64_w, i32_w]; rw [c3b0]) | skip)
    have H' := Aside0.mk H
    clear H
    go_wp2
    go_meet
    case rel => exact ⟨_, (a0), (by first | rfl | (simp; done) | (simp [*]; done)), H', ⟨by first | omega | exact Nat.le_refl _⟩, ⟨qh HB⟩⟩
 case rest =>
  clear HC2
  try clear c1
  try clear p2
  try clear c3
  try clear c3b0
  try clear c3b1
  try clear c4
  try clear c4b0
  try clear c4b1
  try clear c5
  try clear c5b0
  try clear c5b1
  obtain ⟨kq, x0_1, rfl, HA, HJ1, HB⟩ := hcut
  cases kq with
  | zero => exact absurd HA.out (by simp [idiomlaw01_RunesBack.j0])
  | succ kj1 =>
   have H := HA.out
   clear HA
   simp only [idiomlaw01_RunesBack.j0] at H
   replace H := Option.bind_eq_some_iff.mp H
   obtain ⟨t326, A60, H⟩ := H
   replace H : (idiomlaw01_RunesBack.l0 kj1 x0_1 t326 0) = some r := H
   have A6 := Aside0.mk A60
   clear A60
   have H' := Aside0.mk H
   clear H
   go_wp2_with (first | ((with_reducible refine gate_callee (f := 21) rfl ?_); refine goesL_ (some 14) rfl rfl Tryd.func21 (by kernel_rfl) rfl #[.string x0_1] rfl ql ?_; (with_reducible refine (runes_Escape.calls x0_1 t326 _ A6.out (by first | exact HG.out | exact HG.out.below HB.out | exact HG.out.below (pw_below_drewN HB.out _) | exact HG.out.below (below_drew HB.out) | exact HG.out.below (by assumption))).mono ?_); rintro e w7 ⟨rfl, hb⟩; refine ⟨_, rfl, ?_⟩; replace HB := qn HB hb; (try clear hb); (try clear hb2); (try clear hk); (try clear hi)))
   (try simp only [Act.put, List.setIfInBounds_toArray, List.set_cons_zero, List.set_cons_succ])
   go_loopg [4] kj1 (fun kq v4 w' => ∃ (x4_2 : Int), v4 = .int .i64 x4_2 ∧ Aside0 (idiomlaw01_RunesBack.l0 kq x0_1 t326 x4_2 = some r) ∧ Aside0 (kq ≤ kj1) ∧ Aside0 (Below w.heap.size w w'))
   case atStart => exact ⟨(0), (by first | rfl | (simp; done) | (simp [*]; done)), H', ⟨Nat.le_refl _⟩, ⟨qh HB⟩⟩
   case round =>
    clear H'
    try clear c1
    try clear c2
    try clear p2
    try clear c3
    try clear c3b0
    try clear c3b1
    try clear c4
    try clear c4b0
    try clear c4b1
    try clear c5
    try clear c5b0
    try clear c5b1
    try clear p2
    obtain ⟨x4_2, rfl, HA, HK2, HB⟩ := hrel
    cases gk with
    | zero => exact absurd HA.out (by simp [idiomlaw01_RunesBack.l0])
    | succ k2 =>
     have H := HA.out
     clear HA
     simp only [idiomlaw01_RunesBack.l0] at H
     by_cases c8 : x4_2 < (t326.size : Int)
     · rw [if_pos c8] at H
       have c8b0 : decide (x4_2 < (t326.size : Int)) = true := decide_eq_true c8
       clear c8
       by_cases c9 : 0 ≤ x4_2
       · rw [if_pos c9] at H
         have c9b0 : decide (0 ≤ x4_2) = true := decide_eq_true c9
         clear c9
         by_cases c11 : (bt t326 x4_2) < 32
         · rw [if_pos c11] at H
           exact absurd H (by simp)
         · rw [if_neg c11] at H
           have c11b0 : decide ((bt t326 x4_2) < 32) = false := decide_eq_false c11
           clear c11
           by_cases c13 : (bt t326 x4_2) > 126
           · rw [if_pos c13] at H
             exact absurd H (by simp)
           · rw [if_neg c13] at H
             have c13b0 : decide (126 < (bt t326 x4_2)) = false := decide_eq_false c13
             clear c13
             have H' := Aside0.mk H
             clear H
             have p10 : 0 ≤ (x4_2 : Int) := of_decide_eq_true qa
             have q10 : x4_2 < (t326.size : Int) := of_decide_eq_true qa
             have hx10 := bt_at t326 x4_2
             replace p10 := eq_true p10
             replace q10 := eq_true q10
             have p12 : 0 ≤ (x4_2 : Int) := of_decide_eq_true qa
             have q12 : x4_2 < (t326.size : Int) := of_decide_eq_true qa
             have hx12 := bt_at t326 x4_2
             replace p12 := eq_true p12
             replace q12 := eq_true q12
             go_wp2
             go_roundg k2
             case measure => have := HJ1.out; have := HK2.out; omega
             case rel => exact ⟨(wrap64 (x4_2 + 1)), (by first | rfl | (simp; done) | (simp [*]; done)), H', ⟨by have := HJ1.out; have := HK2.out; omega⟩, ⟨qh HB⟩⟩
       · rw [if_neg c9] at H
         exact absurd H (by simp)
     · rw [if_neg c8] at H
       have c8b0 : decide (x4_2 < (t326.size : Int)) = false := decide_eq_false c8
       clear c8
       replace H := Option.bind_eq_some_iff.mp H
       obtain ⟨⟨t327, t328, t329⟩, A140, H⟩ := H
       replace H : (if t327.toList = x0_1.toList then (if t328 = 0 then (if t329 = 0 then ((idiomlaw01_awake.f).bind fun t330 => (some t330)) else (none)) else (none)) else (none)) = some r := H
       have A14 := Aside0.mk A140
       clear A140
       by_cases c15 : t327.toList = x0_1.toList
       · rw [if_pos c15] at H
         have c15b0 : (t327.toList == x0_1.toList) = true := beq_iff_eq.mpr c15
         have c15b1 : (t327.toList != x0_1.toList) = false := bne_eq_false_iff_eq.mpr c15
         clear c15
         by_cases c16 : t328 = 0
         · rw [if_pos c16] at H
           have c16b0 : (t328 == 0) = true := beq_iff_eq.mpr c16
           have c16b1 : (t328 != 0) = false := bne_eq_false_iff_eq.mpr c16
           try have c16b1z := c16b1
           (try simp only [bne] at c16b1z)
           clear c16
           by_cases c17 : t329 = 0
           · rw [if_pos c17] at H
             have c17b0 : (t329 == 0) = true := beq_iff_eq.mpr c17
             have c17b1 : (t329 != 0) = false := bne_eq_false_iff_eq.mpr c17
             try have c17b1z := c17b1
             (try simp only [bne] at c17b1z)
             clear c17
             replace H := Option.bind_eq_some_iff.mp H
             obtain ⟨t330, A180, H⟩ := H
             replace H : (some t330) = some r := H
             have A18 := Aside0.mk A180
             clear A180
             obtain rfl := Option.some.inj H
             go_wp2_with (first | ((with_reducible refine gate_callee (f := 29) rfl ?_); refine goesL_ (some 33) rfl rfl Tryd.func29 (by kernel_rfl) rfl #[.string t326] rfl ql ?_; (with_reducible refine (runes_Unescape.calls k2 t326 t327 t328 t329 _ A14.out).mono ?_); rintro e w19 ⟨rfl, hb⟩; refine ⟨_, rfl, ?_⟩; replace HB := qn HB hb; (try clear hb); (try clear hb2); (try clear hk); (try clear hi)) | (go_at_call 16; (with_reducible refine (idiomlaw01_awake.calls  t330 _ A18.out).mono ?_); rintro e w20 ⟨rfl, hb⟩; replace HB := qn HB hb; (try clear hb); (try clear hb2); (try clear hk); (try clear hi)))
             go_ret
             exact ⟨qe, qh HB⟩
           · rw [if_neg c17] at H
             exact absurd H (by simp)
         · rw [if_neg c16] at H
           exact absurd H (by simp)
       · rw [if_neg c15] at H
         exact absurd H (by simp)

/-- THE ONE PURE STATEMENT of idiomlaw01_RunesBack: yours. -/
def idiomlaw01_RunesBack.Pure : Prop := ∀ (a0 : ByteArray), a0.size ≤ 140737488351232 → ∃ k, idiomlaw01_RunesBack.f k a0 = some true
end Go.Proofs.YtigikjihagmokaaDoor.F
set_option linter.unusedVariables false
set_option linter.unusedSimpArgs false
namespace Go.Proofs.YtigikjihagmokaaDoor.RunesAwake
open Go.RowKit Go.Proofs.YtigikjihagmokaaDoorW.PrintWords Go.Proofs.YtigikjihagmokaaDoorW.PrintLast Go.Proofs.YtigikjihagmokaaDoorW.PrintMore Go.Proofs.YtigikjihagmokaaDoor.F
theorem Ev.some {α : Type} {g : Nat → Option α} {r : α} (h : ∀ k, g (k + 1) = some r) : Ev g r := Ev.step (f := fun _ => Option.some r) h (Ev.now r)
theorem w64 {x : Int} (h0 : -9223372036854775808 ≤ x) (h1 : x ≤ 9223372036854775807) : wrap64 x = x := by unfold wrap64; omega
theorem toL (l : Array UInt8) : (⟨l⟩ : ByteArray).toList = l.toList := by rw [ByteArray.toList_eq]
theorem awake : idiomlaw01_awake.f = some true := by
  have p0 : Fill.piece ⟨#[123, 49, 125, 45, 123, 48, 125]⟩ [(⟨#[97]⟩ : ByteArray), ⟨#[98]⟩] 0 = some (⟨#[98]⟩, 3) := by
    unfold Fill.piece
    rw [if_pos (by rw [ByteArray.toList_eq]; rfl)]
    rfl
  have p3 : Fill.piece ⟨#[123, 49, 125, 45, 123, 48, 125]⟩ [(⟨#[97]⟩ : ByteArray), ⟨#[98]⟩] 3 = some (⟨#[45]⟩, 4) := by
    unfold Fill.piece
    rw [if_neg (by rw [ByteArray.toList_eq]; decide)]
    rfl
  have p4 : Fill.piece ⟨#[123, 49, 125, 45, 123, 48, 125]⟩ [(⟨#[97]⟩ : ByteArray), ⟨#[98]⟩] 4 = some (⟨#[97]⟩, 7) := by
    unfold Fill.piece
    rw [if_pos (by rw [ByteArray.toList_eq]; rfl)]
    rfl
  have sz : ((⟨#[123, 49, 125, 45, 123, 48, 125]⟩ : ByteArray).size : Int) = 7 := rfl
  have s1 : ((⟨#[98]⟩ : ByteArray).size : Int) = 1 := rfl
  have s2 : ((⟨#[45]⟩ : ByteArray).size : Int) = 1 := rfl
  have s3 : ((⟨#[97]⟩ : ByteArray).size : Int) = 1 := rfl
  have e : Fill.f ⟨#[123, 49, 125, 45, 123, 48, 125]⟩ [(⟨#[97]⟩ : ByteArray), ⟨#[98]⟩] = (⟨#[98, 45, 97]⟩, 0) := by
    unfold Fill.f
    rw [sz, if_neg (by decide), show (⟨#[123, 49, 125, 45, 123, 48, 125]⟩ : ByteArray).size + 1 = 8 from rfl]
    simp only [Fill.go]
    rw [sz, if_pos (by decide), p0]
    simp only []
    rw [s1, if_neg (by decide), if_pos (by decide), p3]
    simp only []
    rw [s2, if_neg (by decide), if_pos (by decide), p4]
    simp only []
    rw [s3, if_neg (by decide), if_neg (by decide)]
    rfl
  unfold idiomlaw01_awake.f runes_Fill.f
  rw [e, Option.bind_some]
  simp only []
  rw [if_pos (by rw [toL])]
  simp only [if_true]
  unfold runes_Ident.f
  rw [if_pos (by rw [toL])]
  rfl
end Go.Proofs.YtigikjihagmokaaDoor.RunesAwake
set_option linter.unusedVariables false
set_option linter.unusedSimpArgs false
namespace Go.Proofs.YtigikjihagmokaaDoor.Step01
open Go.RowKit Go.Proofs.YtigikjihagmokaaDoorW.PrintWords Go.Proofs.YtigikjihagmokaaDoorW.PrintLast Go.Proofs.YtigikjihagmokaaDoorW.PrintMore Go.Proofs.YtigikjihagmokaaDoor.F Go.Proofs.YtigikjihagmokaaDoor.RunesAwake
theorem bt_nat (s : ByteArray) (i : Nat) (h : i < s.size) : bt s (i : Int) = ((s.get! i).toNat : Int) := by
  have h2 : ((i : Int)).toNat < s.size := by omega
  rw [← bt_at s (i : Int) h2]
  congr 1
  have e : s.get! i = s[i]'h := by
    show s.data[i]! = s.data[i]'h
    exact getElem!_pos s.data i h
  rw [e]
  congr 1
end Go.Proofs.YtigikjihagmokaaDoor.Step01
