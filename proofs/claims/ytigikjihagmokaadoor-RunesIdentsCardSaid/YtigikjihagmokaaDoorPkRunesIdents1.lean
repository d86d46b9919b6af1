/- Part 2 of 4 of the proof of the law RunesIdents: it is true at every input. Conditions: those of the given row, no others. -/
import Derived.Test.YtigikjihagmokaaDoorPkRunesIdents0
namespace Go.Proofs.YtigikjihagmokaaDoor.S
open Go.RowKit Go.Proofs.YtigikjihagmokaaDoorW.PrintWords Go.Proofs.YtigikjihagmokaaDoorW.PrintLast Go.Proofs.YtigikjihagmokaaDoorW.PrintMore
attribute [local go_sem] max2_int min2_int max_two min_two max_three min_three max_four min_four   -- for this text's walks alone
set_option linter.unusedVariables false
set_option linter.unusedSimpArgs false

mutual
def runes_Syntax.j0 : Nat → Int → Bool → Option (Bool)
 | 0, _, _ => none
 | k + 1, x0, x128 => if x128 = true then (some true) else (if x0 ≥ 12296 then (runes_Syntax.j1 k x0 (decide (x0 ≤ 12320))) else (runes_Syntax.j1 k x0 false))
def runes_Syntax.j1 : Nat → Int → Bool → Option (Bool)
 | 0, _, _ => none
 | k + 1, x0, x128 => if x128 = true then (some true) else (if x0 = 12336 then (some true) else (if x0 = 64830 then (some true) else (if x0 = 64831 then (some true) else (if x0 = 65093 then (some true) else (if x0 = 65094 then (some true) else (some false))))))
end
def runes_Syntax.f (k : Nat) (a0 : Int) : Option (Bool) := if a0 < 128 then (if a0 ≥ 33 then (if a0 ≤ 47 then (some true) else (if a0 ≥ 58 then (if a0 ≤ 64 then (some true) else (if a0 ≥ 91 then (if a0 ≤ 94 then (some true) else (if a0 = 96 then (some true) else (if a0 ≥ 123 then (some (decide (a0 ≤ 126))) else (some false)))) else (if a0 = 96 then (some true) else (if a0 ≥ 123 then (some (decide (a0 ≤ 126))) else (some false))))) else (if a0 ≥ 91 then (if a0 ≤ 94 then (some true) else (if a0 = 96 then (some true) else (if a0 ≥ 123 then (some (decide (a0 ≤ 126))) else (some false)))) else (if a0 = 96 then (some true) else (if a0 ≥ 123 then (some (decide (a0 ≤ 126))) else (some false)))))) else (if a0 ≥ 58 then (if a0 ≤ 64 then (some true) else (if a0 ≥ 91 then (if a0 ≤ 94 then (some true) else (if a0 = 96 then (some true) else (if a0 ≥ 123 then (some (decide (a0 ≤ 126))) else (some false)))) else (if a0 = 96 then (some true) else (if a0 ≥ 123 then (some (decide (a0 ≤ 126))) else (some false))))) else (if a0 ≥ 91 then (if a0 ≤ 94 then (some true) else (if a0 = 96 then (some true) else (if a0 ≥ 123 then (some (decide (a0 ≤ 126))) else (some false)))) else (if a0 = 96 then (some true) else (if a0 ≥ 123 then (some (decide (a0 ≤ 126))) else (some false)))))) else (if a0 < 256 then (if a0 = 168 then (some false) else (if a0 = 170 then (some false) else (if a0 = 173 then (some false) else (if a0 = 175 then (some false) else (if a0 ≥ 161 then (if a0 ≤ 177 then (if a0 = 178 then (if a0 = 182 then (some true) else (if a0 = 187 then (some true) else (if a0 = 191 then (some true) else (if a0 = 215 then (some true) else (some (a0 == 247)))))) else (some true)) else (if a0 = 182 then (some true) else (if a0 = 187 then (some true) else (if a0 = 191 then (some true) else (if a0 = 215 then (some true) else (some (a0 == 247))))))) else (if a0 = 182 then (some true) else (if a0 = 187 then (some true) else (if a0 = 191 then (some true) else (if a0 = 215 then (some true) else (some (a0 == 247))))))))))) else (if a0 < 11904 then (if a0 ≥ 8208 then (if a0 ≤ 8231 then (some true) else (if a0 ≥ 8240 then (if a0 ≤ 8254 then (some true) else (if a0 ≥ 8257 then (if a0 ≤ 8275 then (some true) else (if a0 ≥ 8277 then (if a0 ≤ 8286 then (some true) else (if a0 ≥ 8592 then (if a0 ≤ 11263 then (some true) else (if a0 ≥ 11776 then (some (decide (a0 ≤ 11903))) else (some false))) else (if a0 ≥ 11776 then (some (decide (a0 ≤ 11903))) else (some false)))) else (if a0 ≥ 8592 then (if a0 ≤ 11263 then (some true) else (if a0 ≥ 11776 then (some (decide (a0 ≤ 11903))) else (some false))) else (if a0 ≥ 11776 then (some (decide (a0 ≤ 11903))) else (some false))))) else (if a0 ≥ 8277 then (if a0 ≤ 8286 then (some true) else (if a0 ≥ 8592 then (if a0 ≤ 11263 then (some true) else (if a0 ≥ 11776 then (some (decide (a0 ≤ 11903))) else (some false))) else (if a0 ≥ 11776 then (some (decide (a0 ≤ 11903))) else (some false)))) else (if a0 ≥ 8592 then (if a0 ≤ 11263 then (some true) else (if a0 ≥ 11776 then (some (decide (a0 ≤ 11903))) else (some false))) else (if a0 ≥ 11776 then (some (decide (a0 ≤ 11903))) else (some false)))))) else (if a0 ≥ 8257 then (if a0 ≤ 8275 then (some true) else (if a0 ≥ 8277 then (if a0 ≤ 8286 then (some true) else (if a0 ≥ 8592 then (if a0 ≤ 11263 then (some true) else (if a0 ≥ 11776 then (some (decide (a0 ≤ 11903))) else (some false))) else (if a0 ≥ 11776 then (some (decide (a0 ≤ 11903))) else (some false)))) else (if a0 ≥ 8592 then (if a0 ≤ 11263 then (some true) else (if a0 ≥ 11776 then (some (decide (a0 ≤ 11903))) else (some false))) else (if a0 ≥ 11776 then (some (decide (a0 ≤ 11903))) else (some false))))) else (if a0 ≥ 8277 then (if a0 ≤ 8286 then (some true) else (if a0 ≥ 8592 then (if a0 ≤ 11263 then (some true) else (if a0 ≥ 11776 then (some (decide (a0 ≤ 11903))) else (some false))) else (if a0 ≥ 11776 then (some (decide (a0 ≤ 11903))) else (some false)))) else (if a0 ≥ 8592 then (if a0 ≤ 11263 then (some true) else (if a0 ≥ 11776 then (some (decide (a0 ≤ 11903))) else (some false))) else (if a0 ≥ 11776 then (some (decide (a0 ≤ 11903))) else (some false))))))) else (if a0 ≥ 8240 then (if a0 ≤ 8254 then (some true) else (if a0 ≥ 8257 then (if a0 ≤ 8275 then (some true) else (if a0 ≥ 8277 then (if a0 ≤ 8286 then (some true) else (if a0 ≥ 8592 then (if a0 ≤ 11263 then (some true) else (if a0 ≥ 11776 then (some (decide (a0 ≤ 11903))) else (some false))) else (if a0 ≥ 11776 then (some (decide (a0 ≤ 11903))) else (some false)))) else (if a0 ≥ 8592 then (if a0 ≤ 11263 then (some true) else (if a0 ≥ 11776 then (some (decide (a0 ≤ 11903))) else (some false))) else (if a0 ≥ 11776 then (some (decide (a0 ≤ 11903))) else (some false))))) else (if a0 ≥ 8277 then (if a0 ≤ 8286 then (some true) else (if a0 ≥ 8592 then (if a0 ≤ 11263 then (some true) else (if a0 ≥ 11776 then (some (decide (a0 ≤ 11903))) else (some false))) else (if a0 ≥ 11776 then (some (decide (a0 ≤ 11903))) else (some false)))) else (if a0 ≥ 8592 then (if a0 ≤ 11263 then (some true) else (if a0 ≥ 11776 then (some (decide (a0 ≤ 11903))) else (some false))) else (if a0 ≥ 11776 then (some (decide (a0 ≤ 11903))) else (some false)))))) else (if a0 ≥ 8257 then (if a0 ≤ 8275 then (some true) else (if a0 ≥ 8277 then (if a0 ≤ 8286 then (some true) else (if a0 ≥ 8592 then (if a0 ≤ 11263 then (some true) else (if a0 ≥ 11776 then (some (decide (a0 ≤ 11903))) else (some false))) else (if a0 ≥ 11776 then (some (decide (a0 ≤ 11903))) else (some false)))) else (if a0 ≥ 8592 then (if a0 ≤ 11263 then (some true) else (if a0 ≥ 11776 then (some (decide (a0 ≤ 11903))) else (some false))) else (if a0 ≥ 11776 then (some (decide (a0 ≤ 11903))) else (some false))))) else (if a0 ≥ 8277 then (if a0 ≤ 8286 then (some true) else (if a0 ≥ 8592 then (if a0 ≤ 11263 then (some true) else (if a0 ≥ 11776 then (some (decide (a0 ≤ 11903))) else (some false))) else (if a0 ≥ 11776 then (some (decide (a0 ≤ 11903))) else (some false)))) else (if a0 ≥ 8592 then (if a0 ≤ 11263 then (some true) else (if a0 ≥ 11776 then (some (decide (a0 ≤ 11903))) else (some false))) else (if a0 ≥ 11776 then (some (decide (a0 ≤ 11903))) else (some false))))))) else (if a0 ≥ 12289 then (runes_Syntax.j0 k a0 (decide (a0 ≤ 12291))) else (runes_Syntax.j0 k a0 false))))
theorem runes_Syntax.mono_l : ∀ k, (∀ y0 y1, LeO (runes_Syntax.j0 k y0 y1) (runes_Syntax.j0 (k + 1) y0 y1)) ∧ (∀ y0 y1, LeO (runes_Syntax.j1 k y0 y1) (runes_Syntax.j1 (k + 1) y0 y1))
 | 0 => ⟨fun _ _ r h => by simp [runes_Syntax.j0] at h, fun _ _ r h => by simp [runes_Syntax.j1] at h⟩
 | k + 1 => by
  obtain ⟨ih0, ih1⟩ := runes_Syntax.mono_l k
  refine ⟨?_, ?_⟩
  · intro y0 y1
    unfold runes_Syntax.j0
    repeat' first
    | (with_reducible exact ih0 _ _)
    | (with_reducible exact ih1 _ _)
    | (with_reducible exact LeO.refl _)
    | (with_reducible exact LeO.none _)
    | (with_reducible refine LeO.ite ?_ ?_)
    | (with_reducible refine LeO.bind ?_ (fun _ => ?_))
    | exact ih0 _ _
    | exact ih1 _ _
    | exact LeO.none _
    | refine LeO.ite ?_ ?_
    | refine LeO.bind ?_ (fun _ => ?_)
  · intro y0 y1
    unfold runes_Syntax.j1
    repeat' first
    | (with_reducible exact ih0 _ _)
    | (with_reducible exact ih1 _ _)
    | (with_reducible exact LeO.refl _)
    | (with_reducible exact LeO.none _)
    | (with_reducible refine LeO.ite ?_ ?_)
    | (with_reducible refine LeO.bind ?_ (fun _ => ?_))
    | exact ih0 _ _
    | exact ih1 _ _
    | exact LeO.none _
    | refine LeO.ite ?_ ?_
    | refine LeO.bind ?_ (fun _ => ?_)
theorem runes_Syntax.mono : ∀ a0 k, LeO (runes_Syntax.f k a0) (runes_Syntax.f (k + 1) a0) := by
 intro a0 k
 obtain ⟨ih0, ih1⟩ := runes_Syntax.mono_l k
 unfold runes_Syntax.f
 repeat' first
  | (with_reducible exact ih0 _ _)
  | (with_reducible exact ih1 _ _)
  | (with_reducible exact LeO.refl _)
  | (with_reducible exact LeO.none _)
  | (with_reducible refine LeO.ite ?_ ?_)
  | (with_reducible refine LeO.bind ?_ (fun _ => ?_))
  | exact ih0 _ _
  | exact ih1 _ _
  | exact LeO.none _
  | refine LeO.ite ?_ ?_
  | refine LeO.bind ?_ (fun _ => ?_)
set_option maxHeartbeats 8000000 in
set_option maxRecDepth 100000 in
theorem runes_Syntax.calls (k : Nat) (a0 : Int) (r : Bool) (w : World) (h : runes_Syntax.f k a0 = some r) :
 Calls Tryd.prog 14 #[.int .i32 a0] w fun e w' => e = .returned (.bool r) ∧ Drawn0 w w' := by
 have H : (if a0 < 128 then (if a0 ≥ 33 then (if a0 ≤ 47 then (some true) else (if a0 ≥ 58 then (if a0 ≤ 64 then (some true) else (if a0 ≥ 91 then (if a0 ≤ 94 then (some true) else (if a0 = 96 then (some true) else (if a0 ≥ 123 then (some (decide (a0 ≤ 126))) else (some false)))) else (if a0 = 96 then (some true) else (if a0 ≥ 123 then (some (decide (a0 ≤ 126))) else (some false))))) else (if a0 ≥ 91 then (if a0 ≤ 94 then (some true) else (if a0 = 96 then (some true) else (if a0 ≥ 123 then (some (decide (a0 ≤ 126))) else (some false)))) else (if a0 = 96 then (some true) else (if a0 ≥ 123 then (some (decide (a0 ≤ 126))) else (some false)))))) else (if a0 ≥ 58 then (if a0 ≤ 64 then (some true) else (if a0 ≥ 91 then (if a0 ≤ 94 then (some true) else (if a0 = 96 then (some true) else (if a0 ≥ 123 then (some (decide (a0 ≤ 126))) else (some false)))) else (if a0 = 96 then (some true) else (if a0 ≥ 123 then (some (decide (a0 ≤ 126))) else (some false))))) else (if a0 ≥ 91 then (if a0 ≤ 94 then (some true) else (if a0 = 96 then (some true) else (if a0 ≥ 123 then (some (decide (a0 ≤ 126))) else (some false)))) else (if a0 = 96 then (some true) else (if a0 ≥ 123 then (some (decide (a0 ≤ 126))) else (some false)))))) else (if a0 < 256 then (if a0 = 168 then (some false) else (if a0 = 170 then (some false) else (if a0 = 173 then (some false) else (if a0 = 175 then (some false) else (if a0 ≥ 161 then (if a0 ≤ 177 then (if a0 = 178 then (if a0 = 182 then (some true) else (if a0 = 187 then (some true) else (if a0 = 191 then (some true) else (if a0 = 215 then (some true) else (some (a0 == 247)))))) else (some true)) else (if a0 = 182 then (some true) else (if a0 = 187 then (some true) else (if a0 = 191 then (some true) else (if a0 = 215 then (some true) else (some (a0 == 247))))))) else (if a0 = 182 then (some true) else (if a0 = 187 then (some true) else (if a0 = 191 then (some true) else (if a0 = 215 then (some true) else (some (a0 == 247))))))))))) else (if a0 < 11904 then (if a0 ≥ 8208 then (if a0 ≤ 8231 then (some true) else (if a0 ≥ 8240 then (if a0 ≤ 8254 then (some true) else (if a0 ≥ 8257 then (if a0 ≤ 8275 then (some true) else (if a0 ≥ 8277 then (if a0 ≤ 8286 then (some true) else (if a0 ≥ 8592 then (if a0 ≤ 11263 then (some true) else (if a0 ≥ 11776 then (some (decide (a0 ≤ 11903))) else (some false))) else (if a0 ≥ 11776 then (some (decide (a0 ≤ 11903))) else (some false)))) else (if a0 ≥ 8592 then (if a0 ≤ 11263 then (some true) else (if a0 ≥ 11776 then (some (decide (a0 ≤ 11903))) else (some false))) else (if a0 ≥ 11776 then (some (decide (a0 ≤ 11903))) else (some false))))) else (if a0 ≥ 8277 then (if a0 ≤ 8286 then (some true) else (if a0 ≥ 8592 then (if a0 ≤ 11263 then (some true) else (if a0 ≥ 11776 then (some (decide (a0 ≤ 11903))) else (some false))) else (if a0 ≥ 11776 then (some (decide (a0 ≤ 11903))) else (some false)))) else (if a0 ≥ 8592 then (if a0 ≤ 11263 then (some true) else (if a0 ≥ 11776 then (some (decide (a0 ≤ 11903))) else (some false))) else (if a0 ≥ 11776 then (some (decide (a0 ≤ 11903))) else (some false)))))) else (if a0 ≥ 8257 then (if a0 ≤ 8275 then (some true) else (if a0 ≥ 8277 then (if a0 ≤ 8286 then (some true) else (if a0 ≥ 8592 then (if a0 ≤ 11263 then (some true) else (if a0 ≥ 11776 then (some (decide (a0 ≤ 11903))) else (some false))) else (if a0 ≥ 11776 then (some (decide (a0 ≤ 11903))) else (some false)))) else (if a0 ≥ 8592 then (if a0 ≤ 11263 then (some true) else (if a0 ≥ 11776 then (some (decide (a0 ≤ 11903))) else (some false))) else (if a0 ≥ 11776 then (some (decide (a0 ≤ 11903))) else (some false))))) else (if a0 ≥ 8277 then (if a0 ≤ 8286 then (some true) else (if a0 ≥ 8592 then (if a0 ≤ 11263 then (some true) else (if a0 ≥ 11776 then (some (decide (a0 ≤ 11903))) else (some false))) else (if a0 ≥ 11776 then (some (decide (a0 ≤ 11903))) else (some false)))) else (if a0 ≥ 8592 then (if a0 ≤ 11263 then (some true) else (if a0 ≥ 11776 then (some (decide (a0 ≤ 11903))) else (some false))) else (if a0 ≥ 11776 then (some (decide (a0 ≤ 11903))) else (some false))))))) else (if a0 ≥ 8240 then (if a0 ≤ 8254 then (some true) else (if a0 ≥ 8257 then (if a0 ≤ 8275 then (some true) else (if a0 ≥ 8277 then (if a0 ≤ 8286 then (some true) else (if a0 ≥ 8592 then (if a0 ≤ 11263 then (some true) else (if a0 ≥ 11776 then (some (decide (a0 ≤ 11903))) else (some false))) else (if a0 ≥ 11776 then (some (decide (a0 ≤ 11903))) else (some false)))) else (if a0 ≥ 8592 then (if a0 ≤ 11263 then (some true) else (if a0 ≥ 11776 then (some (decide (a0 ≤ 11903))) else (some false))) else (if a0 ≥ 11776 then (some (decide (a0 ≤ 11903))) else (some false))))) else (if a0 ≥ 8277 then (if a0 ≤ 8286 then (some true) else (if a0 ≥ 8592 then (if a0 ≤ 11263 then (some true) else (if a0 ≥ 11776 then (some (decide (a0 ≤ 11903))) else (some false))) else (if a0 ≥ 11776 then (some (decide (a0 ≤ 11903))) else (some false)))) else (if a0 ≥ 8592 then (if a0 ≤ 11263 then (some true) else (if a0 ≥ 11776 then (some (decide (a0 ≤ 11903))) else (some false))) else (if a0 ≥ 11776 then (some (decide (a0 ≤ 11903))) else (some false)))))) else (if a0 ≥ 8257 then (if a0 ≤ 8275 then (some true) else (if a0 ≥ 8277 then (if a0 ≤ 8286 then (some true) else (if a0 ≥ 8592 then (if a0 ≤ 11263 then (some true) else (if a0 ≥ 11776 then (some (decide (a0 ≤ 11903))) else (some false))) else (if a0 ≥ 11776 then (some (decide (a0 ≤ 11903))) else (some false)))) else (if a0 ≥ 8592 then (if a0 ≤ 11263 then (some true) else (if a0 ≥ 11776 then (some (decide (a0 ≤ 11903))) else (some false))) else (if a0 ≥ 11776 then (some (decide (a0 ≤ 11903))) else (some false))))) else (if a0 ≥ 8277 then (if a0 ≤ 8286 then (some true) else (if a0 ≥ 8592 then (if a0 ≤ 11263 then (some true) else (if a0 ≥ 11776 then (some (decide (a0 ≤ 11903))) else (some false))) else (if a0 ≥ 11776 then (some (decide (a0 ≤ 11903))) else (some false)))) else (if a0 ≥ 8592 then (if a0 ≤ 11263 then (some true) else (if a0 ≥ 11776 then (some (decide (a0 ≤ 11903))) else (some false))) else (if a0 ≥ 11776 then (some (decide (a0 ≤ 11903))) else (some false))))))) else (if a0 ≥ 12289 then (runes_Syntax.j0 k a0 (decide (a0 ≤ 12291))) else (runes_Syntax.j0 k a0 false))))) = some r := h
 clear h
 by_cases c2 : a0 < 128
 · rw [if_pos c2] at H
   have c2b0 : decide (a0 < 128) = true := decide_eq_true c2
   clear c2
   by_cases c3 : a0 ≥ 33
   · rw [if_pos c3] at H
     have c3b0 : decide (33 ≤ a0) = true := decide_eq_true c3
     clear c3
     by_cases c4 : a0 ≤ 47
     · rw [if_pos c4] at H
       have c4b0 : decide (a0 ≤ 47) = true := decide_eq_true c4
       clear c4
       obtain rfl := Option.some.inj H
       go_enter Tryd.func14, Tryd.ntmps14
       go_wp2
       go_ret
       exact ⟨by first | rfl | (simp; done) | (simp [*]; done), by repeat (first | exact Drawn0.refl _ | apply Drawn0.step)⟩
     · rw [if_neg c4] at H
       have c4b0 : decide (a0 ≤ 47) = false := decide_eq_false c4
       clear c4
       by_cases c5 : a0 ≥ 58
       · rw [if_pos c5] at H
         have c5b0 : decide (58 ≤ a0) = true := decide_eq_true c5
         clear c5
         by_cases c6 : a0 ≤ 64
         · rw [if_pos c6] at H
           have c6b0 : decide (a0 ≤ 64) = true := decide_eq_true c6
           clear c6
           obtain rfl := Option.some.inj H
           go_enter Tryd.func14, Tryd.ntmps14
           go_wp2
           go_ret
           exact ⟨by first | rfl | (simp; done) | (simp [*]; done), by repeat (first | exact Drawn0.refl _ | apply Drawn0.step)⟩
         · rw [if_neg c6] at H
           have c6b0 : decide (a0 ≤ 64) = false := decide_eq_false c6
           clear c6
           by_cases c7 : a0 ≥ 91
           · rw [if_pos c7] at H
             have c7b0 : decide (91 ≤ a0) = true := decide_eq_true c7
             clear c7
             by_cases c8 : a0 ≤ 94
             · rw [if_pos c8] at H
               have c8b0 : decide (a0 ≤ 94) = true := decide_eq_true c8
               clear c8
               obtain rfl := Option.some.inj H
               go_enter Tryd.func14, Tryd.ntmps14
               go_wp2
               go_ret
               exact ⟨by first | rfl | (simp; done) | (simp [*]; done), by repeat (first | exact Drawn0.refl _ | apply Drawn0.step)⟩
             · rw [if_neg c8] at H
               have c8b0 : decide (a0 ≤ 94) = false := decide_eq_false c8
               clear c8
               by_cases c9 : a0 = 96
               · rw [if_pos c9] at H
                 have c9b0 : (a0 == 96) = true := beq_iff_eq.mpr c9
                 have c9b1 : (a0 != 96) = false := bne_eq_false_iff_eq.mpr c9
                 try have c9b1z := c9b1
                 (try simp only [bne] at c9b1z)
                 clear c9
                 obtain rfl := Option.some.inj H
                 go_enter Tryd.func14, Tryd.ntmps14
                 go_wp2
                 go_ret
                 exact ⟨by first | rfl | (simp; done) | (simp [*]; done), by repeat (first | exact Drawn0.refl _ | apply Drawn0.step)⟩
               · rw [if_neg c9] at H
                 have c9b0 : (a0 == 96) = false := beq_eq_false_iff_ne.mpr c9
                 have c9b1 : (a0 != 96) = true := bne_iff_ne.mpr c9
                 try have c9b1z := c9b1
                 (try simp only [bne] at c9b1z)
                 by_cases c10 : a0 ≥ 123
                 · rw [if_pos c10] at H
                   have c10b0 : decide (123 ≤ a0) = true := decide_eq_true c10
                   clear c10
                   obtain rfl := Option.some.inj H
                   go_enter Tryd.func14, Tryd.ntmps14
                   go_wp2
                   go_ret
                   exact ⟨by first | rfl | (simp; done) | (simp [*]; done), by repeat (first | exact Drawn0.refl _ | apply Drawn0.step)⟩
                 · rw [if_neg c10] at H
                   have c10b0 : decide (123 ≤ a0) = false := decide_eq_false c10
                   clear c10
                   obtain rfl := Option.some.inj H
                   go_enter Tryd.func14, Tryd.ntmps14
                   go_wp2
                   go_ret
                   exact ⟨by first | rfl | (simp; done) | (simp [*]; done), by repeat (first | exact Drawn0.refl _ | apply Drawn0.step)⟩
           · rw [if_neg c7] at H
             have c7b0 : decide (91 ≤ a0) = false := decide_eq_false c7
             clear c7
             by_cases c11 : a0 = 96
             · rw [if_pos c11] at H
               have c11b0 : (a0 == 96) = true := beq_iff_eq.mpr c11
               have c11b1 : (a0 != 96) = false := bne_eq_false_iff_eq.mpr c11
               try have c11b1z := c11b1
               (try simp only [bne] at c11b1z)
               clear c11
               obtain rfl := Option.some.inj H
               go_enter Tryd.func14, Tryd.ntmps14
               go_wp2
               go_ret
               exact ⟨by first | rfl | (simp; done) | (simp [*]; done), by repeat (first | exact Drawn0.refl _ | apply Drawn0.step)⟩
             · rw [if_neg c11] at H
               have c11b0 : (a0 == 96) = false := beq_eq_false_iff_ne.mpr c11
               have c11b1 : (a0 != 96) = true := bne_iff_ne.mpr c11
               try have c11b1z := c11b1
               (try simp only [bne] at c11b1z)
               by_cases c12 : a0 ≥ 123
               · rw [if_pos c12] at H
                 have c12b0 : decide (123 ≤ a0) = true := decide_eq_true c12
                 clear c12
                 obtain rfl := Option.some.inj H
                 go_enter Tryd.func14, Tryd.ntmps14
                 go_wp2
                 go_ret
                 exact ⟨by first | rfl | (simp; done) | (simp [*]; done), by repeat (first | exact Drawn0.refl _ | apply Drawn0.step)⟩
               · rw [if_neg c12] at H
                 have c12b0 : decide (123 ≤ a0) = false := decide_eq_false c12
                 clear c12
                 obtain rfl := Option.some.inj H
                 go_enter Tryd.func14, Tryd.ntmps14
                 go_wp2
                 go_ret
                 exact ⟨by first | rfl | (simp; done) | (simp [*]; done), by repeat (first | exact Drawn0.refl _ | apply Drawn0.step)⟩
       · rw [if_neg c5] at H
         have c5b0 : decide (58 ≤ a0) = false := decide_eq_false c5
         clear c5
         by_cases c13 : a0 ≥ 91
         · rw [if_pos c13] at H
           have c13b0 : decide (91 ≤ a0) = true := decide_eq_true c13
           clear c13
           by_cases c14 : a0 ≤ 94
           · rw [if_pos c14] at H
             have c14b0 : decide (a0 ≤ 94) = true := decide_eq_true c14
             clear c14
             obtain rfl := Option.some.inj H
             go_enter Tryd.func14, Tryd.ntmps14
             go_wp2
             go_ret
             exact ⟨by first | rfl | (simp; done) | (simp [*]; done), by repeat (first | exact Drawn0.refl _ | apply Drawn0.step)⟩
           · rw [if_neg c14] at H
             have c14b0 : decide (a0 ≤ 94) = false := decide_eq_false c14
             clear c14
             by_cases c15 : a0 = 96
             · rw [if_pos c15] at H
               have c15b0 : (a0 == 96) = true := beq_iff_eq.mpr c15
               have c15b1 : (a0 != 96) = false := bne_eq_false_iff_eq.mpr c15
               try have c15b1z := c15b1
               (try simp only [bne] at c15b1z)
               clear c15
               obtain rfl := Option.some.inj H
               go_enter Tryd.func14, Tryd.ntmps14
               go_wp2
               go_ret
               exact ⟨by first | rfl | (simp; done) | (simp [*]; done), by repeat (first | exact Drawn0.refl _ | apply Drawn0.step)⟩
             · rw [if_neg c15] at H
               have c15b0 : (a0 == 96) = false := beq_eq_false_iff_ne.mpr c15
               have c15b1 : (a0 != 96) = true := bne_iff_ne.mpr c15
               try have c15b1z := c15b1
               (try simp only [bne] at c15b1z)
               by_cases c16 : a0 ≥ 123
               · rw [if_pos c16] at H
                 have c16b0 : decide (123 ≤ a0) = true := decide_eq_true c16
                 clear c16
                 obtain rfl := Option.some.inj H
                 go_enter Tryd.func14, Tryd.ntmps14
                 go_wp2
                 go_ret
                 exact ⟨by first | rfl | (simp; done) | (simp [*]; done), by repeat (first | exact Drawn0.refl _ | apply Drawn0.step)⟩
               · rw [if_neg c16] at H
                 have c16b0 : decide (123 ≤ a0) = false := decide_eq_false c16
                 clear c16
                 obtain rfl := Option.some.inj H
                 go_enter Tryd.func14, Tryd.ntmps14
                 go_wp2
                 go_ret
                 exact ⟨by first | rfl | (simp; done) | (simp [*]; done), by repeat (first | exact Drawn0.refl _ | apply Drawn0.step)⟩
         · rw [if_neg c13] at H
           have c13b0 : decide (91 ≤ a0) = false := decide_eq_false c13
           clear c13
           by_cases c17 : a0 = 96
           · rw [if_pos c17] at H
             have c17b0 : (a0 == 96) = true := beq_iff_eq.mpr c17
             have c17b1 : (a0 != 96) = false := bne_eq_false_iff_eq.mpr c17
             try have c17b1z := c17b1
             (try simp only [bne] at c17b1z)
             clear c17
             obtain rfl := Option.some.inj H
             go_enter Tryd.func14, Tryd.ntmps14
             go_wp2
             go_ret
             exact ⟨by first | rfl | (simp; done) | (simp [*]; done), by repeat (first | exact Drawn0.refl _ | apply Drawn0.step)⟩
           · rw [if_neg c17] at H
             have c17b0 : (a0 == 96) = false := beq_eq_false_iff_ne.mpr c17
             have c17b1 : (a0 != 96) = true := bne_iff_ne.mpr c17
             try have c17b1z := c17b1
             (try simp only [bne] at c17b1z)
             by_cases c18 : a0 ≥ 123
             · rw [if_pos c18] at H
               have c18b0 : decide (123 ≤ a0) = true := decide_eq_true c18
               clear c18
               obtain rfl := Option.some.inj H
               go_enter Tryd.func14, Tryd.ntmps14
               go_wp2
               go_ret
               exact ⟨by first | rfl | (simp; done) | (simp [*]; done), by repeat (first | exact Drawn0.refl _ | apply Drawn0.step)⟩
             · rw [if_neg c18] at H
               have c18b0 : decide (123 ≤ a0) = false := decide_eq_false c18
               clear c18
               obtain rfl := Option.some.inj H
               go_enter Tryd.func14, Tryd.ntmps14
               go_wp2
               go_ret
               exact ⟨by first | rfl | (simp; done) | (simp [*]; done), by repeat (first | exact Drawn0.refl _ | apply Drawn0.step)⟩
   · rw [if_neg c3] at H
     have c3b0 : decide (33 ≤ a0) = false := decide_eq_false c3
     clear c3
     by_cases c19 : a0 ≥ 58
     · rw [if_pos c19] at H
       have c19b0 : decide (58 ≤ a0) = true := decide_eq_true c19
       clear c19
       by_cases c20 : a0 ≤ 64
       · rw [if_pos c20] at H
         have c20b0 : decide (a0 ≤ 64) = true := decide_eq_true c20
         clear c20
         obtain rfl := Option.some.inj H
         go_enter Tryd.func14, Tryd.ntmps14
         go_wp2
         go_ret
         exact ⟨by first | rfl | (simp; done) | (simp [*]; done), by repeat (first | exact Drawn0.refl _ | apply Drawn0.step)⟩
       · rw [if_neg c20] at H
         have c20b0 : decide (a0 ≤ 64) = false := decide_eq_false c20
         clear c20
         by_cases c21 : a0 ≥ 91
         · rw [if_pos c21] at H
           have c21b0 : decide (91 ≤ a0) = true := decide_eq_true c21
           clear c21
           by_cases c22 : a0 ≤ 94
           · rw [if_pos c22] at H
             have c22b0 : decide (a0 ≤ 94) = true := decide_eq_true c22
             clear c22
             obtain rfl := Option.some.inj H
             go_enter Tryd.func14, Tryd.ntmps14
             go_wp2
             go_ret
             exact ⟨by first | rfl | (simp; done) | (simp [*]; done), by repeat (first | exact Drawn0.refl _ | apply Drawn0.step)⟩
           · rw [if_neg c22] at H
             have c22b0 : decide (a0 ≤ 94) = false := decide_eq_false c22
             clear c22
             by_cases c23 : a0 = 96
             · rw [if_pos c23] at H
               have c23b0 : (a0 == 96) = true := beq_iff_eq.mpr c23
               have c23b1 : (a0 != 96) = false := bne_eq_false_iff_eq.mpr c23
               try have c23b1z := c23b1
               (try simp only [bne] at c23b1z)
               clear c23
               obtain rfl := Option.some.inj H
               go_enter Tryd.func14, Tryd.ntmps14
               go_wp2
               go_ret
               exact ⟨by first | rfl | (simp; done) | (simp [*]; done), by repeat (first | exact Drawn0.refl _ | apply Drawn0.step)⟩
             · rw [if_neg c23] at H
               have c23b0 : (a0 == 96) = false := beq_eq_false_iff_ne.mpr c23
               have c23b1 : (a0 != 96) = true := bne_iff_ne.mpr c23
               try have c23b1z := c23b1
               (try simp only [bne] at c23b1z)
               by_cases c24 : a0 ≥ 123
               · rw [if_pos c24] at H
                 have c24b0 : decide (123 ≤ a0) = true := decide_eq_true c24
                 clear c24
                 obtain rfl := Option.some.inj H
                 go_enter Tryd.func14, Tryd.ntmps14
                 go_wp2
                 go_ret
                 exact ⟨by first | rfl | (simp; done) | (simp [*]; done), by repeat (first | exact Drawn0.refl _ | apply Drawn0.step)⟩
               · rw [if_neg c24] at H
                 have c24b0 : decide (123 ≤ a0) = false := decide_eq_false c24
                 clear c24
                 obtain rfl := Option.some.inj H
                 go_enter Tryd.func14, Tryd.ntmps14
                 go_wp2
                 go_ret
                 exact ⟨by first | rfl | (simp; done) | (simp [*]; done), by repeat (first | exact Drawn0.refl _ | apply Drawn0.step)⟩
         · rw [if_neg c21] at H
           have c21b0 : decide (91 ≤ a0) = false := decide_eq_false c21
           clear c21
           by_cases c25 : a0 = 96
           · rw [if_pos c25] at H
             have c25b0 : (a0 == 96) = true := beq_iff_eq.mpr c25
             have c25b1 : (a0 != 96) = false := bne_eq_false_iff_eq.mpr c25
             try have c25b1z := c25b1
             (try simp only [bne] at c25b1z)
             clear c25
             obtain rfl := Option.some.inj H
             go_enter Tryd.func14, Tryd.ntmps14
             go_wp2
             go_ret
             exact ⟨by first | rfl | (simp; done) | (simp [*]; done), by repeat (first | exact Drawn0.refl _ | apply Drawn0.step)⟩
           · rw [if_neg c25] at H
             have c25b0 : (a0 == 96) = false := beq_eq_false_iff_ne.mpr c25
             have c25b1 : (a0 != 96) = true := bne_iff_ne.mpr c25
             try have c25b1z := c25b1
             (try simp only [bne] at c25b1z)
             by_cases c26 : a0 ≥ 123
             · rw [if_pos c26] at H
               have c26b0 : decide (123 ≤ a0) = true := decide_eq_true c26
               clear c26
               obtain rfl := Option.some.inj H
               go_enter Tryd.func14, Tryd.ntmps14
               go_wp2
               go_ret
               exact ⟨by first | rfl | (simp; done) | (simp [*]; done), by repeat (first | exact Drawn0.refl _ | apply Drawn0.step)⟩
             · rw [if_neg c26] at H
               have c26b0 : decide (123 ≤ a0) = false := decide_eq_false c26
               clear c26
               obtain rfl := Option.some.inj H
               go_enter Tryd.func14, Tryd.ntmps14
               go_wp2
               go_ret
               exact ⟨by first | rfl | (simp; done) | (simp [*]; done), by repeat (first | exact Drawn0.refl _ | apply Drawn0.step)⟩
     · rw [if_neg c19] at H
       have c19b0 : decide (58 ≤ a0) = false := decide_eq_false c19
       clear c19
       by_cases c27 : a0 ≥ 91
       · rw [if_pos c27] at H
         have c27b0 : decide (91 ≤ a0) = true := decide_eq_true c27
         clear c27
         by_cases c28 : a0 ≤ 94
         · rw [if_pos c28] at H
           have c28b0 : decide (a0 ≤ 94) = true := decide_eq_true c28
           clear c28
           obtain rfl := Option.some.inj H
           go_enter Tryd.func14, Tryd.ntmps14
           go_wp2
           go_ret
           exact ⟨by first | rfl | (simp; done) | (simp [*]; done), by repeat (first | exact Drawn0.refl _ | apply Drawn0.step)⟩
         · rw [if_neg c28] at H
           have c28b0 : decide (a0 ≤ 94) = false := decide_eq_false c28
           clear c28
           by_cases c29 : a0 = 96
           · rw [if_pos c29] at H
             have c29b0 : (a0 == 96) = true := beq_iff_eq.mpr c29
             have c29b1 : (a0 != 96) = false := bne_eq_false_iff_eq.mpr c29
             try have c29b1z := c29b1
             (try simp only [bne] at c29b1z)
             clear c29
             obtain rfl := Option.some.inj H
             go_enter Tryd.func14, Tryd.ntmps14
             go_wp2
             go_ret
             exact ⟨by first | rfl | (simp; done) | (simp [*]; done), by repeat (first | exact Drawn0.refl _ | apply Drawn0.step)⟩
           · rw [if_neg c29] at H
             have c29b0 : (a0 == 96) = false := beq_eq_false_iff_ne.mpr c29
             have c29b1 : (a0 != 96) = true := bne_iff_ne.mpr c29
             try have c29b1z := c29b1
             (try simp only [bne] at c29b1z)
             by_cases c30 : a0 ≥ 123
             · rw [if_pos c30] at H
               have c30b0 : decide (123 ≤ a0) = true := decide_eq_true c30
               clear c30
               obtain rfl := Option.some.inj H
               go_enter Tryd.func14, Tryd.ntmps14
               go_wp2
               go_ret
               exact ⟨by first | rfl | (simp; done) | (simp [*]; done), by repeat (first | exact Drawn0.refl _ | apply Drawn0.step)⟩
             · rw [if_neg c30] at H
               have c30b0 : decide (123 ≤ a0) = false := decide_eq_false c30
               clear c30
               obtain rfl := Option.some.inj H
               go_enter Tryd.func14, Tryd.ntmps14
               go_wp2
               go_ret
               exact ⟨by first | rfl | (simp; done) | (simp [*]; done), by repeat (first | exact Drawn0.refl _ | apply Drawn0.step)⟩
       · rw [if_neg c27] at H
         have c27b0 : decide (91 ≤ a0) = false := decide_eq_false c27
         clear c27
         by_cases c31 : a0 = 96
         · rw [if_pos c31] at H
           have c31b0 : (a0 == 96) = true := beq_iff_eq.mpr c31
           have c31b1 : (a0 != 96) = false := bne_eq_false_iff_eq.mpr c31
           try have c31b1z := c31b1
           (try simp only [bne] at c31b1z)
           clear c31
           obtain rfl := Option.some.inj H
           go_enter Tryd.func14, Tryd.ntmps14
           go_wp2
           go_ret
           exact ⟨by first | rfl | (simp; done) | (simp [*]; done), by repeat (first | exact Drawn0.refl _ | apply Drawn0.step)⟩
         · rw [if_neg c31] at H
           have c31b0 : (a0 == 96) = false := beq_eq_false_iff_ne.mpr c31
           have c31b1 : (a0 != 96) = true := bne_iff_ne.mpr c31
           try have c31b1z := c31b1
           (try simp only [bne] at c31b1z)
           by_cases c32 : a0 ≥ 123
           · rw [if_pos c32] at H
             have c32b0 : decide (123 ≤ a0) = true := decide_eq_true c32
             clear c32
             obtain rfl := Option.some.inj H
             go_enter Tryd.func14, Tryd.ntmps14
             go_wp2
             go_ret
             exact ⟨by first | rfl | (simp; done) | (simp [*]; done), by repeat (first | exact Drawn0.refl _ | apply Drawn0.step)⟩
           · rw [if_neg c32] at H
             have c32b0 : decide (123 ≤ a0) = false := decide_eq_false c32
             clear c32
             obtain rfl := Option.some.inj H
             go_enter Tryd.func14, Tryd.ntmps14
             go_wp2
             go_ret
             exact ⟨by first | rfl | (simp; done) | (simp [*]; done), by repeat (first | exact Drawn0.refl _ | apply Drawn0.step)⟩
 · rw [if_neg c2] at H
   have c2b0 : decide (a0 < 128) = false := decide_eq_false c2
   clear c2
   by_cases c33 : a0 < 256
   · rw [if_pos c33] at H
     have c33b0 : decide (a0 < 256) = true := decide_eq_true c33
     clear c33
     by_cases c34 : a0 = 168
     · rw [if_pos c34] at H
       have c34b0 : (a0 == 168) = true := beq_iff_eq.mpr c34
       have c34b1 : (a0 != 168) = false := bne_eq_false_iff_eq.mpr c34
       try have c34b1z := c34b1
       (try simp only [bne] at c34b1z)
       clear c34
       obtain rfl := Option.some.inj H
       go_enter Tryd.func14, Tryd.ntmps14
       go_wp2
       go_ret
       exact ⟨by first | rfl | (simp; done) | (simp [*]; done), by repeat (first | exact Drawn0.refl _ | apply Drawn0.step)⟩
     · rw [if_neg c34] at H
       have c34b0 : (a0 == 168) = false := beq_eq_false_iff_ne.mpr c34
       have c34b1 : (a0 != 168) = true := bne_iff_ne.mpr c34
       try have c34b1z := c34b1
       (try simp only [bne] at c34b1z)
       by_cases c35 : a0 = 170
       · rw [if_pos c35] at H
         have c35b0 : (a0 == 170) = true := beq_iff_eq.mpr c35
         have c35b1 : (a0 != 170) = false := bne_eq_false_iff_eq.mpr c35
         try have c35b1z := c35b1
         (try simp only [bne] at c35b1z)
         clear c35
         obtain rfl := Option.some.inj H
         go_enter Tryd.func14, Tryd.ntmps14
         go_wp2
         go_ret
         exact ⟨by first | rfl | (simp; done) | (simp [*]; done), by repeat (first | exact Drawn0.refl _ | apply Drawn0.step)⟩
       · rw [if_neg c35] at H
         have c35b0 : (a0 == 170) = false := beq_eq_false_iff_ne.mpr c35
         have c35b1 : (a0 != 170) = true := bne_iff_ne.mpr c35
         try have c35b1z := c35b1
         (try simp only [bne] at c35b1z)
         by_cases c36 : a0 = 173
         · rw [if_pos c36] at H
           have c36b0 : (a0 == 173) = true := beq_iff_eq.mpr c36
           have c36b1 : (a0 != 173) = false := bne_eq_false_iff_eq.mpr c36
           try have c36b1z := c36b1
           (try simp only [bne] at c36b1z)
           clear c36
           obtain rfl := Option.some.inj H
           go_enter Tryd.func14, Tryd.ntmps14
           go_wp2
           go_ret
           exact ⟨by first | rfl | (simp; done) | (simp [*]; done), by repeat (first | exact Drawn0.refl _ | apply Drawn0.step)⟩
         · rw [if_neg c36] at H
           have c36b0 : (a0 == 173) = false := beq_eq_false_iff_ne.mpr c36
           have c36b1 : (a0 != 173) = true := bne_iff_ne.mpr c36
           try have c36b1z := c36b1
           (try simp only [bne] at c36b1z)
           by_cases c37 : a0 = 175
           · rw [if_pos c37] at H
             have c37b0 : (a0 == 175) = true := beq_iff_eq.mpr c37
             have c37b1 : (a0 != 175) = false := bne_eq_false_iff_eq.mpr c37
             try have c37b1z := c37b1
             (try simp only [bne] at c37b1z)
             clear c37
             obtain rfl := Option.some.inj H
             go_enter Tryd.func14, Tryd.ntmps14
             go_wp2
             go_ret
             exact ⟨by first | rfl | (simp; done) | (simp [*]; done), by repeat (first | exact Drawn0.refl _ | apply Drawn0.step)⟩
           · rw [if_neg c37] at H
             have c37b0 : (a0 == 175) = false := beq_eq_false_iff_ne.mpr c37
             have c37b1 : (a0 != 175) = true := bne_iff_ne.mpr c37
             try have c37b1z := c37b1
             (try simp only [bne] at c37b1z)
             by_cases c38 : a0 ≥ 161
             · rw [if_pos c38] at H
               have c38b0 : decide (161 ≤ a0) = true := decide_eq_true c38
               clear c38
               by_cases c39 : a0 ≤ 177
               · rw [if_pos c39] at H
                 have c39b0 : decide (a0 ≤ 177) = true := decide_eq_true c39
                 clear c39
                 by_cases c40 : a0 = 178
                 · rw [if_pos c40] at H
                   have c40b0 : (a0 == 178) = true := beq_iff_eq.mpr c40
                   have c40b1 : (a0 != 178) = false := bne_eq_false_iff_eq.mpr c40
                   try have c40b1z := c40b1
                   (try simp only [bne] at c40b1z)
                   clear c40
                   by_cases c41 : a0 = 182
                   · rw [if_pos c41] at H
                     have c41b0 : (a0 == 182) = true := beq_iff_eq.mpr c41
                     have c41b1 : (a0 != 182) = false := bne_eq_false_iff_eq.mpr c41
                     try have c41b1z := c41b1
                     (try simp only [bne] at c41b1z)
                     clear c41
                     obtain rfl := Option.some.inj H
                     go_enter Tryd.func14, Tryd.ntmps14
                     go_wp2
                     go_ret
                     exact ⟨by first | rfl | (simp; done) | (simp [*]; done), by repeat (first | exact Drawn0.refl _ | apply Drawn0.step)⟩
                   · rw [if_neg c41] at H
                     have c41b0 : (a0 == 182) = false := beq_eq_false_iff_ne.mpr c41
                     have c41b1 : (a0 != 182) = true := bne_iff_ne.mpr c41
                     try have c41b1z := c41b1
                     (try simp only [bne] at c41b1z)
                     by_cases c42 : a0 = 187
                     · rw [if_pos c42] at H
                       have c42b0 : (a0 == 187) = true := beq_iff_eq.mpr c42
                       have c42b1 : (a0 != 187) = false := bne_eq_false_iff_eq.mpr c42
                       try have c42b1z := c42b1
                       (try simp only [bne] at c42b1z)
                       clear c42
                       obtain rfl := Option.some.inj H
                       go_enter Tryd.func14, Tryd.ntmps14
                       go_wp2
                       go_ret
                       exact ⟨by first | rfl | (simp; done) | (simp [*]; done), by repeat (first | exact Drawn0.refl _ | apply Drawn0.step)⟩
                     · rw [if_neg c42] at H
                       have c42b0 : (a0 == 187) = false := beq_eq_false_iff_ne.mpr c42
                       have c42b1 : (a0 != 187) = true := bne_iff_ne.mpr c42
                       try have c42b1z := c42b1
                       (try simp only [bne] at c42b1z)
                       by_cases c43 : a0 = 191
                       · rw [if_pos c43] at H
                         have c43b0 : (a0 == 191) = true := beq_iff_eq.mpr c43
                         have c43b1 : (a0 != 191) = false := bne_eq_false_iff_eq.mpr c43
                         try have c43b1z := c43b1
                         (try simp only [bne] at c43b1z)
                         clear c43
                         obtain rfl := Option.some.inj H
                         go_enter Tryd.func14, Tryd.ntmps14
                         go_wp2
                         go_ret
                         exact ⟨by first | rfl | (simp; done) | (simp [*]; done), by repeat (first | exact Drawn0.refl _ | apply Drawn0.step)⟩
                       · rw [if_neg c43] at H
                         have c43b0 : (a0 == 191) = false := beq_eq_false_iff_ne.mpr c43
                         have c43b1 : (a0 != 191) = true := bne_iff_ne.mpr c43
                         try have c43b1z := c43b1
                         (try simp only [bne] at c43b1z)
                         by_cases c44 : a0 = 215
                         · rw [if_pos c44] at H
                           have c44b0 : (a0 == 215) = true := beq_iff_eq.mpr c44
                           have c44b1 : (a0 != 215) = false := bne_eq_false_iff_eq.mpr c44
                           try have c44b1z := c44b1
                           (try simp only [bne] at c44b1z)
                           clear c44
                           obtain rfl := Option.some.inj H
                           go_enter Tryd.func14, Tryd.ntmps14
                           go_wp2
                           go_ret
                           exact ⟨by first | rfl | (simp; done) | (simp [*]; done), by repeat (first | exact Drawn0.refl _ | apply Drawn0.step)⟩
                         · rw [if_neg c44] at H
                           have c44b0 : (a0 == 215) = false := beq_eq_false_iff_ne.mpr c44
                           have c44b1 : (a0 != 215) = true := bne_iff_ne.mpr c44
                           try have c44b1z := c44b1
                           (try simp only [bne] at c44b1z)
                           obtain rfl := Option.some.inj H
                           go_enter Tryd.func14, Tryd.ntmps14
                           go_wp2
                           go_ret
                           exact ⟨by first | rfl | (simp; done) | (simp [*]; done), by repeat (first | exact Drawn0.refl _ | apply Drawn0.step)⟩
                 · rw [if_neg c40] at H
                   have c40b0 : (a0 == 178) = false := beq_eq_false_iff_ne.mpr c40
                   have c40b1 : (a0 != 178) = true := bne_iff_ne.mpr c40
                   try have c40b1z := c40b1
                   (try simp only [bne] at c40b1z)
                   obtain rfl := Option.some.inj H
                   go_enter Tryd.func14, Tryd.ntmps14
                   go_wp2
                   go_ret
                   exact ⟨by first | rfl | (simp; done) | (simp [*]; done), by repeat (first | exact Drawn0.refl _ | apply Drawn0.step)⟩
               · rw [if_neg c39] at H
                 have c39b0 : decide (a0 ≤ 177) = false := decide_eq_false c39
                 clear c39
                 by_cases c45 : a0 = 182
                 · rw [if_pos c45] at H
                   have c45b0 : (a0 == 182) = true := beq_iff_eq.mpr c45
                   have c45b1 : (a0 != 182) = false := bne_eq_false_iff_eq.mpr c45
                   try have c45b1z := c45b1
                   (try simp only [bne] at c45b1z)
                   clear c45
                   obtain rfl := Option.some.inj H
                   go_enter Tryd.func14, Tryd.ntmps14
                   go_wp2
                   go_ret
                   exact ⟨by first | rfl | (simp; done) | (simp [*]; done), by repeat (first | exact Drawn0.refl _ | apply Drawn0.step)⟩
                 · rw [if_neg c45] at H
                   have c45b0 : (a0 == 182) = false := beq_eq_false_iff_ne.mpr c45
                   have c45b1 : (a0 != 182) = true := bne_iff_ne.mpr c45
                   try have c45b1z := c45b1
                   (try simp only [bne] at c45b1z)
                   by_cases c46 : a0 = 187
                   · rw [if_pos c46] at H
                     have c46b0 : (a0 == 187) = true := beq_iff_eq.mpr c46
                     have c46b1 : (a0 != 187) = false := bne_eq_false_iff_eq.mpr c46
                     try have c46b1z := c46b1
                     (try simp only [bne] at c46b1z)
                     clear c46
                     obtain rfl := Option.some.inj H
                     go_enter Tryd.func14, Tryd.ntmps14
                     go_wp2
                     go_ret
                     exact ⟨by first | rfl | (simp; done) | (simp [*]; done), by repeat (first | exact Drawn0.refl _ | apply Drawn0.step)⟩
                   · rw [if_neg c46] at H
                     have c46b0 : (a0 == 187) = false := beq_eq_false_iff_ne.mpr c46
                     have c46b1 : (a0 != 187) = true := bne_iff_ne.mpr c46
                     try have c46b1z := c46b1
                     (try simp only [bne] at c46b1z)
                     by_cases c47 : a0 = 191
                     · rw [if_pos c47] at H
                       have c47b0 : (a0 == 191) = true := beq_iff_eq.mpr c47
                       have c47b1 : (a0 != 191) = false := bne_eq_false_iff_eq.mpr c47
                       try have c47b1z := c47b1
                       (try simp only [bne] at c47b1z)
                       clear c47
                       obtain rfl := Option.some.inj H
                       go_enter Tryd.func14, Tryd.ntmps14
                       go_wp2
                       go_ret
                       exact ⟨by first | rfl | (simp; done) | (simp [*]; done), by repeat (first | exact Drawn0.refl _ | apply Drawn0.step)⟩
                     · rw [if_neg c47] at H
                       have c47b0 : (a0 == 191) = false := beq_eq_false_iff_ne.mpr c47
                       have c47b1 : (a0 != 191) = true := bne_iff_ne.mpr c47
                       try have c47b1z := c47b1
                       (try simp only [bne] at c47b1z)
                       by_cases c48 : a0 = 215
                       · rw [if_pos c48] at H
                         have c48b0 : (a0 == 215) = true := beq_iff_eq.mpr c48
                         have c48b1 : (a0 != 215) = false := bne_eq_false_iff_eq.mpr c48
                         try have c48b1z := c48b1
                         (try simp only [bne] at c48b1z)
                         clear c48
                         obtain rfl := Option.some.inj H
                         go_enter Tryd.func14, Tryd.ntmps14
                         go_wp2
                         go_ret
                         exact ⟨by first | rfl | (simp; done) | (simp [*]; done), by repeat (first | exact Drawn0.refl _ | apply Drawn0.step)⟩
                       · rw [if_neg c48] at H
                         have c48b0 : (a0 == 215) = false := beq_eq_false_iff_ne.mpr c48
                         have c48b1 : (a0 != 215) = true := bne_iff_ne.mpr c48
                         try have c48b1z := c48b1
                         (try simp only [bne] at c48b1z)
                         obtain rfl := Option.some.inj H
                         go_enter Tryd.func14, Tryd.ntmps14
                         go_wp2
                         go_ret
                         exact ⟨by first | rfl | (simp; done) | (simp [*]; done), by repeat (first | exact Drawn0.refl _ | apply Drawn0.step)⟩
             · rw [if_neg c38] at H
               have c38b0 : decide (161 ≤ a0) = false := decide_eq_false c38
               clear c38
               by_cases c49 : a0 = 182
               · rw [if_pos c49] at H
                 have c49b0 : (a0 == 182) = true := beq_iff_eq.mpr c49
                 have c49b1 : (a0 != 182) = false := bne_eq_false_iff_eq.mpr c49
                 try have c49b1z := c49b1
                 (try simp only [bne] at c49b1z)
                 clear c49
                 obtain rfl := Option.some.inj H
                 go_enter Tryd.func14, Tryd.ntmps14
                 go_wp2
                 go_ret
                 exact ⟨by first | rfl | (simp; done) | (simp [*]; done), by repeat (first | exact Drawn0.refl _ | apply Drawn0.step)⟩
               · rw [if_neg c49] at H
                 have c49b0 : (a0 == 182) = false := beq_eq_false_iff_ne.mpr c49
                 have c49b1 : (a0 != 182) = true := bne_iff_ne.mpr c49
                 try have c49b1z := c49b1
                 (try simp only [bne] at c49b1z)
                 by_cases c50 : a0 = 187
                 · rw [if_pos c50] at H
                   have c50b0 : (a0 == 187) = true := beq_iff_eq.mpr c50
                   have c50b1 : (a0 != 187) = false := bne_eq_false_iff_eq.mpr c50
                   try have c50b1z := c50b1
                   (try simp only [bne] at c50b1z)
                   clear c50
                   obtain rfl := Option.some.inj H
                   go_enter Tryd.func14, Tryd.ntmps14
                   go_wp2
                   go_ret
                   exact ⟨by first | rfl | (simp; done) | (simp [*]; done), by repeat (first | exact Drawn0.refl _ | apply Drawn0.step)⟩
                 · rw [if_neg c50] at H
                   have c50b0 : (a0 == 187) = false := beq_eq_false_iff_ne.mpr c50
                   have c50b1 : (a0 != 187) = true := bne_iff_ne.mpr c50
                   try have c50b1z := c50b1
                   (try simp only [bne] at c50b1z)
                   by_cases c51 : a0 = 191
                   · rw [if_pos c51] at H
                     have c51b0 : (a0 == 191) = true := beq_iff_eq.mpr c51
                     have c51b1 : (a0 != 191) = false := bne_eq_false_iff_eq.mpr c51
                     try have c51b1z := c51b1
                     (try simp only [bne] at c51b1z)
                     clear c51
                     obtain rfl := Option.some.inj H
                     go_enter Tryd.func14, Tryd.ntmps14
                     go_wp2
                     go_ret
                     exact ⟨by first | rfl | (simp; done) | (simp [*]; done), by repeat (first | exact Drawn0.refl _ | apply Drawn0.step)⟩
                   · rw [if_neg c51] at H
                     have c51b0 : (a0 == 191) = false := beq_eq_false_iff_ne.mpr c51
                     have c51b1 : (a0 != 191) = true := bne_iff_ne.mpr c51
                     try have c51b1z := c51b1
                     (try simp only [bne] at c51b1z)
                     by_cases c52 : a0 = 215
                     · rw [if_pos c52] at H
                       have c52b0 : (a0 == 215) = true := beq_iff_eq.mpr c52
                       have c52b1 : (a0 != 215) = false := bne_eq_false_iff_eq.mpr c52
                       try have c52b1z := c52b1
                       (try simp only [bne] at c52b1z)
                       clear c52
                       obtain rfl := Option.some.inj H
                       go_enter Tryd.func14, Tryd.ntmps14
                       go_wp2
                       go_ret
                       exact ⟨by first | rfl | (simp; done) | (simp [*]; done), by repeat (first | exact Drawn0.refl _ | apply Drawn0.step)⟩
                     · rw [if_neg c52] at H
                       have c52b0 : (a0 == 215) = false := beq_eq_false_iff_ne.mpr c52
                       have c52b1 : (a0 != 215) = true := bne_iff_ne.mpr c52
                       try have c52b1z := c52b1
                       (try simp only [bne] at c52b1z)
                       obtain rfl := Option.some.inj H
                       go_enter Tryd.func14, Tryd.ntmps14
                       go_wp2
                       go_ret
                       exact ⟨by first | rfl | (simp; done) | (simp [*]; done), by repeat (first | exact Drawn0.refl _ | apply Drawn0.step)⟩
   · rw [if_neg c33] at H
     have c33b0 : decide (a0 < 256) = false := decide_eq_false c33
     clear c33
     by_cases c53 : a0 < 11904
     · rw [if_pos c53] at H
       have c53b0 : decide (a0 < 11904) = true := decide_eq_true c53
       clear c53
       by_cases c54 : a0 ≥ 8208
       · rw [if_pos c54] at H
         have c54b0 : decide (8208 ≤ a0) = true := decide_eq_true c54
         clear c54
         by_cases c55 : a0 ≤ 8231
         · rw [if_pos c55] at H
           have c55b0 : decide (a0 ≤ 8231) = true := decide_eq_true c55
           clear c55
           obtain rfl := Option.some.inj H
           go_enter Tryd.func14, Tryd.ntmps14
           go_wp2
           go_ret
           exact ⟨by first | rfl | (simp; done) | (simp [*]; done), by repeat (first | exact Drawn0.refl _ | apply Drawn0.step)⟩
         · rw [if_neg c55] at H
           have c55b0 : decide (a0 ≤ 8231) = false := decide_eq_false c55
           clear c55
           by_cases c56 : a0 ≥ 8240
           · rw [if_pos c56] at H
             have c56b0 : decide (8240 ≤ a0) = true := decide_eq_true c56
             clear c56
             by_cases c57 : a0 ≤ 8254
             · rw [if_pos c57] at H
               have c57b0 : decide (a0 ≤ 8254) = true := decide_eq_true c57
               clear c57
               obtain rfl := Option.some.inj H
               go_enter Tryd.func14, Tryd.ntmps14
               go_wp2
               go_ret
               exact ⟨by first | rfl | (simp; done) | (simp [*]; done), by repeat (first | exact Drawn0.refl _ | apply Drawn0.step)⟩
             · rw [if_neg c57] at H
               have c57b0 : decide (a0 ≤ 8254) = false := decide_eq_false c57
               clear c57
               by_cases c58 : a0 ≥ 8257
               · rw [if_pos c58] at H
                 have c58b0 : decide (8257 ≤ a0) = true := decide_eq_true c58
                 clear c58
                 by_cases c59 : a0 ≤ 8275
                 · rw [if_pos c59] at H
                   have c59b0 : decide (a0 ≤ 8275) = true := decide_eq_true c59
                   clear c59
                   obtain rfl := Option.some.inj H
                   go_enter Tryd.func14, Tryd.ntmps14
                   go_wp2
                   go_ret
                   exact ⟨by first | rfl | (simp; done) | (simp [*]; done), by repeat (first | exact Drawn0.refl _ | apply Drawn0.step)⟩
                 · rw [if_neg c59] at H
                   have c59b0 : decide (a0 ≤ 8275) = false := decide_eq_false c59
                   clear c59
                   by_cases c60 : a0 ≥ 8277
                   · rw [if_pos c60] at H
                     have c60b0 : decide (8277 ≤ a0) = true := decide_eq_true c60
                     clear c60
                     by_cases c61 : a0 ≤ 8286
                     · rw [if_pos c61] at H
                       have c61b0 : decide (a0 ≤ 8286) = true := decide_eq_true c61
                       clear c61
                       obtain rfl := Option.some.inj H
                       go_enter Tryd.func14, Tryd.ntmps14
                       go_wp2
                       go_ret
                       exact ⟨by first | rfl | (simp; done) | (simp [*]; done), by repeat (first | exact Drawn0.refl _ | apply Drawn0.step)⟩
                     · rw [if_neg c61] at H
                       have c61b0 : decide (a0 ≤ 8286) = false := decide_eq_false c61
                       clear c61
                       by_cases c62 : a0 ≥ 8592
                       · rw [if_pos c62] at H
                         have c62b0 : decide (8592 ≤ a0) = true := decide_eq_true c62
                         clear c62
                         by_cases c63 : a0 ≤ 11263
                         · rw [if_pos c63] at H
                           have c63b0 : decide (a0 ≤ 11263) = true := decide_eq_true c63
                           clear c63
                           obtain rfl := Option.some.inj H
                           go_enter Tryd.func14, Tryd.ntmps14
                           go_wp2
                           go_ret
                           exact ⟨by first | rfl | (simp; done) | (simp [*]; done), by repeat (first | exact Drawn0.refl _ | apply Drawn0.step)⟩
                         · rw [if_neg c63] at H
                           have c63b0 : decide (a0 ≤ 11263) = false := decide_eq_false c63
                           clear c63
                           by_cases c64 : a0 ≥ 11776
                           · rw [if_pos c64] at H
                             have c64b0 : decide (11776 ≤ a0) = true := decide_eq_true c64
                             clear c64
                             obtain rfl := Option.some.inj H
                             go_enter Tryd.func14, Tryd.ntmps14
                             go_wp2
                             go_ret
                             exact ⟨by first | rfl | (simp; done) | (simp [*]; done), by repeat (first | exact Drawn0.refl _ | apply Drawn0.step)⟩
                           · rw [if_neg c64] at H
                             have c64b0 : decide (11776 ≤ a0) = false := decide_eq_false c64
                             clear c64
                             obtain rfl := Option.some.inj H
                             go_enter Tryd.func14, Tryd.ntmps14
                             go_wp2
                             go_ret
                             exact ⟨by first | rfl | (simp; done) | (simp [*]; done), by repeat (first | exact Drawn0.refl _ | apply Drawn0.step)⟩
                       · rw [if_neg c62] at H
                         have c62b0 : decide (8592 ≤ a0) = false := decide_eq_false c62
                         clear c62
                         by_cases c65 : a0 ≥ 11776
                         · rw [if_pos c65] at H
                           have c65b0 : decide (11776 ≤ a0) = true := decide_eq_true c65
                           clear c65
                           obtain rfl := Option.some.inj H
                           go_enter Tryd.func14, Tryd.ntmps14
                           go_wp2
                           go_ret
                           exact ⟨by first | rfl | (simp; done) | (simp [*]; done), by repeat (first | exact Drawn0.refl _ | apply Drawn0.step)⟩
                         · rw [if_neg c65] at H
                           have c65b0 : decide (11776 ≤ a0) = false := decide_eq_false c65
                           clear c65
                           obtain rfl := Option.some.inj H
                           go_enter Tryd.func14, Tryd.ntmps14
                           go_wp2
                           go_ret
                           exact ⟨by first | rfl | (simp; done) | (simp [*]; done), by repeat (first | exact Drawn0.refl _ | apply Drawn0.step)⟩
                   · rw [if_neg c60] at H
                     have c60b0 : decide (8277 ≤ a0) = false := decide_eq_false c60
                     clear c60
                     by_cases c66 : a0 ≥ 8592
                     · rw [if_pos c66] at H
                       have c66b0 : decide (8592 ≤ a0) = true := decide_eq_true c66
                       clear c66
                       by_cases c67 : a0 ≤ 11263
                       · rw [if_pos c67] at H
                         have c67b0 : decide (a0 ≤ 11263) = true := decide_eq_true c67
                         clear c67
                         obtain rfl := Option.some.inj H
                         go_enter Tryd.func14, Tryd.ntmps14
                         go_wp2
                         go_ret
                         exact ⟨by first | rfl | (simp; done) | (simp [*]; done), by repeat (first | exact Drawn0.refl _ | apply Drawn0.step)⟩
                       · rw [if_neg c67] at H
                         have c67b0 : decide (a0 ≤ 11263) = false := decide_eq_false c67
                         clear c67
                         by_cases c68 : a0 ≥ 11776
                         · rw [if_pos c68] at H
                           have c68b0 : decide (11776 ≤ a0) = true := decide_eq_true c68
                           clear c68
                           obtain rfl := Option.some.inj H
                           go_enter Tryd.func14, Tryd.ntmps14
                           go_wp2
                           go_ret
                           exact ⟨by first | rfl | (simp; done) | (simp [*]; done), by repeat (first | exact Drawn0.refl _ | apply Drawn0.step)⟩
                         · rw [if_neg c68] at H
                           have c68b0 : decide (11776 ≤ a0) = false := decide_eq_false c68
                           clear c68
                           obtain rfl := Option.some.inj H
                           go_enter Tryd.func14, Tryd.ntmps14
                           go_wp2
                           go_ret
                           exact ⟨by first | rfl | (simp; done) | (simp [*]; done), by repeat (first | exact Drawn0.refl _ | apply Drawn0.step)⟩
                     · rw [if_neg c66] at H
                       have c66b0 : decide (8592 ≤ a0) = false := decide_eq_false c66
                       clear c66
                       by_cases c69 : a0 ≥ 11776
                       · rw [if_pos c69] at H
                         have c69b0 : decide (11776 ≤ a0) = true := decide_eq_true c69
                         clear c69
                         obtain rfl := Option.some.inj H
                         go_enter Tryd.func14, Tryd.ntmps14
                         go_wp2
                         go_ret
                         exact ⟨by first | rfl | (simp; done) | (simp [*]; done), by repeat (first | exact Drawn0.refl _ | apply Drawn0.step)⟩
                       · rw [if_neg c69] at H
                         have c69b0 : decide (11776 ≤ a0) = false := decide_eq_false c69
                         clear c69
                         obtain rfl := Option.some.inj H
                         go_enter Tryd.func14, Tryd.ntmps14
                         go_wp2
                         go_ret
                         exact ⟨by first | rfl | (simp; done) | (simp [*]; done), by repeat (first | exact Drawn0.refl _ | apply Drawn0.step)⟩
               · rw [if_neg c58] at H
                 have c58b0 : decide (8257 ≤ a0) = false := decide_eq_false c58
                 clear c58
                 by_cases c70 : a0 ≥ 8277
                 · rw [if_pos c70] at H
                   have c70b0 : decide (8277 ≤ a0) = true := decide_eq_true c70
                   clear c70
                   by_cases c71 : a0 ≤ 8286
                   · rw [if_pos c71] at H
                     have c71b0 : decide (a0 ≤ 8286) = true := decide_eq_true c71
                     clear c71
                     obtain rfl := Option.some.inj H
                     go_enter Tryd.func14, Tryd.ntmps14
                     go_wp2
                     go_ret
                     exact ⟨by first | rfl | (simp; done) | (simp [*]; done), by repeat (first | exact Drawn0.refl _ | apply Drawn0.step)⟩
                   · rw [if_neg c71] at H
                     have c71b0 : decide (a0 ≤ 8286) = false := decide_eq_false c71
                     clear c71
                     by_cases c72 : a0 ≥ 8592
                     · rw [if_pos c72] at H
                       have c72b0 : decide (8592 ≤ a0) = true := decide_eq_true c72
                       clear c72
                       by_cases c73 : a0 ≤ 11263
                       · rw [if_pos c73] at H
                         have c73b0 : decide (a0 ≤ 11263) = true := decide_eq_true c73
                         clear c73
                         obtain rfl := Option.some.inj H
                         go_enter Tryd.func14, Tryd.ntmps14
                         go_wp2
                         go_ret
                         exact ⟨by first | rfl | (simp; done) | (simp [*]; done), by repeat (first | exact Drawn0.refl _ | apply Drawn0.step)⟩
                       · rw [if_neg c73] at H
                         have c73b0 : decide (a0 ≤ 11263) = false := decide_eq_false c73
                         clear c73
                         by_cases c74 : a0 ≥ 11776
                         · rw [if_pos c74] at H
                           have c74b0 : decide (11776 ≤ a0) = true := decide_eq_true c74
                           clear c74
                           obtain rfl := Option.some.inj H
                           go_enter Tryd.func14, Tryd.ntmps14
                           go_wp2
                           go_ret
                           exact ⟨by first | rfl | (simp; done) | (simp [*]; done), by repeat (first | exact Drawn0.refl _ | apply Drawn0.step)⟩
                         · rw [if_neg c74] at H
                           have c74b0 : decide (11776 ≤ a0) = false := decide_eq_false c74
                           clear c74
                           obtain rfl := Option.some.inj H
                           go_enter Tryd.func14, Tryd.ntmps14
                           go_wp2
                           go_ret
                           exact ⟨by first | rfl | (simp; done) | (simp [*]; done), by repeat (first | exact Drawn0.refl _ | apply Drawn0.step)⟩
                     · rw [if_neg c72] at H
                       have c72b0 : decide (8592 ≤ a0) = false := decide_eq_false c72
                       clear c72
                       by_cases c75 : a0 ≥ 11776
                       · rw [if_pos c75] at H
                         have c75b0 : decide (11776 ≤ a0) = true := decide_eq_true c75
                         clear c75
                         obtain rfl := Option.some.inj H
                         go_enter Tryd.func14, Tryd.ntmps14
                         go_wp2
                         go_ret
                         exact ⟨by first | rfl | (simp; done) | (simp [*]; done), by repeat (first | exact Drawn0.refl _ | apply Drawn0.step)⟩
                       · rw [if_neg c75] at H
                         have c75b0 : decide (11776 ≤ a0) = false := decide_eq_false c75
                         clear c75
                         obtain rfl := Option.some.inj H
                         go_enter Tryd.func14, Tryd.ntmps14
                         go_wp2
                         go_ret
                         exact ⟨by first | rfl | (simp; done) | (simp [*]; done), by repeat (first | exact Drawn0.refl _ | apply Drawn0.step)⟩
                 · rw [if_neg c70] at H
                   have c70b0 : decide (8277 ≤ a0) = false := decide_eq_false c70
                   clear c70
                   by_cases c76 : a0 ≥ 8592
                   · rw [if_pos c76] at H
                     have c76b0 : decide (8592 ≤ a0) = true := decide_eq_true c76
                     clear c76
                     by_cases c77 : a0 ≤ 11263
                     · rw [if_pos c77] at H
                       have c77b0 : decide (a0 ≤ 11263) = true := decide_eq_true c77
                       clear c77
                       obtain rfl := Option.some.inj H
                       go_enter Tryd.func14, Tryd.ntmps14
                       go_wp2
                       go_ret
                       exact ⟨by first | rfl | (simp; done) | (simp [*]; done), by repeat (first | exact Drawn0.refl _ | apply Drawn0.step)⟩
                     · rw [if_neg c77] at H
                       have c77b0 : decide (a0 ≤ 11263) = false := decide_eq_false c77
                       clear c77
                       by_cases c78 : a0 ≥ 11776
                       · rw [if_pos c78] at H
                         have c78b0 : decide (11776 ≤ a0) = true := decide_eq_true c78
                         clear c78
                         obtain rfl := Option.some.inj H
                         go_enter Tryd.func14, Tryd.ntmps14
                         go_wp2
                         go_ret
                         exact ⟨by first | rfl | (simp; done) | (simp [*]; done), by repeat (first | exact Drawn0.refl _ | apply Drawn0.step)⟩
                       · rw [if_neg c78] at H
                         have c78b0 : decide (11776 ≤ a0) = false := decide_eq_false c78
                         clear c78
                         obtain rfl := Option.some.inj H
                         go_enter Tryd.func14, Tryd.ntmps14
                         go_wp2
                         go_ret
                         exact ⟨by first | rfl | (simp; done) | (simp [*]; done), by repeat (first | exact Drawn0.refl _ | apply Drawn0.step)⟩
                   · rw [if_neg c76] at H
                     have c76b0 : decide (8592 ≤ a0) = false := decide_eq_false c76
                     clear c76
                     by_cases c79 : a0 ≥ 11776
                     · rw [if_pos c79] at H
                       have c79b0 : decide (11776 ≤ a0) = true := decide_eq_true c79
                       clear c79
                       obtain rfl := Option.some.inj H
                       go_enter Tryd.func14, Tryd.ntmps14
                       go_wp2
                       go_ret
                       exact ⟨by first | rfl | (simp; done) | (simp [*]; done), by repeat (first | exact Drawn0.refl _ | apply Drawn0.step)⟩
                     · rw [if_neg c79] at H
                       have c79b0 : decide (11776 ≤ a0) = false := decide_eq_false c79
                       clear c79
                       obtain rfl := Option.some.inj H
                       go_enter Tryd.func14, Tryd.ntmps14
                       go_wp2
                       go_ret
                       exact ⟨by first | rfl | (simp; done) | (simp [*]; done), by repeat (first | exact Drawn0.refl _ | apply Drawn0.step)⟩
           · rw [if_neg c56] at H
             have c56b0 : decide (8240 ≤ a0) = false := decide_eq_false c56
             clear c56
             by_cases c80 : a0 ≥ 8257
             · rw [if_pos c80] at H
               have c80b0 : decide (8257 ≤ a0) = true := decide_eq_true c80
               clear c80
               by_cases c81 : a0 ≤ 8275
               · rw [if_pos c81] at H
                 have c81b0 : decide (a0 ≤ 8275) = true := decide_eq_true c81
                 clear c81
                 obtain rfl := Option.some.inj H
                 go_enter Tryd.func14, Tryd.ntmps14
                 go_wp2
                 go_ret
                 exact ⟨by first | rfl | (simp; done) | (simp [*]; done), by repeat (first | exact Drawn0.refl _ | apply Drawn0.step)⟩
               · rw [if_neg c81] at H
                 have c81b0 : decide (a0 ≤ 8275) = false := decide_eq_false c81
                 clear c81
                 by_cases c82 : a0 ≥ 8277
                 · rw [if_pos c82] at H
                   have c82b0 : decide (8277 ≤ a0) = true := decide_eq_true c82
                   clear c82
                   by_cases c83 : a0 ≤ 8286
                   · rw [if_pos c83] at H
                     have c83b0 : decide (a0 ≤ 8286) = true := decide_eq_true c83
                     clear c83
                     obtain rfl := Option.some.inj H
                     go_enter Tryd.func14, Tryd.ntmps14
                     go_wp2
                     go_ret
                     exact ⟨by first | rfl | (simp; done) | (simp [*]; done), by repeat (first | exact Drawn0.refl _ | apply Drawn0.step)⟩
                   · rw [if_neg c83] at H
                     have c83b0 : decide (a0 ≤ 8286) = false := decide_eq_false c83
                     clear c83
                     by_cases c84 : a0 ≥ 8592
                     · rw [if_pos c84] at H
                       have c84b0 : decide (8592 ≤ a0) = true := decide_eq_true c84
                       clear c84
                       by_cases c85 : a0 ≤ 11263
                       · rw [if_pos c85] at H
                         have c85b0 : decide (a0 ≤ 11263) = true := decide_eq_true c85
                         clear c85
                         obtain rfl := Option.some.inj H
                         go_enter Tryd.func14, Tryd.ntmps14
                         go_wp2
                         go_ret
                         exact ⟨by first | rfl | (simp; done) | (simp [*]; done), by repeat (first | exact Drawn0.refl _ | apply Drawn0.step)⟩
                       · rw [if_neg c85] at H
                         have c85b0 : decide (a0 ≤ 11263) = false := decide_eq_false c85
                         clear c85
                         by_cases c86 : a0 ≥ 11776
                         · rw [if_pos c86] at H
                           have c86b0 : decide (11776 ≤ a0) = true := decide_eq_true c86
                           clear c86
                           obtain rfl := Option.some.inj H
                           go_enter Tryd.func14, Tryd.ntmps14
                           go_wp2
                           go_ret
                           exact ⟨by first | rfl | (simp; done) | (simp [*]; done), by repeat (first | exact Drawn0.refl _ | apply Drawn0.step)⟩
                         · rw [if_neg c86] at H
                           have c86b0 : decide (11776 ≤ a0) = false := decide_eq_false c86
                           clear c86
                           obtain rfl := Option.some.inj H
                           go_enter Tryd.func14, Tryd.ntmps14
                           go_wp2
                           go_ret
                           exact ⟨by first | rfl | (simp; done) | (simp [*]; done), by repeat (first | exact Drawn0.refl _ | apply Drawn0.step)⟩
                     · rw [if_neg c84] at H
                       have c84b0 : decide (8592 ≤ a0) = false := decide_eq_false c84
                       clear c84
                       by_cases c87 : a0 ≥ 11776
                       · rw [if_pos c87] at H
                         have c87b0 : decide (11776 ≤ a0) = true := decide_eq_true c87
                         clear c87
                         obtain rfl := Option.some.inj H
                         go_enter Tryd.func14, Tryd.ntmps14
                         go_wp2
                         go_ret
                         exact ⟨by first | rfl | (simp; done) | (simp [*]; done), by repeat (first | exact Drawn0.refl _ | apply Drawn0.step)⟩
                       · rw [if_neg c87] at H
                         have c87b0 : decide (11776 ≤ a0) = false := decide_eq_false c87
                         clear c87
                         obtain rfl := Option.some.inj H
                         go_enter Tryd.func14, Tryd.ntmps14
                         go_wp2
                         go_ret
                         exact ⟨by first | rfl | (simp; done) | (simp [*]; done), by repeat (first | exact Drawn0.refl _ | apply Drawn0.step)⟩
                 · rw [if_neg c82] at H
                   have c82b0 : decide (8277 ≤ a0) = false := decide_eq_false c82
                   clear c82
                   by_cases c88 : a0 ≥ 8592
                   · rw [if_pos c88] at H
                     have c88b0 : decide (8592 ≤ a0) = true := decide_eq_true c88
                     clear c88
                     by_cases c89 : a0 ≤ 11263
                     · rw [if_pos c89] at H
                       have c89b0 : decide (a0 ≤ 11263) = true := decide_eq_true c89
                       clear c89
                       obtain rfl := Option.some.inj H
                       go_enter Tryd.func14, Tryd.ntmps14
                       go_wp2
                       go_ret
                       exact ⟨by first | rfl | (simp; done) | (simp [*]; done), by repeat (first | exact Drawn0.refl _ | apply Drawn0.step)⟩
                     · rw [if_neg c89] at H
                       have c89b0 : decide (a0 ≤ 11263) = false := decide_eq_false c89
                       clear c89
                       by_cases c90 : a0 ≥ 11776
                       · rw [if_pos c90] at H
                         have c90b0 : decide (11776 ≤ a0) = true := decide_eq_true c90
                         clear c90
                         obtain rfl := Option.some.inj H
                         go_enter Tryd.func14, Tryd.ntmps14
                         go_wp2
                         go_ret
                         exact ⟨by first | rfl | (simp; done) | (simp [*]; done), by repeat (first | exact Drawn0.refl _ | apply Drawn0.step)⟩
                       · rw [if_neg c90] at H
                         have c90b0 : decide (11776 ≤ a0) = false := decide_eq_false c90
                         clear c90
                         obtain rfl := Option.some.inj H
                         go_enter Tryd.func14, Tryd.ntmps14
                         go_wp2
                         go_ret
                         exact ⟨by first | rfl | (simp; done) | (simp [*]; done), by repeat (first | exact Drawn0.refl _ | apply Drawn0.step)⟩
                   · rw [if_neg c88] at H
                     have c88b0 : decide (8592 ≤ a0) = false := decide_eq_false c88
                     clear c88
                     by_cases c91 : a0 ≥ 11776
                     · rw [if_pos c91] at H
                       have c91b0 : decide (11776 ≤ a0) = true := decide_eq_true c91
                       clear c91
                       obtain rfl := Option.some.inj H
                       go_enter Tryd.func14, Tryd.ntmps14
                       go_wp2
                       go_ret
                       exact ⟨by first | rfl | (simp; done) | (simp [*]; done), by repeat (first | exact Drawn0.refl _ | apply Drawn0.step)⟩
                     · rw [if_neg c91] at H
                       have c91b0 : decide (11776 ≤ a0) = false := decide_eq_false c91
                       clear c91
                       obtain rfl := Option.some.inj H
                       go_enter Tryd.func14, Tryd.ntmps14
                       go_wp2
                       go_ret
                       exact ⟨by first | rfl | (simp; done) | (simp [*]; done), by repeat (first | exact Drawn0.refl _ | apply Drawn0.step)⟩
             · rw [if_neg c80] at H
               have c80b0 : decide (8257 ≤ a0) = false := decide_eq_false c80
               clear c80
               by_cases c92 : a0 ≥ 8277
               · rw [if_pos c92] at H
                 have c92b0 : decide (8277 ≤ a0) = true := decide_eq_true c92
                 clear c92
                 by_cases c93 : a0 ≤ 8286
                 · rw [if_pos c93] at H
                   have c93b0 : decide (a0 ≤ 8286) = true := decide_eq_true c93
                   clear c93
                   obtain rfl := Option.some.inj H
                   go_enter Tryd.func14, Tryd.ntmps14
                   go_wp2
                   go_ret
                   exact ⟨by first | rfl | (simp; done) | (simp [*]; done), by repeat (first | exact Drawn0.refl _ | apply Drawn0.step)⟩
                 · rw [if_neg c93] at H
                   have c93b0 : decide (a0 ≤ 8286) = false := decide_eq_false c93
                   clear c93
                   by_cases c94 : a0 ≥ 8592
                   · rw [if_pos c94] at H
                     have c94b0 : decide (8592 ≤ a0) = true := decide_eq_true c94
                     clear c94
                     by_cases c95 : a0 ≤ 11263
                     · rw [if_pos c95] at H
                       have c95b0 : decide (a0 ≤ 11263) = true := decide_eq_true c95
                       clear c95
                       obtain rfl := Option.some.inj H
                       go_enter Tryd.func14, Tryd.ntmps14
                       go_wp2
                       go_ret
                       exact ⟨by first | rfl | (simp; done) | (simp [*]; done), by repeat (first | exact Drawn0.refl _ | apply Drawn0.step)⟩
                     · rw [if_neg c95] at H
                       have c95b0 : decide (a0 ≤ 11263) = false := decide_eq_false c95
                       clear c95
                       by_cases c96 : a0 ≥ 11776
                       · rw [if_pos c96] at H
                         have c96b0 : decide (11776 ≤ a0) = true := decide_eq_true c96
                         clear c96
                         obtain rfl := Option.some.inj H
                         go_enter Tryd.func14, Tryd.ntmps14
                         go_wp2
                         go_ret
                         exact ⟨by first | rfl | (simp; done) | (simp [*]; done), by repeat (first | exact Drawn0.refl _ | apply Drawn0.step)⟩
                       · rw [if_neg c96] at H
                         have c96b0 : decide (11776 ≤ a0) = false := decide_eq_false c96
                         clear c96
                         obtain rfl := Option.some.inj H
                         go_enter Tryd.func14, Tryd.ntmps14
                         go_wp2
                         go_ret
                         exact ⟨by first | rfl | (simp; done) | (simp [*]; done), by repeat (first | exact Drawn0.refl _ | apply Drawn0.step)⟩
                   · rw [if_neg c94] at H
                     have c94b0 : decide (8592 ≤ a0) = false := decide_eq_false c94
                     clear c94
                     by_cases c97 : a0 ≥ 11776
                     · rw [if_pos c97] at H
                       have c97b0 : decide (11776 ≤ a0) = true := decide_eq_true c97
                       clear c97
                       obtain rfl := Option.some.inj H
                       go_enter Tryd.func14, Tryd.ntmps14
                       go_wp2
                       go_ret
                       exact ⟨by first | rfl | (simp; done) | (simp [*]; done), by repeat (first | exact Drawn0.refl _ | apply Drawn0.step)⟩
                     · rw [if_neg c97] at H
                       have c97b0 : decide (11776 ≤ a0) = false := decide_eq_false c97
                       clear c97
                       obtain rfl := Option.some.inj H
                       go_enter Tryd.func14, Tryd.ntmps14
                       go_wp2
                       go_ret
                       exact ⟨by first | rfl | (simp; done) | (simp [*]; done), by repeat (first | exact Drawn0.refl _ | apply Drawn0.step)⟩
               · rw [if_neg c92] at H
                 have c92b0 : decide (8277 ≤ a0) = false := decide_eq_false c92
                 clear c92
                 by_cases c98 : a0 ≥ 8592
                 · rw [if_pos c98] at H
                   have c98b0 : decide (8592 ≤ a0) = true := decide_eq_true c98
                   clear c98
                   by_cases c99 : a0 ≤ 11263
                   · rw [if_pos c99] at H
                     have c99b0 : decide (a0 ≤ 11263) = true := decide_eq_true c99
                     clear c99
                     obtain rfl := Option.some.inj H
                     go_enter Tryd.func14, Tryd.ntmps14
                     go_wp2
                     go_ret
                     exact ⟨by first | rfl | (simp; done) | (simp [*]; done), by repeat (first | exact Drawn0.refl _ | apply Drawn0.step)⟩
                   · rw [if_neg c99] at H
                     have c99b0 : decide (a0 ≤ 11263) = false := decide_eq_false c99
                     clear c99
                     by_cases c100 : a0 ≥ 11776
                     · rw [if_pos c100] at H
                       have c100b0 : decide (11776 ≤ a0) = true := decide_eq_true c100
                       clear c100
                       obtain rfl := Option.some.inj H
                       go_enter Tryd.func14, Tryd.ntmps14
                       go_wp2
                       go_ret
                       exact ⟨by first | rfl | (simp; done) | (simp [*]; done), by repeat (first | exact Drawn0.refl _ | apply Drawn0.step)⟩
                     · rw [if_neg c100] at H
                       have c100b0 : decide (11776 ≤ a0) = false := decide_eq_false c100
                       clear c100
                       obtain rfl := Option.some.inj H
                       go_enter Tryd.func14, Tryd.ntmps14
                       go_wp2
                       go_ret
                       exact ⟨by first | rfl | (simp; done) | (simp [*]; done), by repeat (first | exact Drawn0.refl _ | apply Drawn0.step)⟩
                 · rw [if_neg c98] at H
                   have c98b0 : decide (8592 ≤ a0) = false := decide_eq_false c98
                   clear c98
                   by_cases c101 : a0 ≥ 11776
                   · rw [if_pos c101] at H
                     have c101b0 : decide (11776 ≤ a0) = true := decide_eq_true c101
                     clear c101
                     obtain rfl := Option.some.inj H
                     go_enter Tryd.func14, Tryd.ntmps14
                     go_wp2
                     go_ret
                     exact ⟨by first | rfl | (simp; done) | (simp [*]; done), by repeat (first | exact Drawn0.refl _ | apply Drawn0.step)⟩
                   · rw [if_neg c101] at H
                     have c101b0 : decide (11776 ≤ a0) = false := decide_eq_false c101
                     clear c101
                     obtain rfl := Option.some.inj H
                     go_enter Tryd.func14, Tryd.ntmps14
                     go_wp2
                     go_ret
                     exact ⟨by first | rfl | (simp; done) | (simp [*]; done), by repeat (first | exact Drawn0.refl _ | apply Drawn0.step)⟩
       · rw [if_neg c54] at H
         have c54b0 : decide (8208 ≤ a0) = false := decide_eq_false c54
         clear c54
         by_cases c102 : a0 ≥ 8240
         · rw [if_pos c102] at H
           have c102b0 : decide (8240 ≤ a0) = true := decide_eq_true c102
           clear c102
           by_cases c103 : a0 ≤ 8254
           · rw [if_pos c103] at H
             have c103b0 : decide (a0 ≤ 8254) = true := decide_eq_true c103
             clear c103
             obtain rfl := Option.some.inj H
             go_enter Tryd.func14, Tryd.ntmps14
             go_wp2
             go_ret
             exact ⟨by first | rfl | (simp; done) | (simp [*]; done), by repeat (first | exact Drawn0.refl _ | apply Drawn0.step)⟩
           · rw [if_neg c103] at H
             have c103b0 : decide (a0 ≤ 8254) = false := decide_eq_false c103
             clear c103
             by_cases c104 : a0 ≥ 8257
             · rw [if_pos c104] at H
               have c104b0 : decide (8257 ≤ a0) = true := decide_eq_true c104
               clear c104
               by_cases c105 : a0 ≤ 8275
               · rw [if_pos c105] at H
                 have c105b0 : decide (a0 ≤ 8275) = true := decide_eq_true c105
                 clear c105
                 obtain rfl := Option.some.inj H
                 go_enter Tryd.func14, Tryd.ntmps14
                 go_wp2
                 go_ret
                 exact ⟨by first | rfl | (simp; done) | (simp [*]; done), by repeat (first | exact Drawn0.refl _ | apply Drawn0.step)⟩
               · rw [if_neg c105] at H
                 have c105b0 : decide (a0 ≤ 8275) = false := decide_eq_false c105
                 clear c105
                 by_cases c106 : a0 ≥ 8277
                 · rw [if_pos c106] at H
                   have c106b0 : decide (8277 ≤ a0) = true := decide_eq_true c106
                   clear c106
                   by_cases c107 : a0 ≤ 8286
                   · rw [if_pos c107] at H
                     have c107b0 : decide (a0 ≤ 8286) = true := decide_eq_true c107
                     clear c107
                     obtain rfl := Option.some.inj H
                     go_enter Tryd.func14, Tryd.ntmps14
                     go_wp2
                     go_ret
                     exact ⟨by first | rfl | (simp; done) | (simp [*]; done), by repeat (first | exact Drawn0.refl _ | apply Drawn0.step)⟩
                   · rw [if_neg c107] at H
                     have c107b0 : decide (a0 ≤ 8286) = false := decide_eq_false c107
                     clear c107
                     by_cases c108 : a0 ≥ 8592
                     · rw [if_pos c108] at H
                       have c108b0 : decide (8592 ≤ a0) = true := decide_eq_true c108
                       clear c108
                       by_cases c109 : a0 ≤ 11263
                       · rw [if_pos c109] at H
                         have c109b0 : decide (a0 ≤ 11263) = true := decide_eq_true c109
                         clear c109
                         obtain rfl := Option.some.inj H
                         go_enter Tryd.func14, Tryd.ntmps14
                         go_wp2
                         go_ret
                         exact ⟨by first | rfl | (simp; done) | (simp [*]; done), by repeat (first | exact Drawn0.refl _ | apply Drawn0.step)⟩
                       · rw [if_neg c109] at H
                         have c109b0 : decide (a0 ≤ 11263) = false := decide_eq_false c109
                         clear c109
                         by_cases c110 : a0 ≥ 11776
                         · rw [if_pos c110] at H
                           have c110b0 : decide (11776 ≤ a0) = true := decide_eq_true c110
                           clear c110
                           obtain rfl := Option.some.inj H
                           go_enter Tryd.func14, Tryd.ntmps14
                           go_wp2
                           go_ret
                           exact ⟨by first | rfl | (simp; done) | (simp [*]; done), by repeat (first | exact Drawn0.refl _ | apply Drawn0.step)⟩
                         · rw [if_neg c110] at H
                           have c110b0 : decide (11776 ≤ a0) = false := decide_eq_false c110
                           clear c110
                           obtain rfl := Option.some.inj H
                           go_enter Tryd.func14, Tryd.ntmps14
                           go_wp2
                           go_ret
                           exact ⟨by first | rfl | (simp; done) | (simp [*]; done), by repeat (first | exact Drawn0.refl _ | apply Drawn0.step)⟩
                     · rw [if_neg c108] at H
                       have c108b0 : decide (8592 ≤ a0) = false := decide_eq_false c108
                       clear c108
                       by_cases c111 : a0 ≥ 11776
                       · rw [if_pos c111] at H
                         have c111b0 : decide (11776 ≤ a0) = true := decide_eq_true c111
                         clear c111
                         obtain rfl := Option.some.inj H
                         go_enter Tryd.func14, Tryd.ntmps14
                         go_wp2
                         go_ret
                         exact ⟨by first | rfl | (simp; done) | (simp [*]; done), by repeat (first | exact Drawn0.refl _ | apply Drawn0.step)⟩
                       · rw [if_neg c111] at H
                         have c111b0 : decide (11776 ≤ a0) = false := decide_eq_false c111
                         clear c111
                         obtain rfl := Option.some.inj H
                         go_enter Tryd.func14, Tryd.ntmps14
                         go_wp2
                         go_ret
                         exact ⟨by first | rfl | (simp; done) | (simp [*]; done), by repeat (first | exact Drawn0.refl _ | apply Drawn0.step)⟩
                 · rw [if_neg c106] at H
                   have c106b0 : decide (8277 ≤ a0) = false := decide_eq_false c106
                   clear c106
                   by_cases c112 : a0 ≥ 8592
                   · rw [if_pos c112] at H
                     have c112b0 : decide (8592 ≤ a0) = true := decide_eq_true c112
                     clear c112
                     by_cases c113 : a0 ≤ 11263
                     · rw [if_pos c113] at H
                       have c113b0 : decide (a0 ≤ 11263) = true := decide_eq_true c113
                       clear c113
                       obtain rfl := Option.some.inj H
                       go_enter Tryd.func14, Tryd.ntmps14
                       go_wp2
                       go_ret
                       exact ⟨by first | rfl | (simp; done) | (simp [*]; done), by repeat (first | exact Drawn0.refl _ | apply Drawn0.step)⟩
                     · rw [if_neg c113] at H
                       have c113b0 : decide (a0 ≤ 11263) = false := decide_eq_false c113
                       clear c113
                       by_cases c114 : a0 ≥ 11776
                       · rw [if_pos c114] at H
                         have c114b0 : decide (11776 ≤ a0) = true := decide_eq_true c114
                         clear c114
                         obtain rfl := Option.some.inj H
                         go_enter Tryd.func14, Tryd.ntmps14
                         go_wp2
                         go_ret
                         exact ⟨by first | rfl | (simp; done) | (simp [*]; done), by repeat (first | exact Drawn0.refl _ | apply Drawn0.step)⟩
                       · rw [if_neg c114] at H
                         have c114b0 : decide (11776 ≤ a0) = false := decide_eq_false c114
                         clear c114
                         obtain rfl := Option.some.inj H
                         go_enter Tryd.func14, Tryd.ntmps14
                         go_wp2
                         go_ret
                         exact ⟨by first | rfl | (simp; done) | (simp [*]; done), by repeat (first | exact Drawn0.refl _ | apply Drawn0.step)⟩
                   · rw [if_neg c112] at H
                     have c112b0 : decide (8592 ≤ a0) = false := decide_eq_false c112
                     clear c112
                     by_cases c115 : a0 ≥ 11776
                     · rw [if_pos c115] at H
                       have c115b0 : decide (11776 ≤ a0) = true := decide_eq_true c115
                       clear c115
                       obtain rfl := Option.some.inj H
                       go_enter Tryd.func14, Tryd.ntmps14
                       go_wp2
                       go_ret
                       exact ⟨by first | rfl | (simp; done) | (simp [*]; done), by repeat (first | exact Drawn0.refl _ | apply Drawn0.step)⟩
                     · rw [if_neg c115] at H
                       have c115b0 : decide (11776 ≤ a0) = false := decide_eq_false c115
                       clear c115
                       obtain rfl := Option.some.inj H
                       go_enter Tryd.func14, Tryd.ntmps14
                       go_wp2
                       go_ret
                       exact ⟨by first | rfl | (simp; done) | (simp [*]; done), by repeat (first | exact Drawn0.refl _ | apply Drawn0.step)⟩
             · rw [if_neg c104] at H
               have c104b0 : decide (8257 ≤ a0) = false := decide_eq_false c104
               clear c104
               by_cases c116 : a0 ≥ 8277
               · rw [if_pos c116] at H
                 have c116b0 : decide (8277 ≤ a0) = true := decide_eq_true c116
                 clear c116
                 by_cases c117 : a0 ≤ 8286
                 · rw [if_pos c117] at H
                   have c117b0 : decide (a0 ≤ 8286) = true := decide_eq_true c117
                   clear c117
                   obtain rfl := Option.some.inj H
                   go_enter Tryd.func14, Tryd.ntmps14
                   go_wp2
                   go_ret
                   exact ⟨by first | rfl | (simp; done) | (simp [*]; done), by repeat (first | exact Drawn0.refl _ | apply Drawn0.step)⟩
                 · rw [if_neg c117] at H
                   have c117b0 : decide (a0 ≤ 8286) = false := decide_eq_false c117
                   clear c117
                   by_cases c118 : a0 ≥ 8592
                   · rw [if_pos c118] at H
                     have c118b0 : decide (8592 ≤ a0) = true := decide_eq_true c118
                     clear c118
                     by_cases c119 : a0 ≤ 11263
                     · rw [if_pos c119] at H
                       have c119b0 : decide (a0 ≤ 11263) = true := decide_eq_true c119
                       clear c119
                       obtain rfl := Option.some.inj H
                       go_enter Tryd.func14, Tryd.ntmps14
                       go_wp2
                       go_ret
                       exact ⟨by first | rfl | (simp; done) | (simp [*]; done), by repeat (first | exact Drawn0.refl _ | apply Drawn0.step)⟩
                     · rw [if_neg c119] at H
                       have c119b0 : decide (a0 ≤ 11263) = false := decide_eq_false c119
                       clear c119
                       by_cases c120 : a0 ≥ 11776
                       · rw [if_pos c120] at H
                         have c120b0 : decide (11776 ≤ a0) = true := decide_eq_true c120
                         clear c120
                         obtain rfl := Option.some.inj H
                         go_enter Tryd.func14, Tryd.ntmps14
                         go_wp2
                         go_ret
                         exact ⟨by first | rfl | (simp; done) | (simp [*]; done), by repeat (first | exact Drawn0.refl _ | apply Drawn0.step)⟩
                       · rw [if_neg c120] at H
                         have c120b0 : decide (11776 ≤ a0) = false := decide_eq_false c120
                         clear c120
                         obtain rfl := Option.some.inj H
                         go_enter Tryd.func14, Tryd.ntmps14
                         go_wp2
                         go_ret
                         exact ⟨by first | rfl | (simp; done) | (simp [*]; done), by repeat (first | exact Drawn0.refl _ | apply Drawn0.step)⟩
                   · rw [if_neg c118] at H
                     have c118b0 : decide (8592 ≤ a0) = false := decide_eq_false c118
                     clear c118
                     by_cases c121 : a0 ≥ 11776
                     · rw [if_pos c121] at H
                       have c121b0 : decide (11776 ≤ a0) = true := decide_eq_true c121
                       clear c121
                       obtain rfl := Option.some.inj H
                       go_enter Tryd.func14, Tryd.ntmps14
                       go_wp2
                       go_ret
                       exact ⟨by first | rfl | (simp; done) | (simp [*]; done), by repeat (first | exact Drawn0.refl _ | apply Drawn0.step)⟩
                     · rw [if_neg c121] at H
                       have c121b0 : decide (11776 ≤ a0) = false := decide_eq_false c121
                       clear c121
                       obtain rfl := Option.some.inj H
                       go_enter Tryd.func14, Tryd.ntmps14
                       go_wp2
                       go_ret
                       exact ⟨by first | rfl | (simp; done) | (simp [*]; done), by repeat (first | exact Drawn0.refl _ | apply Drawn0.step)⟩
               · rw [if_neg c116] at H
                 have c116b0 : decide (8277 ≤ a0) = false := decide_eq_false c116
                 clear c116
                 by_cases c122 : a0 ≥ 8592
                 · rw [if_pos c122] at H
                   have c122b0 : decide (8592 ≤ a0) = true := decide_eq_true c122
                   clear c122
                   by_cases c123 : a0 ≤ 11263
                   · rw [if_pos c123] at H
                     have c123b0 : decide (a0 ≤ 11263) = true := decide_eq_true c123
                     clear c123
                     obtain rfl := Option.some.inj H
                     go_enter Tryd.func14, Tryd.ntmps14
                     go_wp2
                     go_ret
                     exact ⟨by first | rfl | (simp; done) | (simp [*]; done), by repeat (first | exact Drawn0.refl _ | apply Drawn0.step)⟩
                   · rw [if_neg c123] at H
                     have c123b0 : decide (a0 ≤ 11263) = false := decide_eq_false c123
                     clear c123
                     by_cases c124 : a0 ≥ 11776
                     · rw [if_pos c124] at H
                       have c124b0 : decide (11776 ≤ a0) = true := decide_eq_true c124
                       clear c124
                       obtain rfl := Option.some.inj H
                       go_enter Tryd.func14, Tryd.ntmps14
                       go_wp2
                       go_ret
                       exact ⟨by first | rfl | (simp; done) | (simp [*]; done), by repeat (first | exact Drawn0.refl _ | apply Drawn0.step)⟩
                     · rw [if_neg c124] at H
                       have c124b0 : decide (11776 ≤ a0) = false := decide_eq_false c124
                       clear c124
                       obtain rfl := Option.some.inj H
                       go_enter Tryd.func14, Tryd.ntmps14
                       go_wp2
                       go_ret
                       exact ⟨by first | rfl | (simp; done) | (simp [*]; done), by repeat (first | exact Drawn0.refl _ | apply Drawn0.step)⟩
                 · rw [if_neg c122] at H
                   have c122b0 : decide (8592 ≤ a0) = false := decide_eq_false c122
                   clear c122
                   by_cases c125 : a0 ≥ 11776
                   · rw [if_pos c125] at H
                     have c125b0 : decide (11776 ≤ a0) = true := decide_eq_true c125
                     clear c125
                     obtain rfl := Option.some.inj H
                     go_enter Tryd.func14, Tryd.ntmps14
                     go_wp2
                     go_ret
                     exact ⟨by first | rfl | (simp; done) | (simp [*]; done), by repeat (first | exact Drawn0.refl _ | apply Drawn0.step)⟩
                   · rw [if_neg c125] at H
                     have c125b0 : decide (11776 ≤ a0) = false := decide_eq_false c125
                     clear c125
                     obtain rfl := Option.some.inj H
                     go_enter Tryd.func14, Tryd.ntmps14
                     go_wp2
                     go_ret
                     exact ⟨by first | rfl | (simp; done) | (simp [*]; done), by repeat (first | exact Drawn0.refl _ | apply Drawn0.step)⟩
         · rw [if_neg c102] at H
           have c102b0 : decide (8240 ≤ a0) = false := decide_eq_false c102
           clear c102
           by_cases c126 : a0 ≥ 8257
           · rw [if_pos c126] at H
             have c126b0 : decide (8257 ≤ a0) = true := decide_eq_true c126
             clear c126
             by_cases c127 : a0 ≤ 8275
             · rw [if_pos c127] at H
               have c127b0 : decide (a0 ≤ 8275) = true := decide_eq_true c127
               clear c127
               obtain rfl := Option.some.inj H
               go_enter Tryd.func14, Tryd.ntmps14
               go_wp2
               go_ret
               exact ⟨by first | rfl | (simp; done) | (simp [*]; done), by repeat (first | exact Drawn0.refl _ | apply Drawn0.step)⟩
             · rw [if_neg c127] at H
               have c127b0 : decide (a0 ≤ 8275) = false := decide_eq_false c127
               clear c127
               by_cases c128 : a0 ≥ 8277
               · rw [if_pos c128] at H
                 have c128b0 : decide (8277 ≤ a0) = true := decide_eq_true c128
                 clear c128
                 by_cases c129 : a0 ≤ 8286
                 · rw [if_pos c129] at H
                   have c129b0 : decide (a0 ≤ 8286) = true := decide_eq_true c129
                   clear c129
                   obtain rfl := Option.some.inj H
                   go_enter Tryd.func14, Tryd.ntmps14
                   go_wp2
                   go_ret
                   exact ⟨by first | rfl | (simp; done) | (simp [*]; done), by repeat (first | exact Drawn0.refl _ | apply Drawn0.step)⟩
                 · rw [if_neg c129] at H
                   have c129b0 : decide (a0 ≤ 8286) = false := decide_eq_false c129
                   clear c129
                   by_cases c130 : a0 ≥ 8592
                   · rw [if_pos c130] at H
                     have c130b0 : decide (8592 ≤ a0) = true := decide_eq_true c130
                     clear c130
                     by_cases c131 : a0 ≤ 11263
                     · rw [if_pos c131] at H
                       have c131b0 : decide (a0 ≤ 11263) = true := decide_eq_true c131
                       clear c131
                       obtain rfl := Option.some.inj H
                       go_enter Tryd.func14, Tryd.ntmps14
                       go_wp2
                       go_ret
                       exact ⟨by first | rfl | (simp; done) | (simp [*]; done), by repeat (first | exact Drawn0.refl _ | apply Drawn0.step)⟩
                     · rw [if_neg c131] at H
                       have c131b0 : decide (a0 ≤ 11263) = false := decide_eq_false c131
                       clear c131
                       by_cases c132 : a0 ≥ 11776
                       · rw [if_pos c132] at H
                         have c132b0 : decide (11776 ≤ a0) = true := decide_eq_true c132
                         clear c132
                         obtain rfl := Option.some.inj H
                         go_enter Tryd.func14, Tryd.ntmps14
                         go_wp2
                         go_ret
                         exact ⟨by first | rfl | (simp; done) | (simp [*]; done), by repeat (first | exact Drawn0.refl _ | apply Drawn0.step)⟩
                       · rw [if_neg c132] at H
                         have c132b0 : decide (11776 ≤ a0) = false := decide_eq_false c132
                         clear c132
                         obtain rfl := Option.some.inj H
                         go_enter Tryd.func14, Tryd.ntmps14
                         go_wp2
                         go_ret
                         exact ⟨by first | rfl | (simp; done) | (simp [*]; done), by repeat (first | exact Drawn0.refl _ | apply Drawn0.step)⟩
                   · rw [if_neg c130] at H
                     have c130b0 : decide (8592 ≤ a0) = false := decide_eq_false c130
                     clear c130
                     by_cases c133 : a0 ≥ 11776
                     · rw [if_pos c133] at H
                       have c133b0 : decide (11776 ≤ a0) = true := decide_eq_true c133
                       clear c133
                       obtain rfl := Option.some.inj H
                       go_enter Tryd.func14, Tryd.ntmps14
                       go_wp2
                       go_ret
                       exact ⟨by first | rfl | (simp; done) | (simp [*]; done), by repeat (first | exact Drawn0.refl _ | apply Drawn0.step)⟩
                     · rw [if_neg c133] at H
                       have c133b0 : decide (11776 ≤ a0) = false := decide_eq_false c133
                       clear c133
                       obtain rfl := Option.some.inj H
                       go_enter Tryd.func14, Tryd.ntmps14
                       go_wp2
                       go_ret
                       exact ⟨by first | rfl | (simp; done) | (simp [*]; done), by repeat (first | exact Drawn0.refl _ | apply Drawn0.step)⟩
               · rw [if_neg c128] at H
                 have c128b0 : decide (8277 ≤ a0) = false := decide_eq_false c128
                 clear c128
                 by_cases c134 : a0 ≥ 8592
                 · rw [if_pos c134] at H
                   have c134b0 : decide (8592 ≤ a0) = true := decide_eq_true c134
                   clear c134
                   by_cases c135 : a0 ≤ 11263
                   · rw [if_pos c135] at H
                     have c135b0 : decide (a0 ≤ 11263) = true := decide_eq_true c135
                     clear c135
                     obtain rfl := Option.some.inj H
                     go_enter Tryd.func14, Tryd.ntmps14
                     go_wp2
                     go_ret
                     exact ⟨by first | rfl | (simp; done) | (simp [*]; done), by repeat (first | exact Drawn0.refl _ | apply Drawn0.step)⟩
                   · rw [if_neg c135] at H
                     have c135b0 : decide (a0 ≤ 11263) = false := decide_eq_false c135
                     clear c135
                     by_cases c136 : a0 ≥ 11776
                     · rw [if_pos c136] at H
                       have c136b0 : decide (11776 ≤ a0) = true := decide_eq_true c136
                       clear c136
                       obtain rfl := Option.some.inj H
                       go_enter Tryd.func14, Tryd.ntmps14
                       go_wp2
                       go_ret
                       exact ⟨by first | rfl | (simp; done) | (simp [*]; done), by repeat (first | exact Drawn0.refl _ | apply Drawn0.step)⟩
                     · rw [if_neg c136] at H
                       have c136b0 : decide (11776 ≤ a0) = false := decide_eq_false c136
                       clear c136
                       obtain rfl := Option.some.inj H
                       go_enter Tryd.func14, Tryd.ntmps14
                       go_wp2
                       go_ret
                       exact ⟨by first | rfl | (simp; done) | (simp [*]; done), by repeat (first | exact Drawn0.refl _ | apply Drawn0.step)⟩
                 · rw [if_neg c134] at H
                   have c134b0 : decide (8592 ≤ a0) = false := decide_eq_false c134
                   clear c134
                   by_cases c137 : a0 ≥ 11776
                   · rw [if_pos c137] at H
                     have c137b0 : decide (11776 ≤ a0) = true := decide_eq_true c137
                     clear c137
                     obtain rfl := Option.some.inj H
                     go_enter Tryd.func14, Tryd.ntmps14
                     go_wp2
                     go_ret
                     exact ⟨by first | rfl | (simp; done) | (simp [*]; done), by repeat (first | exact Drawn0.refl _ | apply Drawn0.step)⟩
                   · rw [if_neg c137] at H
                     have c137b0 : decide (11776 ≤ a0) = false := decide_eq_false c137
                     clear c137
                     obtain rfl := Option.some.inj H
                     go_enter Tryd.func14, Tryd.ntmps14
                     go_wp2
                     go_ret
                     exact ⟨by first | rfl | (simp; done) | (simp [*]; done), by repeat (first | exact Drawn0.refl _ | apply Drawn0.step)⟩
           · rw [if_neg c126] at H
             have c126b0 : decide (8257 ≤ a0) = false := decide_eq_false c126
             clear c126
             by_cases c138 : a0 ≥ 8277
             · rw [if_pos c138] at H
               have c138b0 : decide (8277 ≤ a0) = true := decide_eq_true c138
               clear c138
               by_cases c139 : a0 ≤ 8286
               · rw [if_pos c139] at H
                 have c139b0 : decide (a0 ≤ 8286) = true := decide_eq_true c139
                 clear c139
                 obtain rfl := Option.some.inj H
                 go_enter Tryd.func14, Tryd.ntmps14
                 go_wp2
                 go_ret
                 exact ⟨by first | rfl | (simp; done) | (simp [*]; done), by repeat (first | exact Drawn0.refl _ | apply Drawn0.step)⟩
               · rw [if_neg c139] at H
                 have c139b0 : decide (a0 ≤ 8286) = false := decide_eq_false c139
                 clear c139
                 by_cases c140 : a0 ≥ 8592
                 · rw [if_pos c140] at H
                   have c140b0 : decide (8592 ≤ a0) = true := decide_eq_true c140
                   clear c140
                   by_cases c141 : a0 ≤ 11263
                   · rw [if_pos c141] at H
                     have c141b0 : decide (a0 ≤ 11263) = true := decide_eq_true c141
                     clear c141
                     obtain rfl := Option.some.inj H
                     go_enter Tryd.func14, Tryd.ntmps14
                     go_wp2
                     go_ret
                     exact ⟨by first | rfl | (simp; done) | (simp [*]; done), by repeat (first | exact Drawn0.refl _ | apply Drawn0.step)⟩
                   · rw [if_neg c141] at H
                     have c141b0 : decide (a0 ≤ 11263) = false := decide_eq_false c141
                     clear c141
                     by_cases c142 : a0 ≥ 11776
                     · rw [if_pos c142] at H
                       have c142b0 : decide (11776 ≤ a0) = true := decide_eq_true c142
                       clear c142
                       obtain rfl := Option.some.inj H
                       go_enter Tryd.func14, Tryd.ntmps14
                       go_wp2
                       go_ret
                       exact ⟨by first | rfl | (simp; done) | (simp [*]; done), by repeat (first | exact Drawn0.refl _ | apply Drawn0.step)⟩
                     · rw [if_neg c142] at H
                       have c142b0 : decide (11776 ≤ a0) = false := decide_eq_false c142
                       clear c142
                       obtain rfl := Option.some.inj H
                       go_enter Tryd.func14, Tryd.ntmps14
                       go_wp2
                       go_ret
                       exact ⟨by first | rfl | (simp; done) | (simp [*]; done), by repeat (first | exact Drawn0.refl _ | apply Drawn0.step)⟩
                 · rw [if_neg c140] at H
                   have c140b0 : decide (8592 ≤ a0) = false := decide_eq_false c140
                   clear c140
                   by_cases c143 : a0 ≥ 11776
                   · rw [if_pos c143] at H
                     have c143b0 : decide (11776 ≤ a0) = true := decide_eq_true c143
                     clear c143
                     obtain rfl := Option.some.inj H
                     go_enter Tryd.func14, Tryd.ntmps14
                     go_wp2
                     go_ret
                     exact ⟨by first | rfl | (simp; done) | (simp [*]; done), by repeat (first | exact Drawn0.refl _ | apply Drawn0.step)⟩
                   · rw [if_neg c143] at H
                     have c143b0 : decide (11776 ≤ a0) = false := decide_eq_false c143
                     clear c143
                     obtain rfl := Option.some.inj H
                     go_enter Tryd.func14, Tryd.ntmps14
                     go_wp2
                     go_ret
                     exact ⟨by first | rfl | (simp; done) | (simp [*]; done), by repeat (first | exact Drawn0.refl _ | apply Drawn0.step)⟩
             · rw [if_neg c138] at H
               have c138b0 : decide (8277 ≤ a0) = false := decide_eq_false c138
               clear c138
               by_cases c144 : a0 ≥ 8592
               · rw [if_pos c144] at H
                 have c144b0 : decide (8592 ≤ a0) = true := decide_eq_true c144
                 clear c144
                 by_cases c145 : a0 ≤ 11263
                 · rw [if_pos c145] at H
                   have c145b0 : decide (a0 ≤ 11263) = true := decide_eq_true c145
                   clear c145
                   obtain rfl := Option.some.inj H
                   go_enter Tryd.func14, Tryd.ntmps14
                   go_wp2
                   go_ret
                   exact ⟨by first | rfl | (simp; done) | (simp [*]; done), by repeat (first | exact Drawn0.refl _ | apply Drawn0.step)⟩
                 · rw [if_neg c145] at H
                   have c145b0 : decide (a0 ≤ 11263) = false := decide_eq_false c145
                   clear c145
                   by_cases c146 : a0 ≥ 11776
                   · rw [if_pos c146] at H
                     have c146b0 : decide (11776 ≤ a0) = true := decide_eq_true c146
                     clear c146
                     obtain rfl := Option.some.inj H
                     go_enter Tryd.func14, Tryd.ntmps14
                     go_wp2
                     go_ret
                     exact ⟨by first | rfl | (simp; done) | (simp [*]; done), by repeat (first | exact Drawn0.refl _ | apply Drawn0.step)⟩
                   · rw [if_neg c146] at H
                     have c146b0 : decide (11776 ≤ a0) = false := decide_eq_false c146
                     clear c146
                     obtain rfl := Option.some.inj H
                     go_enter Tryd.func14, Tryd.ntmps14
                     go_wp2
                     go_ret
                     exact ⟨by first | rfl | (simp; done) | (simp [*]; done), by repeat (first | exact Drawn0.refl _ | apply Drawn0.step)⟩
               · rw [if_neg c144] at H
                 have c144b0 : decide (8592 ≤ a0) = false := decide_eq_false c144
                 clear c144
                 by_cases c147 : a0 ≥ 11776
                 · rw [if_pos c147] at H
                   have c147b0 : decide (11776 ≤ a0) = true := decide_eq_true c147
                   clear c147
                   obtain rfl := Option.some.inj H
                   go_enter Tryd.func14, Tryd.ntmps14
                   go_wp2
                   go_ret
                   exact ⟨by first | rfl | (simp; done) | (simp [*]; done), by repeat (first | exact Drawn0.refl _ | apply Drawn0.step)⟩
                 · rw [if_neg c147] at H
                   have c147b0 : decide (11776 ≤ a0) = false := decide_eq_false c147
                   clear c147
                   obtain rfl := Option.some.inj H
                   go_enter Tryd.func14, Tryd.ntmps14
                   go_wp2
                   go_ret
                   exact ⟨by first | rfl | (simp; done) | (simp [*]; done), by repeat (first | exact Drawn0.refl _ | apply Drawn0.step)⟩
     · rw [if_neg c53] at H
       have c53b0 : decide (a0 < 11904) = false := decide_eq_false c53
       clear c53
       have HC148 := Aside0.mk H
       clear H
       go_enter Tryd.func14, Tryd.ntmps14
       go_upto_region 13 with (fail)
       go_cut [128] (fun v128 wc => ∃ (kq : Nat) (x128_147 : Bool), v128 = .bool x128_147 ∧ Aside0 (runes_Syntax.j0 kq a0 x128_147 = some r) ∧ Aside0 (kq ≤ k) ∧ Drawn0 w wc)
       case first =>
        have H := HC148.out
        clear HC148
        by_cases c149 : a0 ≥ 12289
        · rw [if_pos c149] at H
          have c149b0 : decide (12289 ≤ a0) = true := decide_eq_true c149
          clear c149
          (first | rw [c149b0] | (simp only [i64_w, i32_w]; rw [c149b0]) | skip)
          have H' := Aside0.mk H
          clear H
          go_wp2
          go_meet
          case rel => exact ⟨_, (decide (a0 ≤ 12291)), (by first | rfl | (simp; done) | (simp [*]; done)), H', ⟨by first | omega | exact Nat.le_refl _⟩, by repeat (first | exact Drawn0.refl _ | apply Drawn0.step)⟩
        · rw [if_neg c149] at H
          have c149b0 : decide (12289 ≤ a0) = false := decide_eq_false c149
          clear c149
          (first | rw [c149b0] | (simp only [i64_w, i32_w]; rw [c149b0]) | skip)
          have H' := Aside0.mk H
          clear H
          go_wp2
          go_meet
          case rel => exact ⟨_, (false), (by first | rfl | (simp; done) | (simp [*]; done)), H', ⟨by first | omega | exact Nat.le_refl _⟩, by repeat (first | exact Drawn0.refl _ | apply Drawn0.step)⟩
       case rest =>
        clear HC148
        try clear c1
        try clear p2
        try clear c5
        try clear c10
        try clear c11
        try clear c12
        try clear c13
        try clear c14
        try clear c53
        try clear c53b0
        try clear c54
        try clear c54b0
        try clear c101
        try clear c101b0
        try clear c102
        try clear c102b0
        try clear c103
        try clear c103b0
        try clear c104
        try clear c104b0
        try clear c105
        try clear c105b0
        try clear c106
        try clear c106b0
        try clear c107
        try clear c107b0
        try clear c108
        try clear c108b0
        try clear c109
        try clear c109b0
        try clear c110
        try clear c110b0
        try clear c111
        try clear c111b0
        try clear c112
        try clear c112b0
        try clear c113
        try clear c113b0
        try clear c114
        try clear c114b0
        try clear c115
        try clear c115b0
        try clear c116
        try clear c116b0
        try clear c117
        try clear c117b0
        try clear c118
        try clear c118b0
        try clear c119
        try clear c119b0
        try clear c120
        try clear c120b0
        try clear c121
        try clear c121b0
        try clear c122
        try clear c122b0
        try clear c123
        try clear c123b0
        try clear c124
        try clear c124b0
        try clear c125
        try clear c125b0
        try clear c126
        try clear c126b0
        try clear c127
        try clear c127b0
        try clear c128
        try clear c128b0
        try clear c129
        try clear c129b0
        try clear c130
        try clear c130b0
        try clear c131
        try clear c131b0
        try clear c132
        try clear c132b0
        try clear c133
        try clear c133b0
        try clear c134
        try clear c134b0
        try clear c135
        try clear c135b0
        try clear c136
        try clear c136b0
        try clear c137
        try clear c137b0
        try clear c138
        try clear c138b0
        try clear c139
        try clear c139b0
        try clear c140
        try clear c140b0
        try clear c141
        try clear c141b0
        try clear c142
        try clear c142b0
        try clear c143
        try clear c143b0
        try clear c144
        try clear c144b0
        try clear c145
        try clear c145b0
        try clear c146
        try clear c146b0
        try clear c147
        try clear c147b0
        try clear c149
        try clear c149b0
        obtain ⟨kq, x128_147, rfl, HA, HJ147, ⟨mc147, rfl⟩⟩ := hcut
        cases kq with
        | zero => exact absurd HA.out (by simp [runes_Syntax.j0])
        | succ kj147 =>
         have H := HA.out
         clear HA
         simp only [runes_Syntax.j0] at H
         by_cases c150 : x128_147 = true
         · subst c150
           have H1 : (some true) = some r := by rw [if_pos rfl] at H; exact H
           clear H
           have H := H1
           clear H1
           obtain rfl := Option.some.inj H
           go_wp2
           go_ret
           exact ⟨by first | rfl | (simp; done) | (simp [*]; done), by repeat (first | exact Drawn0.refl _ | apply Drawn0.step)⟩
         · replace c150 := Bool.eq_false_iff.mpr c150
           subst c150
           have H1 : (if a0 ≥ 12296 then (runes_Syntax.j1 kj147 a0 (decide (a0 ≤ 12320))) else (runes_Syntax.j1 kj147 a0 false)) = some r := by rw [if_neg (show ¬ (false = true) by decide)] at H; exact H
           clear H
           have H := H1
           clear H1
           have HC151 := Aside0.mk H
           clear H
           go_upto_region 14 with (fail)
           go_cut [128] (fun v128 wc => ∃ (kq : Nat) (x128_150 : Bool), v128 = .bool x128_150 ∧ Aside0 (runes_Syntax.j1 kq a0 x128_150 = some r) ∧ Aside0 (kq ≤ kj147) ∧ Drawn0 w wc)
           case first =>
            have H := HC151.out
            clear HC151
            by_cases c152 : a0 ≥ 12296
            · rw [if_pos c152] at H
              have c152b0 : decide (12296 ≤ a0) = true := decide_eq_true c152
              clear c152
              (first | rw [c152b0] | (simp only [i64_w, i32_w]; rw [c152b0]) | skip)
              have H' := Aside0.mk H
              clear H
              go_wp2
              go_meet
              case rel => exact ⟨_, (decide (a0 ≤ 12320)), (by first | rfl | (simp; done) | (simp [*]; done)), H', ⟨by have := HJ147.out; first | omega | exact Nat.le_refl _⟩, by repeat (first | exact Drawn0.refl _ | apply Drawn0.step)⟩
            · rw [if_neg c152] at H
              have c152b0 : decide (12296 ≤ a0) = false := decide_eq_false c152
              clear c152
              (first | rw [c152b0] | (simp only [i64_w, i32_w]; rw [c152b0]) | skip)
              have H' := Aside0.mk H
              clear H
              go_wp2
              go_meet
              case rel => exact ⟨_, (false), (by first | rfl | (simp; done) | (simp [*]; done)), H', ⟨by have := HJ147.out; first | omega | exact Nat.le_refl _⟩, by repeat (first | exact Drawn0.refl _ | apply Drawn0.step)⟩
           case rest =>
            clear HC151
            try clear c1
            try clear p2
            try clear c5
            try clear c10
            try clear c11
            try clear c12
            try clear c13
            try clear c14
            try clear c15
            try clear c53
            try clear c53b0
            try clear c54
            try clear c54b0
            try clear c101
            try clear c101b0
            try clear c102
            try clear c102b0
            try clear c103
            try clear c103b0
            try clear c104
            try clear c104b0
            try clear c105
            try clear c105b0
            try clear c106
            try clear c106b0
            try clear c107
            try clear c107b0
            try clear c108
            try clear c108b0
            try clear c109
            try clear c109b0
            try clear c110
            try clear c110b0
            try clear c111
            try clear c111b0
            try clear c112
            try clear c112b0
            try clear c113
            try clear c113b0
            try clear c114
            try clear c114b0
            try clear c115
            try clear c115b0
            try clear c116
            try clear c116b0
            try clear c117
            try clear c117b0
            try clear c118
            try clear c118b0
            try clear c119
            try clear c119b0
            try clear c120
            try clear c120b0
            try clear c121
            try clear c121b0
            try clear c122
            try clear c122b0
            try clear c123
            try clear c123b0
            try clear c124
            try clear c124b0
            try clear c125
            try clear c125b0
            try clear c126
            try clear c126b0
            try clear c127
            try clear c127b0
            try clear c128
            try clear c128b0
            try clear c129
            try clear c129b0
            try clear c130
            try clear c130b0
            try clear c131
            try clear c131b0
            try clear c132
            try clear c132b0
            try clear c133
            try clear c133b0
            try clear c134
            try clear c134b0
            try clear c135
            try clear c135b0
            try clear c136
            try clear c136b0
            try clear c137
            try clear c137b0
            try clear c138
            try clear c138b0
            try clear c139
            try clear c139b0
            try clear c140
            try clear c140b0
            try clear c141
            try clear c141b0
            try clear c142
            try clear c142b0
            try clear c143
            try clear c143b0
            try clear c144
            try clear c144b0
            try clear c145
            try clear c145b0
            try clear c146
            try clear c146b0
            try clear c147
            try clear c147b0
            try clear c149
            try clear c149b0
            try clear c150
            try clear c152
            try clear c152b0
            try clear p2
            obtain ⟨kq, x128_150, rfl, HA, HJ150, ⟨mc150, rfl⟩⟩ := hcut
            cases kq with
            | zero => exact absurd HA.out (by simp [runes_Syntax.j1])
            | succ kj150 =>
             have H := HA.out
             clear HA
             simp only [runes_Syntax.j1] at H
             by_cases c153 : x128_150 = true
             · subst c153
               have H1 : (some true) = some r := by rw [if_pos rfl] at H; exact H
               clear H
               have H := H1
               clear H1
               obtain rfl := Option.some.inj H
               go_wp2
               go_ret
               exact ⟨by first | rfl | (simp; done) | (simp [*]; done), by repeat (first | exact Drawn0.refl _ | apply Drawn0.step)⟩
             · replace c153 := Bool.eq_false_iff.mpr c153
               subst c153
               have H1 : (if a0 = 12336 then (some true) else (if a0 = 64830 then (some true) else (if a0 = 64831 then (some true) else (if a0 = 65093 then (some true) else (if a0 = 65094 then (some true) else (some false)))))) = some r := by rw [if_neg (show ¬ (false = true) by decide)] at H; exact H
               clear H
               have H := H1
               clear H1
               by_cases c154 : a0 = 12336
               · rw [if_pos c154] at H
                 have c154b0 : (a0 == 12336) = true := beq_iff_eq.mpr c154
                 have c154b1 : (a0 != 12336) = false := bne_eq_false_iff_eq.mpr c154
                 try have c154b1z := c154b1
                 (try simp only [bne] at c154b1z)
                 clear c154
                 obtain rfl := Option.some.inj H
                 go_wp2
                 go_ret
                 exact ⟨by first | rfl | (simp; done) | (simp [*]; done), by repeat (first | exact Drawn0.refl _ | apply Drawn0.step)⟩
               · rw [if_neg c154] at H
                 have c154b0 : (a0 == 12336) = false := beq_eq_false_iff_ne.mpr c154
                 have c154b1 : (a0 != 12336) = true := bne_iff_ne.mpr c154
                 try have c154b1z := c154b1
                 (try simp only [bne] at c154b1z)
                 by_cases c155 : a0 = 64830
                 · rw [if_pos c155] at H
                   have c155b0 : (a0 == 64830) = true := beq_iff_eq.mpr c155
                   have c155b1 : (a0 != 64830) = false := bne_eq_false_iff_eq.mpr c155
                   try have c155b1z := c155b1
                   (try simp only [bne] at c155b1z)
                   clear c155
                   obtain rfl := Option.some.inj H
                   go_wp2
                   go_ret
                   exact ⟨by first | rfl | (simp; done) | (simp [*]; done), by repeat (first | exact Drawn0.refl _ | apply Drawn0.step)⟩
                 · rw [if_neg c155] at H
                   have c155b0 : (a0 == 64830) = false := beq_eq_false_iff_ne.mpr c155
                   have c155b1 : (a0 != 64830) = true := bne_iff_ne.mpr c155
                   try have c155b1z := c155b1
                   (try simp only [bne] at c155b1z)
                   by_cases c156 : a0 = 64831
                   · rw [if_pos c156] at H
                     have c156b0 : (a0 == 64831) = true := beq_iff_eq.mpr c156
                     have c156b1 : (a0 != 64831) = false := bne_eq_false_iff_eq.mpr c156
                     try have c156b1z := c156b1
                     (try simp only [bne] at c156b1z)
                     clear c156
                     obtain rfl := Option.some.inj H
                     go_wp2
                     go_ret
                     exact ⟨by first | rfl | (simp; done) | (simp [*]; done), by repeat (first | exact Drawn0.refl _ | apply Drawn0.step)⟩
                   · rw [if_neg c156] at H
                     have c156b0 : (a0 == 64831) = false := beq_eq_false_iff_ne.mpr c156
                     have c156b1 : (a0 != 64831) = true := bne_iff_ne.mpr c156
                     try have c156b1z := c156b1
                     (try simp only [bne] at c156b1z)
                     by_cases c157 : a0 = 65093
                     · rw [if_pos c157] at H
                       have c157b0 : (a0 == 65093) = true := beq_iff_eq.mpr c157
                       have c157b1 : (a0 != 65093) = false := bne_eq_false_iff_eq.mpr c157
                       try have c157b1z := c157b1
                       (try simp only [bne] at c157b1z)
                       clear c157
                       obtain rfl := Option.some.inj H
                       go_wp2
                       go_ret
                       exact ⟨by first | rfl | (simp; done) | (simp [*]; done), by repeat (first | exact Drawn0.refl _ | apply Drawn0.step)⟩
                     · rw [if_neg c157] at H
                       have c157b0 : (a0 == 65093) = false := beq_eq_false_iff_ne.mpr c157
                       have c157b1 : (a0 != 65093) = true := bne_iff_ne.mpr c157
                       try have c157b1z := c157b1
                       (try simp only [bne] at c157b1z)
                       by_cases c158 : a0 = 65094
                       · rw [if_pos c158] at H
                         have c158b0 : (a0 == 65094) = true := beq_iff_eq.mpr c158
                         have c158b1 : (a0 != 65094) = false := bne_eq_false_iff_eq.mpr c158
                         try have c158b1z := c158b1
                         (try simp only [bne] at c158b1z)
                         clear c158
                         obtain rfl := Option.some.inj H
                         go_wp2
                         go_ret
                         exact ⟨by first | rfl | (simp; done) | (simp [*]; done), by repeat (first | exact Drawn0.refl _ | apply Drawn0.step)⟩
                       · rw [if_neg c158] at H
                         have c158b0 : (a0 == 65094) = false := beq_eq_false_iff_ne.mpr c158
                         have c158b1 : (a0 != 65094) = true := bne_iff_ne.mpr c158
                         try have c158b1z := c158b1
                         (try simp only [bne] at c158b1z)
                         obtain rfl := Option.some.inj H
                         go_wp2
                         go_ret
                         exact ⟨by first | rfl | (simp; done) | (simp [*]; done), by repeat (first | exact Drawn0.refl _ | apply Drawn0.step)⟩

end Go.Proofs.YtigikjihagmokaaDoor.S
