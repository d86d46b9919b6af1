/- Part 2 of 2 of the proof of the law DigitsReads: it is true at every input. Conditions: those of the given row, no others. -/
import Derived.Test.YtnkjeojhiligpaaDoorPkDigitsReads0
import Derived.KernelRfl
import Derived.Lib.MapLaws
import Derived.Test.YtnkjeojhiligpaaDoorCards
import Derived.Test.YtnkjeojhiligpaaDoorTie
import Derived.WalkKit
import Derived.ProofKit
import Derived.OpenShut
import Derived.ShutString
import Derived.ChangeOld
import Derived.Below
import Derived.SizedLaws
import Derived.Carry
import Derived.Lib.SmallJoins
import Derived.PinnedBridge
import Derived.Lay
import Derived.LaidOnce
import Derived.SevenTiedAt
namespace Go.Proofs.YtnkjeojhiligpaaDoor.F
open Go.RowKit Go.Proofs.YtnkjeojhiligpaaDoorW.PrintWords Go.Proofs.YtnkjeojhiligpaaDoorW.PrintLast Go.Proofs.YtnkjeojhiligpaaDoorW.PrintMore Go.Proofs.YtnkjeojhiligpaaDoor.Q
attribute [local go_sem] max2_int min2_int max_two min_two max_three min_three max_four min_four   -- for this text's walks alone
set_option linter.unusedVariables false
set_option linter.unusedSimpArgs false

def digits_Render.f (a0 : ByteArray) (a1 : ByteArray) : Option (ByteArray × Int) := some (Rend.f a0 a1)
theorem digits_Render.calls (a0 : ByteArray) (a1 : ByteArray) (r1 : ByteArray) (r2 : Int) (w : World) (h : digits_Render.f a0 a1 = some (r1, r2)) :
 Calls Tryd.prog 10 #[.string a0, .string a1] w fun e w' => e = .returned (.tuple #[.string r1, .int .i64 r2]) ∧ Below w.heap.size w w' := by
 have e : Rend.f a0 a1 = (r1, r2) := Option.some.inj h
 have c := Rend.calls a0 a1 w
 rw [e] at c
 exact c

def idiomref08_Systems.f  : Option (List ByteArray) := some (([(⟨#[97, 114, 97, 98]⟩ : ByteArray), (⟨#[97, 114, 97, 98, 101, 120, 116]⟩ : ByteArray), (⟨#[98, 101, 110, 103]⟩ : ByteArray), (⟨#[100, 101, 118, 97]⟩ : ByteArray), (⟨#[102, 117, 108, 108, 119, 105, 100, 101]⟩ : ByteArray), (⟨#[103, 117, 106, 114]⟩ : ByteArray), (⟨#[103, 117, 114, 117]⟩ : ByteArray), (⟨#[104, 97, 110, 105, 100, 101, 99]⟩ : ByteArray), (⟨#[107, 104, 109, 114]⟩ : ByteArray), (⟨#[107, 110, 100, 97]⟩ : ByteArray), (⟨#[108, 97, 111, 111]⟩ : ByteArray), (⟨#[108, 97, 116, 110]⟩ : ByteArray), (⟨#[108, 105, 109, 98]⟩ : ByteArray), (⟨#[109, 108, 121, 109]⟩ : ByteArray), (⟨#[109, 121, 109, 114]⟩ : ByteArray), (⟨#[111, 114, 121, 97]⟩ : ByteArray), (⟨#[116, 97, 109, 108, 100, 101, 99]⟩ : ByteArray), (⟨#[116, 101, 108, 117]⟩ : ByteArray), (⟨#[116, 104, 97, 105]⟩ : ByteArray), (⟨#[116, 105, 98, 116]⟩ : ByteArray)] : List ByteArray))
set_option maxHeartbeats 8000000 in
set_option maxRecDepth 100000 in
theorem idiomref08_Systems.calls  (r : List ByteArray) (w : World) (h : idiomref08_Systems.f  = some r) :
 Calls Tryd.prog 39 #[] w fun e w' => ∃ v0_ : Value, e = .returned (v0_) ∧ Kd.R Kd.string 9 w' w.heap.size (fun _ => True) v0_ r ∧ Below w.heap.size w w' := by
 have HB := Aside0.mk (Below.refl w.heap.size w)
 have H : (some (([(⟨#[97, 114, 97, 98]⟩ : ByteArray), (⟨#[97, 114, 97, 98, 101, 120, 116]⟩ : ByteArray), (⟨#[98, 101, 110, 103]⟩ : ByteArray), (⟨#[100, 101, 118, 97]⟩ : ByteArray), (⟨#[102, 117, 108, 108, 119, 105, 100, 101]⟩ : ByteArray), (⟨#[103, 117, 106, 114]⟩ : ByteArray), (⟨#[103, 117, 114, 117]⟩ : ByteArray), (⟨#[104, 97, 110, 105, 100, 101, 99]⟩ : ByteArray), (⟨#[107, 104, 109, 114]⟩ : ByteArray), (⟨#[107, 110, 100, 97]⟩ : ByteArray), (⟨#[108, 97, 111, 111]⟩ : ByteArray), (⟨#[108, 97, 116, 110]⟩ : ByteArray), (⟨#[108, 105, 109, 98]⟩ : ByteArray), (⟨#[109, 108, 121, 109]⟩ : ByteArray), (⟨#[109, 121, 109, 114]⟩ : ByteArray), (⟨#[111, 114, 121, 97]⟩ : ByteArray), (⟨#[116, 97, 109, 108, 100, 101, 99]⟩ : ByteArray), (⟨#[116, 101, 108, 117]⟩ : ByteArray), (⟨#[116, 104, 97, 105]⟩ : ByteArray), (⟨#[116, 105, 98, 116]⟩ : ByteArray)] : List ByteArray))) = some r := h
 clear h
 obtain ⟨y101, hy101⟩ : ∃ y_ : List ByteArray, y_ = (([(⟨#[97, 114, 97, 98]⟩ : ByteArray), (⟨#[97, 114, 97, 98, 101, 120, 116]⟩ : ByteArray), (⟨#[98, 101, 110, 103]⟩ : ByteArray), (⟨#[100, 101, 118, 97]⟩ : ByteArray), (⟨#[102, 117, 108, 108, 119, 105, 100, 101]⟩ : ByteArray), (⟨#[103, 117, 106, 114]⟩ : ByteArray), (⟨#[103, 117, 114, 117]⟩ : ByteArray), (⟨#[104, 97, 110, 105, 100, 101, 99]⟩ : ByteArray), (⟨#[107, 104, 109, 114]⟩ : ByteArray), (⟨#[107, 110, 100, 97]⟩ : ByteArray), (⟨#[108, 97, 111, 111]⟩ : ByteArray), (⟨#[108, 97, 116, 110]⟩ : ByteArray), (⟨#[108, 105, 109, 98]⟩ : ByteArray), (⟨#[109, 108, 121, 109]⟩ : ByteArray), (⟨#[109, 121, 109, 114]⟩ : ByteArray), (⟨#[111, 114, 121, 97]⟩ : ByteArray), (⟨#[116, 97, 109, 108, 100, 101, 99]⟩ : ByteArray), (⟨#[116, 101, 108, 117]⟩ : ByteArray), (⟨#[116, 104, 97, 105]⟩ : ByteArray), (⟨#[116, 105, 98, 116]⟩ : ByteArray)] : List ByteArray)) := ⟨_, rfl⟩
 replace H : (some y101) = some r := by first | (rw [hy101]; with_reducible exact H) | (have H2_ := (Option.bind_some _ _).symm.trans H; rw [hy101]; with_reducible exact H2_) | (have H2_ := (Option.bind_some _ _).symm.trans H; with_reducible exact H2_) | with_reducible exact H | (rw [hy101]; exact H) | exact H
 have Ny101 := Aside0.mk hy101
 clear hy101
 obtain rfl := Option.some.inj H
 go_enter Tryd.func39, Tryd.ntmps39
 go_wp2_with (first | ((with_reducible refine gate_dst (N := 1) rfl ?_); refine Kd.R_lit Kd.string _ 9 ?hg (N := 1) ?hd (xs := ([(⟨#[97, 114, 97, 98]⟩ : ByteArray), (⟨#[97, 114, 97, 98, 101, 120, 116]⟩ : ByteArray), (⟨#[98, 101, 110, 103]⟩ : ByteArray), (⟨#[100, 101, 118, 97]⟩ : ByteArray), (⟨#[102, 117, 108, 108, 119, 105, 100, 101]⟩ : ByteArray), (⟨#[103, 117, 106, 114]⟩ : ByteArray), (⟨#[103, 117, 114, 117]⟩ : ByteArray), (⟨#[104, 97, 110, 105, 100, 101, 99]⟩ : ByteArray), (⟨#[107, 104, 109, 114]⟩ : ByteArray), (⟨#[107, 110, 100, 97]⟩ : ByteArray), (⟨#[108, 97, 111, 111]⟩ : ByteArray), (⟨#[108, 97, 116, 110]⟩ : ByteArray), (⟨#[108, 105, 109, 98]⟩ : ByteArray), (⟨#[109, 108, 121, 109]⟩ : ByteArray), (⟨#[109, 121, 109, 114]⟩ : ByteArray), (⟨#[111, 114, 121, 97]⟩ : ByteArray), (⟨#[116, 97, 109, 108, 100, 101, 99]⟩ : ByteArray), (⟨#[116, 101, 108, 117]⟩ : ByteArray), (⟨#[116, 104, 97, 105]⟩ : ByteArray), (⟨#[116, 105, 98, 116]⟩ : ByteArray)] : List ByteArray)) (inner := [.string (⟨#[97, 114, 97, 98]⟩ : ByteArray), .string (⟨#[97, 114, 97, 98, 101, 120, 116]⟩ : ByteArray), .string (⟨#[98, 101, 110, 103]⟩ : ByteArray), .string (⟨#[100, 101, 118, 97]⟩ : ByteArray), .string (⟨#[102, 117, 108, 108, 119, 105, 100, 101]⟩ : ByteArray), .string (⟨#[103, 117, 106, 114]⟩ : ByteArray), .string (⟨#[103, 117, 114, 117]⟩ : ByteArray), .string (⟨#[104, 97, 110, 105, 100, 101, 99]⟩ : ByteArray), .string (⟨#[107, 104, 109, 114]⟩ : ByteArray), .string (⟨#[107, 110, 100, 97]⟩ : ByteArray), .string (⟨#[108, 97, 111, 111]⟩ : ByteArray), .string (⟨#[108, 97, 116, 110]⟩ : ByteArray), .string (⟨#[108, 105, 109, 98]⟩ : ByteArray), .string (⟨#[109, 108, 121, 109]⟩ : ByteArray), .string (⟨#[109, 121, 109, 114]⟩ : ByteArray), .string (⟨#[111, 114, 121, 97]⟩ : ByteArray), .string (⟨#[116, 97, 109, 108, 100, 101, 99]⟩ : ByteArray), .string (⟨#[116, 101, 108, 117]⟩ : ByteArray), .string (⟨#[116, 104, 97, 105]⟩ : ByteArray), .string (⟨#[116, 105, 98, 116]⟩ : ByteArray)]) (ok := fun _ => True) (okp := fun _ => True) ?hr ?hp (fun _ hk => hk) trivial (Below.refl _ _) (Nat.le_refl _) (by simp) ?_; (case hd => rfl); (case hg => rfl); (case hr => first | (go_simp; done) | (go_simp; rfl)); (case hp => exact (Reps.one (show Kd.M Kd.string _ _ _ (⟨#[97, 114, 97, 98]⟩ : ByteArray) [.string (⟨#[97, 114, 97, 98]⟩ : ByteArray)] from rfl) (Reps.one (show Kd.M Kd.string _ _ _ (⟨#[97, 114, 97, 98, 101, 120, 116]⟩ : ByteArray) [.string (⟨#[97, 114, 97, 98, 101, 120, 116]⟩ : ByteArray)] from rfl) (Reps.one (show Kd.M Kd.string _ _ _ (⟨#[98, 101, 110, 103]⟩ : ByteArray) [.string (⟨#[98, 101, 110, 103]⟩ : ByteArray)] from rfl) (Reps.one (show Kd.M Kd.string _ _ _ (⟨#[100, 101, 118, 97]⟩ : ByteArray) [.string (⟨#[100, 101, 118, 97]⟩ : ByteArray)] from rfl) (Reps.one (show Kd.M Kd.string _ _ _ (⟨#[102, 117, 108, 108, 119, 105, 100, 101]⟩ : ByteArray) [.string (⟨#[102, 117, 108, 108, 119, 105, 100, 101]⟩ : ByteArray)] from rfl) (Reps.one (show Kd.M Kd.string _ _ _ (⟨#[103, 117, 106, 114]⟩ : ByteArray) [.string (⟨#[103, 117, 106, 114]⟩ : ByteArray)] from rfl) (Reps.one (show Kd.M Kd.string _ _ _ (⟨#[103, 117, 114, 117]⟩ : ByteArray) [.string (⟨#[103, 117, 114, 117]⟩ : ByteArray)] from rfl) (Reps.one (show Kd.M Kd.string _ _ _ (⟨#[104, 97, 110, 105, 100, 101, 99]⟩ : ByteArray) [.string (⟨#[104, 97, 110, 105, 100, 101, 99]⟩ : ByteArray)] from rfl) (Reps.one (show Kd.M Kd.string _ _ _ (⟨#[107, 104, 109, 114]⟩ : ByteArray) [.string (⟨#[107, 104, 109, 114]⟩ : ByteArray)] from rfl) (Reps.one (show Kd.M Kd.string _ _ _ (⟨#[107, 110, 100, 97]⟩ : ByteArray) [.string (⟨#[107, 110, 100, 97]⟩ : ByteArray)] from rfl) (Reps.one (show Kd.M Kd.string _ _ _ (⟨#[108, 97, 111, 111]⟩ : ByteArray) [.string (⟨#[108, 97, 111, 111]⟩ : ByteArray)] from rfl) (Reps.one (show Kd.M Kd.string _ _ _ (⟨#[108, 97, 116, 110]⟩ : ByteArray) [.string (⟨#[108, 97, 116, 110]⟩ : ByteArray)] from rfl) (Reps.one (show Kd.M Kd.string _ _ _ (⟨#[108, 105, 109, 98]⟩ : ByteArray) [.string (⟨#[108, 105, 109, 98]⟩ : ByteArray)] from rfl) (Reps.one (show Kd.M Kd.string _ _ _ (⟨#[109, 108, 121, 109]⟩ : ByteArray) [.string (⟨#[109, 108, 121, 109]⟩ : ByteArray)] from rfl) (Reps.one (show Kd.M Kd.string _ _ _ (⟨#[109, 121, 109, 114]⟩ : ByteArray) [.string (⟨#[109, 121, 109, 114]⟩ : ByteArray)] from rfl) (Reps.one (show Kd.M Kd.string _ _ _ (⟨#[111, 114, 121, 97]⟩ : ByteArray) [.string (⟨#[111, 114, 121, 97]⟩ : ByteArray)] from rfl) (Reps.one (show Kd.M Kd.string _ _ _ (⟨#[116, 97, 109, 108, 100, 101, 99]⟩ : ByteArray) [.string (⟨#[116, 97, 109, 108, 100, 101, 99]⟩ : ByteArray)] from rfl) (Reps.one (show Kd.M Kd.string _ _ _ (⟨#[116, 101, 108, 117]⟩ : ByteArray) [.string (⟨#[116, 101, 108, 117]⟩ : ByteArray)] from rfl) (Reps.one (show Kd.M Kd.string _ _ _ (⟨#[116, 104, 97, 105]⟩ : ByteArray) [.string (⟨#[116, 104, 97, 105]⟩ : ByteArray)] from rfl) (Reps.one (show Kd.M Kd.string _ _ _ (⟨#[116, 105, 98, 116]⟩ : ByteArray) [.string (⟨#[116, 105, 98, 116]⟩ : ByteArray)] from rfl) (Reps.none _ _)))))))))))))))))))))); intro v102 w1 ho2 hb hg_ hnew_; clear hg_ hnew_; (first | rw [← Ny101.out] at ho2 | (simp only [Int.reduceToNat] at ho2; rw [← Ny101.out] at ho2)); have HO103 := Aside0.mk (Kd.R_lower ho2 (below_size (qh HB))); replace HB := qn HB hb; clear hb ho2))
 go_ret
 exact ⟨_, by first | rfl | (simp [errW_none, errW_some] <;> rfl) | (simp [*, errW_none, errW_some] <;> rfl), by (with_reducible repeat (first | apply Kd.R_alloc | apply Kd.R_drewN | apply Kd.R_drew)); exact HO103.out, qh HB⟩

def idiomref08_Zero.l0 : Nat → ByteArray → List Int → List ByteArray → Int → Option (Int × Int)
 | 0, _, _, _, _ => none
 | k + 1, x0, x4, x5, x6 => if x6 < (x5.length : Int) then (if 0 ≤ x6 then (if (rdOf ByteArray.empty x5 x6).toList = x0.toList then (if x6 < (x4.length : Int) then (some (rd x4 x6, 0)) else (none)) else (idiomref08_Zero.l0 k x0 x4 x5 (wrap64 (x6 + 1)))) else (none)) else (some (0, 80))
def idiomref08_Zero.f (k : Nat) (a0 : ByteArray) : Option (Int × Int) := (idiomref08_Systems.f).bind fun t107 => (idiomref08_Zero.l0 k a0 (([1632, 1776, 2534, 2406, 65296, 2790, 2662, 12295, 6112, 3302, 3792, 48, 6470, 3430, 4160, 2918, 3046, 3174, 3664, 3872] : List Int)) t107 0)
theorem idiomref08_Zero.mono_l : ∀ k, (∀ y0 y1 y2 y3, LeO (idiomref08_Zero.l0 k y0 y1 y2 y3) (idiomref08_Zero.l0 (k + 1) y0 y1 y2 y3))
 | 0 => fun _ _ _ _ r h => by simp [idiomref08_Zero.l0] at h
 | k + 1 => by
  have ih0 := idiomref08_Zero.mono_l k
  · intro y0 y1 y2 y3
    unfold idiomref08_Zero.l0
    repeat' first
    | (with_reducible exact ih0 _ _ _ _)
    | (with_reducible exact LeO.refl _)
    | (with_reducible exact LeO.none _)
    | (with_reducible refine LeO.ite ?_ ?_)
    | (with_reducible refine LeO.bind ?_ (fun _ => ?_))
    | exact ih0 _ _ _ _
    | exact LeO.none _
    | refine LeO.ite ?_ ?_
    | refine LeO.bind ?_ (fun _ => ?_)
theorem idiomref08_Zero.mono : ∀ a0 k, LeO (idiomref08_Zero.f k a0) (idiomref08_Zero.f (k + 1) a0) := by
 intro a0 k
 have ih0 := idiomref08_Zero.mono_l k
 unfold idiomref08_Zero.f
 repeat' first
  | (with_reducible exact ih0 _ _ _ _)
  | (with_reducible exact LeO.refl _)
  | (with_reducible exact LeO.none _)
  | (with_reducible refine LeO.ite ?_ ?_)
  | (with_reducible refine LeO.bind ?_ (fun _ => ?_))
  | exact ih0 _ _ _ _
  | exact LeO.none _
  | refine LeO.ite ?_ ?_
  | refine LeO.bind ?_ (fun _ => ?_)
set_option maxHeartbeats 8000000 in
set_option maxRecDepth 100000 in
theorem idiomref08_Zero.calls (k : Nat) (a0 : ByteArray) (r1 : Int) (r2 : Int) (w : World) (h : idiomref08_Zero.f k a0 = some (r1, r2)) :
 Calls Tryd.prog 25 #[.string a0] w fun e w' => e = .returned (.tuple #[.int .i32 r1, .int .i64 r2]) ∧ Below w.heap.size w w' := by
 have HB := Aside0.mk (Below.refl w.heap.size w)
 have H : ((idiomref08_Systems.f).bind fun t107 => (idiomref08_Zero.l0 k a0 (([1632, 1776, 2534, 2406, 65296, 2790, 2662, 12295, 6112, 3302, 3792, 48, 6470, 3430, 4160, 2918, 3046, 3174, 3664, 3872] : List Int)) t107 0)) = some (r1, r2) := h
 clear h
 obtain ⟨y104, hy104⟩ : ∃ y_ : List Int, y_ = (([1632, 1776, 2534, 2406, 65296, 2790, 2662, 12295, 6112, 3302, 3792, 48, 6470, 3430, 4160, 2918, 3046, 3174, 3664, 3872] : List Int)) := ⟨_, rfl⟩
 replace H : ((idiomref08_Systems.f).bind fun t107 => (idiomref08_Zero.l0 k a0 y104 t107 0)) = some (r1, r2) := by first | (rw [hy104]; with_reducible exact H) | (have H2_ := (Option.bind_some _ _).symm.trans H; rw [hy104]; with_reducible exact H2_) | (have H2_ := (Option.bind_some _ _).symm.trans H; with_reducible exact H2_) | with_reducible exact H | (rw [hy104]; exact H) | exact H
 have Ny104 := Aside0.mk hy104
 clear hy104
 replace H := Option.bind_eq_some_iff.mp H
 obtain ⟨t107, A20, H⟩ := H
 replace H : (idiomref08_Zero.l0 k a0 y104 t107 0) = some (r1, r2) := H
 have A2 := Aside0.mk A20
 clear A20
 have H' := Aside0.mk H
 clear H
 go_enter Tryd.func25, Tryd.ntmps25
 go_wp2_with (first | ((with_reducible refine gate_dst (N := 7) rfl ?_); refine Kd.R_lit (Kd.int .i32) _ 21 ?hg (N := 7) ?hd (xs := ([1632, 1776, 2534, 2406, 65296, 2790, 2662, 12295, 6112, 3302, 3792, 48, 6470, 3430, 4160, 2918, 3046, 3174, 3664, 3872] : List Int)) (inner := [.int .i32 1632, .int .i32 1776, .int .i32 2534, .int .i32 2406, .int .i32 65296, .int .i32 2790, .int .i32 2662, .int .i32 12295, .int .i32 6112, .int .i32 3302, .int .i32 3792, .int .i32 48, .int .i32 6470, .int .i32 3430, .int .i32 4160, .int .i32 2918, .int .i32 3046, .int .i32 3174, .int .i32 3664, .int .i32 3872]) (ok := fun _ => True) (okp := fun _ => True) ?hr ?hp (fun _ hk => hk) trivial (Below.refl _ _) (Nat.le_refl _) (by simp) ?_; (case hd => rfl); (case hg => rfl); (case hr => first | (go_simp; done) | (go_simp; rfl)); (case hp => exact (Reps.one (show Kd.M (Kd.int .i32) _ _ _ 1632 [.int .i32 1632] from rfl) (Reps.one (show Kd.M (Kd.int .i32) _ _ _ 1776 [.int .i32 1776] from rfl) (Reps.one (show Kd.M (Kd.int .i32) _ _ _ 2534 [.int .i32 2534] from rfl) (Reps.one (show Kd.M (Kd.int .i32) _ _ _ 2406 [.int .i32 2406] from rfl) (Reps.one (show Kd.M (Kd.int .i32) _ _ _ 65296 [.int .i32 65296] from rfl) (Reps.one (show Kd.M (Kd.int .i32) _ _ _ 2790 [.int .i32 2790] from rfl) (Reps.one (show Kd.M (Kd.int .i32) _ _ _ 2662 [.int .i32 2662] from rfl) (Reps.one (show Kd.M (Kd.int .i32) _ _ _ 12295 [.int .i32 12295] from rfl) (Reps.one (show Kd.M (Kd.int .i32) _ _ _ 6112 [.int .i32 6112] from rfl) (Reps.one (show Kd.M (Kd.int .i32) _ _ _ 3302 [.int .i32 3302] from rfl) (Reps.one (show Kd.M (Kd.int .i32) _ _ _ 3792 [.int .i32 3792] from rfl) (Reps.one (show Kd.M (Kd.int .i32) _ _ _ 48 [.int .i32 48] from rfl) (Reps.one (show Kd.M (Kd.int .i32) _ _ _ 6470 [.int .i32 6470] from rfl) (Reps.one (show Kd.M (Kd.int .i32) _ _ _ 3430 [.int .i32 3430] from rfl) (Reps.one (show Kd.M (Kd.int .i32) _ _ _ 4160 [.int .i32 4160] from rfl) (Reps.one (show Kd.M (Kd.int .i32) _ _ _ 2918 [.int .i32 2918] from rfl) (Reps.one (show Kd.M (Kd.int .i32) _ _ _ 3046 [.int .i32 3046] from rfl) (Reps.one (show Kd.M (Kd.int .i32) _ _ _ 3174 [.int .i32 3174] from rfl) (Reps.one (show Kd.M (Kd.int .i32) _ _ _ 3664 [.int .i32 3664] from rfl) (Reps.one (show Kd.M (Kd.int .i32) _ _ _ 3872 [.int .i32 3872] from rfl) (Reps.none _ _)))))))))))))))))))))); intro v105 w3 ho4 hb hg_ hnew_; clear hg_ hnew_; (first | rw [← Ny104.out] at ho4 | (simp only [Int.reduceToNat] at ho4; rw [← Ny104.out] at ho4)); have HO106 := Aside0.mk (Kd.R_lower ho4 (below_size (qh HB))); replace HB := qn HB hb; clear hb ho4) | ((with_reducible refine gate_callee (f := 39) rfl ?_); refine goesL_ (some 8) rfl rfl Tryd.func39 (by kernel_rfl) rfl #[] rfl ql ?_; (with_reducible refine (idiomref08_Systems.calls  t107 _ A2.out).mono ?_); rintro e w5 ⟨v108, rfl, ho0, hb⟩; refine ⟨_, rfl, ?_⟩; have HO109 := Aside0.mk (Kd.R_lower ho0 (below_size (qh HB))); replace HO106 := Aside0.mk (Kd.R_below (by (with_reducible repeat (first | apply Kd.R_alloc | apply Kd.R_drewN | apply Kd.R_drew)); exact HO106.out) hb); replace HB := qn HB hb; (try clear hb); (try clear hb2); (try clear hk); (try clear hi); (try clear ho0)))
 (try simp only [Act.put, List.setIfInBounds_toArray, List.set_cons_zero, List.set_cons_succ])
 go_loopg [6] k (fun kq v6 w' => ∃ (x6_1 : Int), v6 = .int .i64 x6_1 ∧ Aside0 (idiomref08_Zero.l0 kq a0 y104 t107 x6_1 = some (r1, r2)) ∧ Aside0 (kq ≤ k) ∧ Aside0 (Kd.R (Kd.int .i32) 21 w' w.heap.size (fun _ => True) v105 y104) ∧ Aside0 (Kd.R Kd.string 9 w' w.heap.size (fun _ => True) v108 t107) ∧ Aside0 (Below w.heap.size w w'))
 case atStart => exact ⟨(0), (by first | rfl | (simp; done) | (simp [*]; done)), H', ⟨Nat.le_refl _⟩, ⟨by (with_reducible repeat (first | apply Kd.R_alloc | apply Kd.R_drewN | apply Kd.R_drew)); exact HO106.out⟩, ⟨by (with_reducible repeat (first | apply Kd.R_alloc | apply Kd.R_drewN | apply Kd.R_drew)); exact HO109.out⟩, ⟨qh HB⟩⟩
 case round =>
  clear H'
  try clear c2
  try clear p2
  try clear c3
  obtain ⟨x6_1, rfl, HA, HK1, HO_4, HO_5, HB⟩ := hrel
  cases gk with
  | zero => exact absurd HA.out (by simp [idiomref08_Zero.l0])
  | succ k1 =>
   have H := HA.out
   clear HA
   simp only [idiomref08_Zero.l0] at H
   by_cases c6 : x6_1 < (t107.length : Int)
   · rw [if_pos c6] at H
     have c6b0 : decide (x6_1 < (t107.length : Int)) = true := decide_eq_true c6
     clear c6
     by_cases c7 : 0 ≤ x6_1
     · rw [if_pos c7] at H
       have c7b0 : decide (0 ≤ x6_1) = true := decide_eq_true c7
       clear c7
       by_cases c8 : (rdOf ByteArray.empty t107 x6_1).toList = a0.toList
       · rw [if_pos c8] at H
         have c8b0 : ((rdOf ByteArray.empty t107 x6_1).toList == a0.toList) = true := beq_iff_eq.mpr c8
         have c8b1 : ((rdOf ByteArray.empty t107 x6_1).toList != a0.toList) = false := bne_eq_false_iff_eq.mpr c8
         clear c8
         by_cases c9 : x6_1 < (y104.length : Int)
         · rw [if_pos c9] at H
           have c9b0 : decide (x6_1 < (y104.length : Int)) = true := decide_eq_true c9
           clear c9
           simp only [Option.some.injEq, Prod.mk.injEq] at H
           obtain ⟨rfl, rfl⟩ := H
           obtain ⟨Ao10, co10, eo10⟩ := Kd.R_slice HO_5.out
           subst eo10
           have p110 : 0 ≤ (x6_1 : Int) := of_decide_eq_true qa
           have q110 : x6_1 < (t107.length : Int) := of_decide_eq_true qa
           obtain ⟨ad110, e110, hx110_0⟩ := Kd.at_string (Kd.R_reads' HO_5.out).2.2 x6_1 p110 q110
           cases e110
           replace p110 := eq_true p110
           replace q110 := eq_true q110
           obtain ⟨Ao11, co11, eo11⟩ := Kd.R_slice HO_4.out
           subst eo11
           have p111 : 0 ≤ (x6_1 : Int) := of_decide_eq_true qa
           have q111 : x6_1 < (y104.length : Int) := of_decide_eq_true qa
           obtain ⟨ad111, e111, hx111_0⟩ := Kd.at_int (Kd.R_reads' HO_4.out).2.2 x6_1 p111 q111
           cases e111
           replace p111 := eq_true p111
           replace q111 := eq_true q111
           go_wp2
           go_ret2
           exact ⟨qe, qh HB⟩
         · rw [if_neg c9] at H
           exact absurd H (by simp)
       · rw [if_neg c8] at H
         have c8b0 : ((rdOf ByteArray.empty t107 x6_1).toList == a0.toList) = false := beq_eq_false_iff_ne.mpr c8
         have c8b1 : ((rdOf ByteArray.empty t107 x6_1).toList != a0.toList) = true := bne_iff_ne.mpr c8
         have H' := Aside0.mk H
         clear H
         obtain ⟨Ao12, co12, eo12⟩ := Kd.R_slice HO_5.out
         subst eo12
         have p110 : 0 ≤ (x6_1 : Int) := of_decide_eq_true qa
         have q110 : x6_1 < (t107.length : Int) := of_decide_eq_true qa
         obtain ⟨ad110, e110, hx110_0⟩ := Kd.at_string (Kd.R_reads' HO_5.out).2.2 x6_1 p110 q110
         cases e110
         replace p110 := eq_true p110
         replace q110 := eq_true q110
         go_wp2
         go_roundg k1
         case measure => have := HK1.out; omega
         case rel => exact ⟨(wrap64 (x6_1 + 1)), (by first | rfl | (simp; done) | (simp [*]; done)), H', ⟨by have := HK1.out; omega⟩, ⟨by (with_reducible repeat (first | apply Kd.R_alloc | apply Kd.R_drewN | apply Kd.R_drew)); exact HO_4.out⟩, ⟨by (with_reducible repeat (first | apply Kd.R_alloc | apply Kd.R_drewN | apply Kd.R_drew)); exact HO_5.out⟩, ⟨qh HB⟩⟩
     · rw [if_neg c7] at H
       exact absurd H (by simp)
   · rw [if_neg c6] at H
     have c6b0 : decide (x6_1 < (t107.length : Int)) = false := decide_eq_false c6
     clear c6
     simp only [Option.some.injEq, Prod.mk.injEq] at H
     obtain ⟨rfl, rfl⟩ := H
     obtain ⟨Ao13, co13, eo13⟩ := Kd.R_slice HO_5.out
     subst eo13
     go_wp2
     go_ret2
     exact ⟨qe, qh HB⟩

def idiomref08_Digit.f (a0 : ByteArray) (a1 : Int) : Option (ByteArray) := if 0 ≤ a1 ∧ a1 ≤ 9 then some (Digit8.f a0 a1.toNat) else none
theorem idiomref08_Digit.calls (a0 : ByteArray) (a1 : Int) (r : ByteArray) (w : World) (h : idiomref08_Digit.f a0 a1 = some r) :
 Calls Tryd.prog 26 #[.string a0, .int .i64 a1] w fun e w' => e = .returned (.string r) ∧ Below w.heap.size w w' := by
 unfold idiomref08_Digit.f at h
 split at h
 · rename_i hs
   obtain ⟨h0, h1⟩ := hs
   obtain ⟨n, rfl⟩ := Int.eq_ofNat_of_zero_le h0
   obtain rfl := Option.some.inj h
   exact Digit8.calls a0 n w (by omega)
 · cases h

def digits_Read.f (a0 : ByteArray) (a1 : ByteArray) : Option (ByteArray × Int × Int) := if a1.size ≤ 140737488355328 then some (Read8.f a0 a1) else none
theorem digits_Read.calls (a0 : ByteArray) (a1 : ByteArray) (r1 : ByteArray) (r2 : Int) (r3 : Int) (w : World) (h : digits_Read.f a0 a1 = some (r1, r2, r3)) (hG_ : Stray.Tabs w) :
 Calls Tryd.prog 13 #[.string a0, .string a1] w fun e w' => e = .returned (.tuple #[.string r1, .int .i64 r2, .int .i64 r3]) ∧ Below w.heap.size w w' := by
 unfold digits_Read.f at h
 split at h
 · rename_i hs
   have e : Read8.f a0 a1 = (r1, r2, r3) := Option.some.inj h
   have c := Read8.calls a0 a1 hs w hG_
   rw [e] at c
   exact c
 · cases h

/-- Not told: nothing that this print serves comes to it. -/
def strings_ToLower.f (a0 : ByteArray) : Option (ByteArray) := none
theorem strings_ToLower.calls (a0 : ByteArray) (r : ByteArray) (w : World) (h : strings_ToLower.f a0 = some r) :
 Calls Tryd.prog 30 #[.string a0] w fun e w' => e = .returned (.string r) ∧ Below w.heap.size w w' := by
 cases h

/-- strings.Repeat: what it tells where the count is no less than 0 and the text is not too long. -/
def strings_Repeat.f (a0 : ByteArray) (a1 : Int) : Option (ByteArray) := if 0 ≤ a1 ∧ a1 ≤ 9223372036854775807 ∧ a0.size * a1.toNat ≤ 140737488355328 then some ⟨(Lib.repeatL a0.data.toList a1.toNat).toArray⟩ else none
theorem strings_Repeat.calls (a0 : ByteArray) (a1 : Int) (r : ByteArray) (w : World) (h : strings_Repeat.f a0 a1 = some r) :
 Calls Tryd.prog 45 #[.string a0, .int .i64 a1] w fun e w' => e = .returned (.string r) ∧ Below w.heap.size w w' := by
 unfold strings_Repeat.f at h
 split at h
 · rename_i hc
   obtain ⟨h0, h1, h2⟩ := hc
   obtain ⟨n, rfl⟩ := Int.eq_ofNat_of_zero_le h0
   obtain rfl := Option.some.inj h
   exact Tryd.strings_Repeat a0 n w (by omega) (by simpa using h2)
 · cases h

end Go.Proofs.YtnkjeojhiligpaaDoor.F
namespace Go.Proofs.YtnkjeojhiligpaaDoor.F
open Go.RowKit Go.Proofs.YtnkjeojhiligpaaDoorW.PrintWords Go.Proofs.YtnkjeojhiligpaaDoorW.PrintLast Go.Proofs.YtnkjeojhiligpaaDoorW.PrintMore Go.Proofs.YtnkjeojhiligpaaDoor.Q
attribute [local go_sem] max2_int min2_int max_two min_two max_three min_three max_four min_four   -- for this text's walks alone
set_option linter.unusedVariables false
set_option linter.unusedSimpArgs false

def digits_piece.f (a0 : Int) (a1 : ByteArray) (a2 : ByteArray) (a3 : ByteArray) : Option (ByteArray) := if a0 = 9 then (if a1.size + a3.size ≤ 9223372036854775807 then (some (a1 ++ a3)) else (none)) else (if a0 ≥ 5 then ((strings_Repeat.f a1 (wrap64 (a0 - 5))).bind fun t118 => (if a2.size + t118.size ≤ 9223372036854775807 then (some (a2 ++ t118)) else (none))) else (if a0 = 4 then (if a1.size + a2.size ≤ 9223372036854775807 then (some (a1 ++ a2)) else (none)) else ((strings_Repeat.f a1 a0).bind fun t119 => (some t119))))
set_option maxHeartbeats 8000000 in
set_option maxRecDepth 100000 in
theorem digits_piece.calls (a0 : Int) (a1 : ByteArray) (a2 : ByteArray) (a3 : ByteArray) (r : ByteArray) (w : World) (h : digits_piece.f a0 a1 a2 a3 = some r) :
 Calls Tryd.prog 46 #[.int .i64 a0, .string a1, .string a2, .string a3] w fun e w' => e = .returned (.string r) ∧ Below w.heap.size w w' := by
 have HB := Aside0.mk (Below.refl w.heap.size w)
 have H : (if a0 = 9 then (if a1.size + a3.size ≤ 9223372036854775807 then (some (a1 ++ a3)) else (none)) else (if a0 ≥ 5 then ((strings_Repeat.f a1 (wrap64 (a0 - 5))).bind fun t118 => (if a2.size + t118.size ≤ 9223372036854775807 then (some (a2 ++ t118)) else (none))) else (if a0 = 4 then (if a1.size + a2.size ≤ 9223372036854775807 then (some (a1 ++ a2)) else (none)) else ((strings_Repeat.f a1 a0).bind fun t119 => (some t119))))) = some r := h
 clear h
 by_cases c5 : a0 = 9
 · rw [if_pos c5] at H
   have c5b0 : (a0 == 9) = true := beq_iff_eq.mpr c5
   have c5b1 : (a0 != 9) = false := bne_eq_false_iff_eq.mpr c5
   try have c5b1z := c5b1
   (try simp only [bne] at c5b1z)
   clear c5
   by_cases c6 : a1.size + a3.size ≤ 9223372036854775807
   · rw [if_pos c6] at H
     have c6b0 := eq_true c6
     have c6b1 : decide (a1.size + a3.size ≤ 9223372036854775807) = true := decide_eq_true c6
     try have c6b2 : (9223372036854775807 < a1.size + a3.size) = False := eq_false (Nat.not_lt.2 c6)
     obtain rfl := Option.some.inj H
     go_enter Tryd.func46, Tryd.ntmps46
     go_wp2
     go_ret
     exact ⟨qe, qh HB⟩
   · rw [if_neg c6] at H
     exact absurd H (by simp)
 · rw [if_neg c5] at H
   have c5b0 : (a0 == 9) = false := beq_eq_false_iff_ne.mpr c5
   have c5b1 : (a0 != 9) = true := bne_iff_ne.mpr c5
   try have c5b1z := c5b1
   (try simp only [bne] at c5b1z)
   by_cases c7 : a0 ≥ 5
   · rw [if_pos c7] at H
     have c7b0 : decide (5 ≤ a0) = true := decide_eq_true c7
     clear c7
     replace H := Option.bind_eq_some_iff.mp H
     obtain ⟨t118, A80, H⟩ := H
     replace H : (if a2.size + t118.size ≤ 9223372036854775807 then (some (a2 ++ t118)) else (none)) = some r := H
     have A8 := Aside0.mk A80
     clear A80
     by_cases c9 : a2.size + t118.size ≤ 9223372036854775807
     · rw [if_pos c9] at H
       have c9b0 := eq_true c9
       have c9b1 : decide (a2.size + t118.size ≤ 9223372036854775807) = true := decide_eq_true c9
       try have c9b2 : (9223372036854775807 < a2.size + t118.size) = False := eq_false (Nat.not_lt.2 c9)
       obtain rfl := Option.some.inj H
       go_enter Tryd.func46, Tryd.ntmps46
       go_wp2_with (first | ((with_reducible refine gate_callee (f := 45) rfl ?_); refine goesL_ (some 22) rfl rfl Tryd.func45 (by kernel_rfl) rfl #[.string a1, .int .i64 (wrap64 (a0 - 5))] rfl ql ?_; (with_reducible refine (strings_Repeat.calls a1 (wrap64 (a0 - 5)) t118 _ A8.out).mono ?_); rintro e w10 ⟨rfl, hb⟩; refine ⟨_, rfl, ?_⟩; replace HB := qn HB hb; (try clear hb); (try clear hb2); (try clear hk); (try clear hi)))
       go_ret
       exact ⟨qe, qh HB⟩
     · rw [if_neg c9] at H
       exact absurd H (by simp)
   · rw [if_neg c7] at H
     have c7b0 : decide (5 ≤ a0) = false := decide_eq_false c7
     clear c7
     by_cases c11 : a0 = 4
     · rw [if_pos c11] at H
       have c11b0 : (a0 == 4) = true := beq_iff_eq.mpr c11
       have c11b1 : (a0 != 4) = false := bne_eq_false_iff_eq.mpr c11
       try have c11b1z := c11b1
       (try simp only [bne] at c11b1z)
       clear c11
       by_cases c12 : a1.size + a2.size ≤ 9223372036854775807
       · rw [if_pos c12] at H
         have c12b0 := eq_true c12
         have c12b1 : decide (a1.size + a2.size ≤ 9223372036854775807) = true := decide_eq_true c12
         try have c12b2 : (9223372036854775807 < a1.size + a2.size) = False := eq_false (Nat.not_lt.2 c12)
         obtain rfl := Option.some.inj H
         go_enter Tryd.func46, Tryd.ntmps46
         go_wp2
         go_ret
         exact ⟨qe, qh HB⟩
       · rw [if_neg c12] at H
         exact absurd H (by simp)
     · rw [if_neg c11] at H
       have c11b0 : (a0 == 4) = false := beq_eq_false_iff_ne.mpr c11
       have c11b1 : (a0 != 4) = true := bne_iff_ne.mpr c11
       try have c11b1z := c11b1
       (try simp only [bne] at c11b1z)
       replace H := Option.bind_eq_some_iff.mp H
       obtain ⟨t119, A130, H⟩ := H
       replace H : (some t119) = some r := H
       have A13 := Aside0.mk A130
       clear A130
       obtain rfl := Option.some.inj H
       go_enter Tryd.func46, Tryd.ntmps46
       go_wp2_with (first | ((with_reducible refine gate_callee (f := 45) rfl ?_); refine goesL_ (some 32) rfl rfl Tryd.func45 (by kernel_rfl) rfl #[.string a1, .int .i64 a0] rfl ql ?_; (with_reducible refine (strings_Repeat.calls a1 a0 t119 _ A13.out).mono ?_); rintro e w14 ⟨rfl, hb⟩; refine ⟨_, rfl, ?_⟩; replace HB := qn HB hb; (try clear hb); (try clear hb2); (try clear hk); (try clear hi)))
       go_ret
       exact ⟨qe, qh HB⟩

def digits_roman.f (a0 : Int) : Option (ByteArray) := (strings_Repeat.f (⟨#[77]⟩ : ByteArray) (wrap64 (Int.tdiv a0 1000))).bind fun t120 => ((digits_piece.f (Int.tmod (wrap64 (Int.tdiv a0 100)) 10) (⟨#[67]⟩ : ByteArray) (⟨#[68]⟩ : ByteArray) (⟨#[77]⟩ : ByteArray)).bind fun t121 => (if t120.size + t121.size ≤ 9223372036854775807 then ((digits_piece.f (Int.tmod (wrap64 (Int.tdiv a0 10)) 10) (⟨#[88]⟩ : ByteArray) (⟨#[76]⟩ : ByteArray) (⟨#[67]⟩ : ByteArray)).bind fun t122 => (if (t120 ++ t121).size + t122.size ≤ 9223372036854775807 then ((digits_piece.f (Int.tmod a0 10) (⟨#[73]⟩ : ByteArray) (⟨#[86]⟩ : ByteArray) (⟨#[88]⟩ : ByteArray)).bind fun t123 => (if ((t120 ++ t121) ++ t122).size + t123.size ≤ 9223372036854775807 then (some (((t120 ++ t121) ++ t122) ++ t123)) else (none))) else (none))) else (none)))
set_option maxHeartbeats 8000000 in
set_option maxRecDepth 100000 in
theorem digits_roman.calls (a0 : Int) (r : ByteArray) (w : World) (h : digits_roman.f a0 = some r) :
 Calls Tryd.prog 31 #[.int .i64 a0] w fun e w' => e = .returned (.string r) ∧ Below w.heap.size w w' := by
 have HB := Aside0.mk (Below.refl w.heap.size w)
 have H : ((strings_Repeat.f (⟨#[77]⟩ : ByteArray) (wrap64 (Int.tdiv a0 1000))).bind fun t120 => ((digits_piece.f (Int.tmod (wrap64 (Int.tdiv a0 100)) 10) (⟨#[67]⟩ : ByteArray) (⟨#[68]⟩ : ByteArray) (⟨#[77]⟩ : ByteArray)).bind fun t121 => (if t120.size + t121.size ≤ 9223372036854775807 then ((digits_piece.f (Int.tmod (wrap64 (Int.tdiv a0 10)) 10) (⟨#[88]⟩ : ByteArray) (⟨#[76]⟩ : ByteArray) (⟨#[67]⟩ : ByteArray)).bind fun t122 => (if (t120 ++ t121).size + t122.size ≤ 9223372036854775807 then ((digits_piece.f (Int.tmod a0 10) (⟨#[73]⟩ : ByteArray) (⟨#[86]⟩ : ByteArray) (⟨#[88]⟩ : ByteArray)).bind fun t123 => (if ((t120 ++ t121) ++ t122).size + t123.size ≤ 9223372036854775807 then (some (((t120 ++ t121) ++ t122) ++ t123)) else (none))) else (none))) else (none)))) = some r := h
 clear h
 replace H := Option.bind_eq_some_iff.mp H
 obtain ⟨t120, A20, H⟩ := H
 replace H : ((digits_piece.f (Int.tmod (wrap64 (Int.tdiv a0 100)) 10) (⟨#[67]⟩ : ByteArray) (⟨#[68]⟩ : ByteArray) (⟨#[77]⟩ : ByteArray)).bind fun t121 => (if t120.size + t121.size ≤ 9223372036854775807 then ((digits_piece.f (Int.tmod (wrap64 (Int.tdiv a0 10)) 10) (⟨#[88]⟩ : ByteArray) (⟨#[76]⟩ : ByteArray) (⟨#[67]⟩ : ByteArray)).bind fun t122 => (if (t120 ++ t121).size + t122.size ≤ 9223372036854775807 then ((digits_piece.f (Int.tmod a0 10) (⟨#[73]⟩ : ByteArray) (⟨#[86]⟩ : ByteArray) (⟨#[88]⟩ : ByteArray)).bind fun t123 => (if ((t120 ++ t121) ++ t122).size + t123.size ≤ 9223372036854775807 then (some (((t120 ++ t121) ++ t122) ++ t123)) else (none))) else (none))) else (none))) = some r := H
 have A2 := Aside0.mk A20
 clear A20
 replace H := Option.bind_eq_some_iff.mp H
 obtain ⟨t121, A30, H⟩ := H
 replace H : (if t120.size + t121.size ≤ 9223372036854775807 then ((digits_piece.f (Int.tmod (wrap64 (Int.tdiv a0 10)) 10) (⟨#[88]⟩ : ByteArray) (⟨#[76]⟩ : ByteArray) (⟨#[67]⟩ : ByteArray)).bind fun t122 => (if (t120 ++ t121).size + t122.size ≤ 9223372036854775807 then ((digits_piece.f (Int.tmod a0 10) (⟨#[73]⟩ : ByteArray) (⟨#[86]⟩ : ByteArray) (⟨#[88]⟩ : ByteArray)).bind fun t123 => (if ((t120 ++ t121) ++ t122).size + t123.size ≤ 9223372036854775807 then (some (((t120 ++ t121) ++ t122) ++ t123)) else (none))) else (none))) else (none)) = some r := H
 have A3 := Aside0.mk A30
 clear A30
 by_cases c4 : t120.size + t121.size ≤ 9223372036854775807
 · rw [if_pos c4] at H
   have c4b0 := eq_true c4
   have c4b1 : decide (t120.size + t121.size ≤ 9223372036854775807) = true := decide_eq_true c4
   try have c4b2 : (9223372036854775807 < t120.size + t121.size) = False := eq_false (Nat.not_lt.2 c4)
   replace H := Option.bind_eq_some_iff.mp H
   obtain ⟨t122, A50, H⟩ := H
   replace H : (if (t120 ++ t121).size + t122.size ≤ 9223372036854775807 then ((digits_piece.f (Int.tmod a0 10) (⟨#[73]⟩ : ByteArray) (⟨#[86]⟩ : ByteArray) (⟨#[88]⟩ : ByteArray)).bind fun t123 => (if ((t120 ++ t121) ++ t122).size + t123.size ≤ 9223372036854775807 then (some (((t120 ++ t121) ++ t122) ++ t123)) else (none))) else (none)) = some r := H
   have A5 := Aside0.mk A50
   clear A50
   by_cases c6 : (t120 ++ t121).size + t122.size ≤ 9223372036854775807
   · rw [if_pos c6] at H
     have c6b0 := eq_true c6
     try have c6b0z := c6b0
     (try simp only [go_sem, ByteArray.size_extract, ByteArray.size_append, Nat.min_self, Int.natCast_add] at c6b0z)
     have c6b1 : decide ((t120 ++ t121).size + t122.size ≤ 9223372036854775807) = true := decide_eq_true c6
     try have c6b1z := c6b1
     (try simp only [go_sem, ByteArray.size_extract, ByteArray.size_append, Nat.min_self, Int.natCast_add] at c6b1z)
     try have c6b2 : (9223372036854775807 < (t120 ++ t121).size + t122.size) = False := eq_false (Nat.not_lt.2 c6)
     try have c6b2z := c6b2
     (try simp only [go_sem, ByteArray.size_extract, ByteArray.size_append, Nat.min_self, Int.natCast_add] at c6b2z)
     replace H := Option.bind_eq_some_iff.mp H
     obtain ⟨t123, A70, H⟩ := H
     replace H : (if ((t120 ++ t121) ++ t122).size + t123.size ≤ 9223372036854775807 then (some (((t120 ++ t121) ++ t122) ++ t123)) else (none)) = some r := H
     have A7 := Aside0.mk A70
     clear A70
     by_cases c8 : ((t120 ++ t121) ++ t122).size + t123.size ≤ 9223372036854775807
     · rw [if_pos c8] at H
       have c8b0 := eq_true c8
       try have c8b0z := c8b0
       (try simp only [go_sem, ByteArray.size_extract, ByteArray.size_append, Nat.min_self, Int.natCast_add] at c8b0z)
       have c8b1 : decide (((t120 ++ t121) ++ t122).size + t123.size ≤ 9223372036854775807) = true := decide_eq_true c8
       try have c8b1z := c8b1
       (try simp only [go_sem, ByteArray.size_extract, ByteArray.size_append, Nat.min_self, Int.natCast_add] at c8b1z)
       try have c8b2 : (9223372036854775807 < ((t120 ++ t121) ++ t122).size + t123.size) = False := eq_false (Nat.not_lt.2 c8)
       try have c8b2z := c8b2
       (try simp only [go_sem, ByteArray.size_extract, ByteArray.size_append, Nat.min_self, Int.natCast_add] at c8b2z)
       obtain rfl := Option.some.inj H
       go_enter Tryd.func31, Tryd.ntmps31
       go_wp2_with (first | ((with_reducible refine gate_callee (f := 45) rfl ?_); refine goesL_ (some 5) rfl rfl Tryd.func45 (by kernel_rfl) rfl #[.string (⟨#[77]⟩ : ByteArray), .int .i64 (wrap64 (Int.tdiv a0 1000))] rfl ql ?_; (with_reducible refine (strings_Repeat.calls (⟨#[77]⟩ : ByteArray) (wrap64 (Int.tdiv a0 1000)) t120 _ A2.out).mono ?_); rintro e w9 ⟨rfl, hb⟩; refine ⟨_, rfl, ?_⟩; replace HB := qn HB hb; (try clear hb); (try clear hb2); (try clear hk); (try clear hi)) | ((with_reducible refine gate_callee (f := 46) rfl ?_); refine goesL_ (some 9) rfl rfl Tryd.func46 (by kernel_rfl) rfl #[.int .i64 (Int.tmod (wrap64 (Int.tdiv a0 100)) 10), .string (⟨#[67]⟩ : ByteArray), .string (⟨#[68]⟩ : ByteArray), .string (⟨#[77]⟩ : ByteArray)] rfl ql ?_; (with_reducible refine (digits_piece.calls (Int.tmod (wrap64 (Int.tdiv a0 100)) 10) (⟨#[67]⟩ : ByteArray) (⟨#[68]⟩ : ByteArray) (⟨#[77]⟩ : ByteArray) t121 _ A3.out).mono ?_); rintro e w10 ⟨rfl, hb⟩; refine ⟨_, rfl, ?_⟩; replace HB := qn HB hb; (try clear hb); (try clear hb2); (try clear hk); (try clear hi)) | ((with_reducible refine gate_callee (f := 46) rfl ?_); refine goesL_ (some 14) rfl rfl Tryd.func46 (by kernel_rfl) rfl #[.int .i64 (Int.tmod (wrap64 (Int.tdiv a0 10)) 10), .string (⟨#[88]⟩ : ByteArray), .string (⟨#[76]⟩ : ByteArray), .string (⟨#[67]⟩ : ByteArray)] rfl ql ?_; (with_reducible refine (digits_piece.calls (Int.tmod (wrap64 (Int.tdiv a0 10)) 10) (⟨#[88]⟩ : ByteArray) (⟨#[76]⟩ : ByteArray) (⟨#[67]⟩ : ByteArray) t122 _ A5.out).mono ?_); rintro e w11 ⟨rfl, hb⟩; refine ⟨_, rfl, ?_⟩; replace HB := qn HB hb; (try clear hb); (try clear hb2); (try clear hk); (try clear hi)) | ((with_reducible refine gate_callee (f := 46) rfl ?_); refine goesL_ (some 18) rfl rfl Tryd.func46 (by kernel_rfl) rfl #[.int .i64 (Int.tmod a0 10), .string (⟨#[73]⟩ : ByteArray), .string (⟨#[86]⟩ : ByteArray), .string (⟨#[88]⟩ : ByteArray)] rfl ql ?_; (with_reducible refine (digits_piece.calls (Int.tmod a0 10) (⟨#[73]⟩ : ByteArray) (⟨#[86]⟩ : ByteArray) (⟨#[88]⟩ : ByteArray) t123 _ A7.out).mono ?_); rintro e w12 ⟨rfl, hb⟩; refine ⟨_, rfl, ?_⟩; replace HB := qn HB hb; (try clear hb); (try clear hb2); (try clear hk); (try clear hi)))
       go_ret
       exact ⟨qe, qh HB⟩
     · rw [if_neg c8] at H
       exact absurd H (by simp)
   · rw [if_neg c6] at H
     exact absurd H (by simp)
 · rw [if_neg c4] at H
   exact absurd H (by simp)

def digits_Roman.j0 : Nat → Int → Bool → Bool → Option (ByteArray × Int)
 | 0, _, _, _ => none
 | k + 1, x0, x1, x11 => if x11 = true then (some ((⟨#[]⟩ : ByteArray), 82)) else (if x1 = true then ((digits_roman.f x0).bind fun t124 => ((strings_ToLower.f t124).bind fun t125 => (some (t125, 0)))) else ((digits_roman.f x0).bind fun t126 => (some (t126, 0))))
def digits_Roman.f (k : Nat) (a0 : Int) (a1 : Bool) : Option (ByteArray × Int) := if a0 < 1 then (digits_Roman.j0 k a0 a1 true) else (digits_Roman.j0 k a0 a1 (decide (a0 > 3999)))
theorem digits_Roman.mono_l : ∀ k, (∀ y0 y1 y2, LeO (digits_Roman.j0 k y0 y1 y2) (digits_Roman.j0 (k + 1) y0 y1 y2))
 | 0 => fun _ _ _ r h => by simp [digits_Roman.j0] at h
 | k + 1 => by
  have ih0 := digits_Roman.mono_l k
  · intro y0 y1 y2
    unfold digits_Roman.j0
    repeat' first
    | (with_reducible exact ih0 _ _ _)
    | (with_reducible exact LeO.refl _)
    | (with_reducible exact LeO.none _)
    | (with_reducible refine LeO.ite ?_ ?_)
    | (with_reducible refine LeO.bind ?_ (fun _ => ?_))
    | exact ih0 _ _ _
    | exact LeO.none _
    | refine LeO.ite ?_ ?_
    | refine LeO.bind ?_ (fun _ => ?_)
theorem digits_Roman.mono : ∀ a0 a1 k, LeO (digits_Roman.f k a0 a1) (digits_Roman.f (k + 1) a0 a1) := by
 intro a0 a1 k
 have ih0 := digits_Roman.mono_l k
 unfold digits_Roman.f
 repeat' first
  | (with_reducible exact ih0 _ _ _)
  | (with_reducible exact LeO.refl _)
  | (with_reducible exact LeO.none _)
  | (with_reducible refine LeO.ite ?_ ?_)
  | (with_reducible refine LeO.bind ?_ (fun _ => ?_))
  | exact ih0 _ _ _
  | exact LeO.none _
  | refine LeO.ite ?_ ?_
  | refine LeO.bind ?_ (fun _ => ?_)
set_option maxHeartbeats 8000000 in
set_option maxRecDepth 100000 in
theorem digits_Roman.calls (k : Nat) (a0 : Int) (a1 : Bool) (r1 : ByteArray) (r2 : Int) (w : World) (h : digits_Roman.f k a0 a1 = some (r1, r2)) :
 Calls Tryd.prog 15 #[.int .i64 a0, .bool a1] w fun e w' => e = .returned (.tuple #[.string r1, .int .i64 r2]) ∧ Below w.heap.size w w' := by
 have HB := Aside0.mk (Below.refl w.heap.size w)
 have H : (if a0 < 1 then (digits_Roman.j0 k a0 a1 true) else (digits_Roman.j0 k a0 a1 (decide (a0 > 3999)))) = some (r1, r2) := h
 clear h
 have HC3 := Aside0.mk H
 clear H
 go_enter Tryd.func15, Tryd.ntmps15
 go_upto_region 1 with (fail)
 go_cut [11] (fun v11 wc => ∃ (kq : Nat) (x11_2 : Bool), v11 = .bool x11_2 ∧ Aside0 (digits_Roman.j0 kq a0 a1 x11_2 = some (r1, r2)) ∧ Aside0 (kq ≤ k) ∧ Aside0 (Below w.heap.size w wc))
 case first =>
  have H := HC3.out
  clear HC3
  by_cases c4 : a0 < 1
  · rw [if_pos c4] at H
    have c4b0 : decide (a0 < 1) = true := decide_eq_true c4
    clear c4
    (first | rw [c4b0] | (simp only [i64_w, i32_w]; rw [c4b0]) | skip)
    have H' := Aside0.mk H
    clear H
    go_wp2
    go_meet
    case rel => exact ⟨_, (true), (by first | rfl | (simp; done) | (simp [*]; done)), H', ⟨by first | omega | exact Nat.le_refl _⟩, ⟨qh HB⟩⟩
  · rw [if_neg c4] at H
    have c4b0 : decide (a0 < 1) = false := decide_eq_false c4
    clear c4
    (first | rw [c4b0] | (simp only [i64_w, i32_w]; rw [c4b0]) | skip)
    have H' := Aside0.mk H
    clear H
    go_wp2
    go_meet
    case rel => exact ⟨_, (decide (a0 > 3999)), (by first | rfl | (simp; done) | (simp [*]; done)), H', ⟨by first | omega | exact Nat.le_refl _⟩, ⟨qh HB⟩⟩
 case rest =>
  clear HC3
  try clear c1
  try clear p2
  try clear c4
  try clear c4b0
  obtain ⟨kq, x11_2, rfl, HA, HJ2, HB⟩ := hcut
  cases kq with
  | zero => exact absurd HA.out (by simp [digits_Roman.j0])
  | succ kj2 =>
   have H := HA.out
   clear HA
   simp only [digits_Roman.j0] at H
   by_cases c5 : x11_2 = true
   · subst c5
     have H1 : (some ((⟨#[]⟩ : ByteArray), 82)) = some (r1, r2) := by rw [if_pos rfl] at H; exact H
     clear H
     have H := H1
     clear H1
     simp only [Option.some.injEq, Prod.mk.injEq] at H
     obtain ⟨rfl, rfl⟩ := H
     go_wp2
     go_ret2
     exact ⟨qe, qh HB⟩
   · replace c5 := Bool.eq_false_iff.mpr c5
     subst c5
     have H1 : (if a1 = true then ((digits_roman.f a0).bind fun t124 => ((strings_ToLower.f t124).bind fun t125 => (some (t125, 0)))) else ((digits_roman.f a0).bind fun t126 => (some (t126, 0)))) = some (r1, r2) := by rw [if_neg (show ¬ (false = true) by decide)] at H; exact H
     clear H
     have H := H1
     clear H1
     by_cases c6 : a1 = true
     · subst c6
       have H1 : ((digits_roman.f a0).bind fun t124 => ((strings_ToLower.f t124).bind fun t125 => (some (t125, 0)))) = some (r1, r2) := by rw [if_pos rfl] at H; exact H
       clear H
       have H := H1
       clear H1
       replace H := Option.bind_eq_some_iff.mp H
       obtain ⟨t124, A70, H⟩ := H
       replace H : ((strings_ToLower.f t124).bind fun t125 => (some (t125, 0))) = some (r1, r2) := H
       have A7 := Aside0.mk A70
       clear A70
       replace H := Option.bind_eq_some_iff.mp H
       obtain ⟨t125, A80, H⟩ := H
       replace H : (some (t125, 0)) = some (r1, r2) := H
       have A8 := Aside0.mk A80
       clear A80
       simp only [Option.some.injEq, Prod.mk.injEq] at H
       obtain ⟨rfl, rfl⟩ := H
       go_wp2_with (first | ((with_reducible refine gate_callee (f := 31) rfl ?_); refine goesL_ (some 14) rfl rfl Tryd.func31 (by kernel_rfl) rfl #[.int .i64 a0] rfl ql ?_; (with_reducible refine (digits_roman.calls a0 t124 _ A7.out).mono ?_); rintro e w9 ⟨rfl, hb⟩; refine ⟨_, rfl, ?_⟩; replace HB := qn HB hb; (try clear hb); (try clear hb2); (try clear hk); (try clear hi)) | ((with_reducible refine gate_callee (f := 30) rfl ?_); refine goesL_ (some 15) rfl rfl Tryd.func30 (by kernel_rfl) rfl #[.string t124] rfl ql ?_; (with_reducible refine (strings_ToLower.calls t124 t125 _ A8.out).mono ?_); rintro e w10 ⟨rfl, hb⟩; refine ⟨_, rfl, ?_⟩; replace HB := qn HB hb; (try clear hb); (try clear hb2); (try clear hk); (try clear hi)))
       go_ret2
       exact ⟨qe, qh HB⟩
     · replace c6 := Bool.eq_false_iff.mpr c6
       subst c6
       have H1 : ((digits_roman.f a0).bind fun t126 => (some (t126, 0))) = some (r1, r2) := by rw [if_neg (show ¬ (false = true) by decide)] at H; exact H
       clear H
       have H := H1
       clear H1
       replace H := Option.bind_eq_some_iff.mp H
       obtain ⟨t126, A110, H⟩ := H
       replace H : (some (t126, 0)) = some (r1, r2) := H
       have A11 := Aside0.mk A110
       clear A110
       simp only [Option.some.injEq, Prod.mk.injEq] at H
       obtain ⟨rfl, rfl⟩ := H
       go_wp2_with (first | ((with_reducible refine gate_callee (f := 31) rfl ?_); refine goesL_ (some 17) rfl rfl Tryd.func31 (by kernel_rfl) rfl #[.int .i64 a0] rfl ql ?_; (with_reducible refine (digits_roman.calls a0 t126 _ A11.out).mono ?_); rintro e w12 ⟨rfl, hb⟩; refine ⟨_, rfl, ?_⟩; replace HB := qn HB hb; (try clear hb); (try clear hb2); (try clear hk); (try clear hi)))
       go_ret2
       exact ⟨qe, qh HB⟩

def idiomlaw08_awake.f (k : Nat)  : Option (Bool) := (digits_Render.f (⟨#[97, 114, 97, 98]⟩ : ByteArray) (⟨#[49, 48]⟩ : ByteArray)).bind fun bt127 => ((digits_Read.f (⟨#[108, 97, 116, 110]⟩ : ByteArray) (⟨#[49, 50, 32, 120]⟩ : ByteArray)).bind fun bt129 => ((digits_Roman.f k 1994 false).bind fun bt132 => (if bt127.1.toList = ([217, 161, 217, 160] : List UInt8) then (if bt127.2 = 0 then (if bt129.1.toList = ([49, 50] : List UInt8) then (if bt129.2.1 = 2 then (if bt129.2.2 = 0 then (if bt132.1.toList = ([77, 67, 77, 88, 67, 73, 86] : List UInt8) then (some (bt132.2 == 0)) else (some false)) else (some false)) else (some false)) else (some false)) else (some false)) else (some false))))
theorem idiomlaw08_awake.mono : ∀ k, LeO (idiomlaw08_awake.f k ) (idiomlaw08_awake.f (k + 1) ) := by
 intro  k
 unfold idiomlaw08_awake.f
 repeat' first
  | (with_reducible exact digits_Roman.mono _ _ _)
  | (with_reducible exact LeO.refl _)
  | (with_reducible exact LeO.none _)
  | (with_reducible refine LeO.ite ?_ ?_)
  | (with_reducible refine LeO.bind ?_ (fun _ => ?_))
  | exact digits_Roman.mono _ _ _
  | exact LeO.none _
  | refine LeO.ite ?_ ?_
  | refine LeO.bind ?_ (fun _ => ?_)
set_option maxHeartbeats 8000000 in
set_option maxRecDepth 100000 in
theorem idiomlaw08_awake.calls (k : Nat)  (r : Bool) (w : World) (h : idiomlaw08_awake.f k  = some r) (hG_ : Stray.Tabs w) :
 Calls Tryd.prog 12 #[] w fun e w' => e = .returned (.bool r) ∧ Below w.heap.size w w' := by
 have HG := Aside0.mk hG_
 clear hG_
 have HB := Aside0.mk (Below.refl w.heap.size w)
 have H : ((digits_Render.f (⟨#[97, 114, 97, 98]⟩ : ByteArray) (⟨#[49, 48]⟩ : ByteArray)).bind fun bt127 => ((digits_Read.f (⟨#[108, 97, 116, 110]⟩ : ByteArray) (⟨#[49, 50, 32, 120]⟩ : ByteArray)).bind fun bt129 => ((digits_Roman.f k 1994 false).bind fun bt132 => (if bt127.1.toList = ([217, 161, 217, 160] : List UInt8) then (if bt127.2 = 0 then (if bt129.1.toList = ([49, 50] : List UInt8) then (if bt129.2.1 = 2 then (if bt129.2.2 = 0 then (if bt132.1.toList = ([77, 67, 77, 88, 67, 73, 86] : List UInt8) then (some (bt132.2 == 0)) else (some false)) else (some false)) else (some false)) else (some false)) else (some false)) else (some false))))) = some r := h
 clear h
 replace H := Option.bind_eq_some_iff.mp H
 obtain ⟨⟨t127, t128⟩, A10, H⟩ := H
 replace H : ((digits_Read.f (⟨#[108, 97, 116, 110]⟩ : ByteArray) (⟨#[49, 50, 32, 120]⟩ : ByteArray)).bind fun bt129 => ((digits_Roman.f k 1994 false).bind fun bt132 => (if t127.toList = ([217, 161, 217, 160] : List UInt8) then (if t128 = 0 then (if bt129.1.toList = ([49, 50] : List UInt8) then (if bt129.2.1 = 2 then (if bt129.2.2 = 0 then (if bt132.1.toList = ([77, 67, 77, 88, 67, 73, 86] : List UInt8) then (some (bt132.2 == 0)) else (some false)) else (some false)) else (some false)) else (some false)) else (some false)) else (some false)))) = some r := H
 have A1 := Aside0.mk A10
 clear A10
 replace H := Option.bind_eq_some_iff.mp H
 obtain ⟨⟨t129, t130, t131⟩, A20, H⟩ := H
 replace H : ((digits_Roman.f k 1994 false).bind fun bt132 => (if t127.toList = ([217, 161, 217, 160] : List UInt8) then (if t128 = 0 then (if t129.toList = ([49, 50] : List UInt8) then (if t130 = 2 then (if t131 = 0 then (if bt132.1.toList = ([77, 67, 77, 88, 67, 73, 86] : List UInt8) then (some (bt132.2 == 0)) else (some false)) else (some false)) else (some false)) else (some false)) else (some false)) else (some false))) = some r := H
 have A2 := Aside0.mk A20
 clear A20
 replace H := Option.bind_eq_some_iff.mp H
 obtain ⟨⟨t132, t133⟩, A30, H⟩ := H
 replace H : (if t127.toList = ([217, 161, 217, 160] : List UInt8) then (if t128 = 0 then (if t129.toList = ([49, 50] : List UInt8) then (if t130 = 2 then (if t131 = 0 then (if t132.toList = ([77, 67, 77, 88, 67, 73, 86] : List UInt8) then (some (t133 == 0)) else (some false)) else (some false)) else (some false)) else (some false)) else (some false)) else (some false)) = some r := H
 have A3 := Aside0.mk A30
 clear A30
 by_cases c4 : t127.toList = ([217, 161, 217, 160] : List UInt8)
 · rw [if_pos c4] at H
   have c4b0 : (t127.toList == ([217, 161, 217, 160] : List UInt8)) = true := beq_iff_eq.mpr c4
   have c4b1 : (t127.toList != ([217, 161, 217, 160] : List UInt8)) = false := bne_eq_false_iff_eq.mpr c4
   clear c4
   by_cases c5 : t128 = 0
   · rw [if_pos c5] at H
     have c5b0 : (t128 == 0) = true := beq_iff_eq.mpr c5
     have c5b1 : (t128 != 0) = false := bne_eq_false_iff_eq.mpr c5
     try have c5b1z := c5b1
     (try simp only [bne] at c5b1z)
     clear c5
     by_cases c6 : t129.toList = ([49, 50] : List UInt8)
     · rw [if_pos c6] at H
       have c6b0 : (t129.toList == ([49, 50] : List UInt8)) = true := beq_iff_eq.mpr c6
       have c6b1 : (t129.toList != ([49, 50] : List UInt8)) = false := bne_eq_false_iff_eq.mpr c6
       clear c6
       by_cases c7 : t130 = 2
       · rw [if_pos c7] at H
         have c7b0 : (t130 == 2) = true := beq_iff_eq.mpr c7
         have c7b1 : (t130 != 2) = false := bne_eq_false_iff_eq.mpr c7
         try have c7b1z := c7b1
         (try simp only [bne] at c7b1z)
         clear c7
         by_cases c8 : t131 = 0
         · rw [if_pos c8] at H
           have c8b0 : (t131 == 0) = true := beq_iff_eq.mpr c8
           have c8b1 : (t131 != 0) = false := bne_eq_false_iff_eq.mpr c8
           try have c8b1z := c8b1
           (try simp only [bne] at c8b1z)
           clear c8
           by_cases c9 : t132.toList = ([77, 67, 77, 88, 67, 73, 86] : List UInt8)
           · rw [if_pos c9] at H
             have c9b0 : (t132.toList == ([77, 67, 77, 88, 67, 73, 86] : List UInt8)) = true := beq_iff_eq.mpr c9
             have c9b1 : (t132.toList != ([77, 67, 77, 88, 67, 73, 86] : List UInt8)) = false := bne_eq_false_iff_eq.mpr c9
             clear c9
             obtain rfl := Option.some.inj H
             go_enter Tryd.func12, Tryd.ntmps12
             go_wp2_with (first | ((with_reducible refine gate_callee (f := 10) rfl ?_); refine goesL_ (some 9) rfl rfl Tryd.func10 (by kernel_rfl) rfl #[.string (⟨#[97, 114, 97, 98]⟩ : ByteArray), .string (⟨#[49, 48]⟩ : ByteArray)] rfl ql ?_; (with_reducible refine (digits_Render.calls (⟨#[97, 114, 97, 98]⟩ : ByteArray) (⟨#[49, 48]⟩ : ByteArray) t127 t128 _ A1.out).mono ?_); rintro e w10 ⟨rfl, hb⟩; refine ⟨_, rfl, ?_⟩; replace HB := qn HB hb; (try clear hb); (try clear hb2); (try clear hk); (try clear hi)) | ((with_reducible refine gate_callee (f := 13) rfl ?_); refine goesL_ (some 13) rfl rfl Tryd.func13 (by kernel_rfl) rfl #[.string (⟨#[108, 97, 116, 110]⟩ : ByteArray), .string (⟨#[49, 50, 32, 120]⟩ : ByteArray)] rfl ql ?_; (with_reducible refine (digits_Read.calls (⟨#[108, 97, 116, 110]⟩ : ByteArray) (⟨#[49, 50, 32, 120]⟩ : ByteArray) t129 t130 t131 _ A2.out (by first | exact HG.out | exact HG.out.below HB.out | exact HG.out.below (pw_below_drewN HB.out _) | exact HG.out.below (below_drew HB.out) | exact HG.out.below (by assumption))).mono ?_); rintro e w11 ⟨rfl, hb⟩; refine ⟨_, rfl, ?_⟩; replace HB := qn HB hb; (try clear hb); (try clear hb2); (try clear hk); (try clear hi)) | ((with_reducible refine gate_callee (f := 15) rfl ?_); refine goesL_ (some 18) rfl rfl Tryd.func15 (by kernel_rfl) rfl #[.int .i64 1994, .bool false] rfl ql ?_; (with_reducible refine (digits_Roman.calls k 1994 false t132 t133 _ A3.out).mono ?_); rintro e w12 ⟨rfl, hb⟩; refine ⟨_, rfl, ?_⟩; replace HB := qn HB hb; (try clear hb); (try clear hb2); (try clear hk); (try clear hi)))
             go_ret
             exact ⟨qe, qh HB⟩
           · rw [if_neg c9] at H
             have c9b0 : (t132.toList == ([77, 67, 77, 88, 67, 73, 86] : List UInt8)) = false := beq_eq_false_iff_ne.mpr c9
             have c9b1 : (t132.toList != ([77, 67, 77, 88, 67, 73, 86] : List UInt8)) = true := bne_iff_ne.mpr c9
             obtain rfl := Option.some.inj H
             go_enter Tryd.func12, Tryd.ntmps12
             go_wp2_with (first | ((with_reducible refine gate_callee (f := 10) rfl ?_); refine goesL_ (some 9) rfl rfl Tryd.func10 (by kernel_rfl) rfl #[.string (⟨#[97, 114, 97, 98]⟩ : ByteArray), .string (⟨#[49, 48]⟩ : ByteArray)] rfl ql ?_; (with_reducible refine (digits_Render.calls (⟨#[97, 114, 97, 98]⟩ : ByteArray) (⟨#[49, 48]⟩ : ByteArray) t127 t128 _ A1.out).mono ?_); rintro e w13 ⟨rfl, hb⟩; refine ⟨_, rfl, ?_⟩; replace HB := qn HB hb; (try clear hb); (try clear hb2); (try clear hk); (try clear hi)) | ((with_reducible refine gate_callee (f := 13) rfl ?_); refine goesL_ (some 13) rfl rfl Tryd.func13 (by kernel_rfl) rfl #[.string (⟨#[108, 97, 116, 110]⟩ : ByteArray), .string (⟨#[49, 50, 32, 120]⟩ : ByteArray)] rfl ql ?_; (with_reducible refine (digits_Read.calls (⟨#[108, 97, 116, 110]⟩ : ByteArray) (⟨#[49, 50, 32, 120]⟩ : ByteArray) t129 t130 t131 _ A2.out (by first | exact HG.out | exact HG.out.below HB.out | exact HG.out.below (pw_below_drewN HB.out _) | exact HG.out.below (below_drew HB.out) | exact HG.out.below (by assumption))).mono ?_); rintro e w14 ⟨rfl, hb⟩; refine ⟨_, rfl, ?_⟩; replace HB := qn HB hb; (try clear hb); (try clear hb2); (try clear hk); (try clear hi)) | ((with_reducible refine gate_callee (f := 15) rfl ?_); refine goesL_ (some 18) rfl rfl Tryd.func15 (by kernel_rfl) rfl #[.int .i64 1994, .bool false] rfl ql ?_; (with_reducible refine (digits_Roman.calls k 1994 false t132 t133 _ A3.out).mono ?_); rintro e w15 ⟨rfl, hb⟩; refine ⟨_, rfl, ?_⟩; replace HB := qn HB hb; (try clear hb); (try clear hb2); (try clear hk); (try clear hi)))
             go_ret
             exact ⟨qe, qh HB⟩
         · rw [if_neg c8] at H
           have c8b0 : (t131 == 0) = false := beq_eq_false_iff_ne.mpr c8
           have c8b1 : (t131 != 0) = true := bne_iff_ne.mpr c8
           try have c8b1z := c8b1
           (try simp only [bne] at c8b1z)
           obtain rfl := Option.some.inj H
           go_enter Tryd.func12, Tryd.ntmps12
           go_wp2_with (first | ((with_reducible refine gate_callee (f := 10) rfl ?_); refine goesL_ (some 9) rfl rfl Tryd.func10 (by kernel_rfl) rfl #[.string (⟨#[97, 114, 97, 98]⟩ : ByteArray), .string (⟨#[49, 48]⟩ : ByteArray)] rfl ql ?_; (with_reducible refine (digits_Render.calls (⟨#[97, 114, 97, 98]⟩ : ByteArray) (⟨#[49, 48]⟩ : ByteArray) t127 t128 _ A1.out).mono ?_); rintro e w16 ⟨rfl, hb⟩; refine ⟨_, rfl, ?_⟩; replace HB := qn HB hb; (try clear hb); (try clear hb2); (try clear hk); (try clear hi)) | ((with_reducible refine gate_callee (f := 13) rfl ?_); refine goesL_ (some 13) rfl rfl Tryd.func13 (by kernel_rfl) rfl #[.string (⟨#[108, 97, 116, 110]⟩ : ByteArray), .string (⟨#[49, 50, 32, 120]⟩ : ByteArray)] rfl ql ?_; (with_reducible refine (digits_Read.calls (⟨#[108, 97, 116, 110]⟩ : ByteArray) (⟨#[49, 50, 32, 120]⟩ : ByteArray) t129 t130 t131 _ A2.out (by first | exact HG.out | exact HG.out.below HB.out | exact HG.out.below (pw_below_drewN HB.out _) | exact HG.out.below (below_drew HB.out) | exact HG.out.below (by assumption))).mono ?_); rintro e w17 ⟨rfl, hb⟩; refine ⟨_, rfl, ?_⟩; replace HB := qn HB hb; (try clear hb); (try clear hb2); (try clear hk); (try clear hi)) | ((with_reducible refine gate_callee (f := 15) rfl ?_); refine goesL_ (some 18) rfl rfl Tryd.func15 (by kernel_rfl) rfl #[.int .i64 1994, .bool false] rfl ql ?_; (with_reducible refine (digits_Roman.calls k 1994 false t132 t133 _ A3.out).mono ?_); rintro e w18 ⟨rfl, hb⟩; refine ⟨_, rfl, ?_⟩; replace HB := qn HB hb; (try clear hb); (try clear hb2); (try clear hk); (try clear hi)))
           go_ret
           exact ⟨qe, qh HB⟩
       · rw [if_neg c7] at H
         have c7b0 : (t130 == 2) = false := beq_eq_false_iff_ne.mpr c7
         have c7b1 : (t130 != 2) = true := bne_iff_ne.mpr c7
         try have c7b1z := c7b1
         (try simp only [bne] at c7b1z)
         obtain rfl := Option.some.inj H
         go_enter Tryd.func12, Tryd.ntmps12
         go_wp2_with (first | ((with_reducible refine gate_callee (f := 10) rfl ?_); refine goesL_ (some 9) rfl rfl Tryd.func10 (by kernel_rfl) rfl #[.string (⟨#[97, 114, 97, 98]⟩ : ByteArray), .string (⟨#[49, 48]⟩ : ByteArray)] rfl ql ?_; (with_reducible refine (digits_Render.calls (⟨#[97, 114, 97, 98]⟩ : ByteArray) (⟨#[49, 48]⟩ : ByteArray) t127 t128 _ A1.out).mono ?_); rintro e w19 ⟨rfl, hb⟩; refine ⟨_, rfl, ?_⟩; replace HB := qn HB hb; (try clear hb); (try clear hb2); (try clear hk); (try clear hi)) | ((with_reducible refine gate_callee (f := 13) rfl ?_); refine goesL_ (some 13) rfl rfl Tryd.func13 (by kernel_rfl) rfl #[.string (⟨#[108, 97, 116, 110]⟩ : ByteArray), .string (⟨#[49, 50, 32, 120]⟩ : ByteArray)] rfl ql ?_; (with_reducible refine (digits_Read.calls (⟨#[108, 97, 116, 110]⟩ : ByteArray) (⟨#[49, 50, 32, 120]⟩ : ByteArray) t129 t130 t131 _ A2.out (by first | exact HG.out | exact HG.out.below HB.out | exact HG.out.below (pw_below_drewN HB.out _) | exact HG.out.below (below_drew HB.out) | exact HG.out.below (by assumption))).mono ?_); rintro e w20 ⟨rfl, hb⟩; refine ⟨_, rfl, ?_⟩; replace HB := qn HB hb; (try clear hb); (try clear hb2); (try clear hk); (try clear hi)) | ((with_reducible refine gate_callee (f := 15) rfl ?_); refine goesL_ (some 18) rfl rfl Tryd.func15 (by kernel_rfl) rfl #[.int .i64 1994, .bool false] rfl ql ?_; (with_reducible refine (digits_Roman.calls k 1994 false t132 t133 _ A3.out).mono ?_); rintro e w21 ⟨rfl, hb⟩; refine ⟨_, rfl, ?_⟩; replace HB := qn HB hb; (try clear hb); (try clear hb2); (try clear hk); (try clear hi)))
         go_ret
         exact ⟨qe, qh HB⟩
     · rw [if_neg c6] at H
       have c6b0 : (t129.toList == ([49, 50] : List UInt8)) = false := beq_eq_false_iff_ne.mpr c6
       have c6b1 : (t129.toList != ([49, 50] : List UInt8)) = true := bne_iff_ne.mpr c6
       obtain rfl := Option.some.inj H
       go_enter Tryd.func12, Tryd.ntmps12
       go_wp2_with (first | ((with_reducible refine gate_callee (f := 10) rfl ?_); refine goesL_ (some 9) rfl rfl Tryd.func10 (by kernel_rfl) rfl #[.string (⟨#[97, 114, 97, 98]⟩ : ByteArray), .string (⟨#[49, 48]⟩ : ByteArray)] rfl ql ?_; (with_reducible refine (digits_Render.calls (⟨#[97, 114, 97, 98]⟩ : ByteArray) (⟨#[49, 48]⟩ : ByteArray) t127 t128 _ A1.out).mono ?_); rintro e w22 ⟨rfl, hb⟩; refine ⟨_, rfl, ?_⟩; replace HB := qn HB hb; (try clear hb); (try clear hb2); (try clear hk); (try clear hi)) | ((with_reducible refine gate_callee (f := 13) rfl ?_); refine goesL_ (some 13) rfl rfl Tryd.func13 (by kernel_rfl) rfl #[.string (⟨#[108, 97, 116, 110]⟩ : ByteArray), .string (⟨#[49, 50, 32, 120]⟩ : ByteArray)] rfl ql ?_; (with_reducible refine (digits_Read.calls (⟨#[108, 97, 116, 110]⟩ : ByteArray) (⟨#[49, 50, 32, 120]⟩ : ByteArray) t129 t130 t131 _ A2.out (by first | exact HG.out | exact HG.out.below HB.out | exact HG.out.below (pw_below_drewN HB.out _) | exact HG.out.below (below_drew HB.out) | exact HG.out.below (by assumption))).mono ?_); rintro e w23 ⟨rfl, hb⟩; refine ⟨_, rfl, ?_⟩; replace HB := qn HB hb; (try clear hb); (try clear hb2); (try clear hk); (try clear hi)) | ((with_reducible refine gate_callee (f := 15) rfl ?_); refine goesL_ (some 18) rfl rfl Tryd.func15 (by kernel_rfl) rfl #[.int .i64 1994, .bool false] rfl ql ?_; (with_reducible refine (digits_Roman.calls k 1994 false t132 t133 _ A3.out).mono ?_); rintro e w24 ⟨rfl, hb⟩; refine ⟨_, rfl, ?_⟩; replace HB := qn HB hb; (try clear hb); (try clear hb2); (try clear hk); (try clear hi)))
       go_ret
       exact ⟨qe, qh HB⟩
   · rw [if_neg c5] at H
     have c5b0 : (t128 == 0) = false := beq_eq_false_iff_ne.mpr c5
     have c5b1 : (t128 != 0) = true := bne_iff_ne.mpr c5
     try have c5b1z := c5b1
     (try simp only [bne] at c5b1z)
     obtain rfl := Option.some.inj H
     go_enter Tryd.func12, Tryd.ntmps12
     go_wp2_with (first | ((with_reducible refine gate_callee (f := 10) rfl ?_); refine goesL_ (some 9) rfl rfl Tryd.func10 (by kernel_rfl) rfl #[.string (⟨#[97, 114, 97, 98]⟩ : ByteArray), .string (⟨#[49, 48]⟩ : ByteArray)] rfl ql ?_; (with_reducible refine (digits_Render.calls (⟨#[97, 114, 97, 98]⟩ : ByteArray) (⟨#[49, 48]⟩ : ByteArray) t127 t128 _ A1.out).mono ?_); rintro e w25 ⟨rfl, hb⟩; refine ⟨_, rfl, ?_⟩; replace HB := qn HB hb; (try clear hb); (try clear hb2); (try clear hk); (try clear hi)) | ((with_reducible refine gate_callee (f := 13) rfl ?_); refine goesL_ (some 13) rfl rfl Tryd.func13 (by kernel_rfl) rfl #[.string (⟨#[108, 97, 116, 110]⟩ : ByteArray), .string (⟨#[49, 50, 32, 120]⟩ : ByteArray)] rfl ql ?_; (with_reducible refine (digits_Read.calls (⟨#[108, 97, 116, 110]⟩ : ByteArray) (⟨#[49, 50, 32, 120]⟩ : ByteArray) t129 t130 t131 _ A2.out (by first | exact HG.out | exact HG.out.below HB.out | exact HG.out.below (pw_below_drewN HB.out _) | exact HG.out.below (below_drew HB.out) | exact HG.out.below (by assumption))).mono ?_); rintro e w26 ⟨rfl, hb⟩; refine ⟨_, rfl, ?_⟩; replace HB := qn HB hb; (try clear hb); (try clear hb2); (try clear hk); (try clear hi)) | ((with_reducible refine gate_callee (f := 15) rfl ?_); refine goesL_ (some 18) rfl rfl Tryd.func15 (by kernel_rfl) rfl #[.int .i64 1994, .bool false] rfl ql ?_; (with_reducible refine (digits_Roman.calls k 1994 false t132 t133 _ A3.out).mono ?_); rintro e w27 ⟨rfl, hb⟩; refine ⟨_, rfl, ?_⟩; replace HB := qn HB hb; (try clear hb); (try clear hb2); (try clear hk); (try clear hi)))
     go_ret
     exact ⟨qe, qh HB⟩
 · rw [if_neg c4] at H
   have c4b0 : (t127.toList == ([217, 161, 217, 160] : List UInt8)) = false := beq_eq_false_iff_ne.mpr c4
   have c4b1 : (t127.toList != ([217, 161, 217, 160] : List UInt8)) = true := bne_iff_ne.mpr c4
   obtain rfl := Option.some.inj H
   go_enter Tryd.func12, Tryd.ntmps12
   go_wp2_with (first | ((with_reducible refine gate_callee (f := 10) rfl ?_); refine goesL_ (some 9) rfl rfl Tryd.func10 (by kernel_rfl) rfl #[.string (⟨#[97, 114, 97, 98]⟩ : ByteArray), .string (⟨#[49, 48]⟩ : ByteArray)] rfl ql ?_; (with_reducible refine (digits_Render.calls (⟨#[97, 114, 97, 98]⟩ : ByteArray) (⟨#[49, 48]⟩ : ByteArray) t127 t128 _ A1.out).mono ?_); rintro e w28 ⟨rfl, hb⟩; refine ⟨_, rfl, ?_⟩; replace HB := qn HB hb; (try clear hb); (try clear hb2); (try clear hk); (try clear hi)) | ((with_reducible refine gate_callee (f := 13) rfl ?_); refine goesL_ (some 13) rfl rfl Tryd.func13 (by kernel_rfl) rfl #[.string (⟨#[108, 97, 116, 110]⟩ : ByteArray), .string (⟨#[49, 50, 32, 120]⟩ : ByteArray)] rfl ql ?_; (with_reducible refine (digits_Read.calls (⟨#[108, 97, 116, 110]⟩ : ByteArray) (⟨#[49, 50, 32, 120]⟩ : ByteArray) t129 t130 t131 _ A2.out (by first | exact HG.out | exact HG.out.below HB.out | exact HG.out.below (pw_below_drewN HB.out _) | exact HG.out.below (below_drew HB.out) | exact HG.out.below (by assumption))).mono ?_); rintro e w29 ⟨rfl, hb⟩; refine ⟨_, rfl, ?_⟩; replace HB := qn HB hb; (try clear hb); (try clear hb2); (try clear hk); (try clear hi)) | ((with_reducible refine gate_callee (f := 15) rfl ?_); refine goesL_ (some 18) rfl rfl Tryd.func15 (by kernel_rfl) rfl #[.int .i64 1994, .bool false] rfl ql ?_; (with_reducible refine (digits_Roman.calls k 1994 false t132 t133 _ A3.out).mono ?_); rintro e w30 ⟨rfl, hb⟩; refine ⟨_, rfl, ?_⟩; replace HB := qn HB hb; (try clear hb); (try clear hb2); (try clear hk); (try clear hi)))
   go_ret
   exact ⟨qe, qh HB⟩

end Go.Proofs.YtnkjeojhiligpaaDoor.F
namespace Go.Proofs.YtnkjeojhiligpaaDoor.F
open Go.RowKit Go.Proofs.YtnkjeojhiligpaaDoorW.PrintWords Go.Proofs.YtnkjeojhiligpaaDoorW.PrintLast Go.Proofs.YtnkjeojhiligpaaDoorW.PrintMore Go.Proofs.YtnkjeojhiligpaaDoor.Q
attribute [local go_sem] max2_int min2_int max_two min_two max_three min_three max_four min_four   -- for this text's walks alone
set_option linter.unusedVariables false
set_option linter.unusedSimpArgs false

def idiomref08_begins.l0 : Nat → ByteArray → ByteArray → Int → Option (Int × Int)
 | 0, _, _, _ => none
 | k + 1, x0, x1, x6 => if x6 < 10 then ((idiomref08_Digit.f x0 x6).bind fun t139 => (if (x1.size : Int) ≥ (t139.size : Int) then (if 0 ≤ (t139.size : Int) then (if (t139.size : Int) ≤ (x1.size : Int) then (if (x1.extract 0 ((t139.size : Int) : Int).toNat).toList = t139.toList then (some (x6, (t139.size : Int))) else (idiomref08_begins.l0 k x0 x1 (wrap64 (x6 + 1)))) else (none)) else (none)) else (idiomref08_begins.l0 k x0 x1 (wrap64 (x6 + 1))))) else (some ((-1), 0))
def idiomref08_begins.f (k : Nat) (a0 : ByteArray) (a1 : ByteArray) : Option (Int × Int) := idiomref08_begins.l0 k a0 a1 0
theorem idiomref08_begins.mono_l : ∀ k, (∀ y0 y1 y2, LeO (idiomref08_begins.l0 k y0 y1 y2) (idiomref08_begins.l0 (k + 1) y0 y1 y2))
 | 0 => fun _ _ _ r h => by simp [idiomref08_begins.l0] at h
 | k + 1 => by
  have ih0 := idiomref08_begins.mono_l k
  · intro y0 y1 y2
    unfold idiomref08_begins.l0
    repeat' first
    | (with_reducible exact ih0 _ _ _)
    | (with_reducible exact LeO.refl _)
    | (with_reducible exact LeO.none _)
    | (with_reducible refine LeO.ite ?_ ?_)
    | (with_reducible refine LeO.bind ?_ (fun _ => ?_))
    | exact ih0 _ _ _
    | exact LeO.none _
    | refine LeO.ite ?_ ?_
    | refine LeO.bind ?_ (fun _ => ?_)
theorem idiomref08_begins.mono : ∀ a0 a1 k, LeO (idiomref08_begins.f k a0 a1) (idiomref08_begins.f (k + 1) a0 a1) := by
 intro a0 a1 k
 have ih0 := idiomref08_begins.mono_l k
 unfold idiomref08_begins.f
 repeat' first
  | (with_reducible exact ih0 _ _ _)
  | (with_reducible exact LeO.refl _)
  | (with_reducible exact LeO.none _)
  | (with_reducible refine LeO.ite ?_ ?_)
  | (with_reducible refine LeO.bind ?_ (fun _ => ?_))
  | exact ih0 _ _ _
  | exact LeO.none _
  | refine LeO.ite ?_ ?_
  | refine LeO.bind ?_ (fun _ => ?_)
set_option maxHeartbeats 8000000 in
set_option maxRecDepth 100000 in
theorem idiomref08_begins.calls (k : Nat) (a0 : ByteArray) (a1 : ByteArray) (r1 : Int) (r2 : Int) (w : World) (h : idiomref08_begins.f k a0 a1 = some (r1, r2)) :
 Calls Tryd.prog 29 #[.string a0, .string a1] w fun e w' => e = .returned (.tuple #[.int .i64 r1, .int .i64 r2]) ∧ Below w.heap.size w w' := by
 have HB := Aside0.mk (Below.refl w.heap.size w)
 have H : (idiomref08_begins.l0 k a0 a1 0) = some (r1, r2) := h
 clear h
 have H' := Aside0.mk H
 clear H
 go_enter Tryd.func29, Tryd.ntmps29
 go_wp2
 (try simp only [Act.put, List.setIfInBounds_toArray, List.set_cons_zero, List.set_cons_succ])
 go_loopg [6] k (fun kq v6 w' => ∃ (x6_1 : Int), v6 = .int .i64 x6_1 ∧ Aside0 (idiomref08_begins.l0 kq a0 a1 x6_1 = some (r1, r2)) ∧ Aside0 (kq ≤ k) ∧ Aside0 (Below w.heap.size w w'))
 case atStart => exact ⟨(0), (by first | rfl | (simp; done) | (simp [*]; done)), H', ⟨Nat.le_refl _⟩, ⟨qh HB⟩⟩
 case round =>
  clear H'
  try clear c2
  try clear p2
  obtain ⟨x6_1, rfl, HA, HK1, HB⟩ := hrel
  cases gk with
  | zero => exact absurd HA.out (by simp [idiomref08_begins.l0])
  | succ k1 =>
   have H := HA.out
   clear HA
   simp only [idiomref08_begins.l0] at H
   by_cases c3 : x6_1 < 10
   · rw [if_pos c3] at H
     have c3b0 : decide (x6_1 < 10) = true := decide_eq_true c3
     clear c3
     replace H := Option.bind_eq_some_iff.mp H
     obtain ⟨t139, A40, H⟩ := H
     replace H : (if (a1.size : Int) ≥ (t139.size : Int) then (if 0 ≤ (t139.size : Int) then (if (t139.size : Int) ≤ (a1.size : Int) then (if (a1.extract 0 ((t139.size : Int) : Int).toNat).toList = t139.toList then (some (x6_1, (t139.size : Int))) else (idiomref08_begins.l0 k1 a0 a1 (wrap64 (x6_1 + 1)))) else (none)) else (none)) else (idiomref08_begins.l0 k1 a0 a1 (wrap64 (x6_1 + 1)))) = some (r1, r2) := H
     have A4 := Aside0.mk A40
     clear A40
     by_cases c5 : (a1.size : Int) ≥ (t139.size : Int)
     · rw [if_pos c5] at H
       have c5b0 : decide ((t139.size : Int) ≤ (a1.size : Int)) = true := decide_eq_true c5
       have c5b1 : decide (t139.size ≤ a1.size) = true := decide_eq_true (Int.ofNat_le.mp c5)
       clear c5
       by_cases c6 : 0 ≤ (t139.size : Int)
       · rw [if_pos c6] at H
         have c6b0 := eq_true c6
         have c6b1 : decide (0 ≤ (t139.size : Int)) = true := decide_eq_true c6
         clear c6
         by_cases c7 : (t139.size : Int) ≤ (a1.size : Int)
         · rw [if_pos c7] at H
           have c7b0 := eq_true c7
           have c7b1 : decide ((t139.size : Int) ≤ (a1.size : Int)) = true := decide_eq_true c7
           clear c7
           by_cases c8 : (a1.extract 0 ((t139.size : Int) : Int).toNat).toList = t139.toList
           · rw [if_pos c8] at H
             have c8b0 : ((a1.extract 0 ((t139.size : Int) : Int).toNat).toList == t139.toList) = true := beq_iff_eq.mpr c8
             try have c8b0z := c8b0
             (try simp only [go_sem, ByteArray.size_extract, ByteArray.size_append, Nat.min_self, Int.natCast_add] at c8b0z)
             try have c8b0x := c8b0
             (try simp only [Int.toNat_natCast] at c8b0x)
             have c8b1 : ((a1.extract 0 ((t139.size : Int) : Int).toNat).toList != t139.toList) = false := bne_eq_false_iff_eq.mpr c8
             try have c8b1z := c8b1
             (try simp only [go_sem, ByteArray.size_extract, ByteArray.size_append, Nat.min_self, Int.natCast_add] at c8b1z)
             try have c8b1x := c8b1
             (try simp only [Int.toNat_natCast] at c8b1x)
             clear c8
             simp only [Option.some.injEq, Prod.mk.injEq] at H
             obtain ⟨rfl, rfl⟩ := H
             go_wp2_with (first | ((with_reducible refine gate_callee (f := 26) rfl ?_); refine goesL_ (some 14) rfl rfl Tryd.func26 (by kernel_rfl) rfl #[.string a0, .int .i64 x6_1] rfl ql ?_; (with_reducible refine (idiomref08_Digit.calls a0 x6_1 t139 _ A4.out).mono ?_); rintro e w9 ⟨rfl, hb⟩; refine ⟨_, rfl, ?_⟩; replace HB := qn HB hb; (try clear hb); (try clear hb2); (try clear hk); (try clear hi)))
             go_ret2
             exact ⟨qe, qh HB⟩
           · rw [if_neg c8] at H
             have c8b0 : ((a1.extract 0 ((t139.size : Int) : Int).toNat).toList == t139.toList) = false := beq_eq_false_iff_ne.mpr c8
             try have c8b0z := c8b0
             (try simp only [go_sem, ByteArray.size_extract, ByteArray.size_append, Nat.min_self, Int.natCast_add] at c8b0z)
             try have c8b0x := c8b0
             (try simp only [Int.toNat_natCast] at c8b0x)
             have c8b1 : ((a1.extract 0 ((t139.size : Int) : Int).toNat).toList != t139.toList) = true := bne_iff_ne.mpr c8
             try have c8b1z := c8b1
             (try simp only [go_sem, ByteArray.size_extract, ByteArray.size_append, Nat.min_self, Int.natCast_add] at c8b1z)
             try have c8b1x := c8b1
             (try simp only [Int.toNat_natCast] at c8b1x)
             have H' := Aside0.mk H
             clear H
             go_wp2_with (first | ((with_reducible refine gate_callee (f := 26) rfl ?_); refine goesL_ (some 14) rfl rfl Tryd.func26 (by kernel_rfl) rfl #[.string a0, .int .i64 x6_1] rfl ql ?_; (with_reducible refine (idiomref08_Digit.calls a0 x6_1 t139 _ A4.out).mono ?_); rintro e w10 ⟨rfl, hb⟩; refine ⟨_, rfl, ?_⟩; replace HB := qn HB hb; (try clear hb); (try clear hb2); (try clear hk); (try clear hi)))
             go_roundg k1
             case measure => have := HK1.out; omega
             case rel => exact ⟨(wrap64 (x6_1 + 1)), (by first | rfl | (simp; done) | (simp [*]; done)), H', ⟨by have := HK1.out; omega⟩, ⟨qh HB⟩⟩
         · rw [if_neg c7] at H
           exact absurd H (by simp)
       · rw [if_neg c6] at H
         exact absurd H (by simp)
     · rw [if_neg c5] at H
       have c5b0 : decide ((t139.size : Int) ≤ (a1.size : Int)) = false := decide_eq_false c5
       have c5b1 : decide (t139.size ≤ a1.size) = false := decide_eq_false (fun h => c5 (Int.ofNat_le.mpr h))
       clear c5
       have H' := Aside0.mk H
       clear H
       go_wp2_with (first | ((with_reducible refine gate_callee (f := 26) rfl ?_); refine goesL_ (some 14) rfl rfl Tryd.func26 (by kernel_rfl) rfl #[.string a0, .int .i64 x6_1] rfl ql ?_; (with_reducible refine (idiomref08_Digit.calls a0 x6_1 t139 _ A4.out).mono ?_); rintro e w11 ⟨rfl, hb⟩; refine ⟨_, rfl, ?_⟩; replace HB := qn HB hb; (try clear hb); (try clear hb2); (try clear hk); (try clear hi)))
       go_roundg k1
       case measure => have := HK1.out; omega
       case rel => exact ⟨(wrap64 (x6_1 + 1)), (by first | rfl | (simp; done) | (simp [*]; done)), H', ⟨by have := HK1.out; omega⟩, ⟨qh HB⟩⟩
   · rw [if_neg c3] at H
     have c3b0 : decide (x6_1 < 10) = false := decide_eq_false c3
     clear c3
     simp only [Option.some.injEq, Prod.mk.injEq] at H
     obtain ⟨rfl, rfl⟩ := H
     go_wp2
     go_ret2
     exact ⟨qe, qh HB⟩

def idiomref08_Read.l0 : Nat → ByteArray → ByteArray → List Int → Int → Option (ByteArray × Int × Int)
 | 0, _, _, _, _ => none
 | k + 1, x0, x1, x9, x10 => if 0 ≤ x10 then (if x10 ≤ (x1.size : Int) then ((idiomref08_begins.f k x0 (x1.extract (x10 : Int).toNat x1.size)).bind fun bt142 => (if bt142.1 < 0 then (if x10 = 0 then (some ((⟨#[]⟩ : ByteArray), 0, 81)) else (some (strOfNums x9, x10, 0))) else (if x9.length < 140737488355328 then (idiomref08_Read.l0 k x0 x1 (x9 ++ [(wrap64 (48 + bt142.1)) % 256]) (wrap64 (x10 + bt142.2))) else (none)))) else (none)) else (none)
def idiomref08_Read.f (k : Nat) (a0 : ByteArray) (a1 : ByteArray) : Option (ByteArray × Int × Int) := (idiomref08_Zero.f k a0).bind fun bt140 => (if bt140.2 = 0 then (if (a1.size : Int) > 65536 then (some ((⟨#[]⟩ : ByteArray), 0, 2)) else (idiomref08_Read.l0 k a0 a1 ([] : List Int) 0)) else (some ((⟨#[]⟩ : ByteArray), 0, bt140.2)))
theorem idiomref08_Read.mono_l : ∀ k, (∀ y0 y1 y2 y3, LeO (idiomref08_Read.l0 k y0 y1 y2 y3) (idiomref08_Read.l0 (k + 1) y0 y1 y2 y3))
 | 0 => fun _ _ _ _ r h => by simp [idiomref08_Read.l0] at h
 | k + 1 => by
  have ih0 := idiomref08_Read.mono_l k
  · intro y0 y1 y2 y3
    unfold idiomref08_Read.l0
    repeat' first
    | (with_reducible exact ih0 _ _ _ _)
    | (with_reducible exact idiomref08_Zero.mono _ _)
    | (with_reducible exact idiomref08_begins.mono _ _ _)
    | (with_reducible exact LeO.refl _)
    | (with_reducible exact LeO.none _)
    | (with_reducible refine LeO.ite ?_ ?_)
    | (with_reducible refine LeO.bind ?_ (fun _ => ?_))
    | exact ih0 _ _ _ _
    | exact idiomref08_Zero.mono _ _
    | exact idiomref08_begins.mono _ _ _
    | exact LeO.none _
    | refine LeO.ite ?_ ?_
    | refine LeO.bind ?_ (fun _ => ?_)
theorem idiomref08_Read.mono : ∀ a0 a1 k, LeO (idiomref08_Read.f k a0 a1) (idiomref08_Read.f (k + 1) a0 a1) := by
 intro a0 a1 k
 have ih0 := idiomref08_Read.mono_l k
 unfold idiomref08_Read.f
 repeat' first
  | (with_reducible exact ih0 _ _ _ _)
  | (with_reducible exact idiomref08_Zero.mono _ _)
  | (with_reducible exact idiomref08_begins.mono _ _ _)
  | (with_reducible exact LeO.refl _)
  | (with_reducible exact LeO.none _)
  | (with_reducible refine LeO.ite ?_ ?_)
  | (with_reducible refine LeO.bind ?_ (fun _ => ?_))
  | exact ih0 _ _ _ _
  | exact idiomref08_Zero.mono _ _
  | exact idiomref08_begins.mono _ _ _
  | exact LeO.none _
  | refine LeO.ite ?_ ?_
  | refine LeO.bind ?_ (fun _ => ?_)
set_option maxHeartbeats 8000000 in
set_option maxRecDepth 100000 in
theorem idiomref08_Read.calls (k : Nat) (a0 : ByteArray) (a1 : ByteArray) (r1 : ByteArray) (r2 : Int) (r3 : Int) (w : World) (h : idiomref08_Read.f k a0 a1 = some (r1, r2, r3)) :
 Calls Tryd.prog 14 #[.string a0, .string a1] w fun e w' => e = .returned (.tuple #[.string r1, .int .i64 r2, .int .i64 r3]) ∧ Below w.heap.size w w' := by
 have HB := Aside0.mk (Below.refl w.heap.size w)
 have H : ((idiomref08_Zero.f k a0).bind fun bt140 => (if bt140.2 = 0 then (if (a1.size : Int) > 65536 then (some ((⟨#[]⟩ : ByteArray), 0, 2)) else (idiomref08_Read.l0 k a0 a1 ([] : List Int) 0)) else (some ((⟨#[]⟩ : ByteArray), 0, bt140.2)))) = some (r1, r2, r3) := h
 clear h
 replace H := Option.bind_eq_some_iff.mp H
 obtain ⟨⟨t140, t141⟩, A30, H⟩ := H
 replace H : (if t141 = 0 then (if (a1.size : Int) > 65536 then (some ((⟨#[]⟩ : ByteArray), 0, 2)) else (idiomref08_Read.l0 k a0 a1 ([] : List Int) 0)) else (some ((⟨#[]⟩ : ByteArray), 0, t141))) = some (r1, r2, r3) := H
 have A3 := Aside0.mk A30
 clear A30
 by_cases c4 : t141 = 0
 · rw [if_pos c4] at H
   have c4b0 : (t141 == 0) = true := beq_iff_eq.mpr c4
   have c4b1 : (t141 != 0) = false := bne_eq_false_iff_eq.mpr c4
   try have c4b1z := c4b1
   (try simp only [bne] at c4b1z)
   clear c4
   by_cases c5 : (a1.size : Int) > 65536
   · rw [if_pos c5] at H
     have c5b0 : decide (65536 < (a1.size : Int)) = true := decide_eq_true c5
     have c5b1 : decide (65536 < a1.size) = true := decide_eq_true (by omega)
     clear c5
     simp only [Option.some.injEq, Prod.mk.injEq] at H
     obtain ⟨rfl, rfl, rfl⟩ := H
     go_enter Tryd.func14, Tryd.ntmps14
     go_wp2_with (first | ((with_reducible refine gate_callee (f := 25) rfl ?_); refine goesL_ (some 15) rfl rfl Tryd.func25 (by kernel_rfl) rfl #[.string a0] rfl ql ?_; (with_reducible refine (idiomref08_Zero.calls k a0 t140 t141 _ A3.out).mono ?_); rintro e w6 ⟨rfl, hb⟩; refine ⟨_, rfl, ?_⟩; replace HB := qn HB hb; (try clear hb); (try clear hb2); (try clear hk); (try clear hi)))
     go_ret3
     exact ⟨qe, qh HB⟩
   · rw [if_neg c5] at H
     have c5b0 : decide (65536 < (a1.size : Int)) = false := decide_eq_false c5
     have c5b1 : decide (65536 < a1.size) = false := decide_eq_false (by omega)
     clear c5
     have H' := Aside0.mk H
     clear H
     go_enter Tryd.func14, Tryd.ntmps14
     go_wp2_with (first | ((with_reducible refine gate_callee (f := 25) rfl ?_); refine goesL_ (some 15) rfl rfl Tryd.func25 (by kernel_rfl) rfl #[.string a0] rfl ql ?_; (with_reducible refine (idiomref08_Zero.calls k a0 t140 t141 _ A3.out).mono ?_); rintro e w7 ⟨rfl, hb⟩; refine ⟨_, rfl, ?_⟩; replace HB := qn HB hb; (try clear hb); (try clear hb2); (try clear hk); (try clear hi)))
     (try simp only [Act.put, List.setIfInBounds_toArray, List.set_cons_zero, List.set_cons_succ])
     go_loopg [9, 10] k (fun kq v9 v10 w' => ∃ (x9_1 : List Int) (x10_1 : Int), v10 = .int .i64 x10_1 ∧ Aside0 (idiomref08_Read.l0 kq a0 a1 x9_1 x10_1 = some (r1, r2, r3)) ∧ Aside0 (kq ≤ k) ∧ Aside0 (Kd.R (Kd.int .u8) 5 w' w.heap.size (fun _ => True) v9 x9_1) ∧ Aside0 (Below w.heap.size w w'))
     case atStart => exact ⟨(([] : List Int)), (0), (by first | rfl | (simp; done) | (simp [*]; done)), H', ⟨Nat.le_refl _⟩, ⟨by first | exact Kd.R_nil _ _ _ _ _ | exact Kd.N_nil _ _ _ _ _ | exact Kd.V_nil _ _ _ _ _ | exact Kd.Q_nil _ _ _ _ _ | exact Kd.S_nil _ _ _ _ _⟩, ⟨qh HB⟩⟩
     case round =>
      clear H'
      try clear c1
      try clear c2
      try clear p2
      try clear c4
      try clear c4b0
      try clear c4b1
      try clear c5
      try clear c5b0
      try clear c5b1
      obtain ⟨x9_1, x10_1, rfl, HA, HK1, HO_9, HB⟩ := hrel
      cases gk with
      | zero => exact absurd HA.out (by simp [idiomref08_Read.l0])
      | succ k1 =>
       have H := HA.out
       clear HA
       simp only [idiomref08_Read.l0] at H
       by_cases c8 : 0 ≤ x10_1
       · rw [if_pos c8] at H
         have c8b0 := eq_true c8
         have c8b1 : decide (0 ≤ x10_1) = true := decide_eq_true c8
         clear c8
         by_cases c9 : x10_1 ≤ (a1.size : Int)
         · rw [if_pos c9] at H
           have c9b0 := eq_true c9
           have c9b1 : decide (x10_1 ≤ (a1.size : Int)) = true := decide_eq_true c9
           clear c9
           replace H := Option.bind_eq_some_iff.mp H
           obtain ⟨⟨t142, t143⟩, A100, H⟩ := H
           replace H : (if t142 < 0 then (if x10_1 = 0 then (some ((⟨#[]⟩ : ByteArray), 0, 81)) else (some (strOfNums x9_1, x10_1, 0))) else (if x9_1.length < 140737488355328 then (idiomref08_Read.l0 k1 a0 a1 (x9_1 ++ [(wrap64 (48 + t142)) % 256]) (wrap64 (x10_1 + t143))) else (none))) = some (r1, r2, r3) := H
           have A10 := Aside0.mk A100
           clear A100
           by_cases c11 : t142 < 0
           · rw [if_pos c11] at H
             have c11b0 : decide (t142 < 0) = true := decide_eq_true c11
             clear c11
             by_cases c12 : x10_1 = 0
             · rw [if_pos c12] at H
               have c12b0 : (x10_1 == 0) = true := beq_iff_eq.mpr c12
               have c12b1 : (x10_1 != 0) = false := bne_eq_false_iff_eq.mpr c12
               try have c12b1z := c12b1
               (try simp only [bne] at c12b1z)
               clear c12
               simp only [Option.some.injEq, Prod.mk.injEq] at H
               obtain ⟨rfl, rfl, rfl⟩ := H
               go_wp2_with (first | ((with_reducible refine gate_callee (f := 29) rfl ?_); refine goesL_ (some 29) rfl rfl Tryd.func29 (by kernel_rfl) rfl #[.string a0, .string (a1.extract (x10_1 : Int).toNat a1.size)] rfl ql ?_; (with_reducible refine (idiomref08_begins.calls k1 a0 (a1.extract (x10_1 : Int).toNat a1.size) t142 t143 _ A10.out).mono ?_); rintro e w13 ⟨rfl, hb⟩; refine ⟨_, rfl, ?_⟩; replace HO_9 := Aside0.mk (Kd.R_below (by (with_reducible repeat (first | apply Kd.R_alloc | apply Kd.R_drewN | apply Kd.R_drew)); exact HO_9.out) hb); replace HB := qn HB hb; (try clear hb); (try clear hb2); (try clear hk); (try clear hi)))
               go_ret3
               exact ⟨qe, qh HB⟩
             · rw [if_neg c12] at H
               have c12b0 : (x10_1 == 0) = false := beq_eq_false_iff_ne.mpr c12
               have c12b1 : (x10_1 != 0) = true := bne_iff_ne.mpr c12
               try have c12b1z := c12b1
               (try simp only [bne] at c12b1z)
               simp only [Option.some.injEq, Prod.mk.injEq] at H
               obtain ⟨rfl, rfl, rfl⟩ := H
               go_wp2_with (first | ((with_reducible refine gate_callee (f := 29) rfl ?_); refine goesL_ (some 29) rfl rfl Tryd.func29 (by kernel_rfl) rfl #[.string a0, .string (a1.extract (x10_1 : Int).toNat a1.size)] rfl ql ?_; (with_reducible refine (idiomref08_begins.calls k1 a0 (a1.extract (x10_1 : Int).toNat a1.size) t142 t143 _ A10.out).mono ?_); rintro e w14 ⟨rfl, hb⟩; refine ⟨_, rfl, ?_⟩; replace HO_9 := Aside0.mk (Kd.R_below (by (with_reducible repeat (first | apply Kd.R_alloc | apply Kd.R_drewN | apply Kd.R_drew)); exact HO_9.out) hb); replace HB := qn HB hb; (try clear hb); (try clear hb2); (try clear hk); (try clear hi); have hcv15 := own_string (P := Tryd.prog) Tryd.underlying43 Tryd.underlying5 Tryd.underlying9 (Kd.own_of_R HO_9.out)))
               go_ret3
               exact ⟨qe, qh HB⟩
           · rw [if_neg c11] at H
             have c11b0 : decide (t142 < 0) = false := decide_eq_false c11
             clear c11
             by_cases c16 : x9_1.length < 140737488355328
             · rw [if_pos c16] at H
               have LMc16 := Aside0.mk c16
               clear c16
               obtain ⟨y144, hy144⟩ : ∃ y_ : List Int, y_ = (x9_1 ++ [(wrap64 (48 + t142)) % 256]) := ⟨_, rfl⟩
               replace H : (idiomref08_Read.l0 k1 a0 a1 y144 (wrap64 (x10_1 + t143))) = some (r1, r2, r3) := by first | (rw [hy144]; with_reducible exact H) | (have H2_ := (Option.bind_some _ _).symm.trans H; rw [hy144]; with_reducible exact H2_) | (have H2_ := (Option.bind_some _ _).symm.trans H; with_reducible exact H2_) | with_reducible exact H | (rw [hy144]; exact H) | exact H
               have Ny144 := Aside0.mk hy144
               clear hy144
               have H' := Aside0.mk H
               clear H
               go_wp2_with (first | ((with_reducible refine gate_callee (f := 29) rfl ?_); refine goesL_ (some 29) rfl rfl Tryd.func29 (by kernel_rfl) rfl #[.string a0, .string (a1.extract (x10_1 : Int).toNat a1.size)] rfl ql ?_; (with_reducible refine (idiomref08_begins.calls k1 a0 (a1.extract (x10_1 : Int).toNat a1.size) t142 t143 _ A10.out).mono ?_); rintro e w17 ⟨rfl, hb⟩; refine ⟨_, rfl, ?_⟩; replace HO_9 := Aside0.mk (Kd.R_below (by (with_reducible repeat (first | apply Kd.R_alloc | apply Kd.R_drewN | apply Kd.R_drew)); exact HO_9.out) hb); replace HB := qn HB hb; (try clear hb); (try clear hb2); (try clear hk); (try clear hi)) | ((with_reducible refine gate_builtin (b := .append) (xs := #[.tmp 34, .tmp 38]) rfl ?_); at_builtin; refine Kd.R_append (Kd.int .u8) (w0 := w) w.heap.size rfl (.tmp 34) (.tmp 38) 43 5 (.int .u8 0) 1 rfl Tryd.underlying43 info5 rfl (by decide) (by omega) u9 x9_1 ((wrap64 (48 + t142)) % 256) [.int .u8 ((wrap64 (48 + t142)) % 256)] (fun _ => True) (fun _ => False) rfl rfl ?aP (fun _ hk => hk.elim) ?aF ?aO ?aB ?aS ?aL ?_; (case aP => exact rfl); (case aB => exact (qh HB)); (case aF => exact (fun _ _ => trivial)); (case aO => exact (by (with_reducible repeat (first | apply Kd.R_alloc | apply Kd.R_drewN | apply Kd.R_drew)); exact HO_9.out)); (case aS => exact (below_size (qh HB))); (case aL => have := LMc16.out; omega); intro v145 w18 ho hb hg hat; rw [← Ny144.out] at ho; have n0_ := Aside0.mk (hb); have n1_ := Aside0.mk (ho); clear HB; clear HO_9; have HB := n0_; have HO146 := n1_; clear n0_ n1_; clear ho hb hg hat))
               go_roundg k1
               case measure => have := HK1.out; omega
               case rel => exact ⟨(y144), (wrap64 (x10_1 + t143)), (by first | rfl | (simp; done) | (simp [*]; done)), H', ⟨by have := HK1.out; omega⟩, ⟨by (with_reducible repeat (first | apply Kd.R_alloc | apply Kd.R_drewN | apply Kd.R_drew)); exact HO146.out⟩, ⟨qh HB⟩⟩
             · rw [if_neg c16] at H
               exact absurd H (by simp)
         · rw [if_neg c9] at H
           exact absurd H (by simp)
       · rw [if_neg c8] at H
         exact absurd H (by simp)
 · rw [if_neg c4] at H
   have c4b0 : (t141 == 0) = false := beq_eq_false_iff_ne.mpr c4
   have c4b1 : (t141 != 0) = true := bne_iff_ne.mpr c4
   try have c4b1z := c4b1
   (try simp only [bne] at c4b1z)
   simp only [Option.some.injEq, Prod.mk.injEq] at H
   obtain ⟨rfl, rfl, rfl⟩ := H
   go_enter Tryd.func14, Tryd.ntmps14
   go_wp2_with (first | ((with_reducible refine gate_callee (f := 25) rfl ?_); refine goesL_ (some 15) rfl rfl Tryd.func25 (by kernel_rfl) rfl #[.string a0] rfl ql ?_; (with_reducible refine (idiomref08_Zero.calls k a0 t140 t141 _ A3.out).mono ?_); rintro e w19 ⟨rfl, hb⟩; refine ⟨_, rfl, ?_⟩; replace HB := qn HB hb; (try clear hb); (try clear hb2); (try clear hk); (try clear hi)))
   go_ret3
   exact ⟨qe, qh HB⟩

def idiomlaw08_DigitsReads.f (k : Nat) (a0 : ByteArray) (a1 : ByteArray) : Option (Bool) := (digits_Read.f a0 a1).bind fun bt147 => ((idiomref08_Read.f k a0 a1).bind fun bt150 => (if bt147.1.toList = bt150.1.toList then (if bt147.2.1 = bt150.2.1 then (if bt147.2.2 = bt150.2.2 then ((idiomlaw08_awake.f k).bind fun t153 => (some t153)) else (none)) else (none)) else (none)))
theorem idiomlaw08_DigitsReads.mono : ∀ a0 a1 k, LeO (idiomlaw08_DigitsReads.f k a0 a1) (idiomlaw08_DigitsReads.f (k + 1) a0 a1) := by
 intro a0 a1 k
 unfold idiomlaw08_DigitsReads.f
 repeat' first
  | (with_reducible exact idiomlaw08_awake.mono _)
  | (with_reducible exact idiomref08_Read.mono _ _ _)
  | (with_reducible exact LeO.refl _)
  | (with_reducible exact LeO.none _)
  | (with_reducible refine LeO.ite ?_ ?_)
  | (with_reducible refine LeO.bind ?_ (fun _ => ?_))
  | exact idiomlaw08_awake.mono _
  | exact idiomref08_Read.mono _ _ _
  | exact LeO.none _
  | refine LeO.ite ?_ ?_
  | refine LeO.bind ?_ (fun _ => ?_)
set_option maxHeartbeats 8000000 in
set_option maxRecDepth 100000 in
theorem idiomlaw08_DigitsReads.calls (k : Nat) (a0 : ByteArray) (a1 : ByteArray) (r : Bool) (w : World) (h : idiomlaw08_DigitsReads.f k a0 a1 = some r) (hG_ : Stray.Tabs w) :
 Calls Tryd.prog 4 #[.string a0, .string a1] w fun e w' => e = .returned (.bool r) ∧ Below w.heap.size w w' := by
 have HG := Aside0.mk hG_
 clear hG_
 have HB := Aside0.mk (Below.refl w.heap.size w)
 have H : ((digits_Read.f a0 a1).bind fun bt147 => ((idiomref08_Read.f k a0 a1).bind fun bt150 => (if bt147.1.toList = bt150.1.toList then (if bt147.2.1 = bt150.2.1 then (if bt147.2.2 = bt150.2.2 then ((idiomlaw08_awake.f k).bind fun t153 => (some t153)) else (none)) else (none)) else (none)))) = some r := h
 clear h
 replace H := Option.bind_eq_some_iff.mp H
 obtain ⟨⟨t147, t148, t149⟩, A30, H⟩ := H
 replace H : ((idiomref08_Read.f k a0 a1).bind fun bt150 => (if t147.toList = bt150.1.toList then (if t148 = bt150.2.1 then (if t149 = bt150.2.2 then ((idiomlaw08_awake.f k).bind fun t153 => (some t153)) else (none)) else (none)) else (none))) = some r := H
 have A3 := Aside0.mk A30
 clear A30
 replace H := Option.bind_eq_some_iff.mp H
 obtain ⟨⟨t150, t151, t152⟩, A40, H⟩ := H
 replace H : (if t147.toList = t150.toList then (if t148 = t151 then (if t149 = t152 then ((idiomlaw08_awake.f k).bind fun t153 => (some t153)) else (none)) else (none)) else (none)) = some r := H
 have A4 := Aside0.mk A40
 clear A40
 by_cases c5 : t147.toList = t150.toList
 · rw [if_pos c5] at H
   have c5b0 : (t147.toList == t150.toList) = true := beq_iff_eq.mpr c5
   have c5b1 : (t147.toList != t150.toList) = false := bne_eq_false_iff_eq.mpr c5
   clear c5
   by_cases c6 : t148 = t151
   · rw [if_pos c6] at H
     have c6b0 : (t148 == t151) = true := beq_iff_eq.mpr c6
     have c6b1 : (t148 != t151) = false := bne_eq_false_iff_eq.mpr c6
     try have c6b1z := c6b1
     (try simp only [bne] at c6b1z)
     clear c6
     by_cases c7 : t149 = t152
     · rw [if_pos c7] at H
       have c7b0 : (t149 == t152) = true := beq_iff_eq.mpr c7
       have c7b1 : (t149 != t152) = false := bne_eq_false_iff_eq.mpr c7
       try have c7b1z := c7b1
       (try simp only [bne] at c7b1z)
       clear c7
       replace H := Option.bind_eq_some_iff.mp H
       obtain ⟨t153, A80, H⟩ := H
       replace H : (some t153) = some r := H
       have A8 := Aside0.mk A80
       clear A80
       obtain rfl := Option.some.inj H
       go_enter Tryd.func4, Tryd.ntmps4
       go_wp2_with (first | ((with_reducible refine gate_callee (f := 13) rfl ?_); refine goesL_ (some 14) rfl rfl Tryd.func13 (by kernel_rfl) rfl #[.string a0, .string a1] rfl ql ?_; (with_reducible refine (digits_Read.calls a0 a1 t147 t148 t149 _ A3.out (by first | exact HG.out | exact HG.out.below HB.out | exact HG.out.below (pw_below_drewN HB.out _) | exact HG.out.below (below_drew HB.out) | exact HG.out.below (by assumption))).mono ?_); rintro e w9 ⟨rfl, hb⟩; refine ⟨_, rfl, ?_⟩; replace HB := qn HB hb; (try clear hb); (try clear hb2); (try clear hk); (try clear hi)) | ((with_reducible refine gate_callee (f := 14) rfl ?_); refine goesL_ (some 21) rfl rfl Tryd.func14 (by kernel_rfl) rfl #[.string a0, .string a1] rfl ql ?_; (with_reducible refine (idiomref08_Read.calls k a0 a1 t150 t151 t152 _ A4.out).mono ?_); rintro e w10 ⟨rfl, hb⟩; refine ⟨_, rfl, ?_⟩; replace HB := qn HB hb; (try clear hb); (try clear hb2); (try clear hk); (try clear hi)) | (go_at_call 12; (with_reducible refine (idiomlaw08_awake.calls k  t153 _ A8.out (by first | exact HG.out | exact HG.out.below HB.out | exact HG.out.below (pw_below_drewN HB.out _) | exact HG.out.below (below_drew HB.out) | exact HG.out.below (by assumption))).mono ?_); rintro e w11 ⟨rfl, hb⟩; replace HB := qn HB hb; (try clear hb); (try clear hb2); (try clear hk); (try clear hi)))
       go_ret
       exact ⟨qe, qh HB⟩
     · rw [if_neg c7] at H
       exact absurd H (by simp)
   · rw [if_neg c6] at H
     exact absurd H (by simp)
 · rw [if_neg c5] at H
   exact absurd H (by simp)

/-- THE ONE PURE STATEMENT of idiomlaw08_DigitsReads: yours. -/
def idiomlaw08_DigitsReads.Pure : Prop := ∀ (a0 : ByteArray) (a1 : ByteArray), a0.size ≤ 140737488351232 → a1.size ≤ 140737488351232 → ∃ k, idiomlaw08_DigitsReads.f k a0 a1 = some true
end Go.Proofs.YtnkjeojhiligpaaDoor.F
set_option linter.unusedVariables false
set_option linter.unusedSimpArgs false
namespace Go.Proofs.YtnkjeojhiligpaaDoor.Awake08
open Go.RowKit Go.Proofs.YtnkjeojhiligpaaDoorW.PrintWords Go.Proofs.YtnkjeojhiligpaaDoorW.PrintLast Go.Proofs.YtnkjeojhiligpaaDoorW.PrintMore Go.Proofs.YtnkjeojhiligpaaDoor.F Go.Proofs.YtnkjeojhiligpaaDoor.Ten
theorem Ev.some {α : Type} {g : Nat → Option α} {r : α} (h : ∀ k, g (k + 1) = some r) : Ev g r := Ev.step (f := fun _ => Option.some r) h (Ev.now r)
theorem w64 {x : Int} (h0 : -9223372036854775808 ≤ x) (h1 : x ≤ 9223372036854775807) : wrap64 x = x := by unfold wrap64; omega
theorem wr1 {x y : Int} (h : 0 ≤ x ∧ x ≤ 1000000000) (e : x = y) : wrap64 x = y := by rw [w64 (by omega) (by omega)]; exact e
theorem toL (l : Array UInt8) : (⟨l⟩ : ByteArray).toList = l.toList := by rw [ByteArray.toList_eq]
theorem roman94 : digits_roman.f 1994 = some ⟨#[77, 67, 77, 88, 67, 73, 86]⟩ := by kernel_rfl
theorem awake_ev : Ev (fun k => (idiomlaw08_awake.f k).bind fun t => some t) true := by
  refine Ev.some fun k => ?_
  have r1 : digits_Render.f (⟨#[97, 114, 97, 98]⟩ : ByteArray) (⟨#[49, 48]⟩ : ByteArray) = some (⟨#[217, 161, 217, 160]⟩, 0) := by kernel_rfl
  have r2 : digits_Read.f (⟨#[108, 97, 116, 110]⟩ : ByteArray) (⟨#[49, 50, 32, 120]⟩ : ByteArray) = some (⟨#[49, 50]⟩, 2, 0) := by kernel_rfl
  have r3 : digits_Roman.f (k + 1) 1994 false = some (⟨#[77, 67, 77, 88, 67, 73, 86]⟩, 0) := by
    unfold digits_Roman.f
    rw [if_neg (by decide)]
    simp only [digits_Roman.j0]
    rw [if_neg (by decide), if_neg Bool.false_ne_true, roman94]
    rfl
  unfold idiomlaw08_awake.f
  rw [r1, r2, r3]
  simp only [Option.bind_some]
  rw [if_pos (by rw [toL]), if_pos trivial, if_pos (by rw [toL]), if_pos trivial, if_pos trivial, if_pos (by rw [toL])]
  rfl
theorem zero_step (q : Nat) (name : ByteArray) (zs : List Int) (ns : List ByteArray) (x : Int) : idiomref08_Zero.l0 (q + 1) name zs ns x = if x < (ns.length : Int) then (if 0 ≤ x then (if (rdOf ByteArray.empty ns x).toList = name.toList then (if x < (zs.length : Int) then (some (rd zs x, 0)) else (none)) else (idiomref08_Zero.l0 q name zs ns (wrap64 (x + 1)))) else (none)) else (some (0, 80)) := by
  simp only [idiomref08_Zero.l0]
theorem zero_l0 (name : ByteArray) (ns : List ByteArray) (zs : List Int) (hl : zs.length = ns.length) (hs : ns.length ≤ 1000) : ∀ (d j : Nat), j + d = ns.length → ∀ k, idiomref08_Zero.l0 (k + d + 1) name zs ns (j : Int) = some (match Digit8.refZ name (ns.drop j) (zs.drop j) with | some z => (z, 0) | none => (0, 80)) := by
  intro d
  induction d with
  | zero =>
    intro j hj k
    rw [List.drop_eq_nil_of_le (by omega)]
    simp only [idiomref08_Zero.l0, Digit8.refZ]
    rw [if_neg (by omega)]
  | succ d ih =>
    intro j hj k
    have hj2 : j < ns.length := by omega
    have hj3 : j < zs.length := by omega
    have w : wrap64 ((j : Int) + 1) = ((j + 1 : Nat) : Int) := by unfold wrap64; omega
    have e1 : rdOf ByteArray.empty ns (j : Int) = ns[j] := by
      unfold rdOf
      simp [List.getD, List.getElem?_eq_getElem hj2]
    have e2 : rd zs (j : Int) = zs[j] := by
      unfold rd
      simp [List.getD, List.getElem?_eq_getElem hj3]
    rw [List.drop_eq_getElem_cons hj2, List.drop_eq_getElem_cons hj3]
    rw [show k + (d + 1) + 1 = (k + d + 1) + 1 by omega, zero_step, if_pos (by clear w e1 e2; omega), if_pos (by clear w e1 e2; omega), e1, e2, w]
    clear w
    simp only [Digit8.refZ]
    by_cases c : (ns[j]).toList = name.toList
    · rw [if_pos c, if_pos c, if_pos (by clear e1 e2; omega)]
    · rw [if_neg c, if_neg c]
      exact ih (j + 1) (by omega) k
theorem zero_f (name : ByteArray) : Ev (fun k => idiomref08_Zero.f k name) (Digit8.zOf name, Digit8.eOf name) := by
  refine ⟨21, fun k hk => ?_⟩
  obtain ⟨k, rfl⟩ : ∃ q, k = q + 21 := ⟨k - 21, by omega⟩
  have e := zero_l0 name Digit8.names Digit8.zeros rfl (by decide) 20 0 rfl k
  rw [List.drop_zero, List.drop_zero, Digit8.ref_sys] at e
  have f : idiomref08_Zero.f (k + 21) name = idiomref08_Zero.l0 (k + 20 + 1) name Digit8.zeros Digit8.names ((0 : Nat) : Int) := rfl
  show idiomref08_Zero.f (k + 21) name = _
  rw [f, e]
  unfold Digit8.zOf Digit8.eOf
  cases sysOf name Ten.sys with
  | none => rfl
  | some p => rfl
theorem ten_err (name : ByteArray) : (tenC name).2 = Digit8.eOf name := by
  unfold tenC Digit8.eOf
  cases sysOf name Ten.sys with
  | none => rfl
  | some p => obtain ⟨z, h⟩ := p; rfl
theorem sys_hani : ∀ p ∈ Ten.sys, (p.1 = ⟨#[104, 97, 110, 105, 100, 101, 99]⟩ ↔ p.2.2 = haniS) := by decide
theorem ten_digit (name : ByteArray) (he : Digit8.eOf name = 0) (n : Nat) : (tenC name).1 n = Digit8.f name n := by
  unfold tenC Digit8.eOf at *
  unfold Digit8.f Digit8.zOf
  cases hq : sysOf name Ten.sys with
  | none => rw [hq] at he; cases he
  | some p =>
    obtain ⟨z, h⟩ := p
    have hm := sys_hani _ (sysOf_mem name z h Ten.sys hq)
    simp only [] at hm ⊢
    have hl : name.toList = ([104, 97, 110, 105, 100, 101, 99] : List UInt8) ↔ name = ⟨#[104, 97, 110, 105, 100, 101, 99]⟩ := by
      have e : (⟨#[104, 97, 110, 105, 100, 101, 99]⟩ : ByteArray).toList = [104, 97, 110, 105, 100, 101, 99] := toL _
      rw [← Digit8.toL_eq name ⟨#[104, 97, 110, 105, 100, 101, 99]⟩, e]
    unfold digs
    by_cases c : h = haniS
    · rw [if_pos c, if_pos (hl.2 (hm.2 c))]
      rfl
    · rw [if_neg c, if_neg (fun h' => c (hm.1 (hl.1 h')))]
      rfl
def ints (l : List UInt8) : List Int := l.map fun c => (c.toNat : Int)
theorem ints_length (l : List UInt8) : (ints l).length = l.length := by simp [ints]
theorem ints_app (a b : List UInt8) : ints (a ++ b) = ints a ++ ints b := by simp [ints]
theorem str_ints (l : List UInt8) : strOfNums (ints l) = ⟨l.toArray⟩ := by
  simp [strOfNums, ints, Function.comp_def]
end Go.Proofs.YtnkjeojhiligpaaDoor.Awake08
set_option linter.unusedVariables false
set_option linter.unusedSimpArgs false
namespace Go.Proofs.YtnkjeojhiligpaaDoor.Enc08
open Go.RowKit Go.Proofs.YtnkjeojhiligpaaDoor.Ten
theorem nat8 (z : Int) (h0 : 0 ≤ z) (h1 : z ≤ 255) : (z.toNat.toUInt8).toNat = z.toNat := by
  rw [Nat.toUInt8_eq, UInt8.toNat_ofNat']
  omega
/-- Decoded, an encoded rune comes back. -/
theorem dec_enc (r : Nat) (hv : r < 55296 ∨ 57344 ≤ r ∧ r ≤ 1114111) (l : List UInt8) : Lib.decodeL (Lib.encodeRune (r : Int) ++ l) = (r, (Lib.encodeRune (r : Int)).length) := by
  rw [Lib.decodeL_N]
  by_cases c1 : r ≤ 127
  · have e : Lib.encodeRune (r : Int) = [((r : Int)).toNat.toUInt8] := by unfold Lib.encodeRune; rw [Lib.encodeRuneZ_one (by omega) (by omega)]; rfl
    rw [e]
    simp only [List.cons_append, List.nil_append, List.getD_cons_zero, List.length_cons, List.length_nil]
    rw [nat8 _ (by omega) (by omega)]
    unfold Lib.decodeN
    rw [if_pos (by omega)]
    simp
  by_cases c2 : r ≤ 2047
  · have e : Lib.encodeRune (r : Int) = [(192 + (r : Int) / 64).toNat.toUInt8, (128 + (r : Int) % 64).toNat.toUInt8] := by unfold Lib.encodeRune; rw [Lib.encodeRuneZ_two (by omega) (by omega)]; rfl
    rw [e]
    simp only [List.cons_append, List.nil_append, List.getD_cons_zero, List.getD_cons_succ, List.length_cons, List.length_nil]
    rw [nat8 _ (by omega) (by omega), nat8 _ (by omega) (by omega)]
    unfold Lib.decodeN
    rw [if_neg (by omega), if_pos ⟨by omega, by omega, by omega⟩, if_pos (by omega)]
    refine Prod.ext ?_ rfl
    simp only []
    omega
  by_cases c3 : r ≤ 65535
  · have e : Lib.encodeRune (r : Int) = [(224 + (r : Int) / 4096).toNat.toUInt8, (128 + (r : Int) / 64 % 64).toNat.toUInt8, (128 + (r : Int) % 64).toNat.toUInt8] := by unfold Lib.encodeRune; rw [Lib.encodeRuneZ_three (by omega)]; rfl
    rw [e]
    simp only [List.cons_append, List.nil_append, List.getD_cons_zero, List.getD_cons_succ, List.length_cons, List.length_nil]
    rw [nat8 _ (by omega) (by omega), nat8 _ (by omega) (by omega), nat8 _ (by omega) (by omega)]
    unfold Lib.decodeN
    rw [if_neg (by omega), if_neg (by omega), if_pos ⟨by omega, ⟨by omega, by omega⟩, by omega, by omega⟩, if_pos (by omega)]
    refine Prod.ext ?_ rfl
    simp only []
    omega
  · have e : Lib.encodeRune (r : Int) = [(240 + (r : Int) / 262144).toNat.toUInt8, (128 + (r : Int) / 4096 % 64).toNat.toUInt8, (128 + (r : Int) / 64 % 64).toNat.toUInt8, (128 + (r : Int) % 64).toNat.toUInt8] := by unfold Lib.encodeRune; rw [Lib.encodeRuneZ_four (by omega) (by omega)]; rfl
    rw [e]
    simp only [List.cons_append, List.nil_append, List.getD_cons_zero, List.getD_cons_succ, List.length_cons, List.length_nil]
    rw [nat8 _ (by omega) (by omega), nat8 _ (by omega) (by omega), nat8 _ (by omega) (by omega), nat8 _ (by omega) (by omega)]
    unfold Lib.decodeN
    rw [if_neg (by omega), if_neg (by omega), if_neg (by omega), if_pos ⟨by omega, ⟨by omega, by omega⟩, ⟨by omega, by omega⟩, by omega, by omega⟩, if_pos (by omega)]
    refine Prod.ext ?_ rfl
    simp only []
    omega
theorem enc_pos (r : Int) : 0 < (Lib.encodeRune r).length := by
  unfold Lib.encodeRune Lib.encodeRuneZ
  repeat' split
  all_goals simp
theorem encode_eq (r : Nat) (hv : r < 55296 ∨ 57344 ≤ r ∧ r ≤ 1114111) : Utf8.encode (r : Int) = ⟨(Lib.encodeRune (r : Int)).toArray⟩ := by
  have hvalid : Utf8.valid (r : Int) = true := by
    unfold Utf8.valid
    simp
    omega
  unfold Utf8.encode
  simp only [hvalid, if_true, Int.toNat_natCast]
  by_cases c1 : r < 128
  · rw [if_pos c1]
    unfold Lib.encodeRune
    rw [Lib.encodeRuneZ_one (by omega) (by omega)]
    simp
  rw [if_neg c1]
  by_cases c2 : r < 2048
  · rw [if_pos c2]
    unfold Lib.encodeRune
    rw [Lib.encodeRuneZ_two (by omega) (by omega)]
    have e1 : (192 + (r : Int) / 64).toNat = 192 + r / 64 := by omega
    have e2 : (128 + (r : Int) % 64).toNat = 128 + r % 64 := by omega
    simp only [List.map_cons, List.map_nil, e1, e2]
    all_goals rfl
  rw [if_neg c2]
  by_cases c3 : r < 65536
  · rw [if_pos c3]
    unfold Lib.encodeRune
    rw [Lib.encodeRuneZ_three (by omega)]
    have e1 : (224 + (r : Int) / 4096).toNat = 224 + r / 4096 := by omega
    have e2 : (128 + (r : Int) / 64 % 64).toNat = 128 + r / 64 % 64 := by omega
    have e3 : (128 + (r : Int) % 64).toNat = 128 + r % 64 := by omega
    simp only [List.map_cons, List.map_nil, e1, e2, e3]
    all_goals rfl
  · rw [if_neg c3]
    unfold Lib.encodeRune
    rw [Lib.encodeRuneZ_four (by omega) (by omega)]
    have e1 : (240 + (r : Int) / 262144).toNat = 240 + r / 262144 := by omega
    have e2 : (128 + (r : Int) / 4096 % 64).toNat = 128 + r / 4096 % 64 := by omega
    have e3 : (128 + (r : Int) / 64 % 64).toNat = 128 + r / 64 % 64 := by omega
    have e4 : (128 + (r : Int) % 64).toNat = 128 + r % 64 := by omega
    simp only [List.map_cons, List.map_nil, e1, e2, e3, e4]
    all_goals rfl
/-- The rune of a system's digit. -/
def runeOf (z : Int) (h : ByteArray) (j : Nat) : Nat := if h = haniS then (hani j).toNat else z.toNat + j
theorem sys_ok2 : ∀ p ∈ Ten.sys, 0 ≤ p.2.1 ∧ (p.2.1 + 9 < 55296 ∨ 57344 ≤ p.2.1 ∧ p.2.1 + 9 ≤ 70000) := by decide
theorem hani_ok (j : Nat) (h : j < 10) : 0 ≤ hani j ∧ hani j < 55296 := by
  rcases (by omega : j = 0 ∨ j = 1 ∨ j = 2 ∨ j = 3 ∨ j = 4 ∨ j = 5 ∨ j = 6 ∨ j = 7 ∨ j = 8 ∨ j = 9) with rfl | rfl | rfl | rfl | rfl | rfl | rfl | rfl | rfl | rfl <;> exact ⟨by decide, by decide⟩
theorem rune_ok (name : ByteArray) (z : Int) (h : ByteArray) (hq : sysOf name Ten.sys = some (z, h)) (j : Nat) (hj : j < 10) : (runeOf z h j < 55296 ∨ 57344 ≤ runeOf z h j ∧ runeOf z h j ≤ 1114111) ∧ digs z h j = ⟨(Lib.encodeRune (runeOf z h j : Int)).toArray⟩ := by
  obtain ⟨s0, s1⟩ := sys_ok2 _ (sysOf_mem name z h Ten.sys hq)
  simp only [] at s0 s1
  obtain ⟨h0, h1⟩ := hani_ok j hj
  unfold runeOf digs
  by_cases c : h = haniS
  · rw [if_pos c, if_pos c]
    have hv : (hani j).toNat < 55296 ∨ 57344 ≤ (hani j).toNat ∧ (hani j).toNat ≤ 1114111 := .inl (by omega)
    refine ⟨hv, ?_⟩
    rw [← encode_eq _ hv]
    unfold haniD
    congr 1
    omega
  · rw [if_neg c, if_neg c]
    have hv : z.toNat + j < 55296 ∨ 57344 ≤ z.toNat + j ∧ z.toNat + j ≤ 1114111 := by omega
    refine ⟨hv, ?_⟩
    rw [← encode_eq _ hv]
    unfold plain
    congr 1
    omega
/-- A text begins with a rune's bytes just if what is decoded there has just these bytes. -/
theorem begins (r : Nat) (hv : r < 55296 ∨ 57344 ≤ r ∧ r ≤ 1114111) (L : List UInt8) (hL : L ≠ []) :
    ((Lib.encodeRune (r : Int)).length ≤ L.length ∧ L.take (Lib.encodeRune (r : Int)).length = Lib.encodeRune (r : Int)) ↔ L.take (Lib.decodeL L).2 = Lib.encodeRune (r : Int) := by
  have hd := Lib.decodeL_le L hL
  constructor
  · rintro ⟨h1, h2⟩
    have e : L = Lib.encodeRune (r : Int) ++ L.drop (Lib.encodeRune (r : Int)).length := by
      rw [← h2, List.length_take, Nat.min_eq_left h1]
      exact (List.take_append_drop _ _).symm
    have d := dec_enc r hv (L.drop (Lib.encodeRune (r : Int)).length)
    rw [← e] at d
    rw [d]
    exact h2
  · intro h
    have hl := congrArg List.length h
    rw [List.length_take, Nat.min_eq_left hd] at hl
    rw [← hl]
    exact ⟨hd, h⟩
end Go.Proofs.YtnkjeojhiligpaaDoor.Enc08
set_option linter.unusedVariables false
set_option linter.unusedSimpArgs false
namespace Go.Proofs.YtnkjeojhiligpaaDoor.DigitsReads
open Go.RowKit Go.Proofs.YtnkjeojhiligpaaDoorW.PrintWords Go.Proofs.YtnkjeojhiligpaaDoorW.PrintLast Go.Proofs.YtnkjeojhiligpaaDoorW.PrintMore Go.Proofs.YtnkjeojhiligpaaDoor.F Go.Proofs.YtnkjeojhiligpaaDoor.Ten Go.Proofs.YtnkjeojhiligpaaDoor.Awake08
def dl (s : ByteArray) (i : Nat) : List UInt8 := s.data.toList.drop i
theorem dl_len (s : ByteArray) (i : Nat) : (dl s i).length = s.size - i := by
  unfold dl
  rw [List.length_drop, Array.length_toList]
  rfl
theorem ext_list (s : ByteArray) (i n : Nat) : (s.extract i (i + n)).data.toList = (dl s i).take n := by
  unfold dl
  rw [ByteArray.data_extract, Array.toList_extract, List.extract_eq_take_drop]
  congr 1
  omega
theorem ext_list2 (s : ByteArray) (i n : Nat) (h : i ≤ s.size) : ((s.extract i s.size).extract 0 n).data.toList = (dl s i).take n := by
  unfold dl
  rw [ByteArray.data_extract, Array.toList_extract, List.extract_eq_take_drop, ByteArray.data_extract, Array.toList_extract, List.extract_eq_take_drop, List.drop_zero, Nat.sub_zero]
  congr 1
  rw [List.take_of_length_le]
  rw [List.length_drop, Array.length_toList]
  exact Nat.le_refl _
theorem toL_data (a b : ByteArray) : a.toList = b.toList ↔ a.data.toList = b.data.toList := by
  rw [ByteArray.toList_eq, ByteArray.toList_eq]
theorem ba_data (a b : ByteArray) : a = b ↔ a.data.toList = b.data.toList := by
  rw [← toL_data, Digit8.toL_eq]
theorem idx_at (c : Nat → ByteArray) (x : ByteArray) : ∀ k j, Read8.idx c x k j = -1 ∨ ∃ q : Nat, Read8.idx c x k j = (q : Int) ∧ j ≤ q ∧ q < j + k ∧ x = c q
  | 0, _ => .inl rfl
  | k + 1, j => by
    simp only [Read8.idx]
    by_cases h : x = c j
    · rw [if_pos h]
      exact .inr ⟨j, rfl, by omega, by omega, h⟩
    · rw [if_neg h]
      rcases idx_at c x k (j + 1) with e | ⟨q, e1, e2, e3, e4⟩
      · exact .inl e
      · exact .inr ⟨q, e1, by omega, by omega, e4⟩
def told (z : Int) (n : Nat) : Int × Int := if z < 0 then (-1, 0) else (z, (n : Int))
theorem begins_ev (name s : ByteArray) (hs : s.size ≤ 65536) (he : Digit8.eOf name = 0) (i : Nat) (hi : i < s.size) : ∀ (fuel j : Nat), j + fuel = 10 →
    Ev (fun k => idiomref08_begins.l0 k name (s.extract i s.size) (j : Int)) (told (Read8.idx (tenC name).1 (s.extract i (i + (Utf8.decode s i).2)) fuel j) (Utf8.decode s i).2) := by
  intro fuel
  induction fuel with
  | zero =>
    intro j hj
    refine Ev.some fun k => ?_
    simp only [idiomref08_begins.l0, Read8.idx]
    rw [if_neg (by omega)]
    rfl
  | succ fuel ih =>
    intro j hj
    have hj2 : j < 10 := by omega
    have dg : idiomref08_Digit.f name (j : Int) = some ((tenC name).1 j) := by
      rw [ten_digit name he]
      unfold idiomref08_Digit.f
      rw [if_pos (by omega), Int.toNat_natCast]
    have hz : (s.extract i s.size).size = s.size - i := by rw [ByteArray.size_extract]; omega
    have hne : dl s i ≠ [] := fun e => by
      have := congrArg List.length e
      rw [dl_len] at this
      simp at this
      omega
    have key : ((tenC name).1 j).size ≤ (s.extract i s.size).size ∧ ((s.extract i s.size).extract 0 ((tenC name).1 j).size).toList = ((tenC name).1 j).toList ↔ s.extract i (i + (Utf8.decode s i).2) = (tenC name).1 j := by
      rw [ba_data, ext_list, toL_data, ext_list2 s i _ (by omega), hz]
      obtain ⟨z, h, hq⟩ : ∃ z h, sysOf name Ten.sys = some (z, h) := by
        unfold Digit8.eOf at he
        cases hq : sysOf name Ten.sys with
        | none => rw [hq] at he; cases he
        | some p => exact ⟨p.1, p.2, rfl⟩
      obtain ⟨hv, hc⟩ := Enc08.rune_ok name z h hq j hj2
      have ht : (tenC name).1 j = digs z h j := by unfold tenC; rw [hq]
      rw [ht, hc]
      have hsz : (⟨(Lib.encodeRune ((Enc08.runeOf z h j : Nat) : Int)).toArray⟩ : ByteArray).size = (Lib.encodeRune ((Enc08.runeOf z h j : Nat) : Int)).length := by
        show Array.size _ = _
        simp
      rw [hsz, ← dl_len s i]
      have b := Enc08.begins (Enc08.runeOf z h j) hv (dl s i) hne
      rw [show Lib.decodeL (dl s i) = Utf8.decode s i from Lib.decodeL_drop s i] at b
      exact b
    have first : ∀ k, idiomref08_begins.l0 (k + 1) name (s.extract i s.size) (j : Int) = if s.extract i (i + (Utf8.decode s i).2) = (tenC name).1 j then some ((j : Int), (((tenC name).1 j).size : Int)) else idiomref08_begins.l0 k name (s.extract i s.size) ((j + 1 : Nat) : Int) := by
      intro k
      have w1 : wrap64 ((j : Int) + 1) = ((j + 1 : Nat) : Int) := wr1 (by omega) (by omega)
      simp only [idiomref08_begins.l0]
      rw [if_pos (by clear w1; omega), dg, w1]
      clear w1
      simp only [Option.bind_some, Int.toNat_natCast]
      by_cases c1 : ((tenC name).1 j).size ≤ (s.extract i s.size).size
      · rw [if_pos (by omega), if_pos (by omega), if_pos (by omega)]
        by_cases c2 : ((s.extract i s.size).extract 0 ((tenC name).1 j).size).toList = ((tenC name).1 j).toList
        · rw [if_pos c2, if_pos (key.1 ⟨c1, c2⟩)]
        · rw [if_neg c2, if_neg (fun h => c2 (key.2 h).2)]
      · rw [if_neg (by omega), if_neg (fun h => c1 (key.2 h).1)]
    refine Ev.step first ?_
    simp only [Read8.idx]
    by_cases c : s.extract i (i + (Utf8.decode s i).2) = (tenC name).1 j
    · rw [if_pos c]
      have hn : ((tenC name).1 j).size = (Utf8.decode s i).2 := by
        rw [← c, ByteArray.size_extract]
        have := Read8.fits s i hi
        omega
      refine Ev.congr (fun k => if_pos c) ?_
      unfold told
      rw [if_neg (by omega), hn]
      exact Ev.now _
    · rw [if_neg c]
      exact Ev.congr (fun k => if_neg c) (ih (j + 1) (by omega))
theorem begins_end (name : ByteArray) (he : Digit8.eOf name = 0) (t : ByteArray) (ht : t.size = 0) : ∀ (fuel j : Nat), j + fuel = 10 → Ev (fun k => idiomref08_begins.l0 k name t (j : Int)) (-1, 0) := by
  intro fuel
  induction fuel with
  | zero =>
    intro j hj
    refine Ev.some fun k => ?_
    simp only [idiomref08_begins.l0]
    rw [if_neg (by omega)]
  | succ fuel ih =>
    intro j hj
    have dg : idiomref08_Digit.f name (j : Int) = some ((tenC name).1 j) := by
      rw [ten_digit name he]
      unfold idiomref08_Digit.f
      rw [if_pos (by omega), Int.toNat_natCast]
    have hpos : 0 < ((tenC name).1 j).size := by
      obtain ⟨z, h, hq⟩ : ∃ z h, sysOf name Ten.sys = some (z, h) := by
        unfold Digit8.eOf at he
        cases hq : sysOf name Ten.sys with
        | none => rw [hq] at he; cases he
        | some p => exact ⟨p.1, p.2, rfl⟩
      obtain ⟨hv, hc⟩ := Enc08.rune_ok name z h hq j (by omega)
      have ht : (tenC name).1 j = digs z h j := by unfold tenC; rw [hq]
      rw [ht, hc]
      show 0 < Array.size _
      have := Enc08.enc_pos ((Enc08.runeOf z h j : Nat) : Int)
      simpa using this
    refine Ev.step (fun k => ?_) (ih (j + 1) (by omega))
    have w1 : wrap64 ((j : Int) + 1) = ((j + 1 : Nat) : Int) := wr1 (by omega) (by omega)
    simp only [idiomref08_begins.l0]
    rw [if_pos (by clear w1; omega), dg, w1]
    clear w1
    simp only [Option.bind_some]
    rw [if_neg (by omega)]
theorem ref_ev (name s : ByteArray) (hs : s.size ≤ 65536) (he : Digit8.eOf name = 0) : ∀ (fuel i : Nat) (acc : List UInt8), i ≤ s.size → s.size < i + fuel → acc.length ≤ i →
    Ev (fun k => idiomref08_Read.l0 k name s (ints acc) (i : Int)) (Read8.go (tenC name).1 s fuel i acc) := by
  intro fuel
  induction fuel with
  | zero => intro i acc h1 h2; omega
  | succ fuel ih =>
    intro i acc h1 h2 h3
    have hL := ints_length acc
    have first : ∀ k, idiomref08_Read.l0 (k + 1) name s (ints acc) (i : Int) = (idiomref08_begins.l0 k name (s.extract i s.size) ((0 : Nat) : Int)).bind fun bt142 => (if bt142.1 < 0 then (if (i : Int) = 0 then (some ((⟨#[]⟩ : ByteArray), 0, 81)) else (some (strOfNums (ints acc), (i : Int), 0))) else (if (ints acc).length < 140737488355328 then (idiomref08_Read.l0 k name s (ints acc ++ [(wrap64 (48 + bt142.1)) % 256]) (wrap64 ((i : Int) + bt142.2))) else (none))) := by
      intro k
      simp only [idiomref08_Read.l0]
      rw [if_pos (by omega), if_pos (by omega), Int.toNat_natCast]
      rfl
    have fin : ∀ g : Nat → Option (ByteArray × Int × Int), (∀ k, g k = if (i : Int) = 0 then (some ((⟨#[]⟩ : ByteArray), 0, 81)) else (some (strOfNums (ints acc), (i : Int), 0))) → Ev g (Read8.fin i acc) := by
      intro g hg
      refine Ev.congr hg ?_
      unfold Read8.fin
      by_cases h0 : i = 0
      · rw [if_pos h0]
        exact Ev.congr (fun k => if_pos (by omega)) (Ev.now _)
      · rw [if_neg h0]
        exact Ev.congr (fun k => (if_neg (by omega)).trans (by rw [str_ints])) (Ev.now _)
    refine Ev.step first ?_
    simp only [Read8.go]
    by_cases hi : i < s.size
    · rw [if_pos hi]
      refine Ev.bind (begins_ev name s hs he i hi 10 0 rfl) ?_
      have hw := Stray.width s i hi
      have hf := Read8.fits s i hi
      rcases idx_at (tenC name).1 (s.extract i (i + (Utf8.decode s i).2)) 10 0 with e | ⟨q, e1, e2, e3, e4⟩
      · rw [e, if_pos (show (-1 : Int) < 0 by decide), show told (-1) (Utf8.decode s i).2 = (-1, 0) from rfl]
        exact fin _ (fun k => if_pos (show (-1 : Int) < 0 by decide))
      · rw [e1, if_neg (show ¬ ((q : Int) < 0) by omega)]
        have et : told ((q : Int)) (Utf8.decode s i).2 = ((q : Int), ((Utf8.decode s i).2 : Int)) := if_neg (by omega)
        rw [et]
        have hq : (48 + (q : Int)).toNat = 48 + q := by omega
        rw [hq]
        have em : (((48 + q : Nat) : Int)) % 256 = (((48 + q).toUInt8.toNat : Nat) : Int) := by rw [Nat.toUInt8_eq, UInt8.toNat_ofNat']; omega
        have next := ih (i + (Utf8.decode s i).2) (acc ++ [(48 + q).toUInt8]) hf (by omega) (by simp only [List.length_append, List.length_cons, List.length_nil]; omega)
        have wq : Aside0 (wrap64 (48 + (q : Int)) = ((48 + q : Nat) : Int)) := ⟨wr1 (by omega) (by omega)⟩
        have wi : Aside0 (wrap64 ((i : Int) + ((Utf8.decode s i).2 : Int)) = ((i + (Utf8.decode s i).2 : Nat) : Int)) := ⟨wr1 (by omega) (by omega)⟩
        refine Ev.congr (fun k => (if_neg (by omega)).trans ((if_pos (by omega)).trans ?_)) next
        rw [wq.out, wi.out, em, ints_app]
        rfl
    · rw [if_neg hi]
      obtain rfl : i = s.size := by omega
      refine Ev.bind (begins_end name he (s.extract s.size s.size) (by rw [ByteArray.size_extract]; omega) 10 0 rfl) ?_
      exact fin _ (fun k => if_pos (show (-1 : Int) < 0 by decide))
theorem law (name s : ByteArray) (hn : name.size ≤ 140737488351232) (hs : s.size ≤ 140737488351232) : ∃ k, idiomlaw08_DigitsReads.f k name s = some true := by
  apply Ev.rounds (g := fun k => idiomlaw08_DigitsReads.f k name s)
  have pe : digits_Read.f name s = some (Read8.f name s) := by unfold digits_Read.f; rw [if_pos (by omega)]
  have re : Ev (fun k => idiomref08_Read.f k name s) (Read8.f name s) := by
    unfold idiomref08_Read.f Read8.f
    refine Ev.bind (zero_f name) ?_
    rw [ten_err]
    by_cases he : Digit8.eOf name = 0
    · rw [if_neg (by rw [he]; decide)]
      refine Ev.congr (fun k => if_pos he) ?_
      by_cases hz : 65536 < s.size
      · rw [if_pos hz]
        exact Ev.congr (fun k => if_pos (by omega)) (Ev.now _)
      · rw [if_neg hz]
        exact Ev.congr (fun k => if_neg (by omega)) (ref_ev name s (by omega) he (s.size + 1) 0 [] (by omega) (by omega) (by simp))
    · rw [if_pos he]
      exact Ev.congr (fun k => if_neg he) (Ev.now _)
  unfold idiomlaw08_DigitsReads.f
  rw [pe]
  refine Ev.congr (fun k => Option.bind_some _ _) (Ev.bind re ?_)
  exact Ev.congr (fun k => by rw [if_pos rfl, if_pos rfl, if_pos rfl]) awake_ev
end Go.Proofs.YtnkjeojhiligpaaDoor.DigitsReads
set_option linter.unusedVariables false
set_option linter.unusedSimpArgs false
namespace Go.Proofs.YtnkjeojhiligpaaDoor.lawDigitsReads
open Go.ChangeShapes Go.WideShapes Go.ChangeAt Go.RowKit
open Go.ChangeMaps (open_string shut_string)
theorem own : ownKnob Tryd.prog.godebug = none := by kernel_rfl
theorem laidOut : laidOutB Tryd.prog = true := by kernel_rfl
set_option maxRecDepth 100000 in
theorem lifted (os : Os) (started : os.Started) (H : Type) (enc : TypeId × Value → H) :
    ReturnsInHanded {} Tryd.checked os 4 .any (fun w args => (Rows.digitsReadsSpec.pre enc Tryd.prog Tryd.f4 [] false w args ∧ laidMetH Tryd.prog Rows.digitsReadsRow.laid w) ∧ sizedMet enc Tryd.prog Tryd.f4 (OpenSpec.ofChange Rows.digitsReadsSpec) false w args)
      (Rows.digitsReadsSpec.post enc Tryd.prog Tryd.f4 false true false false) := by
  refine returnsInHanded_of_change_and (C := Tryd.checked) (X := (fun w _ => laidMetH Tryd.prog Rows.digitsReadsRow.laid w)) (fun _ _ _ hh h => h.of_heap hh) own started (by kernel_rfl) Tryd.func4
    (ChangeSpec.witness_shaped (enc := enc) (C := Tryd.checked) (os := os) (X := (fun w _ => laidMetH Tryd.prog Rows.digitsReadsRow.laid w)) false (World.laidAll Tryd.prog os Rows.digitsReadsRow.laid) #[.string ByteArray.empty, .string ByteArray.empty] 12 (World.laidAll_os _ _ _)
      (World.shaped_of_ZipB (by kernel_rfl) (by kernel_rfl)) (by kernel_rfl) (by kernel_rfl) (by kernel_rfl)
      (by rw [MakeChecks.laidMetH_plain _ _ _ (by kernel_rfl)]; exact laidMet_laidAll _ (by kernel_rfl) (by kernel_rfl))) ?_
  intro W base args ds gs before hval0 hW _ hsz0 hL0 _
  have hsz : (DataW.weightsEach Tryd.prog (Tryd.f4.params.toList ++ Rows.digitsReadsSpec.plain.varTypes Tryd.prog) (ds ++ gs)).all (· ≤ reachBytes) = true := hsz0
  have hval : ∀ (j : Nat) t v, Tryd.f4.params[j]? = some t → args[j]? = some v → Value.okWide Tryd.prog W .any base t v := hval0
  have hW' := hW
  obtain ⟨p, q, hA0, hV, rfl, hfz, hnd⟩ := hW
  have hA : DataW.TrodAll enc Tryd.prog W 0 (fun _ => true) true Tryd.f4.params.toList args.toList ds p := hA0
  rw [Tryd.params4] at hA hval hsz
  obtain ⟨v0, vs0, d0, ds0, p0, q0, hargs, rfl, rfl, h0, r0⟩ := trodAll_cons hA
  obtain ⟨v1, vs1, d1, ds1, p1, q1, rfl, rfl, rfl, h1, r1⟩ := trodAll_cons r0
  obtain ⟨rfl, rfl, rfl⟩ := trodAll_nil r1
  obtain rfl : args = #[v0, v1] := by cases args; simp_all
  obtain ⟨rfl, rfl⟩ := trodVars_none hV
  have k0 := h0
  have lt0 : ∀ x ∈ p0, x.block < W.heap.size := by obtain ⟨m, hm⟩ := k0; exact DataW.trod_lt m _ _ _ hm
  have k1 := h1
  have lt1 : ∀ x ∈ p1, x.block < W.heap.size := by obtain ⟨m, hm⟩ := k1; exact DataW.trod_lt m _ _ _ hm
  obtain ⟨a0, rfl, rfl, rfl, y0⟩ := open_string Tryd.underlying9 (hval 0 9 v0 rfl rfl) h0
  have w0 : a0.size ≤ 140737488351232 := by
    have z := sized_string hsz (j := 0) (t := 9) rfl rfl
    rw [Array.length_toList] at z
    exact z
  obtain ⟨a1, rfl, rfl, rfl, y1⟩ := open_string Tryd.underlying9 (hval 1 9 v1 rfl rfl) h1
  have w1 : a1.size ≤ 140737488351232 := by
    have z := sized_string hsz (j := 1) (t := 9) rfl rfl
    rw [Array.length_toList] at z
    exact z
  have hL1 : laidMet Tryd.prog Rows.digitsReadsRow.laid W := hL0
  have hG : Stray.Tabs W := utf8Tabs_of_reads (ρ := Tryd.lays260_ren) { Tryd.lays260 with } ⟨by kernel_rfl, by kernel_rfl, by kernel_rfl, by kernel_rfl, by kernel_rfl, by kernel_rfl, by kernel_rfl⟩ (Lib.laidMet.reads hL1 (.tail _ (.tail _ (.head _)))) (Lib.laidMet.reads hL1 (.head _))
  obtain ⟨k, hk⟩ := DigitsReads.law a0 a1 w0 w1
  refine (F.idiomlaw08_DigitsReads.calls k a0 a1 true W hk hG).mono fun e W' ⟨he, bel0⟩ => ?_
  have bel : Below W.heap.size W W' := by first | exact bel0 | exact YtnkjeojhiligpaaDoorW.PrintWords.Drawn0.below bel0
  subst he
  exact ⟨_, rfl, _, _, _, [], _, [], hW', trodAll_mk1 (shut_bool Tryd.underlying4 _), (trodAll_cons_mk (Below.trod laidOut (by kernel_rfl) (of_decide_eq_true (by kernel_rfl)) k0 bel lt0) (trodAll_cons_mk (Below.trod laidOut (by kernel_rfl) (of_decide_eq_true (by kernel_rfl)) k1 bel lt1) trodAll_mk0)), rfl, bel.frame _, fun h => by cases h⟩
theorem said : Rows.digitsReadsRow.holds Tryd.pinned (OpenSpec.ofChange Rows.digitsReadsSpec) :=
  OpenClaim.holds_of_wide 4 Tryd.f4 rfl rfl rfl rfl rfl rfl rfl ⟨rfl, rfl, rfl, rfl, rfl⟩ rfl rfl rfl rfl rfl (by kernel_rfl) Tryd.func4 (by kernel_rfl)
    (of_decide_eq_true (by kernel_rfl)) (by unfold Func.isWrapper; first | (rw [if_pos (by decide +kernel)]; kernel_rfl) | (rw [if_neg (by decide +kernel)]; exact ⟨rfl, rfl⟩))
    (fun os started H enc _ => lifted os started H enc)
theorem plain (f : FuncId) (fn : Func) (hf : Tryd.pinned.checked.prog.funcNamed "idiom/idiomlaw08.DigitsReads" = some f) (hfn : Tryd.pinned.checked.prog.funcs[f]? = some fn) :
    false = Tryd.pinned.checked.prog.looks [] ∧ ∀ (j : Nat) t, fn.params[j]? = some t → Tryd.pinned.checked.prog.wantsStandIn t = false := by
  obtain rfl : f = 4 := Option.some.inj ((show Tryd.prog.funcNamed "idiom/idiomlaw08.DigitsReads" = some 4 by kernel_rfl).symm.trans hf) |>.symm
  obtain rfl : fn = Tryd.f4 := (Option.some.inj (Tryd.func4.symm.trans hfn)).symm
  refine ⟨by kernel_rfl, fun j t ht => ?_⟩
  rw [Tryd.params4] at ht
  have hm : t ∈ [9, 9] := by simpa using Array.mem_of_getElem? ht
  have hall : ([9, 9].all fun u => !Tryd.prog.wantsStandIn u) = true := by kernel_rfl
  exact (show Tryd.prog.wantsStandIn t = false by simpa using List.all_eq_true.1 hall t hm)
/-- THE CARD. -/
theorem card : Rows.DigitsReadsCardSaid :=
  Claim7.holds_tied_plain_at .later [] _ _ _ _ said (fun _ h => by cases h) (by kernel_rfl) (fun _ h => by cases h) digitsReads_row_tie rfl ⟨rfl, rfl⟩ (by kernel_rfl) rfl plain (by kernel_rfl)
#print axioms card
end Go.Proofs.YtnkjeojhiligpaaDoor.lawDigitsReads
namespace Go.Proofs.YtnkjeojhiligpaaDoor
/-- The claim, under a short name. -/
theorem digitsReads_holds : Rows.DigitsReadsCardSaid := lawDigitsReads.card
end Go.Proofs.YtnkjeojhiligpaaDoor
