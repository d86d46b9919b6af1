/- Part 3 of 3 of the proof of the law DigitsRomans: it is true at every input. Conditions: those of the given row, no others. -/
import Derived.Test.YtnkjeojhiligpaaDoorPkDigitsRomans0
import Derived.Lib.MapLaws
import Derived.KernelRfl
import Derived.Test.YtnkjeojhiligpaaDoorPkDigitsRomans1
import Derived.Test.YtnkjeojhiligpaaDoorCards
import Derived.Test.YtnkjeojhiligpaaDoorTie
import Derived.WalkKit
import Derived.ProofKit
import Derived.OpenShut
import Derived.ShutString
import Derived.ChangeOld
import Derived.Below
import Derived.SizedLaws
import Derived.Carry
import Derived.Lib.SmallJoins
import Derived.PinnedBridge
import Derived.Lay
import Derived.LaidOnce
import Derived.SevenTiedAt
set_option linter.unusedVariables false
set_option linter.unusedSimpArgs false
namespace Go.Proofs.YtnkjeojhiligpaaDoor.Dig08
open Go.RowKit Go.Proofs.YtnkjeojhiligpaaDoor.Ten
def dl (s : ByteArray) (i : Nat) : List UInt8 := s.data.toList.drop i
theorem dl_cons (s : ByteArray) (i : Nat) (h : i < s.size) : dl s i = s.get! i :: dl s (i + 1) := by
  have hl : i < s.data.toList.length := by rw [Array.length_toList]; exact h
  unfold dl
  rw [List.drop_eq_getElem_cons hl]
  congr 1
  show s.data[i]'h = s.data[i]!
  exact (getElem!_pos s.data i h).symm
theorem dl_nil (s : ByteArray) (i : Nat) (h : s.size ≤ i) : dl s i = [] := by
  unfold dl
  exact List.drop_eq_nil_of_le (by rw [Array.length_toList]; exact h)
end Go.Proofs.YtnkjeojhiligpaaDoor.Dig08
set_option linter.unusedVariables false
set_option linter.unusedSimpArgs false
set_option maxRecDepth 100000
namespace Go.Proofs.YtnkjeojhiligpaaDoor.RomH
open Go.RowKit Go.Proofs.YtnkjeojhiligpaaDoorW.PrintWords Go.Proofs.YtnkjeojhiligpaaDoorW.PrintLast Go.Proofs.YtnkjeojhiligpaaDoorW.PrintMore Go.Proofs.YtnkjeojhiligpaaDoor.H Go.Proofs.YtnkjeojhiligpaaDoor.Rom8 Go.Proofs.YtnkjeojhiligpaaDoor.RomP
open Go.Proofs.YtnkjeojhiligpaaDoor.Dig08 (dl dl_cons dl_nil)
theorem Ev.some {α : Type} {g : Nat → Option α} {r : α} (h : ∀ k, g (k + 1) = some r) : Ev g r := Ev.step (f := fun _ => Option.some r) h (Ev.now r)
theorem toL (l : Array UInt8) : (⟨l⟩ : ByteArray).toList = l.toList := by rw [ByteArray.toList_eq]
theorem toLd (l : ByteArray) : l.toList = l.data.toList := by rw [ByteArray.toList_eq]
theorem p1 (d : Nat) (hd : d < 10) : digits_piece.f (d : Int) (⟨#[67]⟩ : ByteArray) (⟨#[68]⟩ : ByteArray) (⟨#[77]⟩ : ByteArray) = some ⟨(pc d [67] [68] [77]).toArray⟩ := by
  rcases (by omega : d = 0 ∨ d = 1 ∨ d = 2 ∨ d = 3 ∨ d = 4 ∨ d = 5 ∨ d = 6 ∨ d = 7 ∨ d = 8 ∨ d = 9) with rfl | rfl | rfl | rfl | rfl | rfl | rfl | rfl | rfl | rfl <;> kernel_rfl
theorem p2 (d : Nat) (hd : d < 10) : digits_piece.f (d : Int) (⟨#[88]⟩ : ByteArray) (⟨#[76]⟩ : ByteArray) (⟨#[67]⟩ : ByteArray) = some ⟨(pc d [88] [76] [67]).toArray⟩ := by
  rcases (by omega : d = 0 ∨ d = 1 ∨ d = 2 ∨ d = 3 ∨ d = 4 ∨ d = 5 ∨ d = 6 ∨ d = 7 ∨ d = 8 ∨ d = 9) with rfl | rfl | rfl | rfl | rfl | rfl | rfl | rfl | rfl | rfl <;> kernel_rfl
theorem p3 (d : Nat) (hd : d < 10) : digits_piece.f (d : Int) (⟨#[73]⟩ : ByteArray) (⟨#[86]⟩ : ByteArray) (⟨#[88]⟩ : ByteArray) = some ⟨(pc d [73] [86] [88]).toArray⟩ := by
  rcases (by omega : d = 0 ∨ d = 1 ∨ d = 2 ∨ d = 3 ∨ d = 4 ∨ d = 5 ∨ d = 6 ∨ d = 7 ∨ d = 8 ∨ d = 9) with rfl | rfl | rfl | rfl | rfl | rfl | rfl | rfl | rfl | rfl <;> kernel_rfl
theorem p0 (d : Nat) (hd : d < 4) : strings_Repeat.f (⟨#[77]⟩ : ByteArray) (d : Int) = some ⟨(pc d [77] [] []).toArray⟩ := by
  rcases (by omega : d = 0 ∨ d = 1 ∨ d = 2 ∨ d = 3) with rfl | rfl | rfl | rfl <;> kernel_rfl
theorem roman_is (n : Nat) (h : n ≤ 3999) : digits_roman.f (n : Int) = some ⟨(rom n).toArray⟩ := by
  have l1 := pc_len (n / 1000) [77] [] [] (by decide) (by decide) (by decide)
  have l2 := pc_len (n / 100 % 10) [67] [68] [77] (by decide) (by decide) (by decide)
  have l3 := pc_len (n / 10 % 10) [88] [76] [67] (by decide) (by decide) (by decide)
  have l4 := pc_len (n % 10) [73] [86] [88] (by decide) (by decide) (by decide)
  unfold digits_roman.f
  rw [z1 n h, z2 n h, z3 n h, z4, z4, z4, p0 _ (by omega)]
  simp only [Option.bind_some]
  rw [p1 _ (by omega)]
  simp only [Option.bind_some]
  rw [if_pos (by rw [mks, mks]; omega), p2 _ (by omega)]
  simp only [Option.bind_some]
  rw [app, if_pos (by rw [mks, mks, List.length_append]; omega), p3 _ (by omega)]
  simp only [Option.bind_some]
  rw [app, if_pos (by rw [mks, mks, List.length_append, List.length_append]; omega), app]
  rfl
theorem lower_is (l : List UInt8) (h1 : l.length ≤ 100) (h2 : ∀ b ∈ l, b.toNat < 128) : strings_ToLower.f ⟨l.toArray⟩ = some ⟨(Lib.toLowerA l).toArray⟩ := by
  unfold strings_ToLower.f
  rw [if_pos ⟨by rw [mks]; omega, h2⟩]
theorem upper_is (l : List UInt8) (h1 : l.length ≤ 100) (h2 : ∀ b ∈ l, b.toNat < 128) : strings_ToUpper.f ⟨l.toArray⟩ = some ⟨(Lib.toUpperA l).toArray⟩ := by
  unfold strings_ToUpper.f
  rw [if_pos ⟨by rw [mks]; omega, h2⟩]
theorem rom_ascii (n : Nat) : ∀ b ∈ rom n, b.toNat < 128 := rom_all _ (fun b hb => by have := (cap_facts b hb).2.2.1; omega) n
theorem roman_ev (n : Int) (small : Bool) : Ev (fun k => digits_Roman.f k n small) (Rom8.f n small) := by
  refine Ev.some fun k => ?_
  unfold digits_Roman.f Rom8.f
  by_cases h1 : n < 1
  · rw [if_pos h1, if_pos (.inl h1)]
    simp only [digits_Roman.j0]
    rw [if_pos trivial]
  rw [if_neg h1]
  by_cases h2 : 3999 < n
  · rw [if_pos (.inr h2), show decide (n > 3999) = true from decide_eq_true h2]
    simp only [digits_Roman.j0]
    rw [if_pos trivial]
  rw [if_neg (by omega), show decide (n > 3999) = false from decide_eq_false h2]
  obtain ⟨n, rfl⟩ := Int.eq_ofNat_of_zero_le (show 0 ≤ n by omega)
  simp only [digits_Roman.j0]
  rw [if_neg Bool.false_ne_true, roman_is n (by omega), Int.toNat_natCast]
  simp only [Option.bind_some]
  cases small with
  | false => rw [if_neg Bool.false_ne_true, if_neg Bool.false_ne_true]
  | true =>
    have hl := rom_len n
    rw [if_pos rfl, if_pos rfl, lower_is (rom n) (by omega) (rom_ascii n), lower_rom]
    rfl
theorem awake_ev : Ev (fun k => idiomlaw08_awake.f k) true := by
  have h := roman_ev 1994 false
  obtain ⟨K, hK⟩ := h
  refine ⟨K, fun k hk => ?_⟩
  have r1 : digits_Render.f (⟨#[97, 114, 97, 98]⟩ : ByteArray) (⟨#[49, 48]⟩ : ByteArray) = some (⟨#[217, 161, 217, 160]⟩, 0) := by kernel_rfl
  have r2 : digits_Read.f (⟨#[108, 97, 116, 110]⟩ : ByteArray) (⟨#[49, 50, 32, 120]⟩ : ByteArray) = some (⟨#[49, 50]⟩, 2, 0) := by kernel_rfl
  have r3 : digits_Roman.f k 1994 false = some (⟨#[77, 67, 77, 88, 67, 73, 86]⟩, 0) := hK k hk
  show idiomlaw08_awake.f k = _
  unfold idiomlaw08_awake.f
  rw [r1, r2, r3]
  simp only [Option.bind_some]
  rw [if_pos (by rw [toL]), if_pos trivial, if_pos (by rw [toL]), if_pos trivial, if_pos trivial, if_pos (by rw [toL])]
  rfl
theorem bt_nat (s : ByteArray) (i : Nat) (h : i < s.size) : bt s (i : Int) = ((s.get! i).toNat : Int) := by
  have h2 : ((i : Int)).toNat < s.size := by omega
  rw [← bt_at s (i : Int) h2]
  congr 1
  have e : s.get! i = s[i]'h := by
    show s.data[i]! = s.data[i]'h
    exact getElem!_pos s.data i h
  rw [e]
  congr 1
theorem wr2 {x y : Int} (h : -1000000000000000 ≤ x ∧ x ≤ 1000000000000000) (e : x = y) : wrap64 x = y := by rw [w64 (by omega) (by omega)]; exact e
/-- The end of the layer's reading. -/
def fin (s : List UInt8) (v : Int) : Int × Int := if v < 1 then (0, 82) else if v > 3999 then (0, 82) else if rom v.toNat = s then (v, 0) else (0, 82)
theorem sum_loop (s : ByteArray) (hs : s.size ≤ 15) : ∀ (d i : Nat) (acc : Int), i + d = s.size → -1000 * (i : Int) ≤ acc ∧ acc ≤ 1000 * (i : Int) → Ev (fun k => digits_FromRoman.l0 k s acc (s.size : Int) (i : Int)) (fin s.data.toList (acc + valL (dl s i))) := by
  intro d
  induction d with
  | zero =>
    intro i acc h1 h2
    refine Ev.some fun k => ?_
    simp only [digits_FromRoman.l0]
    rw [if_neg (by omega), dl_nil s i (by omega)]
    simp only [valL, Int.add_zero]
    unfold fin
    by_cases c1 : acc < 1
    · rw [if_pos c1, if_pos c1]
    rw [if_neg c1, if_neg c1]
    by_cases c2 : acc > 3999
    · rw [if_pos c2, if_pos c2]
    rw [if_neg c2, if_neg c2]
    obtain ⟨n, rfl⟩ := Int.eq_ofNat_of_zero_le (show 0 ≤ acc by omega)
    rw [roman_is n (by omega), Int.toNat_natCast]
    simp only [Option.bind_some]
    rw [toL, toLd]
    simp only []
    by_cases c3 : rom n = s.data.toList
    · rw [if_pos c3, if_pos c3]
    · rw [if_neg c3, if_neg c3]
  | succ d ih =>
    intro i acc h1 h2
    have hi : i < s.size := by omega
    have eb := bt_nat s i hi
    have w : wrap64 ((i : Int) + 1) = ((i + 1 : Nat) : Int) := wr2 (by omega) (by omega)
    have W := Aside0.mk w
    have wb := wr_bound (s.get! i)
    have wdef : digits_worth.f (((s.get! i).toNat : Nat) : Int) = some (wr (s.get! i)) := rfl
    clear w
    rw [dl_cons s i hi]
    by_cases hj : i + 1 < s.size
    · have eb2 := bt_nat s (i + 1) hj
      have wdef2 : digits_worth.f (((s.get! (i + 1)).toNat : Nat) : Int) = some (wr (s.get! (i + 1))) := rfl
      have wneg : Aside0 (wrap64 (-wr (s.get! i)) = -wr (s.get! i)) := ⟨wr2 (by omega) rfl⟩
      have wsum : Aside0 (wrap64 (acc + -wr (s.get! i)) = acc + -wr (s.get! i)) := ⟨wr2 (by omega) rfl⟩
      have wsum2 : Aside0 (wrap64 (acc + wr (s.get! i)) = acc + wr (s.get! i)) := ⟨wr2 (by omega) rfl⟩
      rw [dl_cons s (i + 1) hj]
      simp only [valL]
      rw [← dl_cons s (i + 1) hj]
      have first : ∀ k, digits_FromRoman.l0 (k + 1) s acc (s.size : Int) (i : Int) = if wr (s.get! i) < wr (s.get! (i + 1)) then digits_FromRoman.l0 k s (acc + -wr (s.get! i)) (s.size : Int) ((i + 1 : Nat) : Int) else digits_FromRoman.l0 k s (acc + wr (s.get! i)) (s.size : Int) ((i + 1 : Nat) : Int) := by
        intro k
        simp only [digits_FromRoman.l0]
        rw [if_pos (by omega), if_pos (by omega), if_pos (by omega), eb, wdef, W.out]
        simp only [Option.bind_some]
        rw [if_pos (by omega), if_pos (by omega), eb2, wdef2]
        simp only [Option.bind_some]
        rw [wneg.out, wsum.out, wsum2.out]
      refine Ev.step first ?_
      by_cases c : wr (s.get! i) < wr (s.get! (i + 1))
      · rw [if_pos c, ← Int.add_assoc]
        exact Ev.congr (fun k => if_pos c) (ih (i + 1) _ (by omega) (by omega))
      · rw [if_neg c, ← Int.add_assoc]
        exact Ev.congr (fun k => if_neg c) (ih (i + 1) _ (by omega) (by omega))
    · have wsum2 : Aside0 (wrap64 (acc + wr (s.get! i)) = acc + wr (s.get! i)) := ⟨wr2 (by omega) rfl⟩
      have e : valL (s.get! i :: dl s (i + 1)) = wr (s.get! i) + valL (dl s (i + 1)) := by
        rw [dl_nil s (i + 1) (by omega)]
        simp only [valL, Int.add_zero]
      rw [e, ← Int.add_assoc]
      have first : ∀ k, digits_FromRoman.l0 (k + 1) s acc (s.size : Int) (i : Int) = digits_FromRoman.l0 k s (acc + wr (s.get! i)) (s.size : Int) ((i + 1 : Nat) : Int) := by
        intro k
        simp only [digits_FromRoman.l0]
        rw [if_pos (by omega), if_pos (by omega), if_pos (by omega), eb, wdef, W.out]
        simp only [Option.bind_some]
        rw [if_neg (by omega), wsum2.out]
      exact Ev.step first (ih (i + 1) _ (by omega) (by omega))
theorem fin_rom (n : Nat) (h1 : 1 ≤ n) (h2 : n ≤ 3999) : fin (rom n) (valL (rom n)) = ((n : Int), 0) := by
  unfold fin
  rw [val_rom n h1 h2, if_neg (by omega), if_neg (by omega), Int.toNat_natCast, if_pos rfl]
theorem fin_not (s : List UInt8) (v : Int) (h : ∀ n, 1 ≤ n → n ≤ 3999 → rom n ≠ s) : fin s v = (0, 82) := by
  unfold fin
  by_cases c1 : v < 1
  · rw [if_pos c1]
  rw [if_neg c1]
  by_cases c2 : v > 3999
  · rw [if_pos c2]
  rw [if_neg c2, if_neg (h v.toNat (by omega) (by omega))]
theorem mk_data (s : ByteArray) : s = ⟨s.data.toList.toArray⟩ := by simp
theorem from_ev (s : ByteArray) : Ev (fun k => digits_FromRoman.f k s) (frD s.data.toList) := by
  have hsz : s.data.toList.length = s.size := Array.length_toList
  have bad : ∀ (b : Bool), b = true → Ev (fun k => digits_FromRoman.j0 k s b) (0, 82) := fun b hb => Ev.some fun k => by
    rw [hb]
    simp only [digits_FromRoman.j0]
    rw [if_pos trivial]
  by_cases c1 : (s.size : Int) > 15
  · have hm : frD s.data.toList = (0, 82) := frD_miss _ fun n h1 h2 => by
      have hl := rom_len15 n h2
      exact ⟨fun e => by rw [e] at hsz; omega, fun e => by rw [e, low_len] at hsz; omega⟩
    rw [hm]
    exact Ev.congr (fun k => if_pos c1) (bad true rfl)
  have tr : strings_Trim.f s (⟨#[73, 86, 88, 76, 67, 68, 77, 105, 118, 120, 108, 99, 100, 109]⟩ : ByteArray) = some ⟨(Lib.trimS s.data.toList cs).toArray⟩ := by
    unfold strings_Trim.f
    rw [if_pos ⟨by omega, by decide, fun b hb => (cs_facts b hb).2.1⟩]
    rfl
  have e0 : ∀ k, digits_FromRoman.f k s = digits_FromRoman.j0 k s (Lib.trimS s.data.toList cs != ([] : List UInt8)) := by
    intro k
    unfold digits_FromRoman.f
    rw [if_neg c1, tr]
    simp only [Option.bind_some]
    rw [toL]
  refine Ev.congr e0 ?_
  by_cases c2 : ∀ b ∈ s.data.toList, b ∈ cs
  · have e1 : (Lib.trimS s.data.toList cs != ([] : List UInt8)) = false := by rw [(trim_nil _ _).2 c2]; rfl
    have asc : ∀ b ∈ s.data.toList, b.toNat < 128 := fun b hb => (cs_facts b (c2 b hb)).2.1
    have up : strings_ToUpper.f s = some ⟨(Lib.toUpperA s.data.toList).toArray⟩ := by
      have h := upper_is s.data.toList (by omega) asc
      rwa [← mk_data s] at h
    have lo : strings_ToLower.f s = some ⟨(Lib.toLowerA s.data.toList).toArray⟩ := by
      have h := lower_is s.data.toList (by omega) asc
      rwa [← mk_data s] at h
    rw [e1]
    have ul : (Lib.toUpperA s.data.toList).length = s.size := by unfold Lib.toUpperA; rw [List.length_map, hsz]
    have uz : (⟨(Lib.toUpperA s.data.toList).toArray⟩ : ByteArray).size = s.size := by rw [mks, ul]
    have good : Ev (fun k => digits_FromRoman.j1 k ⟨(Lib.toUpperA s.data.toList).toArray⟩ false) (fin (Lib.toUpperA s.data.toList) (valL (Lib.toUpperA s.data.toList))) := by
      have h := sum_loop ⟨(Lib.toUpperA s.data.toList).toArray⟩ (by omega) _ 0 0 (Nat.zero_add _) (by omega)
      have e : dl ⟨(Lib.toUpperA s.data.toList).toArray⟩ 0 = Lib.toUpperA s.data.toList := by unfold dl; simp
      rw [e, Int.zero_add] at h
      refine Ev.step (fun k => ?_) h
      simp only [digits_FromRoman.j1]
      rw [if_neg Bool.false_ne_true]
      rfl
    have first : ∀ k, digits_FromRoman.j0 (k + 1) s false = if s.data.toList = Lib.toUpperA s.data.toList then digits_FromRoman.j1 k ⟨(Lib.toUpperA s.data.toList).toArray⟩ false else digits_FromRoman.j1 k ⟨(Lib.toUpperA s.data.toList).toArray⟩ (s.data.toList != Lib.toLowerA s.data.toList) := by
      intro k
      simp only [digits_FromRoman.j0]
      rw [if_neg Bool.false_ne_true, up, lo]
      simp only [Option.bind_some]
      rw [toL, toL, toLd]
    refine Ev.step first ?_
    rcases frD_cases s.data.toList with ⟨n, h1, h2, h | h⟩ | hm
    · rw [frD_hit _ n h1 h2 (.inl h)]
      have hu : Lib.toUpperA s.data.toList = rom n := by rw [h, upper_rom]
      refine Ev.congr (fun k => if_pos (by rw [hu, h])) ?_
      rw [hu, fin_rom n h1 h2] at good
      rw [hu]
      exact good
    · rw [frD_hit _ n h1 h2 (.inr h)]
      have hu : Lib.toUpperA s.data.toList = rom n := by rw [h, upper_low]
      have hl : Lib.toLowerA s.data.toList = s.data.toList := by rw [h, lower_low]
      refine Ev.congr (fun k => by rw [if_neg (by rw [hu, h]; exact fun e => rom_ne_low n n h1 h2 e.symm), hl, bne_self_eq_false]) ?_
      rw [hu, fin_rom n h1 h2] at good
      rw [hu]
      exact good
    · rw [frD_miss _ hm]
      by_cases c3 : s.data.toList = Lib.toUpperA s.data.toList
      · refine Ev.congr (fun k => if_pos c3) ?_
        rw [fin_not _ _ (fun n h1 h2 e => (hm n h1 h2).1 (c3.trans e.symm))] at good
        exact good
      · refine Ev.congr (fun k => if_neg c3) ?_
        by_cases c4 : s.data.toList = Lib.toLowerA s.data.toList
        · have hb : (s.data.toList != Lib.toLowerA s.data.toList) = false := bne_eq_false_iff_eq.2 c4
          rw [hb]
          rw [fin_not _ _ (fun n h1 h2 e => (hm n h1 h2).2 ?_)] at good
          · exact good
          · rw [c4, ← lower_rom, e]
            unfold Lib.toLowerA Lib.toUpperA
            rw [List.map_map]
            exact List.map_congr_left fun b hb => (cs_facts b (c2 b hb)).1.symm
        · have hb : (s.data.toList != Lib.toLowerA s.data.toList) = true := bne_iff_ne.2 c4
          rw [hb]
          exact Ev.some fun k => by
            simp only [digits_FromRoman.j1]
            rw [if_pos trivial]
  · have e1 : (Lib.trimS s.data.toList cs != ([] : List UInt8)) = true := bne_iff_ne.2 fun e => c2 ((trim_nil _ _).1 e)
    have hm : frD s.data.toList = (0, 82) := frD_miss _ fun n h1 h2 => ⟨fun e => c2 (by rw [e]; exact rom_all _ (fun b hb => (cap_facts b hb).2.2.2.1) n), fun e => c2 (by rw [e]; exact low_all _ (fun b hb => (cap_facts b hb).2.2.2.2.1) n)⟩
    rw [hm, e1]
    exact bad true rfl
theorem ref_loop (s : ByteArray) : ∀ (d x : Nat), x + d = 4000 → 1 ≤ x → Ev (fun k => idiomref08_FromRoman.l0 k s (x : Int)) (match find s.data.toList d x with | some n => ((n : Int), 0) | none => (0, 82)) := by
  intro d
  induction d with
  | zero =>
    intro x h1 h2
    refine Ev.some fun k => ?_
    simp only [idiomref08_FromRoman.l0, find]
    rw [if_neg (by omega)]
  | succ d ih =>
    intro x h1 h2
    have w : wrap64 ((x : Int) + 1) = ((x + 1 : Nat) : Int) := wr2 (by omega) (by omega)
    have W := Aside0.mk w
    clear w
    have r1 : idiomref08_Roman.f (x : Int) false = some (⟨(rom x).toArray⟩, 0) := by
      unfold idiomref08_Roman.f Rom8.f
      rw [if_neg (by omega), if_neg Bool.false_ne_true, Int.toNat_natCast]
    have r2 : idiomref08_Roman.f (x : Int) true = some (⟨(low (rom x)).toArray⟩, 0) := by
      unfold idiomref08_Roman.f Rom8.f
      rw [if_neg (by omega), if_pos rfl, Int.toNat_natCast]
    have first : ∀ k, idiomref08_FromRoman.l0 (k + 1) s (x : Int) = if isN s.data.toList x = true then some ((x : Int), 0) else idiomref08_FromRoman.l0 k s ((x + 1 : Nat) : Int) := by
      intro k
      simp only [idiomref08_FromRoman.l0]
      rw [if_pos (by omega), r1, r2]
      simp only [Option.bind_some]
      rw [toL, toL, toLd, W.out]
      simp only []
      by_cases c1 : s.data.toList = rom x
      · rw [if_pos c1, if_pos ((isN_iff _ _).2 (.inl c1))]
      · rw [if_neg c1]
        by_cases c2 : s.data.toList = low (rom x)
        · rw [if_pos c2, if_pos ((isN_iff _ _).2 (.inr c2))]
        · rw [if_neg c2, if_neg (fun e => ((isN_iff _ _).1 e).elim c1 c2)]
    refine Ev.step first ?_
    simp only [find]
    by_cases c : isN s.data.toList x = true
    · rw [if_pos c]
      exact Ev.congr (fun k => if_pos c) (Ev.now _)
    · rw [if_neg c]
      exact Ev.congr (fun k => if_neg c) (ih (x + 1) (by omega) (by omega))
theorem ref_ev (s : ByteArray) : Ev (fun k => idiomref08_FromRoman.f k s) (frD s.data.toList) := by
  have hsz : s.data.toList.length = s.size := Array.length_toList
  unfold idiomref08_FromRoman.f
  by_cases c1 : (s.size : Int) > 15
  · have hm : frD s.data.toList = (0, 82) := frD_miss _ fun n h1 h2 => by
      have hl := rom_len15 n h2
      exact ⟨fun e => by rw [e] at hsz; omega, fun e => by rw [e, low_len] at hsz; omega⟩
    rw [hm]
    exact Ev.congr (fun k => if_pos c1) (Ev.now _)
  · refine Ev.congr (fun k => if_neg c1) ?_
    exact ref_loop s 3999 1 rfl (Nat.le_refl _)
end Go.Proofs.YtnkjeojhiligpaaDoor.RomH
set_option linter.unusedVariables false
set_option linter.unusedSimpArgs false
namespace Go.Proofs.YtnkjeojhiligpaaDoor.DigitsRomans
open Go.RowKit Go.Proofs.YtnkjeojhiligpaaDoorW.PrintWords Go.Proofs.YtnkjeojhiligpaaDoorW.PrintLast Go.Proofs.YtnkjeojhiligpaaDoorW.PrintMore Go.Proofs.YtnkjeojhiligpaaDoor.H Go.Proofs.YtnkjeojhiligpaaDoor.Rom8 Go.Proofs.YtnkjeojhiligpaaDoor.RomP Go.Proofs.YtnkjeojhiligpaaDoor.RomH
theorem law (n : Int) (small : Bool) (s : ByteArray) : ∃ k, idiomlaw08_DigitsRomans.f k n small s = some true := by
  apply Ev.rounds (g := fun k => idiomlaw08_DigitsRomans.f k n small s)
  unfold idiomlaw08_DigitsRomans.f
  refine Ev.bind (roman_ev n small) ?_
  have e : idiomref08_Roman.f n small = some (Rom8.f n small) := rfl
  rw [e]
  simp only [Option.bind_some]
  refine Ev.congr (fun k => by rw [if_pos trivial, if_pos trivial]) (Ev.bind awake_ev ?_)
  refine Ev.step (f := fun k => (digits_FromRoman.f k s).bind fun bt132 => ((idiomref08_FromRoman.f k s).bind fun bt134 => (if bt132.1 = bt134.1 then (some (bt132.2 == bt134.2)) else (none)))) (fun k => ?_) (Ev.bind (from_ev s) (Ev.bind (ref_ev s) ?_))
  · simp only [idiomlaw08_DigitsRomans.j0]
    rw [if_neg (by decide)]
  · rw [if_pos rfl, beq_self_eq_true]
    exact Ev.now _
end Go.Proofs.YtnkjeojhiligpaaDoor.DigitsRomans
set_option linter.unusedVariables false
set_option linter.unusedSimpArgs false
namespace Go.Proofs.YtnkjeojhiligpaaDoor.lawDigitsRomans
open Go.ChangeShapes Go.WideShapes Go.ChangeAt Go.RowKit
open Go.ChangeMaps (open_string shut_string)
theorem own : ownKnob Tryd.prog.godebug = none := by kernel_rfl
theorem laidOut : laidOutB Tryd.prog = true := by kernel_rfl
set_option maxRecDepth 100000 in
theorem lifted (os : Os) (started : os.Started) (H : Type) (enc : TypeId × Value → H) :
    ReturnsInHanded {} Tryd.checked os 5 .any (fun w args => (Rows.digitsRomansSpec.pre enc Tryd.prog Tryd.f5 [] false w args ∧ laidMetH Tryd.prog Rows.digitsRomansRow.laid w) ∧ sizedMet enc Tryd.prog Tryd.f5 (OpenSpec.ofChange Rows.digitsRomansSpec) false w args)
      (Rows.digitsRomansSpec.post enc Tryd.prog Tryd.f5 false true false false) := by
  refine returnsInHanded_of_change_and (C := Tryd.checked) (X := (fun w _ => laidMetH Tryd.prog Rows.digitsRomansRow.laid w)) (fun _ _ _ hh h => h.of_heap hh) own started (by kernel_rfl) Tryd.func5
    (ChangeSpec.witness_shaped (enc := enc) (C := Tryd.checked) (os := os) (X := (fun w _ => laidMetH Tryd.prog Rows.digitsRomansRow.laid w)) false (World.laidAll Tryd.prog os Rows.digitsRomansRow.laid) #[.int .i64 0, .bool false, .string ByteArray.empty] 12 (World.laidAll_os _ _ _)
      (World.shaped_of_ZipB (by kernel_rfl) (by kernel_rfl)) (by kernel_rfl) (by kernel_rfl) (by kernel_rfl)
      (by rw [MakeChecks.laidMetH_plain _ _ _ (by kernel_rfl)]; exact laidMet_laidAll _ (by kernel_rfl) (by kernel_rfl))) ?_
  intro W base args ds gs before hval0 hW _ hsz0 hL0 _
  have hsz : (DataW.weightsEach Tryd.prog (Tryd.f5.params.toList ++ Rows.digitsRomansSpec.plain.varTypes Tryd.prog) (ds ++ gs)).all (· ≤ reachBytes) = true := hsz0
  have hval : ∀ (j : Nat) t v, Tryd.f5.params[j]? = some t → args[j]? = some v → Value.okWide Tryd.prog W .any base t v := hval0
  have hW' := hW
  obtain ⟨p, q, hA0, hV, rfl, hfz, hnd⟩ := hW
  have hA : DataW.TrodAll enc Tryd.prog W 0 (fun _ => true) true Tryd.f5.params.toList args.toList ds p := hA0
  rw [Tryd.params5] at hA hval hsz
  obtain ⟨v0, vs0, d0, ds0, p0, q0, hargs, rfl, rfl, h0, r0⟩ := trodAll_cons hA
  obtain ⟨v1, vs1, d1, ds1, p1, q1, rfl, rfl, rfl, h1, r1⟩ := trodAll_cons r0
  obtain ⟨v2, vs2, d2, ds2, p2, q2, rfl, rfl, rfl, h2, r2⟩ := trodAll_cons r1
  obtain ⟨rfl, rfl, rfl⟩ := trodAll_nil r2
  obtain rfl : args = #[v0, v1, v2] := by cases args; simp_all
  obtain ⟨rfl, rfl⟩ := trodVars_none hV
  have k0 := h0
  have lt0 : ∀ x ∈ p0, x.block < W.heap.size := by obtain ⟨m, hm⟩ := k0; exact DataW.trod_lt m _ _ _ hm
  have k1 := h1
  have lt1 : ∀ x ∈ p1, x.block < W.heap.size := by obtain ⟨m, hm⟩ := k1; exact DataW.trod_lt m _ _ _ hm
  have k2 := h2
  have lt2 : ∀ x ∈ p2, x.block < W.heap.size := by obtain ⟨m, hm⟩ := k2; exact DataW.trod_lt m _ _ _ hm
  obtain ⟨a0, rfl, rfl, rfl, w0⟩ := open_int Tryd.underlying3 (hval 0 3 v0 rfl rfl) h0
  obtain ⟨a1, rfl, rfl, rfl⟩ := open_bool Tryd.underlying4 (hval 1 4 v1 rfl rfl) h1
  obtain ⟨a2, rfl, rfl, rfl, y2⟩ := open_string Tryd.underlying9 (hval 2 9 v2 rfl rfl) h2
  have w2 : a2.size ≤ 140737488351232 := by
    have z := sized_string hsz (j := 2) (t := 9) rfl rfl
    rw [Array.length_toList] at z
    exact z
  have hL1 : laidMet Tryd.prog Rows.digitsRomansRow.laid W := hL0
  have hG : Stray.Tabs W := utf8Tabs_of_reads (ρ := Tryd.lays260_ren) { Tryd.lays260 with } ⟨by kernel_rfl, by kernel_rfl, by kernel_rfl, by kernel_rfl, by kernel_rfl, by kernel_rfl, by kernel_rfl⟩ (Lib.laidMet.reads hL1 (.tail _ (.tail _ (.head _)))) (Lib.laidMet.reads hL1 (.head _))
  obtain ⟨k, hk⟩ := DigitsRomans.law a0 a1 a2
  refine (Go.Proofs.YtnkjeojhiligpaaDoor.H.idiomlaw08_DigitsRomans.calls k a0 a1 a2 true W hk hG).mono fun e W' ⟨he, bel0⟩ => ?_
  have bel : Below W.heap.size W W' := by first | exact bel0 | exact YtnkjeojhiligpaaDoorW.PrintWords.Drawn0.below bel0
  subst he
  exact ⟨_, rfl, _, _, _, [], _, [], hW', trodAll_mk1 (shut_bool Tryd.underlying4 _), (trodAll_cons_mk (Below.trod laidOut (by kernel_rfl) (of_decide_eq_true (by kernel_rfl)) k0 bel lt0) (trodAll_cons_mk (Below.trod laidOut (by kernel_rfl) (of_decide_eq_true (by kernel_rfl)) k1 bel lt1) (trodAll_cons_mk (Below.trod laidOut (by kernel_rfl) (of_decide_eq_true (by kernel_rfl)) k2 bel lt2) trodAll_mk0))), rfl, bel.frame _, fun h => by cases h⟩
theorem said : Rows.digitsRomansRow.holds Tryd.pinned (OpenSpec.ofChange Rows.digitsRomansSpec) :=
  OpenClaim.holds_of_wide 5 Tryd.f5 rfl rfl rfl rfl rfl rfl rfl ⟨rfl, rfl, rfl, rfl, rfl⟩ rfl rfl rfl rfl rfl (by kernel_rfl) Tryd.func5 (by kernel_rfl)
    (of_decide_eq_true (by kernel_rfl)) (by unfold Func.isWrapper; first | (rw [if_pos (by decide +kernel)]; kernel_rfl) | (rw [if_neg (by decide +kernel)]; exact ⟨rfl, rfl⟩))
    (fun os started H enc _ => lifted os started H enc)
theorem plain (f : FuncId) (fn : Func) (hf : Tryd.pinned.checked.prog.funcNamed "idiom/idiomlaw08.DigitsRomans" = some f) (hfn : Tryd.pinned.checked.prog.funcs[f]? = some fn) :
    false = Tryd.pinned.checked.prog.looks [] ∧ ∀ (j : Nat) t, fn.params[j]? = some t → Tryd.pinned.checked.prog.wantsStandIn t = false := by
  obtain rfl : f = 5 := Option.some.inj ((show Tryd.prog.funcNamed "idiom/idiomlaw08.DigitsRomans" = some 5 by kernel_rfl).symm.trans hf) |>.symm
  obtain rfl : fn = Tryd.f5 := (Option.some.inj (Tryd.func5.symm.trans hfn)).symm
  refine ⟨by kernel_rfl, fun j t ht => ?_⟩
  rw [Tryd.params5] at ht
  have hm : t ∈ [3, 4, 9] := by simpa using Array.mem_of_getElem? ht
  have hall : ([3, 4, 9].all fun u => !Tryd.prog.wantsStandIn u) = true := by kernel_rfl
  exact (show Tryd.prog.wantsStandIn t = false by simpa using List.all_eq_true.1 hall t hm)
/-- THE CARD. -/
theorem card : Rows.DigitsRomansCardSaid :=
  Claim7.holds_tied_plain_at .later [] _ _ _ _ said (fun _ h => by cases h) (by kernel_rfl) (fun _ h => by cases h) digitsRomans_row_tie rfl ⟨rfl, rfl⟩ (by kernel_rfl) rfl plain (by kernel_rfl)
#print axioms card
end Go.Proofs.YtnkjeojhiligpaaDoor.lawDigitsRomans
namespace Go.Proofs.YtnkjeojhiligpaaDoor
/-- The claim, under a short name. -/
theorem digitsRomans_holds : Rows.DigitsRomansCardSaid := lawDigitsRomans.card
end Go.Proofs.YtnkjeojhiligpaaDoor
