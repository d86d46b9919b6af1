/- Part 3 of 3 of the proof of the law RunesBack: it is true at every input. Conditions: those of the given row, no others. -/
import Derived.Test.YtigikjihagmokaaDoorPkRunesBack1
import Derived.Laws.BitsLemmas
import Derived.Test.YtigikjihagmokaaDoorPkRunesBack0
import Derived.Test.YtigikjihagmokaaDoorCards
import Derived.Test.YtigikjihagmokaaDoorTie
import Derived.WalkKit
import Derived.ProofKit
import Derived.OpenShut
import Derived.ShutString
import Derived.ChangeOld
import Derived.Below
import Derived.SizedLaws
import Derived.Carry
import Derived.Lib.SmallJoins
import Derived.PinnedBridge
import Derived.Lay
import Derived.LaidOnce
import Derived.SevenTiedAt
set_option linter.unusedVariables false
set_option linter.unusedSimpArgs false
namespace Go.Proofs.YtigikjihagmokaaDoor.Unesc01
open Go.RowKit Go.Proofs.YtigikjihagmokaaDoorW.PrintWords Go.Proofs.YtigikjihagmokaaDoorW.PrintLast Go.Proofs.YtigikjihagmokaaDoorW.PrintMore Go.Proofs.YtigikjihagmokaaDoor.F Go.Proofs.YtigikjihagmokaaDoor.RunesAwake Go.Proofs.YtigikjihagmokaaDoor.Step01 Go.Proofs.YtigikjihagmokaaDoor.Esc01
def ints (l : List UInt8) : List Int := l.map fun c => (c.toNat : Int)
theorem ints_length (l : List UInt8) : (ints l).length = l.length := by simp [ints]
theorem ints_app (a b : List UInt8) : ints (a ++ b) = ints a ++ ints b := by simp [ints]
theorem str_ints (l : List UInt8) : strOfNums (ints l) = ⟨l.toArray⟩ := by
  simp [strOfNums, ints, Function.comp_def]
theorem size_list (l : List UInt8) : (⟨l.toArray⟩ : ByteArray).size = l.length := by
  show l.toArray.size = l.length
  simp
def dl (s : ByteArray) (i : Nat) : List UInt8 := s.data.toList.drop i
theorem dl_cons (s : ByteArray) (i : Nat) (h : i < s.size) : dl s i = s.get! i :: dl s (i + 1) := by
  have hl : i < s.data.toList.length := by rw [Array.length_toList]; exact h
  unfold dl
  rw [List.drop_eq_getElem_cons hl]
  congr 1
  show s.data[i]'h = s.data[i]!
  exact (getElem!_pos s.data i h).symm
theorem dl_nil (s : ByteArray) (i : Nat) (h : s.size ≤ i) : dl s i = [] := by
  unfold dl
  exact List.drop_eq_nil_of_le (by rw [Array.length_toList]; exact h)
theorem dl_len (s : ByteArray) (i : Nat) : (dl s i).length = s.size - i := by
  unfold dl
  rw [List.length_drop, Array.length_toList]
  rfl
theorem dl_drop (s : ByteArray) (i n : Nat) : (dl s i).drop n = dl s (i + n) := by
  unfold dl
  rw [List.drop_drop]
theorem dl_extract (s : ByteArray) (a j : Nat) (h : a ≤ s.size) : dl (s.extract a s.size) j = dl s (a + j) := by
  unfold dl
  rw [ByteArray.data_extract, Array.toList_extract, List.extract_eq_take_drop, ← List.drop_drop]
  congr 1
  rw [List.take_of_length_le]
  rw [List.length_drop, Array.length_toList]
  exact Nat.le_refl _
/-- A hexadecimal digit, as the program finds it. -/
def dd (b : Int) : Int := Lib.indexByte [48, 49, 50, 51, 52, 53, 54, 55, 56, 57, 97, 98, 99, 100, 101, 102] (Go.bits .or .u8 b 32).toNat.toUInt8
def tst (b : Nat) : Bool := match hexv b with
  | none => decide (dd b < 0) || (decide (dd b < 10) && !decide ((b : Int) = Go.bits .or .u8 b 32))
  | some v => decide (dd b = v) && decide (v < 16) && (decide (10 ≤ v) || decide ((b : Int) = Go.bits .or .u8 b 32))
theorem tst_all : (List.range 256).all tst = true := by kernel_rfl
theorem tst_at (b : Nat) (h : b < 256) : tst b = true := List.all_eq_true.1 tst_all b (List.mem_range.2 h)
theorem join4 (n v : Nat) (hn : n < 134217728) (hv : v < 16) : Go.bits .or .i32 (wrap32 ((n : Int) * 16)) (wrap32 (v : Int)) = ((n * 16 + v : Nat) : Int) := by
  have e1 : wrap32 ((n : Int) * 16) = (n : Int) * 16 := by unfold wrap32; omega
  have e2 : wrap32 (v : Int) = v := by unfold wrap32; omega
  rw [e1, e2, bits_join .i32 31 (by decide) wraps_i32 4 ((n : Int) * 16) v (by omega) (by omega) (by omega) (by omega) (by omega) (by omega)]
  omega
def hexE (o : Option Nat) : Int × Bool := match o with | some n => ((n : Int), true) | none => (0, false)
theorem number_ev (t : ByteArray) (ht : t.size ≤ 140737488355328) : ∀ (d j n : Nat), j + d ≤ t.size → d ≤ 6 → n < 16 ^ (6 - d) →
    Ev (fun k => runes_number.l0 k t (n : Int) ((j + d : Nat) : Int) (j : Int)) (hexE (hexL d (dl t j) n)) := by
  intro d
  induction d with
  | zero =>
    intro j n h1 h2 h3
    refine Ev.some fun k => ?_
    simp only [runes_number.l0, hexL, hexE]
    rw [if_neg (by omega)]
  | succ d ih =>
    intro j n h1 h2 h3
    have hj : j < t.size := by omega
    have e16 : 16 ^ (6 - d) = 16 ^ (6 - (d + 1)) * 16 := by rw [show 6 - d = 6 - (d + 1) + 1 by omega, Nat.pow_succ]
    have b16 : 16 ^ (6 - (d + 1)) ≤ 16 ^ 5 := Nat.pow_le_pow_right (by decide) (by omega)
    have hn5 : n < 1048576 := by omega
    have eb := bt_nat t j hj
    have hb : (t.get! j).toNat < 256 := (t.get! j).toNat_lt
    have T := tst_at _ hb
    unfold tst at T
    have first : ∀ k, runes_number.l0 (k + 1) t (n : Int) ((j + (d + 1) : Nat) : Int) (j : Int) = (if dd (t.get! j).toNat < 0 then (some (0, false)) else (if dd (t.get! j).toNat < 10 then (if (((t.get! j).toNat : Nat) : Int) = (Go.bits .or .u8 (((t.get! j).toNat : Nat) : Int) 32) then (runes_number.l0 k t (Go.bits .or .i32 (wrap32 ((n : Int) * 16)) (wrap32 (dd (t.get! j).toNat))) ((j + (d + 1) : Nat) : Int) ((j + 1 : Nat) : Int)) else (some (0, false))) else (runes_number.l0 k t (Go.bits .or .i32 (wrap32 ((n : Int) * 16)) (wrap32 (dd (t.get! j).toNat))) ((j + (d + 1) : Nat) : Int) ((j + 1 : Nat) : Int)))) := by
      intro k
      have w1 : wrap64 ((j : Int) + 1) = ((j + 1 : Nat) : Int) := by rw [w64 (by omega) (by omega)]; omega
      simp only [runes_number.l0]
      rw [if_pos (by omega), if_pos (by omega), if_pos (by omega), eb, w1]
      rfl
    refine Ev.step first ?_
    rw [dl_cons t j hj]
    simp only [hexL]
    cases hv : hexv (t.get! j).toNat with
    | none =>
      rw [hv] at T
      simp only [Bool.or_eq_true, Bool.and_eq_true, decide_eq_true_eq, Bool.not_eq_true', decide_eq_false_iff_not] at T
      rcases T with T | ⟨T1, T2⟩
      · exact Ev.congr (fun k => if_pos T) (Ev.now _)
      · by_cases T0 : dd (t.get! j).toNat < 0
        · exact Ev.congr (fun k => if_pos T0) (Ev.now _)
        · exact Ev.congr (fun k => by rw [if_neg T0, if_pos T1, if_neg T2]; rfl) (Ev.now _)
    | some v =>
      rw [hv] at T
      simp only [Bool.or_eq_true, Bool.and_eq_true, decide_eq_true_eq] at T
      obtain ⟨⟨T1, T2⟩, T3⟩ := T
      have next := ih (j + 1) (n * 16 + v) (by omega) (by omega) (by omega)
      rw [show j + 1 + d = j + (d + 1) by omega] at next
      refine Ev.congr (fun k => ?_) next
      rw [T1, if_neg (by omega), join4 n v (by omega) T2]
      by_cases c : (v : Int) < 10
      · rw [if_pos c, if_pos (by rcases T3 with T3 | T3; · omega
                                 · exact T3)]
      · rw [if_neg c]
theorem hexL_short : ∀ (d : Nat) (l : List UInt8) (n : Nat), l.length < d → hexL d l n = none := by
  intro d
  induction d with
  | zero => intro l n h; omega
  | succ d ih =>
    intro l n h
    cases l with
    | nil => rfl
    | cons c l =>
      simp only [hexL]
      cases hexv c.toNat with
      | none => rfl
      | some v => exact ih l _ (by simp only [List.length_cons] at h; omega)
theorem pow_pos6 (d : Nat) : 0 < 16 ^ (6 - d) := Nat.pos_of_ne_zero (by simp)
theorem number_f (t : ByteArray) (d : Nat) (ht : t.size ≤ 140737488355328) (hd : d ≤ 6) : Ev (fun k => runes_number.f k t (d : Int)) (hexE (hexL d (dl t 0) 0)) := by
  by_cases c : t.size < d
  · refine Ev.congr (fun k => ?_) (Ev.now _)
    unfold runes_number.f
    rw [if_pos (by omega), hexL_short d _ _ (by rw [dl_len]; omega)]
    rfl
  · have e := number_ev t ht d 0 0 (by omega) hd (pow_pos6 d)
    rw [Nat.zero_add] at e
    refine Ev.congr (fun k => ?_) e
    unfold runes_number.f
    rw [if_neg (by omega)]
    rfl
theorem valid_f (n : Nat) : Ev (fun k => utf8_ValidRune.f k (n : Int)) (good n) := by
  refine Ev.step (f := fun k => utf8_ValidRune.f (k + 1) (n : Int)) (fun k => rfl) ?_
  refine Ev.congr (fun k => ?_) (Ev.now _)
  unfold utf8_ValidRune.f
  rw [if_pos (by omega)]
  simp only [utf8_ValidRune.j0]
  unfold good
  by_cases c1 : n < 55296
  · rw [if_pos (by rw [decide_eq_true_eq]; omega), decide_eq_true (by omega)]
  · rw [if_neg (by rw [decide_eq_true_eq]; omega)]
    by_cases c2 : 57343 < n
    · rw [if_pos (by omega)]
      by_cases c3 : n ≤ 1114111
      · rw [if_pos (by omega), decide_eq_true (by omega)]
      · rw [if_neg (by omega), decide_eq_false (by omega)]
    · rw [if_neg (by omega), decide_eq_false (by omega)]
theorem encZ_ints (r : Int) : ints (Lib.encodeRune r) = Lib.encodeRuneZ r := by
  have hb : ∀ x ∈ Lib.encodeRuneZ r, 0 ≤ x ∧ x ≤ 255 := by
    unfold Lib.encodeRuneZ
    repeat' split
    all_goals (intro x hx; simp only [List.mem_cons, List.not_mem_nil, or_false] at hx)
    · subst hx; omega
    · rcases hx with rfl | rfl <;> omega
    · rcases hx with rfl | rfl | rfl <;> omega
    · rcases hx with rfl | rfl | rfl | rfl <;> omega
    · rcases hx with rfl | rfl | rfl <;> omega
  unfold ints Lib.encodeRune
  rw [List.map_map]
  have : ∀ x ∈ Lib.encodeRuneZ r, ((fun c : UInt8 => (c.toNat : Int)) ∘ fun x : Int => x.toNat.toUInt8) x = x := by
    intro x hx
    obtain ⟨h0, h1⟩ := hb x hx
    simp only [Function.comp]
    rw [Nat.toUInt8_eq, UInt8.toNat_ofNat']
    omega
  rw [List.map_congr_left this, List.map_id']
theorem append_f (acc : List UInt8) (n : Nat) (hg : n < 55296 ∨ 57344 ≤ n ∧ n ≤ 1114111) (hl : acc.length ≤ 1048576) : Ev (fun k => utf8_AppendRune.f k (ints acc) (n : Int)) (ints (acc ++ Lib.encodeRune (n : Int))) := by
  have hL := ints_length acc
  have m : (n : Int) % 4294967296 = n := by omega
  rw [ints_app, encZ_ints]
  refine Ev.step (f := fun k => utf8_AppendRune.f (k + 1) (ints acc) (n : Int)) (fun k => rfl) ?_
  refine Ev.congr (fun k => ?_) (Ev.now _)
  unfold utf8_AppendRune.f
  rw [m]
  by_cases c1 : n ≤ 127
  · rw [if_pos (by omega), if_pos (by omega), Lib.encodeRuneZ_one (by omega) (by omega), show (n : Int) % 256 = n by omega]
  rw [if_neg (by omega)]
  unfold utf8_appendRuneNonASCII.f
  rw [m]
  by_cases c2 : n ≤ 2047
  · rw [if_pos (by omega), Lib.encodeRuneZ_two (by omega) (by omega), Aid.low6, show (n : Int) / 64 % 256 = n / 64 by omega, u8_or192 _ (by omega) (by omega)]
    simp only [Option.bind_some]
    rw [if_pos (by simp only [List.length_cons, List.length_nil]; omega)]
    rfl
  rw [if_neg (by omega)]
  have j0 : ∀ b : Bool, (b = true ↔ n ≤ 65535) → (utf8_appendRuneNonASCII.j0 (k + 1) (ints acc) (n : Int) (n : Int) b).bind (fun t217 => some t217) = some (ints acc ++ Lib.encodeRuneZ (n : Int)) := by
    intro b hb
    simp only [utf8_appendRuneNonASCII.j0]
    by_cases c3 : n ≤ 65535
    · rw [if_pos (hb.2 c3), Lib.encodeRuneZ_three (by omega), Aid.low6, Aid.low6, show (n : Int) / 4096 % 256 = n / 4096 by omega, u8_or224 _ (by omega) (by omega)]
      simp only [Option.bind_some]
      rw [if_pos (by simp only [List.length_cons, List.length_nil]; omega)]
      rfl
    · rw [if_neg (fun h => c3 (hb.1 h)), if_pos (by omega), if_pos (by omega), Lib.encodeRuneZ_four (by omega) (by omega), Aid.low6, Aid.low6, Aid.low6, show (n : Int) / 262144 % 256 = n / 262144 by omega, u8_or240 _ (by omega) (by omega)]
      simp only [Option.bind_some]
      rw [if_pos (by simp only [List.length_cons, List.length_nil]; omega)]
      rfl
  by_cases c4 : n < 55296
  · rw [if_pos (by omega)]
    exact j0 _ (by rw [decide_eq_true_eq]; omega)
  · rw [if_neg (by omega), if_pos (by omega)]
    exact j0 _ (by rw [decide_eq_true_eq]; omega)
end Go.Proofs.YtigikjihagmokaaDoor.Unesc01
set_option linter.unusedVariables false
set_option linter.unusedSimpArgs false
namespace Go.Proofs.YtigikjihagmokaaDoor.UnescP
open Go.RowKit Go.Proofs.YtigikjihagmokaaDoorW.PrintWords Go.Proofs.YtigikjihagmokaaDoorW.PrintLast Go.Proofs.YtigikjihagmokaaDoorW.PrintMore Go.Proofs.YtigikjihagmokaaDoor.F Go.Proofs.YtigikjihagmokaaDoor.RunesAwake Go.Proofs.YtigikjihagmokaaDoor.Step01 Go.Proofs.YtigikjihagmokaaDoor.Esc01 Go.Proofs.YtigikjihagmokaaDoor.Unesc01
theorem u8_ne (c : UInt8) (n : Nat) (hn : n < 256) : (c.toNat = n) ↔ c = n.toUInt8 := by
  constructor
  · intro h
    apply UInt8.toNat_inj.1
    rw [h, Nat.toUInt8_eq, UInt8.toNat_ofNat']
    omega
  · intro h
    rw [h, Nat.toUInt8_eq, UInt8.toNat_ofNat']
    omega
theorem enc4 (r : Int) : (Lib.encodeRune r).length ≤ 4 := by
  have := Lib.runeCells_le r
  rw [Lib.runeCells_length] at this
  omega
theorem escL_len (l p : List UInt8) (n : Nat) (h : escL l = some (p, n)) : p.length ≤ n ∧ 1 ≤ n ∧ n ≤ l.length := by
  cases l with
  | nil => simp [escL] at h
  | cons c l =>
    have hx : ∀ d, d ≤ l.length ∨ hexL d l 0 = none := by
      intro d
      by_cases hd : l.length < d
      · exact .inr (hexL_short d l 0 hd)
      · exact .inl (by omega)
    simp only [escL] at h
    have one : ∀ q : UInt8, some (([q] : List UInt8), 1) = some (p, n) → p.length ≤ n ∧ 1 ≤ n ∧ n ≤ (c :: l).length := by
      intro q hq
      simp only [Option.some.injEq, Prod.mk.injEq] at hq
      obtain ⟨rfl, rfl⟩ := hq
      simp
    split at h
    · exact one _ h
    split at h
    · exact one _ h
    split at h
    · exact one _ h
    split at h
    · exact one _ h
    split at h
    · rcases hx 2 with h2 | h2
      · cases hh : hexL 2 l 0 with
        | none => rw [hh] at h; simp at h
        | some m =>
          rw [hh] at h
          simp only [Option.bind_some, Option.some.injEq, Prod.mk.injEq] at h
          obtain ⟨rfl, rfl⟩ := h
          simp only [List.length_cons, List.length_nil]
          omega
      · rw [h2] at h; simp at h
    split at h
    · rcases hx 4 with h2 | h2
      · cases hh : hexL 4 l 0 with
        | none => rw [hh] at h; simp at h
        | some m =>
          rw [hh] at h
          simp only [Option.bind_some] at h
          split at h
          · simp only [Option.some.injEq, Prod.mk.injEq] at h
            obtain ⟨rfl, rfl⟩ := h
            have := enc4 (m : Int)
            simp only [List.length_cons]
            omega
          · cases h
      · rw [h2] at h; simp at h
    split at h
    · rcases hx 6 with h2 | h2
      · cases hh : hexL 6 l 0 with
        | none => rw [hh] at h; simp at h
        | some m =>
          rw [hh] at h
          simp only [Option.bind_some] at h
          split at h
          · simp only [Option.some.injEq, Prod.mk.injEq] at h
            obtain ⟨rfl, rfl⟩ := h
            have := enc4 (m : Int)
            simp only [List.length_cons]
            omega
          · cases h
      · rw [h2] at h; simp at h
    · cases h
def eres (acc : List UInt8) (o : Option (List UInt8 × Nat)) : List Int × Int := match o with | some (p, n) => (ints (acc ++ p), (n : Int)) | none => (ints acc, 0)
theorem j1_ev (acc : List UInt8) (d n : Nat) (hl : acc.length ≤ 1048576) (hd : d = 2 ∨ 2 < d ∧ d ≤ 6) (hg : 2 < d → good n = true) :
    Ev (fun k => runes_escaped.j1 k (ints acc) (d : Int) (n : Int) false) (eres acc (some (if d = 2 then [n.toUInt8] else Lib.encodeRune (n : Int), 1 + d))) := by
  have hL := ints_length acc
  by_cases c : d = 2
  · subst c
    refine Ev.some fun k => ?_
    simp only [runes_escaped.j1]
    rw [if_neg (by decide), if_pos (by decide), if_pos (by omega)]
    simp only [eres, if_true]
    have e : (n : Int) % 256 = ((n.toUInt8.toNat : Nat) : Int) := by rw [Nat.toUInt8_eq, UInt8.toNat_ofNat']; omega
    rw [e, ints_app]
    rfl
  · rw [if_neg c]
    have cd : 2 < d := by omega
    have hgd := hg cd
    unfold good at hgd
    have ap := append_f acc n (of_decide_eq_true hgd) hl
    refine Ev.step (f := fun k => (utf8_AppendRune.f k (ints acc) (n : Int)).bind fun t239 => some (t239, wrap64 (1 + (d : Int)))) (fun k => ?_) (Ev.bind ap ?_)
    · simp only [runes_escaped.j1]
      rw [if_neg (by decide), if_neg (by omega)]
    · have w : wrap64 (1 + (d : Int)) = ((1 + d : Nat) : Int) := by rw [w64 (by omega) (by omega)]; omega
      rw [w]
      exact Ev.now _
/-- The escape of so many digits, told alike for the program and the reference. -/
def many (d : Nat) (l : List UInt8) : Option (List UInt8 × Nat) := (hexL d l 0).bind fun n => if d = 2 then some ([n.toUInt8], 3) else if good n = true then some (Lib.encodeRune (n : Int), 1 + d) else none
theorem many2 (l : List UInt8) : ((hexL 2 l 0).bind fun n => some ([n.toUInt8], 3)) = many 2 l := rfl
theorem many4 (l : List UInt8) : ((hexL 4 l 0).bind fun n => if good n = true then some (Lib.encodeRune (n : Int), 5) else none) = many 4 l := rfl
theorem many6 (l : List UInt8) : ((hexL 6 l 0).bind fun n => if good n = true then some (Lib.encodeRune (n : Int), 7) else none) = many 6 l := rfl
theorem j0_ev (acc : List UInt8) (t : ByteArray) (d : Nat) (ht : t.size ≤ 1048576) (h1 : 1 ≤ t.size) (hl : acc.length ≤ 1048576) (hd : d = 2 ∨ 2 < d ∧ d ≤ 6) : Ev (fun k => runes_escaped.j0 k (ints acc) t (d : Int)) (eres acc (many d (dl t 1))) := by
  have hz : (t.extract 1 t.size).size ≤ 140737488355328 := by rw [ByteArray.size_extract]; omega
  have nu := number_f (t.extract 1 t.size) d hz (by omega)
  rw [dl_extract t 1 0 h1] at nu
  refine Ev.step (f := fun k => (runes_number.f k (t.extract 1 t.size) (d : Int)).bind fun bt233 => (if bt233.2 = true then (if (d : Int) > 2 then ((utf8_ValidRune.f k bt233.1).bind fun t235 => (runes_escaped.j1 k (ints acc) (d : Int) bt233.1 (!t235))) else (runes_escaped.j1 k (ints acc) (d : Int) bt233.1 false)) else (runes_escaped.j1 k (ints acc) (d : Int) bt233.1 true))) (fun k => ?_) (Ev.bind nu ?_)
  · simp only [runes_escaped.j0]
    rw [if_pos (by omega)]
  unfold many
  cases hh : hexL d (dl t 1) 0 with
  | none =>
    simp only [hexE, Option.bind_none, eres]
    refine Ev.some fun k => (if_neg Bool.false_ne_true).trans ?_
    simp only [runes_escaped.j1]
    rw [if_pos trivial]
  | some n =>
    simp only [hexE, Option.bind_some]
    refine Ev.congr (fun k => if_pos trivial) ?_
    by_cases c : d = 2
    · rw [if_pos c]
      have e := j1_ev acc d n hl hd (fun h => by omega)
      rw [if_pos c, show 1 + d = 3 by omega] at e
      exact Ev.congr (fun k => if_neg (by omega)) e
    · rw [if_neg c]
      refine Ev.congr (fun k => if_pos (by omega)) (Ev.bind (valid_f n) ?_)
      by_cases hg : good n = true
      · rw [if_pos hg, hg]
        have e := j1_ev acc d n hl hd (fun _ => hg)
        rw [if_neg c] at e
        exact e
      · rw [if_neg hg]
        have hg2 : good n = false := by simpa using hg
        rw [hg2]
        refine Ev.some fun k => ?_
        simp only [runes_escaped.j1, Bool.not_false, eres]
        rw [if_pos trivial]
theorem escaped_ev (acc : List UInt8) (t : ByteArray) (ht : t.size ≤ 1048576) (hl : acc.length ≤ 1048576) : Ev (fun k => runes_escaped.f k (ints acc) t) (eres acc (escL (dl t 0))) := by
  have hL := ints_length acc
  by_cases h0 : t.size = 0
  · have e : t.toList = [] := by
      rw [ByteArray.toList_eq]
      exact List.eq_nil_of_length_eq_zero (by rw [Array.length_toList]; exact h0)
    rw [dl_nil t 0 (by omega)]
    refine Ev.some fun k => ?_
    unfold runes_escaped.f
    rw [if_pos e]
    rfl
  have h1 : 0 < t.size := by omega
  have ne : ¬ t.toList = [] := by
    rw [ByteArray.toList_eq]
    intro h
    have := congrArg List.length h
    rw [Array.length_toList] at this
    exact h0 this
  have eb : bt t 0 = ((t.get! 0).toNat : Int) := bt_nat t 0 h1
  rw [dl_cons t 0 h1]
  have first : ∀ k, runes_escaped.f k (ints acc) t = (if (((t.get! 0).toNat : Nat) : Int) = 92 then (some ((ints acc ++ [92]), 1)) else (if (((t.get! 0).toNat : Nat) : Int) = 110 then (some ((ints acc ++ [10]), 1)) else (if (((t.get! 0).toNat : Nat) : Int) = 114 then (some ((ints acc ++ [13]), 1)) else (if (((t.get! 0).toNat : Nat) : Int) = 116 then (some ((ints acc ++ [9]), 1)) else (if (((t.get! 0).toNat : Nat) : Int) = 120 then (runes_escaped.j0 k (ints acc) t 2) else (if (((t.get! 0).toNat : Nat) : Int) = 117 then (runes_escaped.j0 k (ints acc) t 4) else (if (((t.get! 0).toNat : Nat) : Int) = 85 then (runes_escaped.j0 k (ints acc) t 6) else (some (ints acc, 0))))))))) := by
    intro k
    unfold runes_escaped.f
    rw [if_neg ne, if_pos (by omega), eb]
    simp only [if_pos (show (ints acc).length < 140737488355328 by omega)]
  refine Ev.congr first ?_
  clear first eb ne
  generalize hc : t.get! 0 = c
  have cv : ∀ n : Nat, n < 256 → ((((c.toNat : Nat) : Int) = (n : Int)) ↔ c = n.toUInt8) := by
    intro n hn
    rw [← u8_ne c n hn]
    omega
  simp only [escL]
  rw [many2, many4, many6]
  by_cases c1 : c = 92
  · rw [if_pos c1]
    refine Ev.congr (fun k => if_pos ((cv 92 (by decide)).2 c1)) ?_
    rw [show eres acc (some (([92] : List UInt8), 1)) = (ints acc ++ [92], 1) by simp only [eres, ints_app]; rfl]
    exact Ev.now _
  rw [if_neg c1]
  refine Ev.congr (fun k => if_neg (fun h => c1 ((cv 92 (by decide)).1 h))) ?_
  by_cases c2 : c = 110
  · rw [if_pos c2]
    refine Ev.congr (fun k => if_pos ((cv 110 (by decide)).2 c2)) ?_
    rw [show eres acc (some (([10] : List UInt8), 1)) = (ints acc ++ [10], 1) by simp only [eres, ints_app]; rfl]
    exact Ev.now _
  rw [if_neg c2]
  refine Ev.congr (fun k => if_neg (fun h => c2 ((cv 110 (by decide)).1 h))) ?_
  by_cases c3 : c = 114
  · rw [if_pos c3]
    refine Ev.congr (fun k => if_pos ((cv 114 (by decide)).2 c3)) ?_
    rw [show eres acc (some (([13] : List UInt8), 1)) = (ints acc ++ [13], 1) by simp only [eres, ints_app]; rfl]
    exact Ev.now _
  rw [if_neg c3]
  refine Ev.congr (fun k => if_neg (fun h => c3 ((cv 114 (by decide)).1 h))) ?_
  by_cases c4 : c = 116
  · rw [if_pos c4]
    refine Ev.congr (fun k => if_pos ((cv 116 (by decide)).2 c4)) ?_
    rw [show eres acc (some (([9] : List UInt8), 1)) = (ints acc ++ [9], 1) by simp only [eres, ints_app]; rfl]
    exact Ev.now _
  rw [if_neg c4]
  refine Ev.congr (fun k => if_neg (fun h => c4 ((cv 116 (by decide)).1 h))) ?_
  by_cases c5 : c = 120
  · rw [if_pos c5]
    exact Ev.congr (fun k => if_pos ((cv 120 (by decide)).2 c5)) (j0_ev acc t 2 ht h1 hl (.inl rfl))
  rw [if_neg c5]
  refine Ev.congr (fun k => if_neg (fun h => c5 ((cv 120 (by decide)).1 h))) ?_
  by_cases c6 : c = 117
  · rw [if_pos c6]
    exact Ev.congr (fun k => if_pos ((cv 117 (by decide)).2 c6)) (j0_ev acc t 4 ht h1 hl (.inr (by decide)))
  rw [if_neg c6]
  refine Ev.congr (fun k => if_neg (fun h => c6 ((cv 117 (by decide)).1 h))) ?_
  by_cases c7 : c = 85
  · rw [if_pos c7]
    exact Ev.congr (fun k => if_pos ((cv 85 (by decide)).2 c7)) (j0_ev acc t 6 ht h1 hl (.inr (by decide)))
  rw [if_neg c7]
  exact Ev.congr (fun k => if_neg (fun h => c7 ((cv 85 (by decide)).1 h))) (Ev.now _)
def res : List UInt8 ⊕ Nat → ByteArray × Int × Int
  | .inl l => (⟨l.toArray⟩, 0, 0)
  | .inr i => (⟨#[]⟩, (i : Int), 10)
theorem un_ev (s : ByteArray) (hs : s.size ≤ 1048576) : ∀ (fuel i : Nat) (acc : List UInt8), i ≤ s.size → s.size < i + fuel → acc.length ≤ i → Ev (fun k => runes_Unescape.l0 k s (ints acc) (i : Int)) (res (unL fuel (dl s i) i acc)) := by
  intro fuel
  induction fuel with
  | zero => intro i acc h1 h2; omega
  | succ fuel ih =>
    intro i acc h1 h2 h3
    have hL := ints_length acc
    by_cases hi : i < s.size
    · have eb := bt_nat s i hi
      have w1 : wrap64 ((i : Int) + 1) = ((i + 1 : Nat) : Int) := by rw [w64 (by omega) (by omega)]; omega
      rw [dl_cons s i hi]
      simp only [unL]
      by_cases c : s.get! i = 92
      · rw [if_pos c]
        have hz : (s.extract (i + 1) s.size).size ≤ 1048576 := by rw [ByteArray.size_extract]; omega
        have es := escaped_ev acc (s.extract (i + 1) s.size) hz (by omega)
        rw [dl_extract s (i + 1) 0 (by omega), Nat.add_zero] at es
        have e92 : bt s (i : Int) = 92 := by rw [eb, c]; rfl
        refine Ev.step (f := fun k => (runes_escaped.f k (ints acc) (s.extract (i + 1) s.size)).bind fun bt242 => (if bt242.2 = 0 then (some ((⟨#[]⟩ : ByteArray), (i : Int), 10)) else (runes_Unescape.l0 k s bt242.1 (wrap64 ((wrap64 ((i : Int) + bt242.2)) + 1))))) (fun k => ?_) (Ev.bind es ?_)
        · simp only [runes_Unescape.l0]
          rw [if_pos (by omega), if_pos (by omega), if_pos e92, w1, if_pos (by omega), if_pos (by omega), Int.toNat_natCast]
        cases hq : escL (dl s (i + 1)) with
        | none =>
          simp only [eres, res]
          exact Ev.congr (fun k => if_pos trivial) (Ev.now _)
        | some q =>
          obtain ⟨p, n⟩ := q
          obtain ⟨g1, g2, g3⟩ := escL_len _ _ _ hq
          rw [dl_len] at g3
          simp only [eres]
          have w2 : wrap64 (wrap64 ((i : Int) + (n : Int)) + 1) = ((i + 1 + n : Nat) : Int) := by
            clear w1
            rw [w64 (x := (i : Int) + (n : Int)) (by omega) (by omega), w64 (by omega) (by omega)]; omega
          rw [dl_drop]
          have hn0 : ¬ ((n : Int) = 0) := by omega
          refine Ev.congr (fun k => (if_neg hn0).trans (by rw [w2])) (ih (i + 1 + n) (acc ++ p) (by clear w1 w2; omega) (by clear w1 w2; omega) (by rw [List.length_append]; clear w1 w2; omega))
      · rw [if_neg c]
        have n92 : ¬ bt s (i : Int) = 92 := by
          rw [eb]
          intro h
          exact c ((u8_ne _ 92 (by decide)).1 (by omega))
        refine Ev.step (f := fun k => runes_Unescape.l0 k s (ints (acc ++ [s.get! i])) ((i + 1 : Nat) : Int)) (fun k => ?_) (ih (i + 1) (acc ++ [s.get! i]) (by clear w1; omega) (by clear w1; omega) (by clear w1; simp; omega))
        simp only [runes_Unescape.l0]
        rw [if_pos (by omega), if_pos (by omega), if_neg n92, if_pos (by omega), w1, eb, ints_app]
        rfl
    · rw [dl_nil s i (by omega)]
      refine Ev.some fun k => ?_
      simp only [runes_Unescape.l0, unL, res]
      rw [if_neg (by omega), str_ints]
theorem unescape_f (s : ByteArray) (hs : s.size ≤ 1048576) : Ev (fun k => runes_Unescape.f k s) (res (unL (s.size + 1) s.data.toList 0 [])) := by
  refine Ev.congr (fun k => ?_) (un_ev s hs (s.size + 1) 0 [] (by omega) (by omega) (by simp))
  unfold runes_Unescape.f
  rw [if_neg (by omega)]
  rfl
end Go.Proofs.YtigikjihagmokaaDoor.UnescP
set_option linter.unusedVariables false
set_option linter.unusedSimpArgs false
namespace Go.Proofs.YtigikjihagmokaaDoor.RunesBack
open Go.RowKit Go.Proofs.YtigikjihagmokaaDoorW.PrintWords Go.Proofs.YtigikjihagmokaaDoorW.PrintLast Go.Proofs.YtigikjihagmokaaDoorW.PrintMore Go.Proofs.YtigikjihagmokaaDoor.F Go.Proofs.YtigikjihagmokaaDoor.RunesAwake Go.Proofs.YtigikjihagmokaaDoor.Step01 Go.Proofs.YtigikjihagmokaaDoor.Esc01 Go.Proofs.YtigikjihagmokaaDoor.Unesc01 Go.Proofs.YtigikjihagmokaaDoor.UnescP
theorem size_list' (s : ByteArray) : s.data.toList.length = s.size := by rw [Array.length_toList]; rfl
theorem esc_size (s : ByteArray) : (EscP.escape s).size = (escapeL (s.size + 1) s.data.toList).length := size_list _
theorem plain_at (s : ByteArray) (i : Nat) (h : i < (EscP.escape s).size) : 32 ≤ bt (EscP.escape s) (i : Int) ∧ bt (EscP.escape s) (i : Int) ≤ 126 := by
  rw [bt_nat _ i h]
  have hm : (EscP.escape s).get! i ∈ escapeL (s.size + 1) s.data.toList := by
    have h2 : i < (EscP.escape s).data.size := h
    have e : (EscP.escape s).get! i = (EscP.escape s).data[i]'h2 := getElem!_pos _ i h2
    rw [e]
    have hm := Array.getElem_mem h2
    have h3 : ∀ y ∈ (EscP.escape s).data, y ∈ escapeL (s.size + 1) s.data.toList := by
      intro y hy
      have hy2 : y ∈ (escapeL (s.size + 1) s.data.toList).toArray := hy
      simpa using hy2
    exact h3 _ hm
  have := escape_plain _ _ _ hm
  omega
theorem loop_ev (x s : ByteArray) (hs : (EscP.escape s).size ≤ 1048576) (b : Bool) (hb : Ev (fun k => (runes_Unescape.f k (EscP.escape s)).bind fun bt327 => (if bt327.1.toList = x.toList then (if bt327.2.1 = 0 then (if bt327.2.2 = 0 then ((idiomlaw01_awake.f).bind fun t330 => (some t330)) else (none)) else (none)) else (none))) b) :
    ∀ (fuel i : Nat), i ≤ (EscP.escape s).size → (EscP.escape s).size < i + fuel → Ev (fun k => idiomlaw01_RunesBack.l0 k x (EscP.escape s) (i : Int)) b := by
  intro fuel
  induction fuel with
  | zero => intro i h1 h2; omega
  | succ fuel ih =>
    intro i h1 h2
    by_cases hi : i < (EscP.escape s).size
    · obtain ⟨p1, p2⟩ := plain_at s i hi
      have w1 : wrap64 ((i : Int) + 1) = ((i + 1 : Nat) : Int) := by rw [w64 (by omega) (by omega)]; omega
      refine Ev.step (fun k => ?_) (ih (i + 1) (by clear w1; omega) (by clear w1; omega))
      simp only [idiomlaw01_RunesBack.l0]
      rw [if_pos (by omega), if_pos (by omega), if_neg (by omega), if_neg (by omega), w1]
    · refine Ev.step (fun k => ?_) hb
      simp only [idiomlaw01_RunesBack.l0]
      rw [if_neg (by omega)]
theorem j0_ev (s : ByteArray) (hs : s.size ≤ 131072) : Ev (fun k => idiomlaw01_RunesBack.j0 k s) true := by
  have hz : (EscP.escape s).size ≤ 786432 := by
    have := escape_len (s.size + 1) s.data.toList
    rw [esc_size]
    rw [size_list'] at this
    omega
  have pe : runes_Escape.f s = some (EscP.escape s) := by unfold runes_Escape.f; rw [if_pos (by omega)]
  have back : unL ((EscP.escape s).size + 1) (EscP.escape s).data.toList 0 [] = .inl s.data.toList := by
    have e := un_escape (s.size + 1) s.data.toList ((EscP.escape s).size + 1) 0 [] (by rw [size_list']; omega) (by rw [esc_size]; omega)
    rw [List.nil_append] at e
    exact e
  have un := unescape_f (EscP.escape s) (by omega)
  rw [back] at un
  have fin : Ev (fun k => (runes_Unescape.f k (EscP.escape s)).bind fun bt327 => (if bt327.1.toList = s.toList then (if bt327.2.1 = 0 then (if bt327.2.2 = 0 then ((idiomlaw01_awake.f).bind fun t330 => (some t330)) else (none)) else (none)) else (none))) true := by
    refine Ev.bind un ?_
    refine Ev.congr (fun k => ?_) (Ev.now _)
    have es : (⟨s.data.toList.toArray⟩ : ByteArray) = s := by
      obtain ⟨a⟩ := s
      simp
    show (if (⟨s.data.toList.toArray⟩ : ByteArray).toList = s.toList then (if (0 : Int) = 0 then (if (0 : Int) = 0 then ((idiomlaw01_awake.f).bind fun t330 => (some t330)) else (none)) else (none)) else (none)) = some true
    rw [es, if_pos rfl, if_pos rfl, if_pos rfl, awake]
    rfl
  refine Ev.step (f := fun k => idiomlaw01_RunesBack.l0 k s (EscP.escape s) ((0 : Nat) : Int)) (fun k => ?_) (loop_ev s s (by omega) true fin ((EscP.escape s).size + 1) 0 (by omega) (by omega))
  simp only [idiomlaw01_RunesBack.j0]
  rw [pe]
  rfl
theorem law (s : ByteArray) : ∃ k, idiomlaw01_RunesBack.f k s = some true := by
  have e : Ev (fun k => idiomlaw01_RunesBack.f k s) true := by
    by_cases c : s.size ≤ 131072
    · refine Ev.congr (fun k => ?_) (j0_ev s c)
      unfold idiomlaw01_RunesBack.f
      rw [if_neg (by omega)]
    · refine Ev.congr (fun k => ?_) (j0_ev (s.extract 0 131072) (by rw [ByteArray.size_extract]; omega))
      unfold idiomlaw01_RunesBack.f
      rw [if_pos (by omega), if_pos (by decide), if_pos (by omega)]
  exact Ev.rounds (g := fun k => idiomlaw01_RunesBack.f k s) e
end Go.Proofs.YtigikjihagmokaaDoor.RunesBack
set_option linter.unusedVariables false
set_option linter.unusedSimpArgs false
namespace Go.Proofs.YtigikjihagmokaaDoor.lawRunesBack
open Go.ChangeShapes Go.WideShapes Go.ChangeAt Go.RowKit
open Go.ChangeMaps (open_string shut_string)
theorem own : ownKnob Tryd.prog.godebug = none := by kernel_rfl
theorem laidOut : laidOutB Tryd.prog = true := by kernel_rfl
set_option maxRecDepth 100000 in
theorem lifted (os : Os) (started : os.Started) (H : Type) (enc : TypeId × Value → H) :
    ReturnsInHanded {} Tryd.checked os 11 .any (fun w args => (Rows.runesBackSpec.pre enc Tryd.prog Tryd.f11 [] false w args ∧ laidMetH Tryd.prog Rows.runesBackRow.laid w) ∧ sizedMet enc Tryd.prog Tryd.f11 (OpenSpec.ofChange Rows.runesBackSpec) false w args)
      (Rows.runesBackSpec.post enc Tryd.prog Tryd.f11 false true false false) := by
  refine returnsInHanded_of_change_and (C := Tryd.checked) (X := (fun w _ => laidMetH Tryd.prog Rows.runesBackRow.laid w)) (fun _ _ _ hh h => h.of_heap hh) own started (by kernel_rfl) Tryd.func11
    (ChangeSpec.witness_shaped (enc := enc) (C := Tryd.checked) (os := os) (X := (fun w _ => laidMetH Tryd.prog Rows.runesBackRow.laid w)) false (World.laidAll Tryd.prog os Rows.runesBackRow.laid) #[.string ByteArray.empty] 12 (World.laidAll_os _ _ _)
      (World.shaped_of_ZipB (by kernel_rfl) (by kernel_rfl)) (by kernel_rfl) (by kernel_rfl) (by kernel_rfl)
      (by rw [MakeChecks.laidMetH_plain _ _ _ (by kernel_rfl)]; exact laidMet_laidAll _ (by kernel_rfl) (by kernel_rfl))) ?_
  intro W base args ds gs before hval0 hW _ hsz0 hL0 _
  have hsz : (DataW.weightsEach Tryd.prog (Tryd.f11.params.toList ++ Rows.runesBackSpec.plain.varTypes Tryd.prog) (ds ++ gs)).all (· ≤ reachBytes) = true := hsz0
  have hval : ∀ (j : Nat) t v, Tryd.f11.params[j]? = some t → args[j]? = some v → Value.okWide Tryd.prog W .any base t v := hval0
  have hW' := hW
  obtain ⟨p, q, hA0, hV, rfl, hfz, hnd⟩ := hW
  have hA : DataW.TrodAll enc Tryd.prog W 0 (fun _ => true) true Tryd.f11.params.toList args.toList ds p := hA0
  rw [Tryd.params11] at hA hval hsz
  obtain ⟨v0, vs0, d0, ds0, p0, q0, hargs, rfl, rfl, h0, r0⟩ := trodAll_cons hA
  obtain ⟨rfl, rfl, rfl⟩ := trodAll_nil r0
  obtain rfl : args = #[v0] := by cases args; simp_all
  obtain ⟨rfl, rfl⟩ := trodVars_none hV
  have k0 := h0
  have lt0 : ∀ x ∈ p0, x.block < W.heap.size := by obtain ⟨m, hm⟩ := k0; exact DataW.trod_lt m _ _ _ hm
  obtain ⟨a0, rfl, rfl, rfl, y0⟩ := open_string Tryd.underlying9 (hval 0 9 v0 rfl rfl) h0
  have w0 : a0.size ≤ 140737488351232 := by
    have z := sized_string hsz (j := 0) (t := 9) rfl rfl
    rw [Array.length_toList] at z
    exact z
  have hL1 : laidMet Tryd.prog Rows.runesBackRow.laid W := hL0
  have hG : Stray.Tabs W := utf8Tabs_of_reads (ρ := Tryd.lays260_ren) { Tryd.lays260 with } ⟨by kernel_rfl, by kernel_rfl, by kernel_rfl, by kernel_rfl, by kernel_rfl, by kernel_rfl, by kernel_rfl⟩ (Lib.laidMet.reads hL1 (.tail _ (.tail _ (.tail _ (.tail _ (.tail _ (.tail _ (.head _)))))))) (Lib.laidMet.reads hL1 (.tail _ (.tail _ (.tail _ (.head _)))))
  obtain ⟨k, hk⟩ := RunesBack.law a0
  refine (F.idiomlaw01_RunesBack.calls k a0 true W hk hG).mono fun e W' ⟨he, bel0⟩ => ?_
  have bel : Below W.heap.size W W' := by first | exact bel0 | exact YtigikjihagmokaaDoorW.PrintWords.Drawn0.below bel0
  subst he
  exact ⟨_, rfl, _, _, _, [], _, [], hW', trodAll_mk1 (shut_bool Tryd.underlying4 _), (trodAll_cons_mk (Below.trod laidOut (by kernel_rfl) (of_decide_eq_true (by kernel_rfl)) k0 bel lt0) trodAll_mk0), rfl, bel.frame _, fun h => by cases h⟩
theorem said : Rows.runesBackRow.holds Tryd.pinned (OpenSpec.ofChange Rows.runesBackSpec) :=
  OpenClaim.holds_of_wide 11 Tryd.f11 rfl rfl rfl rfl rfl rfl rfl ⟨rfl, rfl, rfl, rfl, rfl⟩ rfl rfl rfl rfl rfl (by kernel_rfl) Tryd.func11 (by kernel_rfl)
    (of_decide_eq_true (by kernel_rfl)) (by unfold Func.isWrapper; first | (rw [if_pos (by decide +kernel)]; kernel_rfl) | (rw [if_neg (by decide +kernel)]; exact ⟨rfl, rfl⟩))
    (fun os started H enc _ => lifted os started H enc)
theorem plain (f : FuncId) (fn : Func) (hf : Tryd.pinned.checked.prog.funcNamed "idiom/idiomlaw01.RunesBack" = some f) (hfn : Tryd.pinned.checked.prog.funcs[f]? = some fn) :
    true = Tryd.pinned.checked.prog.looks [] ∧ ∀ (j : Nat) t, fn.params[j]? = some t → Tryd.pinned.checked.prog.wantsStandIn t = false := by
  obtain rfl : f = 11 := Option.some.inj ((show Tryd.prog.funcNamed "idiom/idiomlaw01.RunesBack" = some 11 by kernel_rfl).symm.trans hf) |>.symm
  obtain rfl : fn = Tryd.f11 := (Option.some.inj (Tryd.func11.symm.trans hfn)).symm
  refine ⟨by kernel_rfl, fun j t ht => ?_⟩
  rw [Tryd.params11] at ht
  have hm : t ∈ [9] := by simpa using Array.mem_of_getElem? ht
  have hall : ([9].all fun u => !Tryd.prog.wantsStandIn u) = true := by kernel_rfl
  exact (show Tryd.prog.wantsStandIn t = false by simpa using List.all_eq_true.1 hall t hm)
/-- THE CARD. -/
theorem card : Rows.RunesBackCardSaid :=
  Claim7.holds_tied_plain_at .later [] _ _ _ _ said (fun _ h => by cases h) (by kernel_rfl) (fun _ h => by cases h) runesBack_row_tie rfl ⟨rfl, rfl⟩ (by kernel_rfl) rfl plain (by kernel_rfl)
#print axioms card
end Go.Proofs.YtigikjihagmokaaDoor.lawRunesBack
namespace Go.Proofs.YtigikjihagmokaaDoor
/-- The claim, under a short name. -/
theorem runesBack_holds : Rows.RunesBackCardSaid := lawRunesBack.card
end Go.Proofs.YtigikjihagmokaaDoor
