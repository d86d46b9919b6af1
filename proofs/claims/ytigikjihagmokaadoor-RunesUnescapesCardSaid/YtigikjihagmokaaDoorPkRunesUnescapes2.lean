/- Part 3 of 3 of the proof of the law RunesUnescapes: it is true at every input. Conditions: those of the given row, no others. -/
import Derived.Test.YtigikjihagmokaaDoorPkRunesUnescapes1
import Derived.Laws.BitsLemmas
import Derived.Test.YtigikjihagmokaaDoorPkRunesUnescapes0
import Derived.Test.YtigikjihagmokaaDoorCards
import Derived.Test.YtigikjihagmokaaDoorTie
import Derived.WalkKit
import Derived.ProofKit
import Derived.OpenShut
import Derived.ShutString
import Derived.ChangeOld
import Derived.Below
import Derived.SizedLaws
import Derived.Carry
import Derived.Lib.SmallJoins
import Derived.PinnedBridge
import Derived.Lay
import Derived.LaidOnce
import Derived.SevenTiedAt
set_option linter.unusedVariables false
set_option linter.unusedSimpArgs false
namespace Go.Proofs.YtigikjihagmokaaDoor.Unesc01
open Go.RowKit Go.Proofs.YtigikjihagmokaaDoorW.PrintWords Go.Proofs.YtigikjihagmokaaDoorW.PrintLast Go.Proofs.YtigikjihagmokaaDoorW.PrintMore Go.Proofs.YtigikjihagmokaaDoor.F Go.Proofs.YtigikjihagmokaaDoor.RunesAwake Go.Proofs.YtigikjihagmokaaDoor.Step01 Go.Proofs.YtigikjihagmokaaDoor.Esc01
def ints (l : List UInt8) : List Int := l.map fun c => (c.toNat : Int)
theorem ints_length (l : List UInt8) : (ints l).length = l.length := by simp [ints]
theorem ints_app (a b : List UInt8) : ints (a ++ b) = ints a ++ ints b := by simp [ints]
theorem str_ints (l : List UInt8) : strOfNums (ints l) = ⟨l.toArray⟩ := by
  simp [strOfNums, ints, Function.comp_def]
theorem bytesOf_list (l : List UInt8) : bytesOf ⟨l.toArray⟩ = ints l := by
  simp [bytesOf, ints]
theorem size_list (l : List UInt8) : (⟨l.toArray⟩ : ByteArray).size = l.length := by
  show l.toArray.size = l.length
  simp
def dl (s : ByteArray) (i : Nat) : List UInt8 := s.data.toList.drop i
theorem dl_cons (s : ByteArray) (i : Nat) (h : i < s.size) : dl s i = s.get! i :: dl s (i + 1) := by
  have hl : i < s.data.toList.length := by rw [Array.length_toList]; exact h
  unfold dl
  rw [List.drop_eq_getElem_cons hl]
  congr 1
  show s.data[i]'h = s.data[i]!
  exact (getElem!_pos s.data i h).symm
theorem dl_nil (s : ByteArray) (i : Nat) (h : s.size ≤ i) : dl s i = [] := by
  unfold dl
  exact List.drop_eq_nil_of_le (by rw [Array.length_toList]; exact h)
theorem dl_len (s : ByteArray) (i : Nat) : (dl s i).length = s.size - i := by
  unfold dl
  rw [List.length_drop, Array.length_toList]
  rfl
theorem dl_drop (s : ByteArray) (i n : Nat) : (dl s i).drop n = dl s (i + n) := by
  unfold dl
  rw [List.drop_drop]
theorem dl_extract (s : ByteArray) (a j : Nat) (h : a ≤ s.size) : dl (s.extract a s.size) j = dl s (a + j) := by
  unfold dl
  rw [ByteArray.data_extract, Array.toList_extract, List.extract_eq_take_drop, ← List.drop_drop]
  congr 1
  rw [List.take_of_length_le]
  rw [List.length_drop, Array.length_toList]
  exact Nat.le_refl _
/-- A hexadecimal digit, as the program finds it. -/
def dd (b : Int) : Int := Lib.indexByte [48, 49, 50, 51, 52, 53, 54, 55, 56, 57, 97, 98, 99, 100, 101, 102] (Go.bits .or .u8 b 32).toNat.toUInt8
def tst (b : Nat) : Bool := match hexv b with
  | none => decide (dd b < 0) || (decide (dd b < 10) && !decide ((b : Int) = Go.bits .or .u8 b 32))
  | some v => decide (dd b = v) && decide (v < 16) && (decide (10 ≤ v) || decide ((b : Int) = Go.bits .or .u8 b 32))
theorem tst_all : (List.range 256).all tst = true := by kernel_rfl
theorem tst_at (b : Nat) (h : b < 256) : tst b = true := List.all_eq_true.1 tst_all b (List.mem_range.2 h)
theorem join4 (n v : Nat) (hn : n < 134217728) (hv : v < 16) : Go.bits .or .i32 (wrap32 ((n : Int) * 16)) (wrap32 (v : Int)) = ((n * 16 + v : Nat) : Int) := by
  have e1 : wrap32 ((n : Int) * 16) = (n : Int) * 16 := by unfold wrap32; omega
  have e2 : wrap32 (v : Int) = v := by unfold wrap32; omega
  rw [e1, e2, bits_join .i32 31 (by decide) wraps_i32 4 ((n : Int) * 16) v (by omega) (by omega) (by omega) (by omega) (by omega) (by omega)]
  omega
def hexE (o : Option Nat) : Int × Bool := match o with | some n => ((n : Int), true) | none => (0, false)
theorem number_ev (t : ByteArray) (ht : t.size ≤ 140737488355328) : ∀ (d j n : Nat), j + d ≤ t.size → d ≤ 6 → n < 16 ^ (6 - d) →
    Ev (fun k => runes_number.l0 k t (n : Int) ((j + d : Nat) : Int) (j : Int)) (hexE (hexL d (dl t j) n)) := by
  intro d
  induction d with
  | zero =>
    intro j n h1 h2 h3
    refine Ev.some fun k => ?_
    simp only [runes_number.l0, hexL, hexE]
    rw [if_neg (by omega)]
  | succ d ih =>
    intro j n h1 h2 h3
    have hj : j < t.size := by omega
    have e16 : 16 ^ (6 - d) = 16 ^ (6 - (d + 1)) * 16 := by rw [show 6 - d = 6 - (d + 1) + 1 by omega, Nat.pow_succ]
    have b16 : 16 ^ (6 - (d + 1)) ≤ 16 ^ 5 := Nat.pow_le_pow_right (by decide) (by omega)
    have hn5 : n < 1048576 := by omega
    have eb := bt_nat t j hj
    have hb : (t.get! j).toNat < 256 := (t.get! j).toNat_lt
    have T := tst_at _ hb
    unfold tst at T
    have first : ∀ k, runes_number.l0 (k + 1) t (n : Int) ((j + (d + 1) : Nat) : Int) (j : Int) = (if dd (t.get! j).toNat < 0 then (some (0, false)) else (if dd (t.get! j).toNat < 10 then (if (((t.get! j).toNat : Nat) : Int) = (Go.bits .or .u8 (((t.get! j).toNat : Nat) : Int) 32) then (runes_number.l0 k t (Go.bits .or .i32 (wrap32 ((n : Int) * 16)) (wrap32 (dd (t.get! j).toNat))) ((j + (d + 1) : Nat) : Int) ((j + 1 : Nat) : Int)) else (some (0, false))) else (runes_number.l0 k t (Go.bits .or .i32 (wrap32 ((n : Int) * 16)) (wrap32 (dd (t.get! j).toNat))) ((j + (d + 1) : Nat) : Int) ((j + 1 : Nat) : Int)))) := by
      intro k
      have w1 : wrap64 ((j : Int) + 1) = ((j + 1 : Nat) : Int) := by rw [w64 (by omega) (by omega)]; omega
      simp only [runes_number.l0]
      rw [if_pos (by omega), if_pos (by omega), if_pos (by omega), eb, w1]
      rfl
    refine Ev.step first ?_
    rw [dl_cons t j hj]
    simp only [hexL]
    cases hv : hexv (t.get! j).toNat with
    | none =>
      rw [hv] at T
      simp only [Bool.or_eq_true, Bool.and_eq_true, decide_eq_true_eq, Bool.not_eq_true', decide_eq_false_iff_not] at T
      rcases T with T | ⟨T1, T2⟩
      · exact Ev.congr (fun k => if_pos T) (Ev.now _)
      · by_cases T0 : dd (t.get! j).toNat < 0
        · exact Ev.congr (fun k => if_pos T0) (Ev.now _)
        · exact Ev.congr (fun k => by rw [if_neg T0, if_pos T1, if_neg T2]; rfl) (Ev.now _)
    | some v =>
      rw [hv] at T
      simp only [Bool.or_eq_true, Bool.and_eq_true, decide_eq_true_eq] at T
      obtain ⟨⟨T1, T2⟩, T3⟩ := T
      have next := ih (j + 1) (n * 16 + v) (by omega) (by omega) (by omega)
      rw [show j + 1 + d = j + (d + 1) by omega] at next
      refine Ev.congr (fun k => ?_) next
      rw [T1, if_neg (by omega), join4 n v (by omega) T2]
      by_cases c : (v : Int) < 10
      · rw [if_pos c, if_pos (by rcases T3 with T3 | T3; · omega
                                 · exact T3)]
      · rw [if_neg c]
theorem hexL_short : ∀ (d : Nat) (l : List UInt8) (n : Nat), l.length < d → hexL d l n = none := by
  intro d
  induction d with
  | zero => intro l n h; omega
  | succ d ih =>
    intro l n h
    cases l with
    | nil => rfl
    | cons c l =>
      simp only [hexL]
      cases hexv c.toNat with
      | none => rfl
      | some v => exact ih l _ (by simp only [List.length_cons] at h; omega)
theorem pow_pos6 (d : Nat) : 0 < 16 ^ (6 - d) := Nat.pos_of_ne_zero (by simp)
theorem number_f (t : ByteArray) (d : Nat) (ht : t.size ≤ 140737488355328) (hd : d ≤ 6) : Ev (fun k => runes_number.f k t (d : Int)) (hexE (hexL d (dl t 0) 0)) := by
  by_cases c : t.size < d
  · refine Ev.congr (fun k => ?_) (Ev.now _)
    unfold runes_number.f
    rw [if_pos (by omega), hexL_short d _ _ (by rw [dl_len]; omega)]
    rfl
  · have e := number_ev t ht d 0 0 (by omega) hd (pow_pos6 d)
    rw [Nat.zero_add] at e
    refine Ev.congr (fun k => ?_) e
    unfold runes_number.f
    rw [if_neg (by omega)]
    rfl
theorem valid_f (n : Nat) : Ev (fun k => utf8_ValidRune.f k (n : Int)) (good n) := by
  refine Ev.step (f := fun k => utf8_ValidRune.f (k + 1) (n : Int)) (fun k => rfl) ?_
  refine Ev.congr (fun k => ?_) (Ev.now _)
  unfold utf8_ValidRune.f
  rw [if_pos (by omega)]
  simp only [utf8_ValidRune.j0]
  unfold good
  by_cases c1 : n < 55296
  · rw [if_pos (by rw [decide_eq_true_eq]; omega), decide_eq_true (by omega)]
  · rw [if_neg (by rw [decide_eq_true_eq]; omega)]
    by_cases c2 : 57343 < n
    · rw [if_pos (by omega)]
      by_cases c3 : n ≤ 1114111
      · rw [if_pos (by omega), decide_eq_true (by omega)]
      · rw [if_neg (by omega), decide_eq_false (by omega)]
    · rw [if_neg (by omega), decide_eq_false (by omega)]
theorem encZ_ints (r : Int) : ints (Lib.encodeRune r) = Lib.encodeRuneZ r := by
  have hb : ∀ x ∈ Lib.encodeRuneZ r, 0 ≤ x ∧ x ≤ 255 := by
    unfold Lib.encodeRuneZ
    repeat' split
    all_goals (intro x hx; simp only [List.mem_cons, List.not_mem_nil, or_false] at hx)
    · subst hx; omega
    · rcases hx with rfl | rfl <;> omega
    · rcases hx with rfl | rfl | rfl <;> omega
    · rcases hx with rfl | rfl | rfl | rfl <;> omega
    · rcases hx with rfl | rfl | rfl <;> omega
  unfold ints Lib.encodeRune
  rw [List.map_map]
  have : ∀ x ∈ Lib.encodeRuneZ r, ((fun c : UInt8 => (c.toNat : Int)) ∘ fun x : Int => x.toNat.toUInt8) x = x := by
    intro x hx
    obtain ⟨h0, h1⟩ := hb x hx
    simp only [Function.comp]
    rw [Nat.toUInt8_eq, UInt8.toNat_ofNat']
    omega
  rw [List.map_congr_left this, List.map_id']
theorem append_f (acc : List UInt8) (n : Nat) (hg : n < 55296 ∨ 57344 ≤ n ∧ n ≤ 1114111) (hl : acc.length ≤ 1048576) : Ev (fun k => utf8_AppendRune.f k (ints acc) (n : Int)) (ints (acc ++ Lib.encodeRune (n : Int))) := by
  have hL := ints_length acc
  have m : (n : Int) % 4294967296 = n := by omega
  rw [ints_app, encZ_ints]
  refine Ev.step (f := fun k => utf8_AppendRune.f (k + 1) (ints acc) (n : Int)) (fun k => rfl) ?_
  refine Ev.congr (fun k => ?_) (Ev.now _)
  unfold utf8_AppendRune.f
  rw [m]
  by_cases c1 : n ≤ 127
  · rw [if_pos (by omega), if_pos (by omega), Lib.encodeRuneZ_one (by omega) (by omega), show (n : Int) % 256 = n by omega]
  rw [if_neg (by omega)]
  unfold utf8_appendRuneNonASCII.f
  rw [m]
  by_cases c2 : n ≤ 2047
  · rw [if_pos (by omega), Lib.encodeRuneZ_two (by omega) (by omega), Aid.low6, show (n : Int) / 64 % 256 = n / 64 by omega, u8_or192 _ (by omega) (by omega)]
    simp only [Option.bind_some]
    rw [if_pos (by simp only [List.length_cons, List.length_nil]; omega)]
    rfl
  rw [if_neg (by omega)]
  have j0 : ∀ b : Bool, (b = true ↔ n ≤ 65535) → (utf8_appendRuneNonASCII.j0 (k + 1) (ints acc) (n : Int) (n : Int) b).bind (fun t217 => some t217) = some (ints acc ++ Lib.encodeRuneZ (n : Int)) := by
    intro b hb
    simp only [utf8_appendRuneNonASCII.j0]
    by_cases c3 : n ≤ 65535
    · rw [if_pos (hb.2 c3), Lib.encodeRuneZ_three (by omega), Aid.low6, Aid.low6, show (n : Int) / 4096 % 256 = n / 4096 by omega, u8_or224 _ (by omega) (by omega)]
      simp only [Option.bind_some]
      rw [if_pos (by simp only [List.length_cons, List.length_nil]; omega)]
      rfl
    · rw [if_neg (fun h => c3 (hb.1 h)), if_pos (by omega), if_pos (by omega), Lib.encodeRuneZ_four (by omega) (by omega), Aid.low6, Aid.low6, Aid.low6, show (n : Int) / 262144 % 256 = n / 262144 by omega, u8_or240 _ (by omega) (by omega)]
      simp only [Option.bind_some]
      rw [if_pos (by simp only [List.length_cons, List.length_nil]; omega)]
      rfl
  by_cases c4 : n < 55296
  · rw [if_pos (by omega)]
    exact j0 _ (by rw [decide_eq_true_eq]; omega)
  · rw [if_neg (by omega), if_pos (by omega)]
    exact j0 _ (by rw [decide_eq_true_eq]; omega)
theorem wn {n : Nat} (h : n ≤ 1114111) : wrap64 (n : Int) = n := w64 (by omega) (by omega)
theorem td (n m : Nat) : Int.tdiv (n : Int) (m : Int) = ((n / m : Nat) : Int) := rfl
theorem tm (n m : Nat) : Int.tmod (n : Int) (m : Int) = ((n % m : Nat) : Int) := rfl
theorem le_div (n m : Nat) (h : n ≤ 1114111) : n / m ≤ 1114111 := Nat.le_trans (Nat.div_le_self _ _) h
theorem el1 (c d : Int) (c' m n : Nat) (hc : c = c') (hm : d = m) (hn : n ≤ 1114111) (h : c' + n / m ≤ 255) : (wrap64 (c + wrap64 (Int.tdiv (n : Int) d))) % 256 = c + (n : Int) / d := by
  have hq := le_div n m hn
  have e : (n : Int) / d = ((n / m : Nat) : Int) := by rw [hm, Int.natCast_ediv]
  rw [e, hc, hm, td]
  generalize n / m = q at *
  rw [wn hq, show (c' : Int) + (q : Int) = ((c' + q : Nat) : Int) by omega, wn (by omega)]
  omega
theorem el2 (n : Nat) : (wrap64 (128 + Int.tmod (n : Int) 64)) % 256 = 128 + (n : Int) % 64 := by
  have e : Int.tmod (n : Int) 64 = ((n % 64 : Nat) : Int) := tm n 64
  have hm : n % 64 < 64 := Nat.mod_lt _ (by decide)
  have e2 : (n : Int) % 64 = ((n % 64 : Nat) : Int) := by omega
  rw [e, e2]
  generalize n % 64 = m at *
  rw [show (128 : Int) + (m : Int) = ((128 + m : Nat) : Int) by omega, wn (by omega)]
  omega
theorem el3 (d : Int) (m n : Nat) (hm : d = m) (hn : n ≤ 1114111) : (wrap64 (128 + Int.tmod (wrap64 (Int.tdiv (n : Int) d)) 64)) % 256 = 128 + (n : Int) / d % 64 := by
  have e : (n : Int) / d = ((n / m : Nat) : Int) := by rw [hm, Int.natCast_ediv]
  rw [e, hm, td, wn (le_div n m hn)]
  exact el2 _
theorem l2 {a b a' b' : Int} (h1 : a = a') (h2 : b = b') : [a, b] = [a', b'] := by rw [h1, h2]
theorem l3 {a b c a' b' c' : Int} (h1 : a = a') (h2 : b = b') (h3 : c = c') : [a, b, c] = [a', b', c'] := by rw [h1, h2, h3]
theorem l4 {a b c d a' b' c' d' : Int} (h1 : a = a') (h2 : b = b') (h3 : c = c') (h4 : d = d') : [a, b, c, d] = [a', b', c', d'] := by rw [h1, h2, h3, h4]
theorem put_f (n : Nat) (hg : n < 55296 ∨ 57344 ≤ n ∧ n ≤ 1114111) : idiomref01_Put.f (n : Int) = some ⟨(Lib.encodeRune (n : Int)).toArray⟩ := by
  have key : ∀ l : List Int, Lib.encodeRuneZ (n : Int) = l → some (strOfNums l) = some (⟨(Lib.encodeRune (n : Int)).toArray⟩ : ByteArray) := by
    intro l h
    rw [← h, ← encZ_ints, str_ints]
  have hn : n ≤ 1114111 := by omega
  unfold idiomref01_Put.f
  by_cases c1 : n ≤ 127
  · rw [if_pos (by omega)]
    refine key _ ?_
    rw [Lib.encodeRuneZ_one (by omega) (by omega), show (n : Int) % 256 = n by omega]
  rw [if_neg (by omega)]
  by_cases c2 : n ≤ 2047
  · rw [if_pos (by omega)]
    refine key _ ?_
    have h4 := Lib.encodeRuneZ_two (r := (n : Int)) (by omega) (by omega)
    have e1 := el1 192 64 192 64 n rfl rfl hn (by omega)
    have e2 := el2 n
    exact h4.trans (l2 e1.symm e2.symm)
  rw [if_neg (by omega)]
  by_cases c3 : n ≤ 65535
  · rw [if_pos (by omega)]
    refine key _ ?_
    have h4 := Lib.encodeRuneZ_three (r := (n : Int)) (by omega)
    have e1 := el1 224 4096 224 4096 n rfl rfl hn (by omega)
    have e2 := el3 64 64 n rfl hn
    have e3 := el2 n
    exact h4.trans (l3 e1.symm e2.symm e3.symm)
  · rw [if_neg (by omega)]
    refine key _ ?_
    have h4 := Lib.encodeRuneZ_four (r := (n : Int)) (by omega) (by omega)
    have e1 := el1 240 262144 240 262144 n rfl rfl hn (by omega)
    have e2 := el3 4096 4096 n rfl hn
    have e3 := el3 64 64 n rfl hn
    have e4 := el2 n
    exact h4.trans (l4 e1.symm e2.symm e3.symm e4.symm)
end Go.Proofs.YtigikjihagmokaaDoor.Unesc01
set_option linter.unusedVariables false
set_option linter.unusedSimpArgs false
namespace Go.Proofs.YtigikjihagmokaaDoor.UnescP
open Go.RowKit Go.Proofs.YtigikjihagmokaaDoorW.PrintWords Go.Proofs.YtigikjihagmokaaDoorW.PrintLast Go.Proofs.YtigikjihagmokaaDoorW.PrintMore Go.Proofs.YtigikjihagmokaaDoor.F Go.Proofs.YtigikjihagmokaaDoor.RunesAwake Go.Proofs.YtigikjihagmokaaDoor.Step01 Go.Proofs.YtigikjihagmokaaDoor.Esc01 Go.Proofs.YtigikjihagmokaaDoor.Unesc01
theorem u8_ne (c : UInt8) (n : Nat) (hn : n < 256) : (c.toNat = n) ↔ c = n.toUInt8 := by
  constructor
  · intro h
    apply UInt8.toNat_inj.1
    rw [h, Nat.toUInt8_eq, UInt8.toNat_ofNat']
    omega
  · intro h
    rw [h, Nat.toUInt8_eq, UInt8.toNat_ofNat']
    omega
theorem enc4 (r : Int) : (Lib.encodeRune r).length ≤ 4 := by
  have := Lib.runeCells_le r
  rw [Lib.runeCells_length] at this
  omega
theorem escL_len (l p : List UInt8) (n : Nat) (h : escL l = some (p, n)) : p.length ≤ n ∧ 1 ≤ n ∧ n ≤ l.length := by
  cases l with
  | nil => simp [escL] at h
  | cons c l =>
    have hx : ∀ d, d ≤ l.length ∨ hexL d l 0 = none := by
      intro d
      by_cases hd : l.length < d
      · exact .inr (hexL_short d l 0 hd)
      · exact .inl (by omega)
    simp only [escL] at h
    have one : ∀ q : UInt8, some (([q] : List UInt8), 1) = some (p, n) → p.length ≤ n ∧ 1 ≤ n ∧ n ≤ (c :: l).length := by
      intro q hq
      simp only [Option.some.injEq, Prod.mk.injEq] at hq
      obtain ⟨rfl, rfl⟩ := hq
      simp
    split at h
    · exact one _ h
    split at h
    · exact one _ h
    split at h
    · exact one _ h
    split at h
    · exact one _ h
    split at h
    · rcases hx 2 with h2 | h2
      · cases hh : hexL 2 l 0 with
        | none => rw [hh] at h; simp at h
        | some m =>
          rw [hh] at h
          simp only [Option.bind_some, Option.some.injEq, Prod.mk.injEq] at h
          obtain ⟨rfl, rfl⟩ := h
          simp only [List.length_cons, List.length_nil]
          omega
      · rw [h2] at h; simp at h
    split at h
    · rcases hx 4 with h2 | h2
      · cases hh : hexL 4 l 0 with
        | none => rw [hh] at h; simp at h
        | some m =>
          rw [hh] at h
          simp only [Option.bind_some] at h
          split at h
          · simp only [Option.some.injEq, Prod.mk.injEq] at h
            obtain ⟨rfl, rfl⟩ := h
            have := enc4 (m : Int)
            simp only [List.length_cons]
            omega
          · cases h
      · rw [h2] at h; simp at h
    split at h
    · rcases hx 6 with h2 | h2
      · cases hh : hexL 6 l 0 with
        | none => rw [hh] at h; simp at h
        | some m =>
          rw [hh] at h
          simp only [Option.bind_some] at h
          split at h
          · simp only [Option.some.injEq, Prod.mk.injEq] at h
            obtain ⟨rfl, rfl⟩ := h
            have := enc4 (m : Int)
            simp only [List.length_cons]
            omega
          · cases h
      · rw [h2] at h; simp at h
    · cases h
def eres (acc : List UInt8) (o : Option (List UInt8 × Nat)) : List Int × Int := match o with | some (p, n) => (ints (acc ++ p), (n : Int)) | none => (ints acc, 0)
theorem j1_ev (acc : List UInt8) (d n : Nat) (hl : acc.length ≤ 1048576) (hd : d = 2 ∨ 2 < d ∧ d ≤ 6) (hg : 2 < d → good n = true) :
    Ev (fun k => runes_escaped.j1 k (ints acc) (d : Int) (n : Int) false) (eres acc (some (if d = 2 then [n.toUInt8] else Lib.encodeRune (n : Int), 1 + d))) := by
  have hL := ints_length acc
  by_cases c : d = 2
  · subst c
    refine Ev.some fun k => ?_
    simp only [runes_escaped.j1]
    rw [if_neg (by decide), if_pos (by decide), if_pos (by omega)]
    simp only [eres, if_true]
    have e : (n : Int) % 256 = ((n.toUInt8.toNat : Nat) : Int) := by rw [Nat.toUInt8_eq, UInt8.toNat_ofNat']; omega
    rw [e, ints_app]
    rfl
  · rw [if_neg c]
    have cd : 2 < d := by omega
    have hgd := hg cd
    unfold good at hgd
    have ap := append_f acc n (of_decide_eq_true hgd) hl
    refine Ev.step (f := fun k => (utf8_AppendRune.f k (ints acc) (n : Int)).bind fun t239 => some (t239, wrap64 (1 + (d : Int)))) (fun k => ?_) (Ev.bind ap ?_)
    · simp only [runes_escaped.j1]
      rw [if_neg (by decide), if_neg (by omega)]
    · have w : wrap64 (1 + (d : Int)) = ((1 + d : Nat) : Int) := by rw [w64 (by omega) (by omega)]; omega
      rw [w]
      exact Ev.now _
/-- The escape of so many digits, told alike for the program and the reference. -/
def many (d : Nat) (l : List UInt8) : Option (List UInt8 × Nat) := (hexL d l 0).bind fun n => if d = 2 then some ([n.toUInt8], 3) else if good n = true then some (Lib.encodeRune (n : Int), 1 + d) else none
theorem many2 (l : List UInt8) : ((hexL 2 l 0).bind fun n => some ([n.toUInt8], 3)) = many 2 l := rfl
theorem many4 (l : List UInt8) : ((hexL 4 l 0).bind fun n => if good n = true then some (Lib.encodeRune (n : Int), 5) else none) = many 4 l := rfl
theorem many6 (l : List UInt8) : ((hexL 6 l 0).bind fun n => if good n = true then some (Lib.encodeRune (n : Int), 7) else none) = many 6 l := rfl
theorem j0_ev (acc : List UInt8) (t : ByteArray) (d : Nat) (ht : t.size ≤ 1048576) (h1 : 1 ≤ t.size) (hl : acc.length ≤ 1048576) (hd : d = 2 ∨ 2 < d ∧ d ≤ 6) : Ev (fun k => runes_escaped.j0 k (ints acc) t (d : Int)) (eres acc (many d (dl t 1))) := by
  have hz : (t.extract 1 t.size).size ≤ 140737488355328 := by rw [ByteArray.size_extract]; omega
  have nu := number_f (t.extract 1 t.size) d hz (by omega)
  rw [dl_extract t 1 0 h1] at nu
  refine Ev.step (f := fun k => (runes_number.f k (t.extract 1 t.size) (d : Int)).bind fun bt233 => (if bt233.2 = true then (if (d : Int) > 2 then ((utf8_ValidRune.f k bt233.1).bind fun t235 => (runes_escaped.j1 k (ints acc) (d : Int) bt233.1 (!t235))) else (runes_escaped.j1 k (ints acc) (d : Int) bt233.1 false)) else (runes_escaped.j1 k (ints acc) (d : Int) bt233.1 true))) (fun k => ?_) (Ev.bind nu ?_)
  · simp only [runes_escaped.j0]
    rw [if_pos (by omega)]
  unfold many
  cases hh : hexL d (dl t 1) 0 with
  | none =>
    simp only [hexE, Option.bind_none, eres]
    refine Ev.some fun k => (if_neg Bool.false_ne_true).trans ?_
    simp only [runes_escaped.j1]
    rw [if_pos trivial]
  | some n =>
    simp only [hexE, Option.bind_some]
    refine Ev.congr (fun k => if_pos trivial) ?_
    by_cases c : d = 2
    · rw [if_pos c]
      have e := j1_ev acc d n hl hd (fun h => by omega)
      rw [if_pos c, show 1 + d = 3 by omega] at e
      exact Ev.congr (fun k => if_neg (by omega)) e
    · rw [if_neg c]
      refine Ev.congr (fun k => if_pos (by omega)) (Ev.bind (valid_f n) ?_)
      by_cases hg : good n = true
      · rw [if_pos hg, hg]
        have e := j1_ev acc d n hl hd (fun _ => hg)
        rw [if_neg c] at e
        exact e
      · rw [if_neg hg]
        have hg2 : good n = false := by simpa using hg
        rw [hg2]
        refine Ev.some fun k => ?_
        simp only [runes_escaped.j1, Bool.not_false, eres]
        rw [if_pos trivial]
theorem escaped_ev (acc : List UInt8) (t : ByteArray) (ht : t.size ≤ 1048576) (hl : acc.length ≤ 1048576) : Ev (fun k => runes_escaped.f k (ints acc) t) (eres acc (escL (dl t 0))) := by
  have hL := ints_length acc
  by_cases h0 : t.size = 0
  · have e : t.toList = [] := by
      rw [ByteArray.toList_eq]
      exact List.eq_nil_of_length_eq_zero (by rw [Array.length_toList]; exact h0)
    rw [dl_nil t 0 (by omega)]
    refine Ev.some fun k => ?_
    unfold runes_escaped.f
    rw [if_pos e]
    rfl
  have h1 : 0 < t.size := by omega
  have ne : ¬ t.toList = [] := by
    rw [ByteArray.toList_eq]
    intro h
    have := congrArg List.length h
    rw [Array.length_toList] at this
    exact h0 this
  have eb : bt t 0 = ((t.get! 0).toNat : Int) := bt_nat t 0 h1
  rw [dl_cons t 0 h1]
  have first : ∀ k, runes_escaped.f k (ints acc) t = (if (((t.get! 0).toNat : Nat) : Int) = 92 then (some ((ints acc ++ [92]), 1)) else (if (((t.get! 0).toNat : Nat) : Int) = 110 then (some ((ints acc ++ [10]), 1)) else (if (((t.get! 0).toNat : Nat) : Int) = 114 then (some ((ints acc ++ [13]), 1)) else (if (((t.get! 0).toNat : Nat) : Int) = 116 then (some ((ints acc ++ [9]), 1)) else (if (((t.get! 0).toNat : Nat) : Int) = 120 then (runes_escaped.j0 k (ints acc) t 2) else (if (((t.get! 0).toNat : Nat) : Int) = 117 then (runes_escaped.j0 k (ints acc) t 4) else (if (((t.get! 0).toNat : Nat) : Int) = 85 then (runes_escaped.j0 k (ints acc) t 6) else (some (ints acc, 0))))))))) := by
    intro k
    unfold runes_escaped.f
    rw [if_neg ne, if_pos (by omega), eb]
    simp only [if_pos (show (ints acc).length < 140737488355328 by omega)]
  refine Ev.congr first ?_
  clear first eb ne
  generalize hc : t.get! 0 = c
  have cv : ∀ n : Nat, n < 256 → ((((c.toNat : Nat) : Int) = (n : Int)) ↔ c = n.toUInt8) := by
    intro n hn
    rw [← u8_ne c n hn]
    omega
  simp only [escL]
  rw [many2, many4, many6]
  by_cases c1 : c = 92
  · rw [if_pos c1]
    refine Ev.congr (fun k => if_pos ((cv 92 (by decide)).2 c1)) ?_
    rw [show eres acc (some (([92] : List UInt8), 1)) = (ints acc ++ [92], 1) by simp only [eres, ints_app]; rfl]
    exact Ev.now _
  rw [if_neg c1]
  refine Ev.congr (fun k => if_neg (fun h => c1 ((cv 92 (by decide)).1 h))) ?_
  by_cases c2 : c = 110
  · rw [if_pos c2]
    refine Ev.congr (fun k => if_pos ((cv 110 (by decide)).2 c2)) ?_
    rw [show eres acc (some (([10] : List UInt8), 1)) = (ints acc ++ [10], 1) by simp only [eres, ints_app]; rfl]
    exact Ev.now _
  rw [if_neg c2]
  refine Ev.congr (fun k => if_neg (fun h => c2 ((cv 110 (by decide)).1 h))) ?_
  by_cases c3 : c = 114
  · rw [if_pos c3]
    refine Ev.congr (fun k => if_pos ((cv 114 (by decide)).2 c3)) ?_
    rw [show eres acc (some (([13] : List UInt8), 1)) = (ints acc ++ [13], 1) by simp only [eres, ints_app]; rfl]
    exact Ev.now _
  rw [if_neg c3]
  refine Ev.congr (fun k => if_neg (fun h => c3 ((cv 114 (by decide)).1 h))) ?_
  by_cases c4 : c = 116
  · rw [if_pos c4]
    refine Ev.congr (fun k => if_pos ((cv 116 (by decide)).2 c4)) ?_
    rw [show eres acc (some (([9] : List UInt8), 1)) = (ints acc ++ [9], 1) by simp only [eres, ints_app]; rfl]
    exact Ev.now _
  rw [if_neg c4]
  refine Ev.congr (fun k => if_neg (fun h => c4 ((cv 116 (by decide)).1 h))) ?_
  by_cases c5 : c = 120
  · rw [if_pos c5]
    exact Ev.congr (fun k => if_pos ((cv 120 (by decide)).2 c5)) (j0_ev acc t 2 ht h1 hl (.inl rfl))
  rw [if_neg c5]
  refine Ev.congr (fun k => if_neg (fun h => c5 ((cv 120 (by decide)).1 h))) ?_
  by_cases c6 : c = 117
  · rw [if_pos c6]
    exact Ev.congr (fun k => if_pos ((cv 117 (by decide)).2 c6)) (j0_ev acc t 4 ht h1 hl (.inr (by decide)))
  rw [if_neg c6]
  refine Ev.congr (fun k => if_neg (fun h => c6 ((cv 117 (by decide)).1 h))) ?_
  by_cases c7 : c = 85
  · rw [if_pos c7]
    exact Ev.congr (fun k => if_pos ((cv 85 (by decide)).2 c7)) (j0_ev acc t 6 ht h1 hl (.inr (by decide)))
  rw [if_neg c7]
  exact Ev.congr (fun k => if_neg (fun h => c7 ((cv 85 (by decide)).1 h))) (Ev.now _)
def res : List UInt8 ⊕ Nat → ByteArray × Int × Int
  | .inl l => (⟨l.toArray⟩, 0, 0)
  | .inr i => (⟨#[]⟩, (i : Int), 10)
theorem un_ev (s : ByteArray) (hs : s.size ≤ 1048576) : ∀ (fuel i : Nat) (acc : List UInt8), i ≤ s.size → s.size < i + fuel → acc.length ≤ i → Ev (fun k => runes_Unescape.l0 k s (ints acc) (i : Int)) (res (unL fuel (dl s i) i acc)) := by
  intro fuel
  induction fuel with
  | zero => intro i acc h1 h2; omega
  | succ fuel ih =>
    intro i acc h1 h2 h3
    have hL := ints_length acc
    by_cases hi : i < s.size
    · have eb := bt_nat s i hi
      have w1 : wrap64 ((i : Int) + 1) = ((i + 1 : Nat) : Int) := by rw [w64 (by omega) (by omega)]; omega
      rw [dl_cons s i hi]
      simp only [unL]
      by_cases c : s.get! i = 92
      · rw [if_pos c]
        have hz : (s.extract (i + 1) s.size).size ≤ 1048576 := by rw [ByteArray.size_extract]; omega
        have es := escaped_ev acc (s.extract (i + 1) s.size) hz (by omega)
        rw [dl_extract s (i + 1) 0 (by omega), Nat.add_zero] at es
        have e92 : bt s (i : Int) = 92 := by rw [eb, c]; rfl
        refine Ev.step (f := fun k => (runes_escaped.f k (ints acc) (s.extract (i + 1) s.size)).bind fun bt242 => (if bt242.2 = 0 then (some ((⟨#[]⟩ : ByteArray), (i : Int), 10)) else (runes_Unescape.l0 k s bt242.1 (wrap64 ((wrap64 ((i : Int) + bt242.2)) + 1))))) (fun k => ?_) (Ev.bind es ?_)
        · simp only [runes_Unescape.l0]
          rw [if_pos (by omega), if_pos (by omega), if_pos e92, w1, if_pos (by omega), if_pos (by omega), Int.toNat_natCast]
        cases hq : escL (dl s (i + 1)) with
        | none =>
          simp only [eres, res]
          exact Ev.congr (fun k => if_pos trivial) (Ev.now _)
        | some q =>
          obtain ⟨p, n⟩ := q
          obtain ⟨g1, g2, g3⟩ := escL_len _ _ _ hq
          rw [dl_len] at g3
          simp only [eres]
          have w2 : wrap64 (wrap64 ((i : Int) + (n : Int)) + 1) = ((i + 1 + n : Nat) : Int) := by
            clear w1
            rw [w64 (x := (i : Int) + (n : Int)) (by omega) (by omega), w64 (by omega) (by omega)]; omega
          rw [dl_drop]
          have hn0 : ¬ ((n : Int) = 0) := by omega
          refine Ev.congr (fun k => (if_neg hn0).trans (by rw [w2])) (ih (i + 1 + n) (acc ++ p) (by clear w1 w2; omega) (by clear w1 w2; omega) (by rw [List.length_append]; clear w1 w2; omega))
      · rw [if_neg c]
        have n92 : ¬ bt s (i : Int) = 92 := by
          rw [eb]
          intro h
          exact c ((u8_ne _ 92 (by decide)).1 (by omega))
        refine Ev.step (f := fun k => runes_Unescape.l0 k s (ints (acc ++ [s.get! i])) ((i + 1 : Nat) : Int)) (fun k => ?_) (ih (i + 1) (acc ++ [s.get! i]) (by clear w1; omega) (by clear w1; omega) (by clear w1; simp; omega))
        simp only [runes_Unescape.l0]
        rw [if_pos (by omega), if_pos (by omega), if_neg n92, if_pos (by omega), w1, eb, ints_app]
        rfl
    · rw [dl_nil s i (by omega)]
      refine Ev.some fun k => ?_
      simp only [runes_Unescape.l0, unL, res]
      rw [if_neg (by omega), str_ints]
theorem unescape_f (s : ByteArray) (hs : s.size ≤ 1048576) : Ev (fun k => runes_Unescape.f k s) (res (unL (s.size + 1) s.data.toList 0 [])) := by
  refine Ev.congr (fun k => ?_) (un_ev s hs (s.size + 1) 0 [] (by omega) (by omega) (by simp))
  unfold runes_Unescape.f
  rw [if_neg (by omega)]
  rfl
end Go.Proofs.YtigikjihagmokaaDoor.UnescP
set_option linter.unusedVariables false
set_option linter.unusedSimpArgs false
namespace Go.Proofs.YtigikjihagmokaaDoor.RunesUnescapes
open Go.RowKit Go.Proofs.YtigikjihagmokaaDoorW.PrintWords Go.Proofs.YtigikjihagmokaaDoorW.PrintLast Go.Proofs.YtigikjihagmokaaDoorW.PrintMore Go.Proofs.YtigikjihagmokaaDoor.F Go.Proofs.YtigikjihagmokaaDoor.RunesAwake Go.Proofs.YtigikjihagmokaaDoor.Step01 Go.Proofs.YtigikjihagmokaaDoor.Esc01 Go.Proofs.YtigikjihagmokaaDoor.Unesc01 Go.Proofs.YtigikjihagmokaaDoor.UnescP
def numE (o : Option Nat) : Int := match o with | some n => (n : Int) | none => -1
theorem hexv_cases (b : Nat) (h : b < 256) : (48 ≤ b ∧ b ≤ 57 ∧ hexv b = some (b - 48)) ∨ (97 ≤ b ∧ b ≤ 102 ∧ hexv b = some (b - 87)) ∨ (65 ≤ b ∧ b ≤ 70 ∧ hexv b = some (b - 55)) ∨ (¬ (48 ≤ b ∧ b ≤ 57) ∧ ¬ (97 ≤ b ∧ b ≤ 102) ∧ ¬ (65 ≤ b ∧ b ≤ 70) ∧ hexv b = none) := by
  unfold hexv
  by_cases c1 : 48 ≤ b ∧ b ≤ 57
  · exact .inl ⟨c1.1, c1.2, if_pos c1⟩
  by_cases c2 : 97 ≤ b ∧ b ≤ 102
  · exact .inr (.inl ⟨c2.1, c2.2, by rw [if_neg c1, if_pos c2]⟩)
  by_cases c3 : 65 ≤ b ∧ b ≤ 70
  · exact .inr (.inr (.inl ⟨c3.1, c3.2, by rw [if_neg c1, if_neg c2, if_pos c3]⟩))
  · exact .inr (.inr (.inr ⟨c1, c2, c3, by rw [if_neg c1, if_neg c2, if_neg c3]⟩))
theorem wr1 {x y : Int} (h : 0 ≤ x ∧ x ≤ 1000000000) (e : x = y) : wrap64 x = y := by rw [w64 (by omega) (by omega)]; exact e
theorem unhex_ev (s : ByteArray) (hs : s.size ≤ 1048576) (a m : Nat) (hm : m ≤ 6) (ha : a + m ≤ s.size) : ∀ (d j n : Nat), j + d = m → n < 16 ^ (6 - d) →
    Ev (fun k => idiomref01_unhex.l0 k s (a : Int) (m : Int) (n : Int) (j : Int)) (numE (hexL d (dl s (a + j)) n)) := by
  intro d
  induction d with
  | zero =>
    intro j n h1 h2
    refine Ev.some fun k => ?_
    simp only [idiomref01_unhex.l0, hexL, numE]
    rw [if_neg (by omega)]
  | succ d ih =>
    intro j n h1 h2
    have hj : a + j < s.size := by omega
    have e16 : 16 ^ (6 - d) = 16 ^ (6 - (d + 1)) * 16 := by rw [show 6 - d = 6 - (d + 1) + 1 by omega, Nat.pow_succ]
    have b16 : 16 ^ (6 - (d + 1)) ≤ 16 ^ 5 := Nat.pow_le_pow_right (by decide) (by omega)
    have hn5 : n < 1048576 := by omega
    have eb := bt_nat s (a + j) hj
    have hb : (s.get! (a + j)).toNat < 256 := (s.get! (a + j)).toNat_lt
    have wa : Aside0 (wrap64 ((a : Int) + (j : Int)) = ((a + j : Nat) : Int)) := ⟨wr1 (by omega) (by omega)⟩
    have wj : Aside0 (wrap64 ((j : Int) + 1) = ((j + 1 : Nat) : Int)) := ⟨wr1 (by omega) (by omega)⟩
    rw [dl_cons s (a + j) hj]
    simp only [hexL]
    generalize (s.get! (a + j)).toNat = b at *
    have wb : Aside0 (wrap64 ((b : Nat) : Int) = (b : Int)) := ⟨wr1 (by omega) rfl⟩
    have wn : Aside0 (wrap64 ((n : Int) * 16) = (n : Int) * 16) := ⟨wr1 (by omega) rfl⟩
    have wnb : Aside0 (wrap64 ((n : Int) * 16 + (b : Int)) = (n : Int) * 16 + b) := ⟨wr1 (by omega) rfl⟩
    have W := Aside0.mk (And.intro wa.out (And.intro wj.out (And.intro wb.out (And.intro wn.out wnb.out))))
    have first : ∀ k, idiomref01_unhex.l0 (k + 1) s (a : Int) (m : Int) (n : Int) (j : Int) = if (b : Int) ≥ 48 then idiomref01_unhex.j1 k s a m n j b (decide ((b : Int) ≤ 57)) else idiomref01_unhex.j1 k s a m n j b false := by
      intro k
      simp only [idiomref01_unhex.l0]
      rw [W.out.1, eb, W.out.2.2.1, if_pos (by omega), if_pos (by omega), if_pos (by omega)]
    have second : ∀ k, ¬ (48 ≤ b ∧ b ≤ 57) → idiomref01_unhex.l0 (k + 2) s (a : Int) (m : Int) (n : Int) (j : Int) = if (b : Int) ≥ 97 then idiomref01_unhex.j2 k s a m n j b (decide ((b : Int) ≤ 102)) else idiomref01_unhex.j2 k s a m n j b false := by
      intro k hc
      rw [first]
      have j1f : idiomref01_unhex.j1 (k + 1) s a m n j b false = if (b : Int) ≥ 97 then idiomref01_unhex.j2 k s a m n j b (decide ((b : Int) ≤ 102)) else idiomref01_unhex.j2 k s a m n j b false := by
        simp only [idiomref01_unhex.j1]
        rw [if_neg Bool.false_ne_true]
      by_cases c : (b : Int) ≥ 48
      · rw [if_pos c, decide_eq_false (by omega), j1f]
      · rw [if_neg c, j1f]
    have third : ∀ k, ¬ (48 ≤ b ∧ b ≤ 57) → ¬ (97 ≤ b ∧ b ≤ 102) → idiomref01_unhex.l0 (k + 3) s (a : Int) (m : Int) (n : Int) (j : Int) = if (b : Int) ≥ 65 then (if (b : Int) ≤ 70 then (idiomref01_unhex.l0 k s a m (wrap64 ((wrap64 ((wrap64 ((wrap64 ((n : Int) * 16)) + b)) - 65)) + 10)) (wrap64 ((j : Int) + 1))) else (some (-1))) else (some (-1)) := by
      intro k hc hd
      rw [second (k + 1) hc]
      have j2f : idiomref01_unhex.j2 (k + 1) s a m n j b false = if (b : Int) ≥ 65 then (if (b : Int) ≤ 70 then (idiomref01_unhex.l0 k s a m (wrap64 ((wrap64 ((wrap64 ((wrap64 ((n : Int) * 16)) + b)) - 65)) + 10)) (wrap64 ((j : Int) + 1))) else (some (-1))) else (some (-1)) := by
        simp only [idiomref01_unhex.j2]
        rw [if_neg Bool.false_ne_true]
      by_cases c : (b : Int) ≥ 97
      · rw [if_pos c, decide_eq_false (by omega), j2f]
      · rw [if_neg c, j2f]
    have next := fun v (hv : v < 16) => ih (j + 1) (n * 16 + v) (by omega) (by omega)
    rcases hexv_cases b hb with ⟨c1, c2, hv⟩ | ⟨c1, c2, hv⟩ | ⟨c1, c2, hv⟩ | ⟨c1, c2, c3, hv⟩
    · rw [hv]
      have w : Aside0 (wrap64 ((n : Int) * 16 + (b : Int) - 48) = ((n * 16 + (b - 48) : Nat) : Int)) := ⟨wr1 (by omega) (by omega)⟩
      refine Ev.step first (Ev.step (f := fun k => idiomref01_unhex.l0 k s (a : Int) (m : Int) ((n * 16 + (b - 48) : Nat) : Int) ((j + 1 : Nat) : Int)) (fun k => ?_) (next (b - 48) (by omega)))
      rw [if_pos (by omega), decide_eq_true (by omega)]
      simp only [idiomref01_unhex.j1]
      rw [if_pos trivial, W.out.2.2.2.1, W.out.2.2.2.2, w.out, W.out.2.1]
    · rw [hv]
      have w : Aside0 (wrap64 (wrap64 ((n : Int) * 16 + (b : Int) - 97) + 10) = ((n * 16 + (b - 87) : Nat) : Int)) := ⟨by
        rw [w64 (x := (n : Int) * 16 + (b : Int) - 97) (by omega) (by omega)]
        exact wr1 (by omega) (by omega)⟩
      refine Ev.step (fun k => first k) ?_
      refine Ev.step (f := fun k => idiomref01_unhex.j2 k s a m n j b true) (fun k => ?_) ?_
      · by_cases c : (b : Int) ≥ 48
        · rw [if_pos c, decide_eq_false (by omega)]
          simp only [idiomref01_unhex.j1]
          rw [if_neg Bool.false_ne_true, if_pos (by omega), decide_eq_true (by omega)]
        · omega
      refine Ev.step (f := fun k => idiomref01_unhex.l0 k s (a : Int) (m : Int) ((n * 16 + (b - 87) : Nat) : Int) ((j + 1 : Nat) : Int)) (fun k => ?_) (next (b - 87) (by omega))
      simp only [idiomref01_unhex.j2]
      rw [if_pos trivial, W.out.2.2.2.1, W.out.2.2.2.2, w.out, W.out.2.1]
    · rw [hv]
      have w : Aside0 (wrap64 (wrap64 ((n : Int) * 16 + (b : Int) - 65) + 10) = ((n * 16 + (b - 55) : Nat) : Int)) := ⟨by
        rw [w64 (x := (n : Int) * 16 + (b : Int) - 65) (by omega) (by omega)]
        exact wr1 (by omega) (by omega)⟩
      have e3 := next (b - 55) (by omega)
      obtain ⟨K, hK⟩ := e3
      refine ⟨K + 3, fun k hk => ?_⟩
      obtain ⟨k, rfl⟩ : ∃ q, k = q + 3 := ⟨k - 3, by omega⟩
      show idiomref01_unhex.l0 (k + 3) s (a : Int) (m : Int) (n : Int) (j : Int) = _
      rw [third k (by omega) (by omega), if_pos (by omega), if_pos (by omega), W.out.2.2.2.1, W.out.2.2.2.2, w.out, W.out.2.1]
      exact hK k (by omega)
    · rw [hv]
      refine ⟨3, fun k hk => ?_⟩
      obtain ⟨k, rfl⟩ : ∃ q, k = q + 3 := ⟨k - 3, by omega⟩
      show idiomref01_unhex.l0 (k + 3) s (a : Int) (m : Int) (n : Int) (j : Int) = _
      rw [third k c1 c2]
      by_cases c : (b : Int) ≥ 65
      · rw [if_pos c, if_neg (by omega)]
        rfl
      · rw [if_neg c]
        rfl
theorem unhex_f (s : ByteArray) (hs : s.size ≤ 1048576) (a d : Nat) (hd1 : 1 ≤ d) (hd : d ≤ 6) (ha : a ≤ s.size + 1) : Ev (fun k => idiomref01_unhex.f k s (a : Int) (d : Int)) (numE (hexL d (dl s a) 0)) := by
  have w : wrap64 ((s.size : Int) - (a : Int)) = (s.size : Int) - a := w64 (by omega) (by omega)
  by_cases c : (s.size : Int) - a < d
  · refine Ev.congr (fun k => ?_) (Ev.now _)
    unfold idiomref01_unhex.f
    rw [w, if_pos c, hexL_short d _ _ (by rw [dl_len]; omega)]
    rfl
  · have e := unhex_ev s hs a d hd (by clear w; omega) d 0 0 (by omega) (pow_pos6 d)
    rw [Nat.add_zero] at e
    refine Ev.congr (fun k => ?_) e
    unfold idiomref01_unhex.f
    rw [w, if_neg c]
    rfl
def ores (o : Option (List UInt8 × Nat)) : ByteArray × Int := match o with | some (p, n) => (⟨p.toArray⟩, ((n + 1 : Nat) : Int)) | none => (⟨#[]⟩, 0)
theorem j0_ev (s : ByteArray) (hs : s.size ≤ 1048576) (i d : Nat) (hi : i + 1 < s.size) (hd : d = 2 ∨ 2 < d ∧ d ≤ 6) : Ev (fun k => idiomref01_one.j0 k s (i : Int) (d : Int)) (ores (many d (dl s (i + 2)))) := by
  have uh := unhex_f s hs (i + 2) d (by omega) (by omega) (by omega)
  have w2 : wrap64 ((i : Int) + 2) = ((i + 2 : Nat) : Int) := wr1 (by omega) (by omega)
  have wd : wrap64 (2 + (d : Int)) = ((1 + d + 1 : Nat) : Int) := wr1 (by clear w2; omega) (by clear w2; omega)
  refine Ev.step (f := fun k => (idiomref01_unhex.f k s ((i + 2 : Nat) : Int) (d : Int)).bind fun t261 => (if t261 < 0 then (some ((⟨#[]⟩ : ByteArray), 0)) else (if (d : Int) = 2 then (some (strOfNums (([(t261) % 256] : List Int)), 4)) else (if t261 > 1114111 then (some ((⟨#[]⟩ : ByteArray), 0)) else (if t261 ≥ 55296 then (if t261 ≤ 57343 then (some ((⟨#[]⟩ : ByteArray), 0)) else ((idiomref01_Put.f t261).bind fun t265 => (some (t265, wrap64 (2 + (d : Int)))))) else ((idiomref01_Put.f t261).bind fun t266 => (some (t266, wrap64 (2 + (d : Int)))))))))) (fun k => ?_) (Ev.bind uh ?_)
  · simp only [idiomref01_one.j0]
    rw [w2]
  rw [wd]
  clear w2 wd
  unfold many
  cases hh : hexL d (dl s (i + 2)) 0 with
  | none =>
    simp only [numE, Option.bind_none, ores]
    exact Ev.congr (fun k => if_pos (by decide)) (Ev.now _)
  | some n =>
    simp only [numE, Option.bind_some]
    refine Ev.congr (fun k => if_neg (by omega)) ?_
    by_cases c : d = 2
    · rw [if_pos c]
      refine Ev.congr (fun k => if_pos (by omega)) ?_
      have e : (n : Int) % 256 = ((n.toUInt8.toNat : Nat) : Int) := by rw [Nat.toUInt8_eq, UInt8.toNat_ofNat']; omega
      rw [e]
      have e2 : strOfNums [((n.toUInt8.toNat : Nat) : Int)] = ⟨[n.toUInt8].toArray⟩ := str_ints [n.toUInt8]
      rw [e2]
      exact Ev.now _
    · rw [if_neg c]
      refine Ev.congr (fun k => if_neg (by omega)) ?_
      by_cases hg : good n = true
      · have hg2 : n < 55296 ∨ 57344 ≤ n ∧ n ≤ 1114111 := of_decide_eq_true hg
        have pf := put_f n hg2
        rw [if_pos hg, pf]
        refine Ev.congr (fun k => if_neg (by omega)) ?_
        simp only [Option.bind_some, ores]
        by_cases c4 : (n : Int) ≥ 55296
        · exact Ev.congr (fun k => (if_pos c4).trans (if_neg (by omega))) (Ev.now _)
        · exact Ev.congr (fun k => if_neg c4) (Ev.now _)
      · rw [if_neg hg]
        have hg2 : ¬ (n < 55296 ∨ 57344 ≤ n ∧ n ≤ 1114111) := fun h => hg (decide_eq_true h)
        simp only [ores]
        by_cases c3 : (n : Int) > 1114111
        · exact Ev.congr (fun k => if_pos c3) (Ev.now _)
        · exact Ev.congr (fun k => (if_neg c3).trans ((if_pos (by omega)).trans (if_pos (by omega)))) (Ev.now _)
theorem one_ev (s : ByteArray) (hs : s.size ≤ 1048576) (i : Nat) (hi : i < s.size) : Ev (fun k => idiomref01_one.f k s (i : Int)) (ores (escL (dl s (i + 1)))) := by
  have w1 : wrap64 ((i : Int) + 1) = ((i + 1 : Nat) : Int) := wr1 (by omega) (by omega)
  by_cases h1 : i + 1 < s.size
  · have eb := bt_nat s (i + 1) h1
    rw [dl_cons s (i + 1) h1]
    have first : ∀ k, idiomref01_one.f k s (i : Int) = (if (((s.get! (i + 1)).toNat : Nat) : Int) = 92 then (some ((⟨#[92]⟩ : ByteArray), 2)) else (if (((s.get! (i + 1)).toNat : Nat) : Int) = 110 then (some ((⟨#[10]⟩ : ByteArray), 2)) else (if (((s.get! (i + 1)).toNat : Nat) : Int) = 114 then (some ((⟨#[13]⟩ : ByteArray), 2)) else (if (((s.get! (i + 1)).toNat : Nat) : Int) = 116 then (some ((⟨#[9]⟩ : ByteArray), 2)) else (if (((s.get! (i + 1)).toNat : Nat) : Int) = 120 then (idiomref01_one.j0 k s (i : Int) 2) else (if (((s.get! (i + 1)).toNat : Nat) : Int) = 117 then (idiomref01_one.j0 k s (i : Int) 4) else (if (((s.get! (i + 1)).toNat : Nat) : Int) = 85 then (idiomref01_one.j0 k s (i : Int) 6) else (some ((⟨#[]⟩ : ByteArray), 0))))))))) := by
      intro k
      unfold idiomref01_one.f
      rw [w1, if_neg (by clear w1; omega), if_pos (by clear w1; omega), if_pos (by clear w1; omega), eb]
    refine Ev.congr first ?_
    clear first eb w1
    generalize hc : s.get! (i + 1) = c
    have cv : ∀ n : Nat, n < 256 → ((((c.toNat : Nat) : Int) = (n : Int)) ↔ c = n.toUInt8) := by
      intro n hn
      rw [← u8_ne c n hn]
      omega
    simp only [escL]
    rw [many2, many4, many6]
    by_cases c1 : c = 92
    · rw [if_pos c1]
      exact Ev.congr (fun k => if_pos ((cv 92 (by decide)).2 c1)) (Ev.now _)
    rw [if_neg c1]
    refine Ev.congr (fun k => if_neg (fun h => c1 ((cv 92 (by decide)).1 h))) ?_
    by_cases c2 : c = 110
    · rw [if_pos c2]
      exact Ev.congr (fun k => if_pos ((cv 110 (by decide)).2 c2)) (Ev.now _)
    rw [if_neg c2]
    refine Ev.congr (fun k => if_neg (fun h => c2 ((cv 110 (by decide)).1 h))) ?_
    by_cases c3 : c = 114
    · rw [if_pos c3]
      exact Ev.congr (fun k => if_pos ((cv 114 (by decide)).2 c3)) (Ev.now _)
    rw [if_neg c3]
    refine Ev.congr (fun k => if_neg (fun h => c3 ((cv 114 (by decide)).1 h))) ?_
    by_cases c4 : c = 116
    · rw [if_pos c4]
      exact Ev.congr (fun k => if_pos ((cv 116 (by decide)).2 c4)) (Ev.now _)
    rw [if_neg c4]
    refine Ev.congr (fun k => if_neg (fun h => c4 ((cv 116 (by decide)).1 h))) ?_
    by_cases c5 : c = 120
    · rw [if_pos c5]
      exact Ev.congr (fun k => if_pos ((cv 120 (by decide)).2 c5)) (j0_ev s hs i 2 h1 (.inl rfl))
    rw [if_neg c5]
    refine Ev.congr (fun k => if_neg (fun h => c5 ((cv 120 (by decide)).1 h))) ?_
    by_cases c6 : c = 117
    · rw [if_pos c6]
      exact Ev.congr (fun k => if_pos ((cv 117 (by decide)).2 c6)) (j0_ev s hs i 4 h1 (.inr (by decide)))
    rw [if_neg c6]
    refine Ev.congr (fun k => if_neg (fun h => c6 ((cv 117 (by decide)).1 h))) ?_
    by_cases c7 : c = 85
    · rw [if_pos c7]
      exact Ev.congr (fun k => if_pos ((cv 85 (by decide)).2 c7)) (j0_ev s hs i 6 h1 (.inr (by decide)))
    rw [if_neg c7]
    exact Ev.congr (fun k => if_neg (fun h => c7 ((cv 85 (by decide)).1 h))) (Ev.now _)
  · rw [dl_nil s (i + 1) (by omega)]
    refine Ev.congr (fun k => ?_) (Ev.now _)
    unfold idiomref01_one.f
    rw [w1, if_pos (by clear w1; omega)]
    rfl
theorem ref_ev (s : ByteArray) (hs : s.size ≤ 1048576) : ∀ (fuel i : Nat) (acc : List UInt8), i ≤ s.size → s.size < i + fuel → acc.length ≤ i → Ev (fun k => idiomref01_Unescape.l0 k s (ints acc) (i : Int)) (res (unL fuel (dl s i) i acc)) := by
  intro fuel
  induction fuel with
  | zero => intro i acc h1 h2; omega
  | succ fuel ih =>
    intro i acc h1 h2 h3
    have hL := ints_length acc
    by_cases hi : i < s.size
    · have eb := bt_nat s i hi
      have w1 : wrap64 ((i : Int) + 1) = ((i + 1 : Nat) : Int) := wr1 (by omega) (by omega)
      rw [dl_cons s i hi]
      simp only [unL]
      by_cases c : s.get! i = 92
      · rw [if_pos c]
        have es := one_ev s hs i hi
        have e92 : bt s (i : Int) = 92 := by rw [eb, c]; rfl
        clear w1
        refine Ev.step (f := fun k => (idiomref01_one.f k s (i : Int)).bind fun bt270 => (if bt270.2 = 0 then (some ((⟨#[]⟩ : ByteArray), (i : Int), 10)) else (if (ints acc).length + bt270.1.size < 140737488355328 then (idiomref01_Unescape.l0 k s (ints acc ++ bytesOf bt270.1) (wrap64 ((i : Int) + bt270.2))) else (none)))) (fun k => ?_) (Ev.bind es ?_)
        · simp only [idiomref01_Unescape.l0]
          rw [if_pos (by omega), if_pos (by omega), if_pos e92]
        cases hq : escL (dl s (i + 1)) with
        | none =>
          simp only [ores, res]
          exact Ev.congr (fun k => if_pos trivial) (Ev.now _)
        | some q =>
          obtain ⟨p, n⟩ := q
          obtain ⟨g1, g2, g3⟩ := escL_len _ _ _ hq
          rw [dl_len] at g3
          simp only [ores]
          have w2 : wrap64 ((i : Int) + ((n + 1 : Nat) : Int)) = ((i + 1 + n : Nat) : Int) := wr1 (by omega) (by omega)
          rw [dl_drop]
          have hn0 : ¬ (((n + 1 : Nat) : Int) = 0) := by omega
          have hsz : (ints acc).length + (⟨p.toArray⟩ : ByteArray).size < 140737488355328 := by rw [size_list]; clear w2; omega
          refine Ev.congr (fun k => (if_neg hn0).trans ((if_pos hsz).trans (by rw [w2, bytesOf_list, ← ints_app]))) (ih (i + 1 + n) (acc ++ p) (by clear w2; omega) (by clear w2; omega) (by rw [List.length_append]; clear w2; omega))
      · rw [if_neg c]
        have n92 : ¬ bt s (i : Int) = 92 := by
          rw [eb]
          intro h
          exact c ((u8_ne _ 92 (by decide)).1 (by omega))
        refine Ev.step (f := fun k => idiomref01_Unescape.l0 k s (ints (acc ++ [s.get! i])) ((i + 1 : Nat) : Int)) (fun k => ?_) (ih (i + 1) (acc ++ [s.get! i]) (by clear w1; omega) (by clear w1; omega) (by clear w1; simp; omega))
        simp only [idiomref01_Unescape.l0]
        rw [if_pos (by omega), if_pos (by omega), if_neg n92, if_pos (by omega), w1, eb, ints_app]
        rfl
    · rw [dl_nil s i (by omega)]
      refine Ev.some fun k => ?_
      simp only [idiomref01_Unescape.l0, unL, res]
      rw [if_neg (by omega), str_ints]
theorem law (s : ByteArray) : ∃ k, idiomlaw01_RunesUnescapes.f k s = some true := by
  apply Ev.rounds (g := fun k => idiomlaw01_RunesUnescapes.f k s)
  unfold idiomlaw01_RunesUnescapes.f
  have fin : ∀ (r : ByteArray × Int × Int), Ev (fun k => runes_Unescape.f k s) r → Ev (fun k => idiomref01_Unescape.f k s) r → Ev (fun k => (runes_Unescape.f k s).bind fun bt278 => ((idiomref01_Unescape.f k s).bind fun bt281 => (if bt278.1.toList = bt281.1.toList then (if bt278.2.1 = bt281.2.1 then (if bt278.2.2 = bt281.2.2 then ((idiomlaw01_awake.f).bind fun t284 => (some t284)) else (none)) else (none)) else (none)))) true := by
    intro r h1 h2
    refine Ev.bind h1 (Ev.bind h2 ?_)
    exact Ev.congr (fun k => by rw [if_pos rfl, if_pos rfl, if_pos rfl]) awake_ev
  by_cases c : (s.size : Int) > 1048576
  · refine fin (⟨#[]⟩, 0, 2) (Ev.congr (fun k => ?_) (Ev.now _)) (Ev.congr (fun k => ?_) (Ev.now _))
    · unfold runes_Unescape.f
      rw [if_pos c]
    · unfold idiomref01_Unescape.f
      rw [if_pos c]
  · refine fin _ (unescape_f s (by omega)) (Ev.congr (fun k => ?_) (ref_ev s (by omega) (s.size + 1) 0 [] (by omega) (by omega) (by simp)))
    unfold idiomref01_Unescape.f
    rw [if_neg c]
    rfl
end Go.Proofs.YtigikjihagmokaaDoor.RunesUnescapes
set_option linter.unusedVariables false
set_option linter.unusedSimpArgs false
namespace Go.Proofs.YtigikjihagmokaaDoor.lawRunesUnescapes
open Go.ChangeShapes Go.WideShapes Go.ChangeAt Go.RowKit
open Go.ChangeMaps (open_string shut_string)
theorem own : ownKnob Tryd.prog.godebug = none := by kernel_rfl
theorem laidOut : laidOutB Tryd.prog = true := by kernel_rfl
set_option maxRecDepth 100000 in
theorem lifted (os : Os) (started : os.Started) (H : Type) (enc : TypeId × Value → H) :
    ReturnsInHanded {} Tryd.checked os 10 .any (fun w args => (Rows.runesUnescapesSpec.pre enc Tryd.prog Tryd.f10 [] false w args ∧ laidMetH Tryd.prog Rows.runesUnescapesRow.laid w) ∧ sizedMet enc Tryd.prog Tryd.f10 (OpenSpec.ofChange Rows.runesUnescapesSpec) false w args)
      (Rows.runesUnescapesSpec.post enc Tryd.prog Tryd.f10 false true false false) := by
  refine returnsInHanded_of_change_and (C := Tryd.checked) (X := (fun w _ => laidMetH Tryd.prog Rows.runesUnescapesRow.laid w)) (fun _ _ _ hh h => h.of_heap hh) own started (by kernel_rfl) Tryd.func10
    (ChangeSpec.witness_shaped (enc := enc) (C := Tryd.checked) (os := os) (X := (fun w _ => laidMetH Tryd.prog Rows.runesUnescapesRow.laid w)) false (World.laidAll Tryd.prog os Rows.runesUnescapesRow.laid) #[.string ByteArray.empty] 12 (World.laidAll_os _ _ _)
      (World.shaped_of_ZipB (by kernel_rfl) (by kernel_rfl)) (by kernel_rfl) (by kernel_rfl) (by kernel_rfl)
      (by rw [MakeChecks.laidMetH_plain _ _ _ (by kernel_rfl)]; exact laidMet_laidAll _ (by kernel_rfl) (by kernel_rfl))) ?_
  intro W base args ds gs before hval0 hW _ hsz0 hL0 _
  have hsz : (DataW.weightsEach Tryd.prog (Tryd.f10.params.toList ++ Rows.runesUnescapesSpec.plain.varTypes Tryd.prog) (ds ++ gs)).all (· ≤ reachBytes) = true := hsz0
  have hval : ∀ (j : Nat) t v, Tryd.f10.params[j]? = some t → args[j]? = some v → Value.okWide Tryd.prog W .any base t v := hval0
  have hW' := hW
  obtain ⟨p, q, hA0, hV, rfl, hfz, hnd⟩ := hW
  have hA : DataW.TrodAll enc Tryd.prog W 0 (fun _ => true) true Tryd.f10.params.toList args.toList ds p := hA0
  rw [Tryd.params10] at hA hval hsz
  obtain ⟨v0, vs0, d0, ds0, p0, q0, hargs, rfl, rfl, h0, r0⟩ := trodAll_cons hA
  obtain ⟨rfl, rfl, rfl⟩ := trodAll_nil r0
  obtain rfl : args = #[v0] := by cases args; simp_all
  obtain ⟨rfl, rfl⟩ := trodVars_none hV
  have k0 := h0
  have lt0 : ∀ x ∈ p0, x.block < W.heap.size := by obtain ⟨m, hm⟩ := k0; exact DataW.trod_lt m _ _ _ hm
  obtain ⟨a0, rfl, rfl, rfl, y0⟩ := open_string Tryd.underlying9 (hval 0 9 v0 rfl rfl) h0
  have w0 : a0.size ≤ 140737488351232 := by
    have z := sized_string hsz (j := 0) (t := 9) rfl rfl
    rw [Array.length_toList] at z
    exact z
  obtain ⟨k, hk⟩ := RunesUnescapes.law a0
  refine (F.idiomlaw01_RunesUnescapes.calls k a0 true W hk).mono fun e W' ⟨he, bel0⟩ => ?_
  have bel : Below W.heap.size W W' := by first | exact bel0 | exact YtigikjihagmokaaDoorW.PrintWords.Drawn0.below bel0
  subst he
  exact ⟨_, rfl, _, _, _, [], _, [], hW', trodAll_mk1 (shut_bool Tryd.underlying4 _), (trodAll_cons_mk (Below.trod laidOut (by kernel_rfl) (of_decide_eq_true (by kernel_rfl)) k0 bel lt0) trodAll_mk0), rfl, bel.frame _, fun h => by cases h⟩
theorem said : Rows.runesUnescapesRow.holds Tryd.pinned (OpenSpec.ofChange Rows.runesUnescapesSpec) :=
  OpenClaim.holds_of_wide 10 Tryd.f10 rfl rfl rfl rfl rfl rfl rfl ⟨rfl, rfl, rfl, rfl, rfl⟩ rfl rfl rfl rfl rfl (by kernel_rfl) Tryd.func10 (by kernel_rfl)
    (of_decide_eq_true (by kernel_rfl)) (by unfold Func.isWrapper; first | (rw [if_pos (by decide +kernel)]; kernel_rfl) | (rw [if_neg (by decide +kernel)]; exact ⟨rfl, rfl⟩))
    (fun os started H enc _ => lifted os started H enc)
theorem plain (f : FuncId) (fn : Func) (hf : Tryd.pinned.checked.prog.funcNamed "idiom/idiomlaw01.RunesUnescapes" = some f) (hfn : Tryd.pinned.checked.prog.funcs[f]? = some fn) :
    true = Tryd.pinned.checked.prog.looks [] ∧ ∀ (j : Nat) t, fn.params[j]? = some t → Tryd.pinned.checked.prog.wantsStandIn t = false := by
  obtain rfl : f = 10 := Option.some.inj ((show Tryd.prog.funcNamed "idiom/idiomlaw01.RunesUnescapes" = some 10 by kernel_rfl).symm.trans hf) |>.symm
  obtain rfl : fn = Tryd.f10 := (Option.some.inj (Tryd.func10.symm.trans hfn)).symm
  refine ⟨by kernel_rfl, fun j t ht => ?_⟩
  rw [Tryd.params10] at ht
  have hm : t ∈ [9] := by simpa using Array.mem_of_getElem? ht
  have hall : ([9].all fun u => !Tryd.prog.wantsStandIn u) = true := by kernel_rfl
  exact (show Tryd.prog.wantsStandIn t = false by simpa using List.all_eq_true.1 hall t hm)
/-- THE CARD. -/
theorem card : Rows.RunesUnescapesCardSaid :=
  Claim7.holds_tied_plain_at .later [] _ _ _ _ said (fun _ h => by cases h) (by kernel_rfl) (fun _ h => by cases h) runesUnescapes_row_tie rfl ⟨rfl, rfl⟩ (by kernel_rfl) rfl plain (by kernel_rfl)
#print axioms card
end Go.Proofs.YtigikjihagmokaaDoor.lawRunesUnescapes
namespace Go.Proofs.YtigikjihagmokaaDoor
/-- The claim, under a short name. -/
theorem runesUnescapes_holds : Rows.RunesUnescapesCardSaid := lawRunesUnescapes.card
end Go.Proofs.YtigikjihagmokaaDoor
