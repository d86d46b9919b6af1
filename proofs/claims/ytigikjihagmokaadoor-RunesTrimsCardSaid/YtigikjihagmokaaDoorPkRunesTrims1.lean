/- Part 2 of 2 of the proof of the law RunesTrims: it is true at every input. Conditions: those of the given row, no others. -/
import Derived.Test.YtigikjihagmokaaDoorPkRunesTrims0
import Derived.Lib.TrimUEq
import Derived.Shelf.Strings.BuilderRune
import Derived.Lib.MapLaws
import Derived.Test.YtigikjihagmokaaDoorCards
import Derived.Test.YtigikjihagmokaaDoorTie
import Derived.WalkKit
import Derived.ProofKit
import Derived.OpenShut
import Derived.ShutString
import Derived.ChangeOld
import Derived.Below
import Derived.SizedLaws
import Derived.Carry
import Derived.Lib.SmallJoins
import Derived.PinnedBridge
import Derived.Lay
import Derived.LaidOnce
import Derived.SevenTiedAt
set_option linter.unusedVariables false
set_option linter.unusedSimpArgs false
namespace Go.Proofs.YtigikjihagmokaaDoor.Step01
open Go.RowKit Go.Proofs.YtigikjihagmokaaDoorW.PrintWords Go.Proofs.YtigikjihagmokaaDoorW.PrintLast Go.Proofs.YtigikjihagmokaaDoorW.PrintMore Go.Proofs.YtigikjihagmokaaDoor.F Go.Proofs.YtigikjihagmokaaDoor.RunesAwake
/-- What the decoder tells of numbers, as the reference tells it. -/
def told (d : Nat × Nat) : Int × Int := if d = (65533, 1) then (-1, 1) else ((d.1 : Int), (d.2 : Int))
theorem bt_nat (s : ByteArray) (i : Nat) (h : i < s.size) : bt s (i : Int) = ((s.get! i).toNat : Int) := by
  have h2 : ((i : Int)).toNat < s.size := by omega
  rw [← bt_at s (i : Int) h2]
  congr 1
  have e : s.get! i = s[i]'h := by
    show s.data[i]! = s.data[i]'h
    exact getElem!_pos s.data i h
  rw [e]
  congr 1
theorem byte_le (s : ByteArray) (i : Nat) : (s.get! i).toNat ≤ 255 := by have := (s.get! i).toNat_lt; omega
/-- One byte more. -/
theorem l0_step (s : ByteArray) (i j n : Nat) (low r : Int) (hs : s.size ≤ 140737488355328) (hi : i + j < s.size) (hj : j < n) (hn : n ≤ 4) (hr : 0 ≤ r ∧ r ≤ 2097152) (k : Nat) :
    idiomref01_Step.l0 (k + 1) s (i : Int) (n : Int) low r (j : Int) = if (s.get! (i + j)).toNat / 64 = 2 then idiomref01_Step.l0 k s (i : Int) (n : Int) low (r * 64 + (((s.get! (i + j)).toNat : Nat) : Int) - 128) ((j + 1 : Nat) : Int) else some (-1, 1) := by
  have hb := byte_le s (i + j)
  have w1 : wrap64 ((i : Int) + (j : Int)) = ((i + j : Nat) : Int) := by rw [w64 (by omega) (by omega)]; omega
  have eb : bt s ((i + j : Nat) : Int) = ((s.get! (i + j)).toNat : Int) := bt_nat s (i + j) hi
  generalize (s.get! (i + j)).toNat = b at *
  have w2 : wrap64 (b : Int) = b := w64 (by omega) (by omega)
  have w3 : wrap64 (r * 64) = r * 64 := w64 (by omega) (by omega)
  have w4 : wrap64 (r * 64 + (b : Int)) = r * 64 + b := w64 (by omega) (by omega)
  have w5 : wrap64 (r * 64 + (b : Int) - 128) = r * 64 + b - 128 := w64 (by omega) (by omega)
  have w6 : wrap64 ((j : Int) + 1) = ((j + 1 : Nat) : Int) := by rw [w64 (by omega) (by omega)]; omega
  simp only [idiomref01_Step.l0]
  rw [w1, eb, w2, w3, w4, w5, w6]
  clear w1 eb w2 w3 w4 w5 w6
  rw [if_pos (by omega), if_pos (by omega), if_pos (by omega)]
  by_cases h1 : b / 64 = 2
  · rw [if_pos h1, if_neg (by omega), if_neg (by omega)]
  · rw [if_neg h1]
    by_cases h2 : (b : Int) < 128
    · rw [if_pos h2]
    · rw [if_neg h2, if_pos (by omega)]
theorem l0_end (s : ByteArray) (i n : Nat) (low r : Int) (k : Nat) : idiomref01_Step.l0 (k + 1) s (i : Int) (n : Int) low r (n : Int) = some (if low ≤ r ∧ r ≤ 1114111 ∧ (r < 55296 ∨ 57343 < r) then (r, (n : Int)) else (-1, 1)) := by
  simp only [idiomref01_Step.l0]
  rw [if_neg (by omega)]
  by_cases h1 : r < low
  · rw [if_pos h1, if_neg (by omega)]
  · rw [if_neg h1]
    by_cases h2 : r > 1114111
    · rw [if_pos h2, if_neg (by omega)]
    · rw [if_neg h2]
      by_cases h3 : r ≥ 55296
      · rw [if_pos h3]
        by_cases h4 : r ≤ 57343
        · rw [if_pos h4, if_neg (by omega)]
        · rw [if_neg h4, if_pos (by omega)]
      · rw [if_neg h3, if_pos (by omega)]
theorem step_ev (s : ByteArray) (hs : s.size ≤ 140737488355328) (i : Nat) (hi : i < s.size) : Ev (fun k => idiomref01_Step.f k s (i : Int)) (told (Utf8.decode s i)) := by
  rw [Lib.decode_at]
  have h0 := byte_le s i
  have h1 := byte_le s (i + 1)
  have h2 := byte_le s (i + 2)
  have h3 := byte_le s (i + 3)
  have eb : bt s (i : Int) = ((s.get! i).toNat : Int) := bt_nat s i hi
  have wl : wrap64 ((s.size : Int) - (i : Int)) = ((s.size - i : Nat) : Int) := by rw [w64 (by omega) (by omega)]; omega
  have wb : wrap64 (((s.get! i).toNat : Nat) : Int) = ((s.get! i).toNat : Int) := w64 (by omega) (by omega)
  -- the loop, three lengths
  have loop2 : ∀ low r : Int, 0 ≤ r → r ≤ 31 → i + 1 < s.size → Ev (fun k => idiomref01_Step.l0 k s (i : Int) 2 low r 1) (if (s.get! (i + 1)).toNat / 64 = 2 then (if low ≤ r * 64 + (s.get! (i + 1)).toNat - 128 ∧ r * 64 + (s.get! (i + 1)).toNat - 128 ≤ 1114111 ∧ (r * 64 + (s.get! (i + 1)).toNat - 128 < 55296 ∨ 57343 < r * 64 + (s.get! (i + 1)).toNat - 128) then (r * 64 + (s.get! (i + 1)).toNat - 128, 2) else (-1, 1)) else (-1, 1)) := by
    intro low r r0 r1 hl
    by_cases c1 : (s.get! (i + 1)).toNat / 64 = 2
    · rw [if_pos c1]
      exact Ev.step (fun k => (l0_step s i 1 2 low r hs hl (by omega) (by omega) ⟨r0, by omega⟩ k).trans (if_pos c1)) (Ev.some fun k => l0_end s i 2 low _ k)
    · rw [if_neg c1]
      exact Ev.some fun k => (l0_step s i 1 2 low r hs hl (by omega) (by omega) ⟨r0, by omega⟩ k).trans (if_neg c1)
  have loop3 : ∀ low r : Int, 0 ≤ r → r ≤ 15 → i + 2 < s.size → Ev (fun k => idiomref01_Step.l0 k s (i : Int) 3 low r 1) (if (s.get! (i + 1)).toNat / 64 = 2 ∧ (s.get! (i + 2)).toNat / 64 = 2 then (if low ≤ (r * 64 + (s.get! (i + 1)).toNat - 128) * 64 + (s.get! (i + 2)).toNat - 128 ∧ (r * 64 + (s.get! (i + 1)).toNat - 128) * 64 + (s.get! (i + 2)).toNat - 128 ≤ 1114111 ∧ ((r * 64 + (s.get! (i + 1)).toNat - 128) * 64 + (s.get! (i + 2)).toNat - 128 < 55296 ∨ 57343 < (r * 64 + (s.get! (i + 1)).toNat - 128) * 64 + (s.get! (i + 2)).toNat - 128) then ((r * 64 + (s.get! (i + 1)).toNat - 128) * 64 + (s.get! (i + 2)).toNat - 128, 3) else (-1, 1)) else (-1, 1)) := by
    intro low r r0 r1 hl
    by_cases c1 : (s.get! (i + 1)).toNat / 64 = 2
    · refine Ev.step (fun k => (l0_step s i 1 3 low r hs (by omega) (by omega) (by omega) ⟨r0, by omega⟩ k).trans (if_pos c1)) ?_
      by_cases c2 : (s.get! (i + 2)).toNat / 64 = 2
      · rw [if_pos ⟨c1, c2⟩]
        exact Ev.step (fun k => (l0_step s i 2 3 low _ hs hl (by omega) (by omega) ⟨by omega, by omega⟩ k).trans (if_pos c2)) (Ev.some fun k => l0_end s i 3 low _ k)
      · rw [if_neg (fun h => c2 h.2)]
        exact Ev.some fun k => (l0_step s i 2 3 low _ hs hl (by omega) (by omega) ⟨by omega, by omega⟩ k).trans (if_neg c2)
    · rw [if_neg (fun h => c1 h.1)]
      exact Ev.some fun k => (l0_step s i 1 3 low r hs (by omega) (by omega) (by omega) ⟨r0, by omega⟩ k).trans (if_neg c1)
  have loop4 : ∀ low r : Int, 0 ≤ r → r ≤ 7 → i + 3 < s.size → Ev (fun k => idiomref01_Step.l0 k s (i : Int) 4 low r 1) (if (s.get! (i + 1)).toNat / 64 = 2 ∧ (s.get! (i + 2)).toNat / 64 = 2 ∧ (s.get! (i + 3)).toNat / 64 = 2 then (if low ≤ ((r * 64 + (s.get! (i + 1)).toNat - 128) * 64 + (s.get! (i + 2)).toNat - 128) * 64 + (s.get! (i + 3)).toNat - 128 ∧ ((r * 64 + (s.get! (i + 1)).toNat - 128) * 64 + (s.get! (i + 2)).toNat - 128) * 64 + (s.get! (i + 3)).toNat - 128 ≤ 1114111 ∧ (((r * 64 + (s.get! (i + 1)).toNat - 128) * 64 + (s.get! (i + 2)).toNat - 128) * 64 + (s.get! (i + 3)).toNat - 128 < 55296 ∨ 57343 < ((r * 64 + (s.get! (i + 1)).toNat - 128) * 64 + (s.get! (i + 2)).toNat - 128) * 64 + (s.get! (i + 3)).toNat - 128) then (((r * 64 + (s.get! (i + 1)).toNat - 128) * 64 + (s.get! (i + 2)).toNat - 128) * 64 + (s.get! (i + 3)).toNat - 128, 4) else (-1, 1)) else (-1, 1)) := by
    intro low r r0 r1 hl
    by_cases c1 : (s.get! (i + 1)).toNat / 64 = 2
    · refine Ev.step (fun k => (l0_step s i 1 4 low r hs (by omega) (by omega) (by omega) ⟨r0, by omega⟩ k).trans (if_pos c1)) ?_
      by_cases c2 : (s.get! (i + 2)).toNat / 64 = 2
      · refine Ev.step (fun k => (l0_step s i 2 4 low _ hs (by omega) (by omega) (by omega) ⟨by omega, by omega⟩ k).trans (if_pos c2)) ?_
        by_cases c3 : (s.get! (i + 3)).toNat / 64 = 2
        · rw [if_pos ⟨c1, c2, c3⟩]
          exact Ev.step (fun k => (l0_step s i 3 4 low _ hs hl (by omega) (by omega) ⟨by omega, by omega⟩ k).trans (if_pos c3)) (Ev.some fun k => l0_end s i 4 low _ k)
        · rw [if_neg (fun h => c3 h.2.2)]
          exact Ev.some fun k => (l0_step s i 3 4 low _ hs hl (by omega) (by omega) ⟨by omega, by omega⟩ k).trans (if_neg c3)
      · rw [if_neg (fun h => c2 h.2.1)]
        exact Ev.some fun k => (l0_step s i 2 4 low _ hs (by omega) (by omega) (by omega) ⟨by omega, by omega⟩ k).trans (if_neg c2)
    · rw [if_neg (fun h => c1 h.1)]
      exact Ev.some fun k => (l0_step s i 1 4 low r hs (by omega) (by omega) (by omega) ⟨r0, by omega⟩ k).trans (if_neg c1)
  generalize (s.get! i).toNat = b0 at *
  generalize (s.get! (i + 1)).toNat = b1 at *
  generalize (s.get! (i + 2)).toNat = b2 at *
  generalize (s.get! (i + 3)).toNat = b3 at *
  obtain ⟨n, hn⟩ : ∃ n, n = s.size - i := ⟨_, rfl⟩
  rw [← hn] at wl ⊢
  have n0 : 0 < n := by omega
  -- the first byte
  by_cases c128 : b0 < 128
  · refine Ev.congr (fun k => ?_) (Ev.now _)
    simp only [idiomref01_Step.f]
    rw [wl, if_neg (by omega), if_pos (by omega), if_pos (by omega), eb, wb, if_pos (by omega)]
    have hD : Lib.decodeN n b0 b1 b2 b3 = (b0, 1) := by unfold Lib.decodeN; rw [if_pos c128]
    rw [hD]
    unfold told
    rw [if_neg (by intro h; injection h with h; omega)]
    rfl
  have head : ∀ k, idiomref01_Step.f k s (i : Int) = if (b0 : Int) ≥ 192 then idiomref01_Step.j0 k s (i : Int) (n : Int) (b0 : Int) (decide ((b0 : Int) < 224)) else idiomref01_Step.j0 k s (i : Int) (n : Int) (b0 : Int) false := by
    intro k
    simp only [idiomref01_Step.f]
    rw [wl, if_neg (by omega), if_pos (by omega), if_pos (by omega), eb, wb, if_neg (by omega)]
  refine Ev.congr head ?_
  clear head wl eb wb
  by_cases c2 : b0 / 32 = 6
  · refine Ev.congr (fun k => by rw [if_pos (by omega), decide_eq_true (by omega)]) ?_
    have w : wrap64 ((b0 : Int) - 192) = (b0 : Int) - 192 := w64 (by omega) (by omega)
    refine Ev.step (f := fun k => idiomref01_Step.j2 k s (i : Int) (n : Int) 2 128 ((b0 : Int) - 192)) (fun k => by simp only [idiomref01_Step.j0]; rw [if_pos trivial, w]) ?_
    clear w
    by_cases hl : 1 < n
    · refine Ev.step (fun k => by simp only [idiomref01_Step.j2]; rw [if_neg (by omega)]) ?_
      have e := loop2 128 ((b0 : Int) - 192) (by omega) (by omega) (by omega)
      clear loop2 loop3 loop4
      by_cases d1 : b1 / 64 = 2
      · rw [if_pos d1] at e
        by_cases d2 : b0 % 32 * 64 + b1 % 64 ≥ 128
        · have hD : Lib.decodeN n b0 b1 b2 b3 = (b0 % 32 * 64 + b1 % 64, 2) := by unfold Lib.decodeN; rw [if_neg c128, if_pos ⟨c2, hl, d1⟩, if_pos d2]
          rw [hD]
          unfold told
          rw [if_neg (by intro h; injection h with h h'; omega)]
          rw [if_pos (by omega)] at e
          have e1 : ((b0 : Int) - 192) * 64 + (b1 : Int) - 128 = ((b0 % 32 * 64 + b1 % 64 : Nat) : Int) := by omega
          rw [e1] at e
          exact e
        · have hD : Lib.decodeN n b0 b1 b2 b3 = (65533, 1) := by unfold Lib.decodeN; rw [if_neg c128, if_pos ⟨c2, hl, d1⟩, if_neg d2]
          rw [hD]
          rw [if_neg (by omega)] at e
          exact e
      · have hD : Lib.decodeN n b0 b1 b2 b3 = (65533, 1) := by unfold Lib.decodeN; rw [if_neg c128, if_neg (fun h => d1 h.2.2), if_neg (by omega), if_neg (by omega)]
        rw [hD]
        rw [if_neg d1] at e
        exact e
    · refine Ev.some fun k => ?_
      simp only [idiomref01_Step.j2]
      rw [if_pos (by omega)]
      have hD : Lib.decodeN n b0 b1 b2 b3 = (65533, 1) := by unfold Lib.decodeN; rw [if_neg c128, if_neg (by omega), if_neg (by omega), if_neg (by omega)]
      rw [hD]
      rfl
  by_cases c3 : b0 / 16 = 14
  · refine Ev.congr (fun k => by rw [if_pos (by omega), decide_eq_false (by omega)]) ?_
    have w : wrap64 ((b0 : Int) - 224) = (b0 : Int) - 224 := w64 (by omega) (by omega)
    refine Ev.step (f := fun k => idiomref01_Step.j1 k s (i : Int) (n : Int) (b0 : Int) true) (fun k => by simp only [idiomref01_Step.j0]; rw [if_neg (by decide), if_pos (by omega), decide_eq_true (by omega)]) ?_
    refine Ev.step (f := fun k => idiomref01_Step.j2 k s (i : Int) (n : Int) 3 2048 ((b0 : Int) - 224)) (fun k => by simp only [idiomref01_Step.j1]; rw [if_pos trivial, w]) ?_
    clear w
    by_cases hl : 2 < n
    · refine Ev.step (fun k => by simp only [idiomref01_Step.j2]; rw [if_neg (by omega)]) ?_
      have e := loop3 2048 ((b0 : Int) - 224) (by omega) (by omega) (by omega)
      clear loop2 loop3 loop4
      by_cases d1 : b1 / 64 = 2 ∧ b2 / 64 = 2
      · rw [if_pos d1] at e
        by_cases d2 : b0 % 16 * 4096 + b1 % 64 * 64 + b2 % 64 ≥ 2048 ∧ (b0 % 16 * 4096 + b1 % 64 * 64 + b2 % 64 < 55296 ∨ (57344 ≤ b0 % 16 * 4096 + b1 % 64 * 64 + b2 % 64 ∧ b0 % 16 * 4096 + b1 % 64 * 64 + b2 % 64 ≤ 1114111))
        · have hD : Lib.decodeN n b0 b1 b2 b3 = (b0 % 16 * 4096 + b1 % 64 * 64 + b2 % 64, 3) := by unfold Lib.decodeN; rw [if_neg c128, if_neg (by omega), if_pos ⟨c3, ⟨by omega, d1.1⟩, hl, d1.2⟩, if_pos d2]
          rw [hD]
          unfold told
          rw [if_neg (by intro h; injection h with h h'; omega)]
          rw [if_pos (by omega)] at e
          have e1 : (((b0 : Int) - 224) * 64 + (b1 : Int) - 128) * 64 + (b2 : Int) - 128 = ((b0 % 16 * 4096 + b1 % 64 * 64 + b2 % 64 : Nat) : Int) := by omega
          rw [e1] at e
          exact e
        · have hD : Lib.decodeN n b0 b1 b2 b3 = (65533, 1) := by unfold Lib.decodeN; rw [if_neg c128, if_neg (by omega), if_pos ⟨c3, ⟨by omega, d1.1⟩, hl, d1.2⟩, if_neg d2]
          rw [hD]
          rw [if_neg (by omega)] at e
          exact e
      · have hD : Lib.decodeN n b0 b1 b2 b3 = (65533, 1) := by unfold Lib.decodeN; rw [if_neg c128, if_neg (by omega), if_neg (fun h => d1 ⟨h.2.1.2, h.2.2.2⟩), if_neg (by omega)]
        rw [hD]
        rw [if_neg d1] at e
        exact e
    · refine Ev.some fun k => ?_
      simp only [idiomref01_Step.j2]
      rw [if_pos (by omega)]
      have hD : Lib.decodeN n b0 b1 b2 b3 = (65533, 1) := by unfold Lib.decodeN; rw [if_neg c128, if_neg (by omega), if_neg (by omega), if_neg (by omega)]
      rw [hD]
      rfl
  by_cases c4 : b0 / 8 = 30
  · refine Ev.congr (fun k => by rw [if_pos (by omega), decide_eq_false (by omega)]) ?_
    have w : wrap64 ((b0 : Int) - 240) = (b0 : Int) - 240 := w64 (by omega) (by omega)
    refine Ev.step (f := fun k => idiomref01_Step.j1 k s (i : Int) (n : Int) (b0 : Int) false) (fun k => by simp only [idiomref01_Step.j0]; rw [if_neg (by decide), if_pos (by omega), decide_eq_false (by omega)]) ?_
    refine Ev.step (f := fun k => idiomref01_Step.j2 k s (i : Int) (n : Int) 4 65536 ((b0 : Int) - 240)) (fun k => by simp only [idiomref01_Step.j1]; rw [if_neg (by decide), if_pos (by omega), if_pos (by omega), w]) ?_
    clear w
    by_cases hl : 3 < n
    · refine Ev.step (fun k => by simp only [idiomref01_Step.j2]; rw [if_neg (by omega)]) ?_
      have e := loop4 65536 ((b0 : Int) - 240) (by omega) (by omega) (by omega)
      clear loop2 loop3 loop4
      by_cases d1 : b1 / 64 = 2 ∧ b2 / 64 = 2 ∧ b3 / 64 = 2
      · rw [if_pos d1] at e
        by_cases d2 : b0 % 8 * 262144 + b1 % 64 * 4096 + b2 % 64 * 64 + b3 % 64 ≥ 65536 ∧ (b0 % 8 * 262144 + b1 % 64 * 4096 + b2 % 64 * 64 + b3 % 64 < 55296 ∨ (57344 ≤ b0 % 8 * 262144 + b1 % 64 * 4096 + b2 % 64 * 64 + b3 % 64 ∧ b0 % 8 * 262144 + b1 % 64 * 4096 + b2 % 64 * 64 + b3 % 64 ≤ 1114111))
        · have hD : Lib.decodeN n b0 b1 b2 b3 = (b0 % 8 * 262144 + b1 % 64 * 4096 + b2 % 64 * 64 + b3 % 64, 4) := by unfold Lib.decodeN; rw [if_neg c128, if_neg (by omega), if_neg (by omega), if_pos ⟨c4, ⟨by omega, d1.1⟩, ⟨by omega, d1.2.1⟩, hl, d1.2.2⟩, if_pos d2]
          rw [hD]
          unfold told
          rw [if_neg (by intro h; injection h with h h'; omega)]
          rw [if_pos (by omega)] at e
          have e1 : ((((b0 : Int) - 240) * 64 + (b1 : Int) - 128) * 64 + (b2 : Int) - 128) * 64 + (b3 : Int) - 128 = ((b0 % 8 * 262144 + b1 % 64 * 4096 + b2 % 64 * 64 + b3 % 64 : Nat) : Int) := by omega
          rw [e1] at e
          exact e
        · have hD : Lib.decodeN n b0 b1 b2 b3 = (65533, 1) := by unfold Lib.decodeN; rw [if_neg c128, if_neg (by omega), if_neg (by omega), if_pos ⟨c4, ⟨by omega, d1.1⟩, ⟨by omega, d1.2.1⟩, hl, d1.2.2⟩, if_neg d2]
          rw [hD]
          rw [if_neg (by omega)] at e
          exact e
      · have hD : Lib.decodeN n b0 b1 b2 b3 = (65533, 1) := by unfold Lib.decodeN; rw [if_neg c128, if_neg (by omega), if_neg (by omega), if_neg (fun h => d1 ⟨h.2.1.2, h.2.2.1.2, h.2.2.2.2⟩)]
        rw [hD]
        rw [if_neg d1] at e
        exact e
    · refine Ev.some fun k => ?_
      simp only [idiomref01_Step.j2]
      rw [if_pos (by omega)]
      have hD : Lib.decodeN n b0 b1 b2 b3 = (65533, 1) := by unfold Lib.decodeN; rw [if_neg c128, if_neg (by omega), if_neg (by omega), if_neg (by omega)]
      rw [hD]
      rfl
  clear loop2 loop3 loop4
  have bad : told (Lib.decodeN n b0 b1 b2 b3) = (-1, 1) := by
    have hD : Lib.decodeN n b0 b1 b2 b3 = (65533, 1) := by unfold Lib.decodeN; rw [if_neg c128, if_neg (fun h => c2 h.1), if_neg (fun h => c3 h.1), if_neg (fun h => c4 h.1)]
    rw [hD]
    rfl
  rw [bad]
  have z : ∀ g : Nat → Option (Int × Int), (∀ k, g k = idiomref01_Step.j0 k s (i : Int) (n : Int) (b0 : Int) false) → Ev g (-1, 1) := by
    intro g hg
    refine Ev.congr hg ?_
    have j1 : Ev (fun k => idiomref01_Step.j1 k s (i : Int) (n : Int) (b0 : Int) false) (-1, 1) := by
      refine Ev.some fun k => ?_
      simp only [idiomref01_Step.j1]
      rw [if_neg (by decide)]
      by_cases a : (b0 : Int) ≥ 240
      · rw [if_pos a, if_neg (by omega)]
      · rw [if_neg a]
    refine Ev.step (fun k => ?_) j1
    simp only [idiomref01_Step.j0]
    rw [if_neg (by decide)]
    by_cases a : (b0 : Int) ≥ 224
    · rw [if_pos a, decide_eq_false (by omega)]
    · rw [if_neg a]
  by_cases a : (b0 : Int) ≥ 192
  · exact z _ (fun k => by rw [if_pos a, decide_eq_false (by omega)])
  · exact z _ (fun k => if_neg a)
end Go.Proofs.YtigikjihagmokaaDoor.Step01
set_option linter.unusedVariables false
set_option linter.unusedSimpArgs false
namespace Go.Proofs.YtigikjihagmokaaDoor.Text01
open Go.RowKit Go.Proofs.YtigikjihagmokaaDoorW.PrintWords Go.Proofs.YtigikjihagmokaaDoorW.PrintLast Go.Proofs.YtigikjihagmokaaDoorW.PrintMore Go.Proofs.YtigikjihagmokaaDoor.F Go.Proofs.YtigikjihagmokaaDoor.RunesAwake Go.Proofs.YtigikjihagmokaaDoor.Step01
theorem rest_ne (s : ByteArray) (i : Nat) (h : i < s.size) : s.data.toList.drop i ≠ [] := fun e => by
  have := congrArg List.length e
  rw [List.length_drop, Array.length_toList] at this
  have h2 : s.data.size = s.size := rfl
  simp at this
  omega
theorem fits (s : ByteArray) (i : Nat) (h : i < s.size) : i + (Utf8.decode s i).2 ≤ s.size := by
  have e := Lib.decodeL_le (s.data.toList.drop i) (rest_ne s i h)
  rw [Lib.decodeL_drop, List.length_drop, Array.length_toList] at e
  have h2 : s.data.size = s.size := rfl
  omega
theorem told_bad {d : Nat × Nat} (h : d = (65533, 1)) : told d = (-1, 1) := by unfold told; rw [if_pos h]
theorem told_good {d : Nat × Nat} (h : d ≠ (65533, 1)) : told d = ((d.1 : Int), (d.2 : Int)) := by unfold told; rw [if_neg h]
end Go.Proofs.YtigikjihagmokaaDoor.Text01
set_option linter.unusedVariables false
set_option linter.unusedSimpArgs false
namespace Go.Proofs.YtigikjihagmokaaDoor.TrimL
open Go.RowKit Go.Proofs.YtigikjihagmokaaDoor.Trim
/-- Whitespace at a place? -/
def sp (s : ByteArray) (p : Nat) : Bool := spaceB ((Utf8.decode s p).1 : Int)
def first (s : ByteArray) : Nat → Nat → Nat
  | 0, p => p
  | k + 1, p => if p < s.size then (if sp s p = true then first s k (p + (Utf8.decode s p).2) else p) else p
def endAt (s : ByteArray) : Nat → Nat → Nat → Nat
  | 0, _, e => e
  | k + 1, p, e => if p < s.size then (if sp s p = true then endAt s k (p + (Utf8.decode s p).2) e else endAt s k (p + (Utf8.decode s p).2) (p + (Utf8.decode s p).2)) else e
theorem endAt_stop (s : ByteArray) (k p e : Nat) (h : ¬ p < s.size) : endAt s k p e = e := by
  cases k with
  | zero => rfl
  | succ k => simp only [endAt]; rw [if_neg h]
theorem endAt_ge (s : ByteArray) : ∀ (k p e : Nat), endAt s k p e = e ∨ p < s.size ∧ p + (Utf8.decode s p).2 ≤ endAt s k p e := by
  intro k
  induction k with
  | zero => intro p e; exact .inl rfl
  | succ k ih =>
    intro p e
    simp only [endAt]
    by_cases h : p < s.size
    · rw [if_pos h]
      have hw := Stray.width s p h
      by_cases c : sp s p = true
      · rw [if_pos c]
        rcases ih (p + (Utf8.decode s p).2) e with e1 | ⟨h1, e1⟩
        · exact .inl e1
        · exact .inr ⟨h, by omega⟩
      · rw [if_neg c]
        rcases ih (p + (Utf8.decode s p).2) (p + (Utf8.decode s p).2) with e1 | ⟨h1, e1⟩
        · exact .inr ⟨h, by omega⟩
        · exact .inr ⟨h, by omega⟩
    · rw [if_neg h]; exact .inl rfl
theorem endAt_le (s : ByteArray) : ∀ (k p e : Nat), e ≤ s.size → endAt s k p e ≤ s.size := by
  intro k
  induction k with
  | zero => intro p e h; exact h
  | succ k ih =>
    intro p e he
    simp only [endAt]
    by_cases h : p < s.size
    · rw [if_pos h]
      have hf := fits s p h
      split
      · exact ih _ _ he
      · exact ih _ _ hf
    · rw [if_neg h]; exact he
theorem go_later (s : ByteArray) : ∀ (k p a b : Nat), a ≤ p → go s k p (a : Int) (b : Int) = ((a : Int), (endAt s k p b : Int)) := by
  intro k
  induction k with
  | zero => intro p a b h; rfl
  | succ k ih =>
    intro p a b h
    simp only [go, endAt]
    by_cases hp : p < s.size
    · rw [if_pos hp, if_pos hp]
      by_cases c : sp s p = true
      · have c2 : spaceB ((Utf8.decode s p).1 : Int) = true := c
        rw [if_pos c, if_pos c2, ih _ _ _ (by omega)]
      · have c2 : ¬ spaceB ((Utf8.decode s p).1 : Int) = true := c
        rw [if_neg c, if_neg c2, if_neg (by omega), ih _ _ _ (by omega)]
    · rw [if_neg hp, if_neg hp]
theorem first_le (s : ByteArray) : ∀ (k p : Nat), p ≤ s.size → p ≤ first s k p ∧ first s k p ≤ s.size := by
  intro k
  induction k with
  | zero => intro p h; exact ⟨Nat.le_refl _, h⟩
  | succ k ih =>
    intro p h
    simp only [first]
    by_cases hp : p < s.size
    · rw [if_pos hp]
      split
      · have := ih (p + (Utf8.decode s p).2) (fits s p hp)
        omega
      · omega
    · rw [if_neg hp]; omega
theorem first_no (s : ByteArray) : ∀ (k p : Nat), p ≤ s.size → s.size < p + k → first s k p < s.size → sp s (first s k p) = false := by
  intro k
  induction k with
  | zero => intro p h1 h2; omega
  | succ k ih =>
    intro p h1 h2 h3
    simp only [first] at h3 ⊢
    by_cases hp : p < s.size
    · rw [if_pos hp] at h3 ⊢
      have hw := Stray.width s p hp
      by_cases c : sp s p = true
      · rw [if_pos c] at h3 ⊢
        exact ih _ (fits s p hp) (by omega) h3
      · rw [if_neg c]; simpa using c
    · rw [if_neg hp] at h3; omega
theorem endAt_more (s : ByteArray) : ∀ (k m p e : Nat), p ≤ s.size → s.size < p + k → s.size < p + m → endAt s k p e = endAt s m p e := by
  intro k
  induction k with
  | zero => intro m p e h1 h2; omega
  | succ k ih =>
    intro m p e h1 h2 h3
    cases m with
    | zero => omega
    | succ m =>
      simp only [endAt]
      by_cases hp : p < s.size
      · have hw := Stray.width s p hp
        have hf := fits s p hp
        rw [if_pos hp, if_pos hp]
        split
        · exact ih m _ _ hf (by omega) (by omega)
        · exact ih m _ _ hf (by omega) (by omega)
      · rw [if_neg hp, if_neg hp]
theorem go_start (s : ByteArray) : ∀ (k p : Nat), p ≤ s.size → s.size < p + k → go s k p (s.size : Int) 0 = if first s k p < s.size then ((first s k p : Int), (endAt s (s.size + 1) (first s k p) (first s k p) : Int)) else ((s.size : Int), 0) := by
  intro k
  induction k with
  | zero => intro p h1 h2; omega
  | succ k ih =>
    intro p h1 h2
    by_cases hp : p < s.size
    · have hw := Stray.width s p hp
      have hf := fits s p hp
      by_cases c : sp s p = true
      · have e1 : go s (k + 1) p (s.size : Int) 0 = go s k (p + (Utf8.decode s p).2) (s.size : Int) 0 := by
          have c2 : spaceB ((Utf8.decode s p).1 : Int) = true := c
          simp only [go]; rw [if_pos hp, if_pos c2]
        have e2 : first s (k + 1) p = first s k (p + (Utf8.decode s p).2) := by simp only [first]; rw [if_pos hp, if_pos c]
        rw [e1, e2]
        exact ih _ hf (by omega)
      · have e2 : first s (k + 1) p = p := by simp only [first]; rw [if_pos hp, if_neg c]
        have e1 : go s (k + 1) p (s.size : Int) 0 = go s k (p + (Utf8.decode s p).2) (p : Int) ((p + (Utf8.decode s p).2 : Nat) : Int) := by
          have c2 : ¬ spaceB ((Utf8.decode s p).1 : Int) = true := c
          simp only [go]; rw [if_pos hp, if_neg c2, if_pos (by omega)]
        rw [e1, e2, if_pos hp, go_later s k _ p _ (by omega)]
        refine Prod.ext rfl ?_
        simp only []
        have e3 : endAt s (s.size + 1) p p = endAt s s.size (p + (Utf8.decode s p).2) (p + (Utf8.decode s p).2) := by simp only [endAt]; rw [if_pos hp, if_neg c]
        rw [e3, endAt_more s k s.size _ _ hf (by omega) (by omega)]
    · have e2 : first s (k + 1) p = p := by simp only [first]; rw [if_neg hp]
      rw [e2, if_neg hp]
      simp only [go]
      rw [if_neg hp]
/-- Where the text begins and ends. -/
def A (s : ByteArray) : Nat := first s (s.size + 1) 0
def B (s : ByteArray) : Nat := endAt s (s.size + 1) (A s) (A s)
theorem A_le (s : ByteArray) : A s ≤ s.size := (first_le s (s.size + 1) 0 (by omega)).2
theorem B_bounds (s : ByteArray) (h : A s < s.size) : A s < B s ∧ B s ≤ s.size := by
  have hn := first_no s (s.size + 1) 0 (by omega) (by omega) h
  have hw := Stray.width s (A s) h
  have e : B s = endAt s s.size (A s + (Utf8.decode s (A s)).2) (A s + (Utf8.decode s (A s)).2) := by
    unfold B
    simp only [endAt]
    rw [if_pos h, if_neg (by show ¬ sp s (A s) = true; unfold A; simp [hn])]
  refine ⟨?_, endAt_le s _ _ _ (A_le s)⟩
  rw [e]
  rcases endAt_ge s s.size (A s + (Utf8.decode s (A s)).2) (A s + (Utf8.decode s (A s)).2) with h1 | ⟨_, h1⟩ <;> omega
theorem trim_is (s : ByteArray) : trim s = if A s < s.size then s.extract (A s) (B s) else ⟨#[]⟩ := by
  unfold trim
  rw [go_start s (s.size + 1) 0 (by omega) (by omega)]
  by_cases h : A s < s.size
  · have hb := B_bounds s h
    rw [if_pos h]
    have h' : first s (s.size + 1) 0 < s.size := h
    rw [if_pos h']
    simp only []
    rw [if_neg (by have : B s ≠ 0 := by omega
                   intro e; exact this (by unfold B A; omega))]
    rw [Int.toNat_natCast, Int.toNat_natCast]
    rfl
  · rw [if_neg h]
    have h' : ¬ first s (s.size + 1) 0 < s.size := h
    rw [if_neg h']
    simp only [if_true]

theorem decN_cut (N n x0 x1 x2 x3 y1 y2 y3 : Nat) (hx : x0 ≤ 255) (hn : 1 ≤ n) (hN : n ≤ N) (h : (Lib.decodeN N x0 x1 x2 x3).2 ≤ n) (e1 : 1 < n → y1 = x1) (e2 : 2 < n → y2 = x2) (e3 : 3 < n → y3 = x3) : Lib.decodeN n x0 y1 y2 y3 = Lib.decodeN N x0 x1 x2 x3 := by
  rcases Lib.decodeN_shape N x0 x1 x2 x3 with ⟨c, e⟩ | ⟨c1, c2, c3, cv, e⟩ | ⟨c1, c2, c3, c4, cv, cs, e⟩ | ⟨c1, c2, c3, c4, c5, cv, cw, e⟩ | e
  · rw [e]; unfold Lib.decodeN; rw [if_pos c]
  · rw [e] at h ⊢
    simp only [] at h
    rw [e1 (by omega)]
    unfold Lib.decodeN
    rw [if_neg (by omega), if_pos ⟨c1, by omega, c3⟩, if_pos cv]
  · rw [e] at h ⊢
    simp only [] at h
    rw [e1 (by omega), e2 (by omega)]
    unfold Lib.decodeN
    rw [if_neg (by omega), if_neg (by omega), if_pos ⟨c1, ⟨by omega, c3⟩, by omega, c4⟩, if_pos (by omega)]
  · rw [e] at h ⊢
    simp only [] at h
    rw [e1 (by omega), e2 (by omega), e3 (by omega)]
    unfold Lib.decodeN
    rw [if_neg (by omega), if_neg (by omega), if_neg (by omega), if_pos ⟨c1, ⟨by omega, c3⟩, ⟨by omega, c4⟩, by omega, c5⟩, if_pos (by omega)]
  · rcases Lib.decodeN_shape n x0 y1 y2 y3 with ⟨c, d⟩ | ⟨c1, c2, c3, cv, d⟩ | ⟨c1, c2, c3, c4, cv, cs, d⟩ | ⟨c1, c2, c3, c4, c5, cv, cw, d⟩ | d
    · exfalso
      have : Lib.decodeN N x0 x1 x2 x3 = (x0, 1) := by unfold Lib.decodeN; rw [if_pos c]
      rw [this] at e
      injection e with e
      omega
    · exfalso
      have g1 := e1 (by omega)
      rw [g1] at c3 cv
      have : Lib.decodeN N x0 x1 x2 x3 = (x0 % 32 * 64 + x1 % 64, 2) := by
        unfold Lib.decodeN
        rw [if_neg (by omega), if_pos ⟨c1, by omega, c3⟩, if_pos cv]
      rw [this] at e
      injection e with _ e
      omega
    · exfalso
      have g1 := e1 (by omega)
      have g2 := e2 (by omega)
      rw [g1] at c3 cv cs
      rw [g2] at c4 cv cs
      have : Lib.decodeN N x0 x1 x2 x3 = (x0 % 16 * 4096 + x1 % 64 * 64 + x2 % 64, 3) := by
        unfold Lib.decodeN
        rw [if_neg (by omega), if_neg (by omega), if_pos ⟨c1, ⟨by omega, c3⟩, by omega, c4⟩, if_pos (by omega)]
      rw [this] at e
      injection e with _ e
      omega
    · exfalso
      have g1 := e1 (by omega)
      have g2 := e2 (by omega)
      have g3 := e3 (by omega)
      rw [g1] at c3 cv cw
      rw [g2] at c4 cv cw
      rw [g3] at c5 cv cw
      have : Lib.decodeN N x0 x1 x2 x3 = (x0 % 8 * 262144 + x1 % 64 * 4096 + x2 % 64 * 64 + x3 % 64, 4) := by
        unfold Lib.decodeN
        rw [if_neg (by omega), if_neg (by omega), if_neg (by omega), if_pos ⟨c1, ⟨by omega, c3⟩, ⟨by omega, c4⟩, by omega, c5⟩, if_pos (by omega)]
      rw [this] at e
      injection e with _ e
      omega
    · rw [d, e]
theorem cut_list (s : ByteArray) (a b : Nat) : (s.extract a b).data.toList = (s.data.toList.drop a).take (b - a) := by
  rw [ByteArray.data_extract, Array.toList_extract, List.extract_eq_take_drop]
theorem cut_get (s : ByteArray) (a b i : Nat) (h : i < b - a) : (s.extract a b).data.toList.getD i 0 = s.data.toList.getD (a + i) 0 := by
  rw [cut_list, List.getD_eq_getElem?_getD, List.getElem?_take_of_lt h, List.getElem?_drop, ← List.getD_eq_getElem?_getD]
theorem decode_cut (s : ByteArray) (a b p : Nat) (hb : b ≤ s.size) (h1 : a ≤ p) (h2 : p < b) (h3 : p + (Utf8.decode s p).2 ≤ b) : Utf8.decode (s.extract a b) (p - a) = Utf8.decode s p := by
  have hl : s.data.toList.length = s.size := Array.length_toList
  have hl2 : (s.extract a b).data.toList.length = b - a := by rw [cut_list, List.length_take, List.length_drop, hl]; omega
  have h3' := h3
  rw [Lib.decode_N s p] at h3' ⊢
  rw [Lib.decode_N, hl2, hl]
  rw [hl] at h3'
  have g0 : (s.extract a b).data.toList.getD (p - a) 0 = s.data.toList.getD p 0 := by rw [cut_get s a b _ (by omega)]; congr 1; omega
  rw [g0]
  have hx := (s.data.toList.getD p 0).toNat_lt
  refine (decN_cut (s.size - p) (b - a - (p - a)) _ _ _ _ _ _ _ (by omega) (by omega) (by omega) (by omega) ?_ ?_ ?_)
  · intro h; rw [cut_get s a b _ (by omega)]; congr 2; omega
  · intro h; rw [cut_get s a b _ (by omega)]; congr 2; omega
  · intro h; rw [cut_get s a b _ (by omega)]; congr 2; omega
theorem endAt_cut (s : ByteArray) (a b : Nat) (hb : b ≤ s.size) (hab : a ≤ b) : ∀ (k m p e e' : Nat), a ≤ p → p < b → e ≤ p → endAt s k p e = b → b - a < p - a + m → endAt (s.extract a b) m (p - a) e' = b - a := by
  have hsz : (s.extract a b).size = b - a := by rw [ByteArray.size_extract]; omega
  intro k
  induction k with
  | zero => intro m p e e' h1 h2 h3 h4; simp only [endAt] at h4; omega
  | succ k ih =>
    intro m p e e' h1 h2 h3 h4 h5
    have hp : p < s.size := by omega
    have hw := Stray.width s p hp
    have hend : p + (Utf8.decode s p).2 ≤ b := by
      rcases endAt_ge s (k + 1) p e with g | ⟨_, g⟩
      · rw [h4] at g; omega
      · rw [h4] at g; exact g
    have hd := decode_cut s a b p hb h1 h2 hend
    cases m with
    | zero => omega
    | succ m =>
      simp only [endAt] at h4 ⊢
      rw [if_pos hp] at h4
      rw [hsz, if_pos (by omega), hd]
      have hs : sp (s.extract a b) (p - a) = sp s p := by unfold sp; rw [hd]
      rw [hs]
      have ep : p - a + (Utf8.decode s p).2 = p + (Utf8.decode s p).2 - a := by omega
      rw [ep]
      by_cases c : sp s p = true
      · rw [if_pos c] at h4 ⊢
        have hlt : p + (Utf8.decode s p).2 < b := by
          rcases endAt_ge s k (p + (Utf8.decode s p).2) e with g | ⟨g1, g⟩
          · rw [h4] at g; omega
          · rw [h4] at g
            have := Stray.width s _ g1
            omega
        exact ih m _ e e' (by omega) hlt (by omega) h4 (by omega)
      · rw [if_neg c] at h4 ⊢
        by_cases hlt : p + (Utf8.decode s p).2 < b
        · exact ih m _ _ _ (by omega) hlt (Nat.le_refl _) h4 (by omega)
        · have eb : p + (Utf8.decode s p).2 = b := by omega
          rw [eb]
          exact endAt_stop _ _ _ _ (by rw [hsz]; omega)
theorem A_zero (t : ByteArray) (h : 0 < t.size) (hs : sp t 0 = false) : A t = 0 := by
  unfold A
  simp only [first]
  rw [if_pos h, if_neg (by rw [hs]; decide)]
theorem trim_twice (s : ByteArray) : trim (trim s) = trim s := by
  by_cases h : A s < s.size
  · have hb := B_bounds s h
    have ht : trim s = s.extract (A s) (B s) := by rw [trim_is, if_pos h]
    rw [ht]
    have hsz : (s.extract (A s) (B s)).size = B s - A s := by rw [ByteArray.size_extract]; omega
    have hend : A s + (Utf8.decode s (A s)).2 ≤ B s := by
      have hn := first_no s (s.size + 1) 0 (by omega) (by omega) h
      have e : B s = endAt s s.size (A s + (Utf8.decode s (A s)).2) (A s + (Utf8.decode s (A s)).2) := by
        unfold B
        simp only [endAt]
        rw [if_pos h, if_neg (by show ¬ sp s (A s) = true; unfold A; simp [hn])]
      rw [e]
      rcases endAt_ge s s.size (A s + (Utf8.decode s (A s)).2) (A s + (Utf8.decode s (A s)).2) with h1 | ⟨_, h1⟩ <;> omega
    have hd := decode_cut s (A s) (B s) (A s) hb.2 (Nat.le_refl _) hb.1 hend
    rw [Nat.sub_self] at hd
    have h0 : A (s.extract (A s) (B s)) = 0 := by
      have hs : sp (s.extract (A s) (B s)) 0 = false := by
        have hn := first_no s (s.size + 1) 0 (by omega) (by omega) h
        unfold sp
        rw [hd]
        exact hn
      exact A_zero _ (by omega) hs
    have hB : B (s.extract (A s) (B s)) = B s - A s := by
      have g := endAt_cut s (A s) (B s) hb.2 (by omega) (s.size + 1) ((s.extract (A s) (B s)).size + 1) (A s) (A s) 0 (Nat.le_refl _) hb.1 (Nat.le_refl _) rfl (by omega)
      rw [Nat.sub_self] at g
      have e : B (s.extract (A s) (B s)) = endAt (s.extract (A s) (B s)) ((s.extract (A s) (B s)).size + 1) (A (s.extract (A s) (B s))) (A (s.extract (A s) (B s))) := rfl
      rw [e, h0]
      exact g
    rw [trim_is, h0, if_pos (by omega), hB]
    apply ByteArray.ext
    apply Array.toList_inj.1
    rw [cut_list, List.drop_zero, Nat.sub_zero, List.take_of_length_le]
    have : (s.extract (A s) (B s)).data.toList.length = (s.extract (A s) (B s)).size := Array.length_toList
    omega
  · have ht : trim s = ⟨#[]⟩ := by rw [trim_is, if_neg h]
    rw [ht, trim_is]
    rw [if_neg (by show ¬ A ⟨#[]⟩ < 0; omega)]
end Go.Proofs.YtigikjihagmokaaDoor.TrimL
set_option linter.unusedVariables false
set_option linter.unusedSimpArgs false
namespace Go.Proofs.YtigikjihagmokaaDoor.RunesTrims
open Go.RowKit Go.Proofs.YtigikjihagmokaaDoorW.PrintWords Go.Proofs.YtigikjihagmokaaDoorW.PrintLast Go.Proofs.YtigikjihagmokaaDoorW.PrintMore Go.Proofs.YtigikjihagmokaaDoor.F Go.Proofs.YtigikjihagmokaaDoor.RunesAwake Go.Proofs.YtigikjihagmokaaDoor.Step01 Go.Proofs.YtigikjihagmokaaDoor.Text01 Go.Proofs.YtigikjihagmokaaDoor.TrimL Go.Proofs.YtigikjihagmokaaDoor.Trim
theorem ref_space (r : Int) : idiomref01_Space.f r = some (spaceB r) := by
  unfold idiomref01_Space.f spaceB
  by_cases h : r = 9 ∨ r = 10 ∨ r = 11 ∨ r = 12 ∨ r = 13 ∨ r = 32 ∨ r = 133 ∨ r = 8206 ∨ r = 8207 ∨ r = 8232 ∨ r = 8233
  · rw [decide_eq_true h]
    rcases h with h | h | h | h | h | h | h | h | h | h | h <;> subst h <;> rfl
  · rw [decide_eq_false h]
    have e : (r == 8233) = false := beq_eq_false_iff_ne.mpr (by omega)
    by_cases h9 : r ≥ 9
    · rw [if_pos h9]
      repeat rw [if_neg (by omega)]
      rw [e]
    · rw [if_neg h9]
      repeat rw [if_neg (by omega)]
      rw [e]
theorem w32 (s : ByteArray) (p : Nat) : wrap32 ((Utf8.decode s p).1 : Int) = ((Utf8.decode s p).1 : Int) := by
  have := decode_le s p
  unfold wrap32
  omega
theorem sp_bad {s : ByteArray} {p : Nat} (h : Utf8.decode s p = (65533, 1)) : ¬ sp s p = true := by
  unfold sp; rw [h]; decide
theorem blank_ev (s : ByteArray) (hs : s.size ≤ 140737488351232) : ∀ (k p : Nat), p ≤ s.size → s.size < p + k → Ev (fun n => idiomref01_Blank.l0 n s (p : Int) 0) (first s k p : Int) := by
  intro k
  induction k with
  | zero => intro p h1 h2; omega
  | succ k ih =>
    intro p h1 h2
    have w0 : wrap64 ((p : Int) - 0) = (p : Int) := by rw [w64 (by omega) (by omega)]; omega
    simp only [first]
    by_cases hp : p < s.size
    · rw [if_pos hp]
      have st := step_ev s (by omega) p hp
      have hf := Text01.fits s p hp
      have hw := Stray.width s p hp
      refine Ev.step (f := fun n => (idiomref01_Step.f n s (p : Int)).bind fun bt204 => (if bt204.1 < 0 then (some (wrap64 ((p : Int) - 0))) else ((idiomref01_Space.f (wrap32 (bt204.1))).bind fun t206 => (if t206 = true then (idiomref01_Blank.l0 n s (wrap64 ((p : Int) + bt204.2)) 0) else (some (wrap64 ((p : Int) - 0))))))) (fun n => ?_) (Ev.bind st ?_)
      · simp only [idiomref01_Blank.l0]
        rw [if_pos (by omega)]
      · by_cases hd : Utf8.decode s p = (65533, 1)
        · rw [told_bad hd, if_neg (sp_bad hd)]
          exact Ev.congr (fun n => by rw [if_pos (by decide), w0]) (Ev.now _)
        · rw [told_good hd]
          have w : wrap64 ((p : Int) + ((Utf8.decode s p).2 : Int)) = ((p + (Utf8.decode s p).2 : Nat) : Int) := by rw [w64 (by omega) (by omega)]; omega
          have red : ∀ n, (if ((Utf8.decode s p).1 : Int) < 0 then (some (wrap64 ((p : Int) - 0))) else ((idiomref01_Space.f (wrap32 ((Utf8.decode s p).1 : Int))).bind fun t206 => (if t206 = true then (idiomref01_Blank.l0 n s (wrap64 ((p : Int) + ((Utf8.decode s p).2 : Int))) 0) else (some (wrap64 ((p : Int) - 0)))))) = if sp s p = true then idiomref01_Blank.l0 n s ((p + (Utf8.decode s p).2 : Nat) : Int) 0 else some (p : Int) := by
            intro n
            rw [if_neg (by omega), w32, ref_space, Option.bind_some, w, w0]
            rfl
          refine Ev.congr red ?_
          by_cases c : sp s p = true
          · rw [if_pos c]
            exact Ev.congr (fun n => if_pos c) (ih _ hf (by omega))
          · rw [if_neg c]
            exact Ev.congr (fun n => if_neg c) (Ev.now _)
    · rw [if_neg hp]
      refine Ev.some fun n => ?_
      simp only [idiomref01_Blank.l0]
      rw [if_neg (by omega), w0]
theorem end_ev (s : ByteArray) (hs : s.size ≤ 140737488351232) (a : Nat) : ∀ (k p e : Nat), p ≤ s.size → s.size < p + k → a ≤ e → e ≤ p → Ev (fun n => idiomref01_Trim.l0 n s (a : Int) (e : Int) (p : Int)) (s.extract a (endAt s k p e)) := by
  intro k
  induction k with
  | zero => intro p e h1 h2; omega
  | succ k ih =>
    intro p e h1 h2 h3 h4
    simp only [endAt]
    by_cases hp : p < s.size
    · rw [if_pos hp]
      have st := step_ev s (by omega) p hp
      have hf := Text01.fits s p hp
      have hw := Stray.width s p hp
      refine Ev.step (f := fun n => (idiomref01_Step.f n s (p : Int)).bind fun bt208 => (if bt208.1 < 0 then (idiomref01_Trim.l0 n s (a : Int) (wrap64 ((p : Int) + bt208.2)) (wrap64 ((p : Int) + bt208.2))) else ((idiomref01_Space.f (wrap32 (bt208.1))).bind fun t210 => (if t210 = true then (idiomref01_Trim.l0 n s (a : Int) (e : Int) (wrap64 ((p : Int) + bt208.2))) else (idiomref01_Trim.l0 n s (a : Int) (wrap64 ((p : Int) + bt208.2)) (wrap64 ((p : Int) + bt208.2))))))) (fun n => ?_) (Ev.bind st ?_)
      · simp only [idiomref01_Trim.l0]
        rw [if_pos (by omega)]
      · have w : wrap64 ((p : Int) + ((Utf8.decode s p).2 : Int)) = ((p + (Utf8.decode s p).2 : Nat) : Int) := by rw [w64 (by omega) (by omega)]; omega
        by_cases hd : Utf8.decode s p = (65533, 1)
        · rw [told_bad hd, if_neg (sp_bad hd)]
          have w1 : wrap64 ((p : Int) + 1) = ((p + (Utf8.decode s p).2 : Nat) : Int) := by rw [← w, hd]; rfl
          refine Ev.congr (fun n => ?_) (ih (p + (Utf8.decode s p).2) (p + (Utf8.decode s p).2) hf (by omega) (by omega) (Nat.le_refl _))
          simp only []
          rw [if_pos (by decide), w1]
        · rw [told_good hd]
          have red : ∀ n, (if ((Utf8.decode s p).1 : Int) < 0 then (idiomref01_Trim.l0 n s (a : Int) (wrap64 ((p : Int) + ((Utf8.decode s p).2 : Int))) (wrap64 ((p : Int) + ((Utf8.decode s p).2 : Int)))) else ((idiomref01_Space.f (wrap32 ((Utf8.decode s p).1 : Int))).bind fun t210 => (if t210 = true then (idiomref01_Trim.l0 n s (a : Int) (e : Int) (wrap64 ((p : Int) + ((Utf8.decode s p).2 : Int)))) else (idiomref01_Trim.l0 n s (a : Int) (wrap64 ((p : Int) + ((Utf8.decode s p).2 : Int))) (wrap64 ((p : Int) + ((Utf8.decode s p).2 : Int))))))) = if sp s p = true then idiomref01_Trim.l0 n s (a : Int) (e : Int) ((p + (Utf8.decode s p).2 : Nat) : Int) else idiomref01_Trim.l0 n s (a : Int) ((p + (Utf8.decode s p).2 : Nat) : Int) ((p + (Utf8.decode s p).2 : Nat) : Int) := by
            intro n
            rw [if_neg (by omega), w32, ref_space, Option.bind_some, w]
            rfl
          refine Ev.congr red ?_
          by_cases c : sp s p = true
          · rw [if_pos c]
            exact Ev.congr (fun n => if_pos c) (ih _ _ hf (by omega) h3 (by omega))
          · rw [if_neg c]
            exact Ev.congr (fun n => if_neg c) (ih _ _ hf (by omega) (by omega) (Nat.le_refl _))
    · rw [if_neg hp]
      refine Ev.some fun n => ?_
      simp only [idiomref01_Trim.l0]
      rw [if_neg (by omega), if_pos (by omega), if_pos (by omega), if_pos (by omega), Int.toNat_natCast, Int.toNat_natCast]
theorem ref_trim (s : ByteArray) (hs : s.size ≤ 140737488351232) : Ev (fun n => idiomref01_Trim.f n s) (trim s) := by
  have b := blank_ev s hs (s.size + 1) 0 (by omega) (by omega)
  have e := end_ev s hs (A s) (s.size + 1) (A s) (A s) (A_le s) (by omega) (Nat.le_refl _) (Nat.le_refl _)
  have he : s.extract (A s) (endAt s (s.size + 1) (A s) (A s)) = trim s := by
    rw [trim_is]
    by_cases h : A s < s.size
    · rw [if_pos h]; rfl
    · rw [if_neg h, endAt_stop _ _ _ _ h]
      apply ByteArray.ext
      apply Array.toList_inj.1
      rw [cut_list, Nat.sub_self, List.take_zero]
  rw [he] at e
  exact Ev.bind b e
theorem law (s : ByteArray) (hs : s.size ≤ 140737488351232) : ∃ k, idiomlaw01_RunesTrims.f k s = some true := by
  apply Ev.rounds (g := fun k => idiomlaw01_RunesTrims.f k s)
  have hle : (trim s).size ≤ s.size := by
    rw [trim_is]
    split
    · rw [ByteArray.size_extract]; omega
    · show 0 ≤ s.size; omega
  have p1 : runes_Trim.f s = some (trim s) := by unfold runes_Trim.f; rw [if_pos hs]
  have p2 : runes_Trim.f (trim s) = some (trim s) := by unfold runes_Trim.f; rw [if_pos (by omega), trim_twice]
  unfold idiomlaw01_RunesTrims.f
  rw [p1]
  refine Ev.congr (fun k => Option.bind_some _ _) ?_
  refine Ev.bind (ref_trim s hs) ?_
  refine Ev.congr (fun k => by rw [if_pos rfl, p2, Option.bind_some, if_pos rfl]) awake_ev
end Go.Proofs.YtigikjihagmokaaDoor.RunesTrims
set_option linter.unusedVariables false
set_option linter.unusedSimpArgs false
namespace Go.Proofs.YtigikjihagmokaaDoor.lawRunesTrims
open Go.ChangeShapes Go.WideShapes Go.ChangeAt Go.RowKit
open Go.ChangeMaps (open_string shut_string)
theorem own : ownKnob Tryd.prog.godebug = none := by kernel_rfl
theorem laidOut : laidOutB Tryd.prog = true := by kernel_rfl
set_option maxRecDepth 100000 in
theorem lifted (os : Os) (started : os.Started) (H : Type) (enc : TypeId × Value → H) :
    ReturnsInHanded {} Tryd.checked os 7 .any (fun w args => (Rows.runesTrimsSpec.pre enc Tryd.prog Tryd.f7 [] false w args ∧ laidMetH Tryd.prog Rows.runesTrimsRow.laid w) ∧ sizedMet enc Tryd.prog Tryd.f7 (OpenSpec.ofChange Rows.runesTrimsSpec) false w args)
      (Rows.runesTrimsSpec.post enc Tryd.prog Tryd.f7 false true false false) := by
  refine returnsInHanded_of_change_and (C := Tryd.checked) (X := (fun w _ => laidMetH Tryd.prog Rows.runesTrimsRow.laid w)) (fun _ _ _ hh h => h.of_heap hh) own started (by kernel_rfl) Tryd.func7
    (ChangeSpec.witness_shaped (enc := enc) (C := Tryd.checked) (os := os) (X := (fun w _ => laidMetH Tryd.prog Rows.runesTrimsRow.laid w)) false (World.laidAll Tryd.prog os Rows.runesTrimsRow.laid) #[.string ByteArray.empty] 12 (World.laidAll_os _ _ _)
      (World.shaped_of_ZipB (by kernel_rfl) (by kernel_rfl)) (by kernel_rfl) (by kernel_rfl) (by kernel_rfl)
      (by rw [MakeChecks.laidMetH_plain _ _ _ (by kernel_rfl)]; exact laidMet_laidAll _ (by kernel_rfl) (by kernel_rfl))) ?_
  intro W base args ds gs before hval0 hW _ hsz0 hL0 _
  have hsz : (DataW.weightsEach Tryd.prog (Tryd.f7.params.toList ++ Rows.runesTrimsSpec.plain.varTypes Tryd.prog) (ds ++ gs)).all (· ≤ reachBytes) = true := hsz0
  have hval : ∀ (j : Nat) t v, Tryd.f7.params[j]? = some t → args[j]? = some v → Value.okWide Tryd.prog W .any base t v := hval0
  have hW' := hW
  obtain ⟨p, q, hA0, hV, rfl, hfz, hnd⟩ := hW
  have hA : DataW.TrodAll enc Tryd.prog W 0 (fun _ => true) true Tryd.f7.params.toList args.toList ds p := hA0
  rw [Tryd.params7] at hA hval hsz
  obtain ⟨v0, vs0, d0, ds0, p0, q0, hargs, rfl, rfl, h0, r0⟩ := trodAll_cons hA
  obtain ⟨rfl, rfl, rfl⟩ := trodAll_nil r0
  obtain rfl : args = #[v0] := by cases args; simp_all
  obtain ⟨rfl, rfl⟩ := trodVars_none hV
  have k0 := h0
  have lt0 : ∀ x ∈ p0, x.block < W.heap.size := by obtain ⟨m, hm⟩ := k0; exact DataW.trod_lt m _ _ _ hm
  obtain ⟨a0, rfl, rfl, rfl, y0⟩ := open_string Tryd.underlying9 (hval 0 9 v0 rfl rfl) h0
  have w0 : a0.size ≤ 140737488351232 := by
    have z := sized_string hsz (j := 0) (t := 9) rfl rfl
    rw [Array.length_toList] at z
    exact z
  have hL1 : laidMet Tryd.prog Rows.runesTrimsRow.laid W := hL0
  have hG : Stray.Tabs W := utf8Tabs_of_reads (ρ := Tryd.lays260_ren) { Tryd.lays260 with } ⟨by kernel_rfl, by kernel_rfl, by kernel_rfl, by kernel_rfl, by kernel_rfl, by kernel_rfl, by kernel_rfl⟩ (Lib.laidMet.reads hL1 (.tail _ (.tail _ (.tail _ (.tail _ (.tail _ (.tail _ (.head _)))))))) (Lib.laidMet.reads hL1 (.tail _ (.tail _ (.tail _ (.head _)))))
  obtain ⟨k, hk⟩ := RunesTrims.law a0 w0
  refine (F.idiomlaw01_RunesTrims.calls k a0 true W hk hG).mono fun e W' ⟨he, bel0⟩ => ?_
  have bel : Below W.heap.size W W' := by first | exact bel0 | exact YtigikjihagmokaaDoorW.PrintWords.Drawn0.below bel0
  subst he
  exact ⟨_, rfl, _, _, _, [], _, [], hW', trodAll_mk1 (shut_bool Tryd.underlying4 _), (trodAll_cons_mk (Below.trod laidOut (by kernel_rfl) (of_decide_eq_true (by kernel_rfl)) k0 bel lt0) trodAll_mk0), rfl, bel.frame _, fun h => by cases h⟩
theorem said : Rows.runesTrimsRow.holds Tryd.pinned (OpenSpec.ofChange Rows.runesTrimsSpec) :=
  OpenClaim.holds_of_wide 7 Tryd.f7 rfl rfl rfl rfl rfl rfl rfl ⟨rfl, rfl, rfl, rfl, rfl⟩ rfl rfl rfl rfl rfl (by kernel_rfl) Tryd.func7 (by kernel_rfl)
    (of_decide_eq_true (by kernel_rfl)) (by unfold Func.isWrapper; first | (rw [if_pos (by decide +kernel)]; kernel_rfl) | (rw [if_neg (by decide +kernel)]; exact ⟨rfl, rfl⟩))
    (fun os started H enc _ => lifted os started H enc)
theorem plain (f : FuncId) (fn : Func) (hf : Tryd.pinned.checked.prog.funcNamed "idiom/idiomlaw01.RunesTrims" = some f) (hfn : Tryd.pinned.checked.prog.funcs[f]? = some fn) :
    true = Tryd.pinned.checked.prog.looks [] ∧ ∀ (j : Nat) t, fn.params[j]? = some t → Tryd.pinned.checked.prog.wantsStandIn t = false := by
  obtain rfl : f = 7 := Option.some.inj ((show Tryd.prog.funcNamed "idiom/idiomlaw01.RunesTrims" = some 7 by kernel_rfl).symm.trans hf) |>.symm
  obtain rfl : fn = Tryd.f7 := (Option.some.inj (Tryd.func7.symm.trans hfn)).symm
  refine ⟨by kernel_rfl, fun j t ht => ?_⟩
  rw [Tryd.params7] at ht
  have hm : t ∈ [9] := by simpa using Array.mem_of_getElem? ht
  have hall : ([9].all fun u => !Tryd.prog.wantsStandIn u) = true := by kernel_rfl
  exact (show Tryd.prog.wantsStandIn t = false by simpa using List.all_eq_true.1 hall t hm)
/-- THE CARD. -/
theorem card : Rows.RunesTrimsCardSaid :=
  Claim7.holds_tied_plain_at .later [] _ _ _ _ said (fun _ h => by cases h) (by kernel_rfl) (fun _ h => by cases h) runesTrims_row_tie rfl ⟨rfl, rfl⟩ (by kernel_rfl) rfl plain (by kernel_rfl)
#print axioms card
end Go.Proofs.YtigikjihagmokaaDoor.lawRunesTrims
namespace Go.Proofs.YtigikjihagmokaaDoor
/-- The claim, under a short name. -/
theorem runesTrims_holds : Rows.RunesTrimsCardSaid := lawRunesTrims.card
end Go.Proofs.YtigikjihagmokaaDoor
