/- Part 2 of 2 of the proof of the law RunesValid: it is true at every input. Conditions: those of the given row, no others. -/
import Derived.Test.YtigikjihagmokaaDoorPkRunesValid0
import Derived.Lib.TrimUEq
import Derived.Lib.MapLaws
import Derived.Deep.DeepHandedRow
import Derived.WalkKit
import Derived.LaidLaws
import Derived.Test.YtigikjihagmokaaDoorRows
import Derived.Test.YtigikjihagmokaaDoorCards
import Derived.Test.YtigikjihagmokaaDoorTie
import Derived.ProofKit
import Derived.OpenShut
import Derived.ShutString
import Derived.ChangeOld
import Derived.Below
import Derived.SizedLaws
import Derived.Carry
import Derived.Lib.SmallJoins
import Derived.PinnedBridge
import Derived.Lay
import Derived.LaidOnce
import Derived.SevenTiedAt
set_option linter.unusedVariables false
set_option linter.unusedSimpArgs false
namespace Go.Proofs.YtigikjihagmokaaDoor.Step01
open Go.RowKit Go.Proofs.YtigikjihagmokaaDoorW.PrintWords Go.Proofs.YtigikjihagmokaaDoorW.PrintLast Go.Proofs.YtigikjihagmokaaDoorW.PrintMore Go.Proofs.YtigikjihagmokaaDoor.F Go.Proofs.YtigikjihagmokaaDoor.RunesAwake
/-- What the decoder tells of numbers, as the reference tells it. -/
def told (d : Nat × Nat) : Int × Int := if d = (65533, 1) then (-1, 1) else ((d.1 : Int), (d.2 : Int))
theorem bt_nat (s : ByteArray) (i : Nat) (h : i < s.size) : bt s (i : Int) = ((s.get! i).toNat : Int) := by
  have h2 : ((i : Int)).toNat < s.size := by omega
  rw [← bt_at s (i : Int) h2]
  congr 1
  have e : s.get! i = s[i]'h := by
    show s.data[i]! = s.data[i]'h
    exact getElem!_pos s.data i h
  rw [e]
  congr 1
theorem byte_le (s : ByteArray) (i : Nat) : (s.get! i).toNat ≤ 255 := by have := (s.get! i).toNat_lt; omega
/-- One byte more. -/
theorem l0_step (s : ByteArray) (i j n : Nat) (low r : Int) (hs : s.size ≤ 140737488355328) (hi : i + j < s.size) (hj : j < n) (hn : n ≤ 4) (hr : 0 ≤ r ∧ r ≤ 2097152) (k : Nat) :
    idiomref01_Step.l0 (k + 1) s (i : Int) (n : Int) low r (j : Int) = if (s.get! (i + j)).toNat / 64 = 2 then idiomref01_Step.l0 k s (i : Int) (n : Int) low (r * 64 + (((s.get! (i + j)).toNat : Nat) : Int) - 128) ((j + 1 : Nat) : Int) else some (-1, 1) := by
  have hb := byte_le s (i + j)
  have w1 : wrap64 ((i : Int) + (j : Int)) = ((i + j : Nat) : Int) := by rw [w64 (by omega) (by omega)]; omega
  have eb : bt s ((i + j : Nat) : Int) = ((s.get! (i + j)).toNat : Int) := bt_nat s (i + j) hi
  generalize (s.get! (i + j)).toNat = b at *
  have w2 : wrap64 (b : Int) = b := w64 (by omega) (by omega)
  have w3 : wrap64 (r * 64) = r * 64 := w64 (by omega) (by omega)
  have w4 : wrap64 (r * 64 + (b : Int)) = r * 64 + b := w64 (by omega) (by omega)
  have w5 : wrap64 (r * 64 + (b : Int) - 128) = r * 64 + b - 128 := w64 (by omega) (by omega)
  have w6 : wrap64 ((j : Int) + 1) = ((j + 1 : Nat) : Int) := by rw [w64 (by omega) (by omega)]; omega
  simp only [idiomref01_Step.l0]
  rw [w1, eb, w2, w3, w4, w5, w6]
  clear w1 eb w2 w3 w4 w5 w6
  rw [if_pos (by omega), if_pos (by omega), if_pos (by omega)]
  by_cases h1 : b / 64 = 2
  · rw [if_pos h1, if_neg (by omega), if_neg (by omega)]
  · rw [if_neg h1]
    by_cases h2 : (b : Int) < 128
    · rw [if_pos h2]
    · rw [if_neg h2, if_pos (by omega)]
theorem l0_end (s : ByteArray) (i n : Nat) (low r : Int) (k : Nat) : idiomref01_Step.l0 (k + 1) s (i : Int) (n : Int) low r (n : Int) = some (if low ≤ r ∧ r ≤ 1114111 ∧ (r < 55296 ∨ 57343 < r) then (r, (n : Int)) else (-1, 1)) := by
  simp only [idiomref01_Step.l0]
  rw [if_neg (by omega)]
  by_cases h1 : r < low
  · rw [if_pos h1, if_neg (by omega)]
  · rw [if_neg h1]
    by_cases h2 : r > 1114111
    · rw [if_pos h2, if_neg (by omega)]
    · rw [if_neg h2]
      by_cases h3 : r ≥ 55296
      · rw [if_pos h3]
        by_cases h4 : r ≤ 57343
        · rw [if_pos h4, if_neg (by omega)]
        · rw [if_neg h4, if_pos (by omega)]
      · rw [if_neg h3, if_pos (by omega)]
theorem step_ev (s : ByteArray) (hs : s.size ≤ 140737488355328) (i : Nat) (hi : i < s.size) : Ev (fun k => idiomref01_Step.f k s (i : Int)) (told (Utf8.decode s i)) := by
  rw [Lib.decode_at]
  have h0 := byte_le s i
  have h1 := byte_le s (i + 1)
  have h2 := byte_le s (i + 2)
  have h3 := byte_le s (i + 3)
  have eb : bt s (i : Int) = ((s.get! i).toNat : Int) := bt_nat s i hi
  have wl : wrap64 ((s.size : Int) - (i : Int)) = ((s.size - i : Nat) : Int) := by rw [w64 (by omega) (by omega)]; omega
  have wb : wrap64 (((s.get! i).toNat : Nat) : Int) = ((s.get! i).toNat : Int) := w64 (by omega) (by omega)
  -- the loop, three lengths
  have loop2 : ∀ low r : Int, 0 ≤ r → r ≤ 31 → i + 1 < s.size → Ev (fun k => idiomref01_Step.l0 k s (i : Int) 2 low r 1) (if (s.get! (i + 1)).toNat / 64 = 2 then (if low ≤ r * 64 + (s.get! (i + 1)).toNat - 128 ∧ r * 64 + (s.get! (i + 1)).toNat - 128 ≤ 1114111 ∧ (r * 64 + (s.get! (i + 1)).toNat - 128 < 55296 ∨ 57343 < r * 64 + (s.get! (i + 1)).toNat - 128) then (r * 64 + (s.get! (i + 1)).toNat - 128, 2) else (-1, 1)) else (-1, 1)) := by
    intro low r r0 r1 hl
    by_cases c1 : (s.get! (i + 1)).toNat / 64 = 2
    · rw [if_pos c1]
      exact Ev.step (fun k => (l0_step s i 1 2 low r hs hl (by omega) (by omega) ⟨r0, by omega⟩ k).trans (if_pos c1)) (Ev.some fun k => l0_end s i 2 low _ k)
    · rw [if_neg c1]
      exact Ev.some fun k => (l0_step s i 1 2 low r hs hl (by omega) (by omega) ⟨r0, by omega⟩ k).trans (if_neg c1)
  have loop3 : ∀ low r : Int, 0 ≤ r → r ≤ 15 → i + 2 < s.size → Ev (fun k => idiomref01_Step.l0 k s (i : Int) 3 low r 1) (if (s.get! (i + 1)).toNat / 64 = 2 ∧ (s.get! (i + 2)).toNat / 64 = 2 then (if low ≤ (r * 64 + (s.get! (i + 1)).toNat - 128) * 64 + (s.get! (i + 2)).toNat - 128 ∧ (r * 64 + (s.get! (i + 1)).toNat - 128) * 64 + (s.get! (i + 2)).toNat - 128 ≤ 1114111 ∧ ((r * 64 + (s.get! (i + 1)).toNat - 128) * 64 + (s.get! (i + 2)).toNat - 128 < 55296 ∨ 57343 < (r * 64 + (s.get! (i + 1)).toNat - 128) * 64 + (s.get! (i + 2)).toNat - 128) then ((r * 64 + (s.get! (i + 1)).toNat - 128) * 64 + (s.get! (i + 2)).toNat - 128, 3) else (-1, 1)) else (-1, 1)) := by
    intro low r r0 r1 hl
    by_cases c1 : (s.get! (i + 1)).toNat / 64 = 2
    · refine Ev.step (fun k => (l0_step s i 1 3 low r hs (by omega) (by omega) (by omega) ⟨r0, by omega⟩ k).trans (if_pos c1)) ?_
      by_cases c2 : (s.get! (i + 2)).toNat / 64 = 2
      · rw [if_pos ⟨c1, c2⟩]
        exact Ev.step (fun k => (l0_step s i 2 3 low _ hs hl (by omega) (by omega) ⟨by omega, by omega⟩ k).trans (if_pos c2)) (Ev.some fun k => l0_end s i 3 low _ k)
      · rw [if_neg (fun h => c2 h.2)]
        exact Ev.some fun k => (l0_step s i 2 3 low _ hs hl (by omega) (by omega) ⟨by omega, by omega⟩ k).trans (if_neg c2)
    · rw [if_neg (fun h => c1 h.1)]
      exact Ev.some fun k => (l0_step s i 1 3 low r hs (by omega) (by omega) (by omega) ⟨r0, by omega⟩ k).trans (if_neg c1)
  have loop4 : ∀ low r : Int, 0 ≤ r → r ≤ 7 → i + 3 < s.size → Ev (fun k => idiomref01_Step.l0 k s (i : Int) 4 low r 1) (if (s.get! (i + 1)).toNat / 64 = 2 ∧ (s.get! (i + 2)).toNat / 64 = 2 ∧ (s.get! (i + 3)).toNat / 64 = 2 then (if low ≤ ((r * 64 + (s.get! (i + 1)).toNat - 128) * 64 + (s.get! (i + 2)).toNat - 128) * 64 + (s.get! (i + 3)).toNat - 128 ∧ ((r * 64 + (s.get! (i + 1)).toNat - 128) * 64 + (s.get! (i + 2)).toNat - 128) * 64 + (s.get! (i + 3)).toNat - 128 ≤ 1114111 ∧ (((r * 64 + (s.get! (i + 1)).toNat - 128) * 64 + (s.get! (i + 2)).toNat - 128) * 64 + (s.get! (i + 3)).toNat - 128 < 55296 ∨ 57343 < ((r * 64 + (s.get! (i + 1)).toNat - 128) * 64 + (s.get! (i + 2)).toNat - 128) * 64 + (s.get! (i + 3)).toNat - 128) then (((r * 64 + (s.get! (i + 1)).toNat - 128) * 64 + (s.get! (i + 2)).toNat - 128) * 64 + (s.get! (i + 3)).toNat - 128, 4) else (-1, 1)) else (-1, 1)) := by
    intro low r r0 r1 hl
    by_cases c1 : (s.get! (i + 1)).toNat / 64 = 2
    · refine Ev.step (fun k => (l0_step s i 1 4 low r hs (by omega) (by omega) (by omega) ⟨r0, by omega⟩ k).trans (if_pos c1)) ?_
      by_cases c2 : (s.get! (i + 2)).toNat / 64 = 2
      · refine Ev.step (fun k => (l0_step s i 2 4 low _ hs (by omega) (by omega) (by omega) ⟨by omega, by omega⟩ k).trans (if_pos c2)) ?_
        by_cases c3 : (s.get! (i + 3)).toNat / 64 = 2
        · rw [if_pos ⟨c1, c2, c3⟩]
          exact Ev.step (fun k => (l0_step s i 3 4 low _ hs hl (by omega) (by omega) ⟨by omega, by omega⟩ k).trans (if_pos c3)) (Ev.some fun k => l0_end s i 4 low _ k)
        · rw [if_neg (fun h => c3 h.2.2)]
          exact Ev.some fun k => (l0_step s i 3 4 low _ hs hl (by omega) (by omega) ⟨by omega, by omega⟩ k).trans (if_neg c3)
      · rw [if_neg (fun h => c2 h.2.1)]
        exact Ev.some fun k => (l0_step s i 2 4 low _ hs (by omega) (by omega) (by omega) ⟨by omega, by omega⟩ k).trans (if_neg c2)
    · rw [if_neg (fun h => c1 h.1)]
      exact Ev.some fun k => (l0_step s i 1 4 low r hs (by omega) (by omega) (by omega) ⟨r0, by omega⟩ k).trans (if_neg c1)
  generalize (s.get! i).toNat = b0 at *
  generalize (s.get! (i + 1)).toNat = b1 at *
  generalize (s.get! (i + 2)).toNat = b2 at *
  generalize (s.get! (i + 3)).toNat = b3 at *
  obtain ⟨n, hn⟩ : ∃ n, n = s.size - i := ⟨_, rfl⟩
  rw [← hn] at wl ⊢
  have n0 : 0 < n := by omega
  -- the first byte
  by_cases c128 : b0 < 128
  · refine Ev.congr (fun k => ?_) (Ev.now _)
    simp only [idiomref01_Step.f]
    rw [wl, if_neg (by omega), if_pos (by omega), if_pos (by omega), eb, wb, if_pos (by omega)]
    have hD : Lib.decodeN n b0 b1 b2 b3 = (b0, 1) := by unfold Lib.decodeN; rw [if_pos c128]
    rw [hD]
    unfold told
    rw [if_neg (by intro h; injection h with h; omega)]
    rfl
  have head : ∀ k, idiomref01_Step.f k s (i : Int) = if (b0 : Int) ≥ 192 then idiomref01_Step.j0 k s (i : Int) (n : Int) (b0 : Int) (decide ((b0 : Int) < 224)) else idiomref01_Step.j0 k s (i : Int) (n : Int) (b0 : Int) false := by
    intro k
    simp only [idiomref01_Step.f]
    rw [wl, if_neg (by omega), if_pos (by omega), if_pos (by omega), eb, wb, if_neg (by omega)]
  refine Ev.congr head ?_
  clear head wl eb wb
  by_cases c2 : b0 / 32 = 6
  · refine Ev.congr (fun k => by rw [if_pos (by omega), decide_eq_true (by omega)]) ?_
    have w : wrap64 ((b0 : Int) - 192) = (b0 : Int) - 192 := w64 (by omega) (by omega)
    refine Ev.step (f := fun k => idiomref01_Step.j2 k s (i : Int) (n : Int) 2 128 ((b0 : Int) - 192)) (fun k => by simp only [idiomref01_Step.j0]; rw [if_pos trivial, w]) ?_
    clear w
    by_cases hl : 1 < n
    · refine Ev.step (fun k => by simp only [idiomref01_Step.j2]; rw [if_neg (by omega)]) ?_
      have e := loop2 128 ((b0 : Int) - 192) (by omega) (by omega) (by omega)
      clear loop2 loop3 loop4
      by_cases d1 : b1 / 64 = 2
      · rw [if_pos d1] at e
        by_cases d2 : b0 % 32 * 64 + b1 % 64 ≥ 128
        · have hD : Lib.decodeN n b0 b1 b2 b3 = (b0 % 32 * 64 + b1 % 64, 2) := by unfold Lib.decodeN; rw [if_neg c128, if_pos ⟨c2, hl, d1⟩, if_pos d2]
          rw [hD]
          unfold told
          rw [if_neg (by intro h; injection h with h h'; omega)]
          rw [if_pos (by omega)] at e
          have e1 : ((b0 : Int) - 192) * 64 + (b1 : Int) - 128 = ((b0 % 32 * 64 + b1 % 64 : Nat) : Int) := by omega
          rw [e1] at e
          exact e
        · have hD : Lib.decodeN n b0 b1 b2 b3 = (65533, 1) := by unfold Lib.decodeN; rw [if_neg c128, if_pos ⟨c2, hl, d1⟩, if_neg d2]
          rw [hD]
          rw [if_neg (by omega)] at e
          exact e
      · have hD : Lib.decodeN n b0 b1 b2 b3 = (65533, 1) := by unfold Lib.decodeN; rw [if_neg c128, if_neg (fun h => d1 h.2.2), if_neg (by omega), if_neg (by omega)]
        rw [hD]
        rw [if_neg d1] at e
        exact e
    · refine Ev.some fun k => ?_
      simp only [idiomref01_Step.j2]
      rw [if_pos (by omega)]
      have hD : Lib.decodeN n b0 b1 b2 b3 = (65533, 1) := by unfold Lib.decodeN; rw [if_neg c128, if_neg (by omega), if_neg (by omega), if_neg (by omega)]
      rw [hD]
      rfl
  by_cases c3 : b0 / 16 = 14
  · refine Ev.congr (fun k => by rw [if_pos (by omega), decide_eq_false (by omega)]) ?_
    have w : wrap64 ((b0 : Int) - 224) = (b0 : Int) - 224 := w64 (by omega) (by omega)
    refine Ev.step (f := fun k => idiomref01_Step.j1 k s (i : Int) (n : Int) (b0 : Int) true) (fun k => by simp only [idiomref01_Step.j0]; rw [if_neg (by decide), if_pos (by omega), decide_eq_true (by omega)]) ?_
    refine Ev.step (f := fun k => idiomref01_Step.j2 k s (i : Int) (n : Int) 3 2048 ((b0 : Int) - 224)) (fun k => by simp only [idiomref01_Step.j1]; rw [if_pos trivial, w]) ?_
    clear w
    by_cases hl : 2 < n
    · refine Ev.step (fun k => by simp only [idiomref01_Step.j2]; rw [if_neg (by omega)]) ?_
      have e := loop3 2048 ((b0 : Int) - 224) (by omega) (by omega) (by omega)
      clear loop2 loop3 loop4
      by_cases d1 : b1 / 64 = 2 ∧ b2 / 64 = 2
      · rw [if_pos d1] at e
        by_cases d2 : b0 % 16 * 4096 + b1 % 64 * 64 + b2 % 64 ≥ 2048 ∧ (b0 % 16 * 4096 + b1 % 64 * 64 + b2 % 64 < 55296 ∨ (57344 ≤ b0 % 16 * 4096 + b1 % 64 * 64 + b2 % 64 ∧ b0 % 16 * 4096 + b1 % 64 * 64 + b2 % 64 ≤ 1114111))
        · have hD : Lib.decodeN n b0 b1 b2 b3 = (b0 % 16 * 4096 + b1 % 64 * 64 + b2 % 64, 3) := by unfold Lib.decodeN; rw [if_neg c128, if_neg (by omega), if_pos ⟨c3, ⟨by omega, d1.1⟩, hl, d1.2⟩, if_pos d2]
          rw [hD]
          unfold told
          rw [if_neg (by intro h; injection h with h h'; omega)]
          rw [if_pos (by omega)] at e
          have e1 : (((b0 : Int) - 224) * 64 + (b1 : Int) - 128) * 64 + (b2 : Int) - 128 = ((b0 % 16 * 4096 + b1 % 64 * 64 + b2 % 64 : Nat) : Int) := by omega
          rw [e1] at e
          exact e
        · have hD : Lib.decodeN n b0 b1 b2 b3 = (65533, 1) := by unfold Lib.decodeN; rw [if_neg c128, if_neg (by omega), if_pos ⟨c3, ⟨by omega, d1.1⟩, hl, d1.2⟩, if_neg d2]
          rw [hD]
          rw [if_neg (by omega)] at e
          exact e
      · have hD : Lib.decodeN n b0 b1 b2 b3 = (65533, 1) := by unfold Lib.decodeN; rw [if_neg c128, if_neg (by omega), if_neg (fun h => d1 ⟨h.2.1.2, h.2.2.2⟩), if_neg (by omega)]
        rw [hD]
        rw [if_neg d1] at e
        exact e
    · refine Ev.some fun k => ?_
      simp only [idiomref01_Step.j2]
      rw [if_pos (by omega)]
      have hD : Lib.decodeN n b0 b1 b2 b3 = (65533, 1) := by unfold Lib.decodeN; rw [if_neg c128, if_neg (by omega), if_neg (by omega), if_neg (by omega)]
      rw [hD]
      rfl
  by_cases c4 : b0 / 8 = 30
  · refine Ev.congr (fun k => by rw [if_pos (by omega), decide_eq_false (by omega)]) ?_
    have w : wrap64 ((b0 : Int) - 240) = (b0 : Int) - 240 := w64 (by omega) (by omega)
    refine Ev.step (f := fun k => idiomref01_Step.j1 k s (i : Int) (n : Int) (b0 : Int) false) (fun k => by simp only [idiomref01_Step.j0]; rw [if_neg (by decide), if_pos (by omega), decide_eq_false (by omega)]) ?_
    refine Ev.step (f := fun k => idiomref01_Step.j2 k s (i : Int) (n : Int) 4 65536 ((b0 : Int) - 240)) (fun k => by simp only [idiomref01_Step.j1]; rw [if_neg (by decide), if_pos (by omega), if_pos (by omega), w]) ?_
    clear w
    by_cases hl : 3 < n
    · refine Ev.step (fun k => by simp only [idiomref01_Step.j2]; rw [if_neg (by omega)]) ?_
      have e := loop4 65536 ((b0 : Int) - 240) (by omega) (by omega) (by omega)
      clear loop2 loop3 loop4
      by_cases d1 : b1 / 64 = 2 ∧ b2 / 64 = 2 ∧ b3 / 64 = 2
      · rw [if_pos d1] at e
        by_cases d2 : b0 % 8 * 262144 + b1 % 64 * 4096 + b2 % 64 * 64 + b3 % 64 ≥ 65536 ∧ (b0 % 8 * 262144 + b1 % 64 * 4096 + b2 % 64 * 64 + b3 % 64 < 55296 ∨ (57344 ≤ b0 % 8 * 262144 + b1 % 64 * 4096 + b2 % 64 * 64 + b3 % 64 ∧ b0 % 8 * 262144 + b1 % 64 * 4096 + b2 % 64 * 64 + b3 % 64 ≤ 1114111))
        · have hD : Lib.decodeN n b0 b1 b2 b3 = (b0 % 8 * 262144 + b1 % 64 * 4096 + b2 % 64 * 64 + b3 % 64, 4) := by unfold Lib.decodeN; rw [if_neg c128, if_neg (by omega), if_neg (by omega), if_pos ⟨c4, ⟨by omega, d1.1⟩, ⟨by omega, d1.2.1⟩, hl, d1.2.2⟩, if_pos d2]
          rw [hD]
          unfold told
          rw [if_neg (by intro h; injection h with h h'; omega)]
          rw [if_pos (by omega)] at e
          have e1 : ((((b0 : Int) - 240) * 64 + (b1 : Int) - 128) * 64 + (b2 : Int) - 128) * 64 + (b3 : Int) - 128 = ((b0 % 8 * 262144 + b1 % 64 * 4096 + b2 % 64 * 64 + b3 % 64 : Nat) : Int) := by omega
          rw [e1] at e
          exact e
        · have hD : Lib.decodeN n b0 b1 b2 b3 = (65533, 1) := by unfold Lib.decodeN; rw [if_neg c128, if_neg (by omega), if_neg (by omega), if_pos ⟨c4, ⟨by omega, d1.1⟩, ⟨by omega, d1.2.1⟩, hl, d1.2.2⟩, if_neg d2]
          rw [hD]
          rw [if_neg (by omega)] at e
          exact e
      · have hD : Lib.decodeN n b0 b1 b2 b3 = (65533, 1) := by unfold Lib.decodeN; rw [if_neg c128, if_neg (by omega), if_neg (by omega), if_neg (fun h => d1 ⟨h.2.1.2, h.2.2.1.2, h.2.2.2.2⟩)]
        rw [hD]
        rw [if_neg d1] at e
        exact e
    · refine Ev.some fun k => ?_
      simp only [idiomref01_Step.j2]
      rw [if_pos (by omega)]
      have hD : Lib.decodeN n b0 b1 b2 b3 = (65533, 1) := by unfold Lib.decodeN; rw [if_neg c128, if_neg (by omega), if_neg (by omega), if_neg (by omega)]
      rw [hD]
      rfl
  clear loop2 loop3 loop4
  have bad : told (Lib.decodeN n b0 b1 b2 b3) = (-1, 1) := by
    have hD : Lib.decodeN n b0 b1 b2 b3 = (65533, 1) := by unfold Lib.decodeN; rw [if_neg c128, if_neg (fun h => c2 h.1), if_neg (fun h => c3 h.1), if_neg (fun h => c4 h.1)]
    rw [hD]
    rfl
  rw [bad]
  have z : ∀ g : Nat → Option (Int × Int), (∀ k, g k = idiomref01_Step.j0 k s (i : Int) (n : Int) (b0 : Int) false) → Ev g (-1, 1) := by
    intro g hg
    refine Ev.congr hg ?_
    have j1 : Ev (fun k => idiomref01_Step.j1 k s (i : Int) (n : Int) (b0 : Int) false) (-1, 1) := by
      refine Ev.some fun k => ?_
      simp only [idiomref01_Step.j1]
      rw [if_neg (by decide)]
      by_cases a : (b0 : Int) ≥ 240
      · rw [if_pos a, if_neg (by omega)]
      · rw [if_neg a]
    refine Ev.step (fun k => ?_) j1
    simp only [idiomref01_Step.j0]
    rw [if_neg (by decide)]
    by_cases a : (b0 : Int) ≥ 224
    · rw [if_pos a, decide_eq_false (by omega)]
    · rw [if_neg a]
  by_cases a : (b0 : Int) ≥ 192
  · exact z _ (fun k => by rw [if_pos a, decide_eq_false (by omega)])
  · exact z _ (fun k => if_neg a)
end Go.Proofs.YtigikjihagmokaaDoor.Step01
set_option linter.unusedVariables false
set_option linter.unusedSimpArgs false
namespace Go.Proofs.YtigikjihagmokaaDoor.Text01
open Go.RowKit Go.Proofs.YtigikjihagmokaaDoorW.PrintWords Go.Proofs.YtigikjihagmokaaDoorW.PrintLast Go.Proofs.YtigikjihagmokaaDoorW.PrintMore Go.Proofs.YtigikjihagmokaaDoor.F Go.Proofs.YtigikjihagmokaaDoor.RunesAwake Go.Proofs.YtigikjihagmokaaDoor.Step01
def ints (l : List UInt8) : List Int := l.map fun c => (c.toNat : Int)
theorem ints_length (l : List UInt8) : (ints l).length = l.length := by simp [ints]
theorem str_ints (l : List UInt8) : strOfNums (ints l) = ⟨l.toArray⟩ := by
  simp [strOfNums, ints, Function.comp_def]
theorem bytesOf_ints (p : ByteArray) : bytesOf p = ints p.data.toList := by
  simp [bytesOf, ints]
theorem rest_ne (s : ByteArray) (i : Nat) (h : i < s.size) : s.data.toList.drop i ≠ [] := fun e => by
  have := congrArg List.length e
  rw [List.length_drop, Array.length_toList] at this
  have h2 : s.data.size = s.size := rfl
  simp at this
  omega
theorem fits (s : ByteArray) (i : Nat) (h : i < s.size) : i + (Utf8.decode s i).2 ≤ s.size := by
  have e := Lib.decodeL_le (s.data.toList.drop i) (rest_ne s i h)
  rw [Lib.decodeL_drop, List.length_drop, Array.length_toList] at e
  have h2 : s.data.size = s.size := rfl
  omega
theorem told_bad {d : Nat × Nat} (h : d = (65533, 1)) : told d = (-1, 1) := by unfold told; rw [if_pos h]
theorem told_good {d : Nat × Nat} (h : d ≠ (65533, 1)) : told d = ((d.1 : Int), (d.2 : Int)) := by unfold told; rw [if_neg h]
theorem enc_ok (s : ByteArray) (i : Nat) (h : i < s.size) (hv : Utf8.decode s i ≠ (65533, 1)) : (s.extract i (i + (Utf8.decode s i).2)).data.toList = Lib.encodeRune ((Utf8.decode s i).1 : Int) := by
  have e := Lib.encode_decode (s.data.toList.drop i) (rest_ne s i h) (by
    rw [Lib.decodeL_drop]
    intro hc
    exact hv (Prod.ext hc.1 hc.2))
  rw [Lib.decodeL_drop] at e
  rw [e, ByteArray.data_extract, Array.toList_extract, List.extract_eq_take_drop]
  congr 1
  omega
theorem enc_bad : Lib.encodeRune 65533 = [239, 191, 189] := by decide
theorem valid_ev (s : ByteArray) (hs : s.size ≤ 140737488351232) : ∀ (fuel i : Nat), i ≤ s.size → s.size + 1 ≤ i + fuel → Ev (fun k => idiomref01_Valid.l0 k s (i : Int)) (Stray.from_ s fuel i) := by
  intro fuel
  induction fuel with
  | zero => intro i h1 h2; omega
  | succ fuel ih =>
    intro i h1 h2
    simp only [Stray.from_]
    by_cases hi : i < s.size
    · rw [if_pos hi]
      have st := step_ev s (by omega) i hi
      have hf := fits s i hi
      have hw := Stray.width s i hi
      refine Ev.step (f := fun k => (idiomref01_Step.f k s (i : Int)).bind fun bt211 => if bt211.1 < 0 then some false else idiomref01_Valid.l0 k s (wrap64 ((i : Int) + bt211.2))) (fun k => ?_) ?_
      · simp only [idiomref01_Valid.l0]
        rw [if_pos (by omega)]
      · refine Ev.bind st ?_
        unfold Stray.strayB
        by_cases hd : Utf8.decode s i = (65533, 1)
        · rw [told_bad hd, if_pos (decide_eq_true hd)]
          exact Ev.congr (fun k => if_pos (by decide)) (Ev.now _)
        · rw [told_good hd, if_neg (by simp [hd])]
          have w : wrap64 ((i : Int) + ((Utf8.decode s i).2 : Int)) = ((i + (Utf8.decode s i).2 : Nat) : Int) := by rw [w64 (by omega) (by omega)]; omega
          refine Ev.congr (fun k => ?_) (ih (i + (Utf8.decode s i).2) hf (by omega))
          simp only []
          rw [if_neg (by omega), w]
    · rw [if_neg hi]
      refine Ev.some fun k => ?_
      simp only [idiomref01_Valid.l0]
      rw [if_neg (by omega)]
theorem rep_ev (s : ByteArray) (hs : s.size ≤ 35184372088832) : ∀ (fuel i : Nat) (acc : List UInt8), i ≤ s.size → s.size + 1 ≤ i + fuel → acc.length ≤ 4 * i → Ev (fun k => idiomref01_Repair.l0 k s (ints acc) (i : Int)) ⟨(acc ++ Rune.rep s fuel i).toArray⟩ := by
  intro fuel
  induction fuel with
  | zero => intro i acc h1 h2 h3; omega
  | succ fuel ih =>
    intro i acc h1 h2 h3
    simp only [Rune.rep]
    by_cases hi : i < s.size
    · rw [if_pos hi]
      have st := step_ev s (by omega) i hi
      have hf := fits s i hi
      have hw := Stray.width s i hi
      have w : wrap64 ((i : Int) + ((Utf8.decode s i).2 : Int)) = ((i + (Utf8.decode s i).2 : Nat) : Int) := by rw [w64 (by omega) (by omega)]; omega
      have first : ∀ k, idiomref01_Repair.l0 (k + 1) s (ints acc) (i : Int) = (idiomref01_Step.f k s (i : Int)).bind fun bt252 => (if bt252.1 < 0 then ((some (([239, 191, 189] : List Int) : List Int)).bind fun y254 => (if (ints acc).length + y254.length < 140737488355328 then (idiomref01_Repair.l0 k s ((ints acc) ++ y254) (wrap64 ((i : Int) + bt252.2))) else (none))) else (if 0 ≤ (i : Int) then (if (i : Int) ≤ (wrap64 ((i : Int) + bt252.2)) then (if (wrap64 ((i : Int) + bt252.2)) ≤ (s.size : Int) then (if (ints acc).length + (s.extract ((i : Int)).toNat ((wrap64 ((i : Int) + bt252.2)) : Int).toNat).size < 140737488355328 then (idiomref01_Repair.l0 k s ((ints acc) ++ bytesOf (s.extract ((i : Int)).toNat ((wrap64 ((i : Int) + bt252.2)) : Int).toNat)) (wrap64 ((i : Int) + bt252.2))) else (none)) else (none)) else (none)) else (none))) := by
        intro k
        simp only [idiomref01_Repair.l0]
        rw [if_pos (by omega)]
      refine Ev.step first (Ev.bind st ?_)
      by_cases hd : Utf8.decode s i = (65533, 1)
      · rw [told_bad hd, hd]
        rw [hd] at hf
        have next := ih (i + 1) (acc ++ [239, 191, 189]) hf (by omega) (by simp; omega)
        rw [show acc ++ (Lib.encodeRune ((65533 : Nat) : Int) ++ Rune.rep s fuel (i + 1)) = acc ++ [239, 191, 189] ++ Rune.rep s fuel (i + 1) by
          rw [show ((65533 : Nat) : Int) = 65533 from rfl, enc_bad, List.append_assoc]]
        refine Ev.congr (fun k => ?_) next
        have w1 : wrap64 ((i : Int) + 1) = ((i + 1 : Nat) : Int) := by rw [w64 (by omega) (by omega)]; omega
        simp only [Option.bind_some]
        rw [if_pos (by decide), if_pos (by rw [ints_length]; simp; omega), w1]
        rw [show ints acc ++ [239, 191, 189] = ints (acc ++ [239, 191, 189]) by simp [ints]]
      · rw [told_good hd]
        have en := enc_ok s i hi hd
        have hlen : (s.extract i (i + (Utf8.decode s i).2)).size = (Utf8.decode s i).2 := by rw [ByteArray.size_extract]; omega
        have hl4 : (Lib.encodeRune ((Utf8.decode s i).1 : Int)).length ≤ 4 := by
          have := Lib.runeCells_le ((Utf8.decode s i).1 : Int)
          rw [Lib.runeCells_length] at this
          omega
        have hle : (Lib.encodeRune ((Utf8.decode s i).1 : Int)).length = (Utf8.decode s i).2 := by
          rw [← en, Array.length_toList]; exact hlen
        have next := ih (i + (Utf8.decode s i).2) (acc ++ Lib.encodeRune ((Utf8.decode s i).1 : Int)) hf (by omega) (by rw [List.length_append]; omega)
        rw [← List.append_assoc]
        refine Ev.congr (fun k => ?_) next
        simp only []
        rw [w, if_neg (by omega), if_pos (by omega), if_pos (by omega), if_pos (by omega), Int.toNat_natCast, Int.toNat_natCast, if_pos (by rw [ints_length, hlen]; omega), bytesOf_ints, en]
        rw [show ints acc ++ ints (Lib.encodeRune ((Utf8.decode s i).1 : Int)) = ints (acc ++ Lib.encodeRune ((Utf8.decode s i).1 : Int)) by simp [ints]]
    · rw [if_neg hi, List.append_nil]
      refine Ev.some fun k => ?_
      simp only [idiomref01_Repair.l0]
      rw [if_neg (by omega), str_ints]
theorem valid_f (s : ByteArray) (hs : s.size ≤ 140737488351232) : Ev (fun k => idiomref01_Valid.f k s) (Stray.valid s) := valid_ev s hs (s.size + 1) 0 (by omega) (by omega)
theorem repair_f (s : ByteArray) (hs : s.size ≤ 35184372088832) : Ev (fun k => idiomref01_Repair.f k s) (Rune.repair s) := rep_ev s hs (s.size + 1) 0 [] (by omega) (by omega) (by simp)
end Go.Proofs.YtigikjihagmokaaDoor.Text01
set_option linter.unusedVariables false
set_option linter.unusedSimpArgs false
namespace Go.Proofs.YtigikjihagmokaaDoor.RunesValid
open Go.RowKit Go.Proofs.YtigikjihagmokaaDoorW.PrintWords Go.Proofs.YtigikjihagmokaaDoorW.PrintLast Go.Proofs.YtigikjihagmokaaDoorW.PrintMore Go.Proofs.YtigikjihagmokaaDoor.F Go.Proofs.YtigikjihagmokaaDoor.RunesAwake Go.Proofs.YtigikjihagmokaaDoor.Text01
theorem law (s : ByteArray) (hs : s.size ≤ 1048576) : ∃ k, idiomlaw01_RunesValid.f k s = some true := by
  apply Ev.rounds (g := fun k => idiomlaw01_RunesValid.f k s)
  have pv : runes_Valid.f s = some (Stray.valid s) := by unfold runes_Valid.f; rw [if_pos (by omega)]
  have pr : runes_Repair.f s = some (Rune.repair s) := by unfold runes_Repair.f; rw [if_pos (by omega)]
  unfold idiomlaw01_RunesValid.f
  rw [pv, pr]
  refine Ev.congr (fun k => Option.bind_some _ _) ?_
  refine Ev.bind (valid_f s (by omega)) ?_
  refine Ev.congr (fun k => by rw [if_pos (by simp), Option.bind_some]) ?_
  refine Ev.bind (repair_f s (by omega)) ?_
  exact Ev.congr (fun k => by rw [if_pos rfl]) awake_ev
end Go.Proofs.YtigikjihagmokaaDoor.RunesValid
namespace Go.Proofs.YtigikjihagmokaaDoor.Upto
open Go.RowKit Go.ChangeShapes Go.WideShapes Go.ChangeAt
set_option linter.unusedVariables false
theorem witness_row_sh {H : Type} {enc : TypeId × Value → H} {C : Checked} {os : Os} {f : FuncId} {fn : Func} {s : OpenSpec} {conds : List PathCond} {apart : Bool} {laid : List (String × DataW Unit)} (modest : Bool) (w0 : World) (args : Array Value) (hos : w0.os = os)
    (hsh : (w0.forCall (fun _ _ => 0) ⟨#[], args, []⟩).Shaped C.prog)
    (hok : Input.okWideB C.prog (w0.forCall (fun _ _ => 0) ⟨#[], args, []⟩) f ⟨#[], args, []⟩ = true)
    (hrow : s.preRow enc C.prog fn conds apart laid (w0.forCall (fun _ _ => 0) ⟨#[], args, []⟩).memory args) :
    ∃ (w : World) (tape : Tape) (i : Input), w.os = os ∧ (w.forCall tape i).Shaped C.prog ∧ i.vars = [] ∧ Input.okWide C.prog (w.forCall tape i) .any w.heap.size f i ∧
      s.preRow enc C.prog fn conds apart laid (w.forCall tape i).memory i.args ∧ ({ modest := modest } : Assume).holds C.prog (lone (Frame.enter C.prog f i.args .normal) [] (w.forCall tape i)) :=
  ⟨w0, fun _ _ => 0, ⟨#[], args, []⟩, hos, hsh, (Input.okWide_of_okWideB (base := 0) hok).1, (Input.okWide_of_okWideB hok).2, hrow, by
    simp only [Assume.holds]
    exact ⟨by simp, by simp, fun _ => Modest.zero, by simp, by simp⟩⟩
end Go.Proofs.YtigikjihagmokaaDoor.Upto
set_option linter.unusedVariables false
set_option linter.unusedSimpArgs false
namespace Go.Proofs.YtigikjihagmokaaDoor.lawRunesValid
open Go.ChangeShapes Go.WideShapes Go.ChangeAt Go.RowKit
open Go.ChangeMaps (open_string shut_string)
theorem own : ownKnob Tryd.prog.godebug = none := by kernel_rfl
theorem laidOut : laidOutB Tryd.prog = true := by kernel_rfl
set_option maxRecDepth 100000 in
theorem lifted (os : Os) (started : os.Started) (H : Type) (enc : TypeId × Value → H) (F_ : Stop.Interp) :
    ReturnsInHanded {} Tryd.checked os 8 .any ((Rows.OpenSpec.upto Rows.runesValidSpec).preRow enc Tryd.prog Tryd.f8 Rows.runesValidUptoRow.domain false Rows.runesValidUptoRow.laid) (((Rows.OpenSpec.upto Rows.runesValidSpec).at F_).post enc Tryd.prog Tryd.f8 false true false false) := by
  obtain ⟨places, hx⟩ : ∃ places, DataW.whole enc Tryd.prog ((World.laidAll Tryd.prog os Rows.runesValidUptoRow.laid).forCall (fun _ _ => 0) ⟨#[], #[.string ByteArray.empty], []⟩).memory Tryd.f8.params.toList Rows.runesValidSpec.vars false #[(.string ByteArray.empty : Value)].toList 12 = some ([.lit (.string [])], [], places) := ⟨[], by kernel_rfl⟩
  refine returnsInHanded_of_row (C := Tryd.checked) (s := Rows.OpenSpec.upto Rows.runesValidSpec) own started (by kernel_rfl) Tryd.func8
    (Upto.witness_row_sh (enc := enc) (C := Tryd.checked) false (World.laidAll Tryd.prog os Rows.runesValidUptoRow.laid) #[.string ByteArray.empty] (World.laidAll_os _ _ _) (World.shaped_of_ZipB (by kernel_rfl) (by kernel_rfl)) (by kernel_rfl)
      (OpenSpec.preRow_of_cond 12 hx (by kernel_rfl) (fun k hk => by cases hk; kernel_rfl) (by kernel_rfl) (by rw [MakeChecks.laidMetH_plain _ _ _ (by kernel_rfl)]; exact laidMet_laidAll _ (by kernel_rfl) (by kernel_rfl)))) ?_
  intro W base args ds gs before hval0 hW _ hk0 hsz0 hL0 _ _
  have hsz : (DataW.weightsEach Tryd.prog (Tryd.f8.params.toList ++ Rows.runesValidSpec.plain.varTypes Tryd.prog) (ds ++ gs)).all (· ≤ reachBytes) = true := hsz0
  have hval : ∀ (j : Nat) t v, Tryd.f8.params[j]? = some t → args[j]? = some v → Value.okWide Tryd.prog W .any base t v := hval0
  have hW' := hW
  obtain ⟨p, q, hA0, hV, rfl, hfz, hnd⟩ := hW
  have hA : DataW.TrodAll enc Tryd.prog W 0 (fun _ => true) true Tryd.f8.params.toList args.toList ds p := hA0
  rw [Tryd.params8] at hA hval hsz
  obtain ⟨v0, vs0, d0, ds0, p0, q0, hargs, rfl, rfl, h0, r0⟩ := trodAll_cons hA
  obtain ⟨rfl, rfl, rfl⟩ := trodAll_nil r0
  obtain rfl : args = #[v0] := by cases args; simp_all
  obtain ⟨rfl, rfl⟩ := trodVars_none hV
  have k0 := h0
  have lt0 : ∀ x ∈ p0, x.block < W.heap.size := by obtain ⟨m, hm⟩ := k0; exact DataW.trod_lt m _ _ _ hm
  obtain ⟨a0, rfl, rfl, rfl, y0⟩ := open_string Tryd.underlying9 (hval 0 9 v0 rfl rfl) h0
  have w0 : a0.size ≤ 140737488351232 := by
    have z := sized_string hsz (j := 0) (t := 9) rfl rfl
    rw [Array.length_toList] at z
    exact z
  have small := of_decide_eq_true (hk0 _ rfl)
  simp only [List.cons_append, List.nil_append, List.append_nil, Rows.uptoBulkAll, Rows.uptoBulk, Array.length_toList] at small
  have u0 : a0.size ≤ 1048576 := by
    have z : a0.data.size = a0.size := rfl
    omega
  have hL1 : laidMet Tryd.prog Rows.runesValidUptoRow.laid W := hL0
  have hG : Stray.Tabs W := utf8Tabs_of_reads (ρ := Tryd.lays260_ren) { Tryd.lays260 with } ⟨by kernel_rfl, by kernel_rfl, by kernel_rfl, by kernel_rfl, by kernel_rfl, by kernel_rfl, by kernel_rfl⟩ (Lib.laidMet.reads hL1 (.tail _ (.tail _ (.tail _ (.tail _ (.tail _ (.tail _ (.head _)))))))) (Lib.laidMet.reads hL1 (.tail _ (.tail _ (.tail _ (.head _)))))
  obtain ⟨k, hk⟩ := RunesValid.law a0 u0
  refine (F.idiomlaw01_RunesValid.calls k a0 true W hk hG).mono fun e W' ⟨he, bel0⟩ => ?_
  have bel : Below W.heap.size W W' := by first | exact bel0 | exact YtigikjihagmokaaDoorW.PrintWords.Drawn0.below bel0
  subst he
  exact ⟨_, rfl, _, _, _, [], _, [], hW', trodAll_mk1 (shut_bool Tryd.underlying4 _), (trodAll_cons_mk (Below.trod laidOut (by kernel_rfl) (of_decide_eq_true (by kernel_rfl)) k0 bel lt0) trodAll_mk0), rfl, bel.frame _, fun h => by cases h⟩
theorem said : Rows.RunesValidUptoSaid :=
  OpenClaim.holds_of_cond 8 Tryd.f8 rfl rfl rfl rfl rfl rfl rfl ⟨rfl, rfl, rfl, rfl, rfl⟩ rfl rfl rfl rfl rfl (by kernel_rfl) Tryd.func8 (by kernel_rfl)
    (of_decide_eq_true (by kernel_rfl)) (by unfold Func.isWrapper; first | (rw [if_pos (by decide +kernel)]; kernel_rfl) | (rw [if_neg (by decide +kernel)]; exact ⟨rfl, rfl⟩))
    (fun os started H enc _ F_ => by rw [OpenClaim.pre_eq_preRow]; exact lifted os started H enc F_)
theorem plain (f : FuncId) (fn : Func) (hf : Tryd.pinned.checked.prog.funcNamed "idiom/idiomlaw01.RunesValid" = some f) (hfn : Tryd.pinned.checked.prog.funcs[f]? = some fn) :
    true = Tryd.pinned.checked.prog.looks [] ∧ ∀ (j : Nat) t, fn.params[j]? = some t → Tryd.pinned.checked.prog.wantsStandIn t = false := by
  obtain rfl : f = 8 := Option.some.inj ((show Tryd.prog.funcNamed "idiom/idiomlaw01.RunesValid" = some 8 by kernel_rfl).symm.trans hf) |>.symm
  obtain rfl : fn = Tryd.f8 := (Option.some.inj (Tryd.func8.symm.trans hfn)).symm
  refine ⟨by kernel_rfl, fun j t ht => ?_⟩
  rw [Tryd.params8] at ht
  have hm : t ∈ [9] := by simpa using Array.mem_of_getElem? ht
  have hall : ([9].all fun u => !Tryd.prog.wantsStandIn u) = true := by kernel_rfl
  exact (show Tryd.prog.wantsStandIn t = false by simpa using List.all_eq_true.1 hall t hm)
/-- THE CARD. -/
theorem card : Rows.RunesValidUptoCardSaid :=
  Claim7.holds_tied_plain_at .later [] _ _ _ _ said (fun _ h => by cases h) (by kernel_rfl) (fun _ h => by cases h) runesValidUpto_row_tie rfl ⟨rfl, rfl⟩ (by kernel_rfl) rfl plain (by kernel_rfl)
#print axioms card
end Go.Proofs.YtigikjihagmokaaDoor.lawRunesValid
namespace Go.Proofs.YtigikjihagmokaaDoor
/-- The claim, under a short name. -/
theorem runesValid_holds : Rows.RunesValidUptoCardSaid := lawRunesValid.card
end Go.Proofs.YtigikjihagmokaaDoor
