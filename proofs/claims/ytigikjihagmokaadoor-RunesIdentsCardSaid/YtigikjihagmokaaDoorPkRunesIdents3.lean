/- Part 4 of 4 of the proof of the law RunesIdents: it is true at every input. Conditions: those of the given row, no others. -/
import Derived.Test.YtigikjihagmokaaDoorPkRunesIdents2
import Derived.Lib.TrimUEq
import Derived.Lib.ParseIntBCases
import Derived.Lib.ItoaMem
import GoSem.Op.String
import Derived.Lib.MapLaws
import Derived.Test.YtigikjihagmokaaDoorPkRunesIdents0
import Derived.Lib.LaidU8
import Derived.ChangeBears2
import Derived.KernelRfl
import Derived.Test.YtigikjihagmokaaDoorCards
import Derived.Test.YtigikjihagmokaaDoorTie
import Derived.WalkKit
import Derived.ProofKit
import Derived.OpenShut
import Derived.ShutString
import Derived.ChangeOld
import Derived.Below
import Derived.SizedLaws
import Derived.Carry
import Derived.Lib.SmallJoins
import Derived.PinnedBridge
import Derived.Lay
import Derived.LaidOnce
import Derived.SevenTiedAt
set_option linter.unusedVariables false
set_option linter.unusedSimpArgs false
namespace Go.Proofs.YtigikjihagmokaaDoor.StepI
open Go.RowKit Go.Proofs.YtigikjihagmokaaDoorW.PrintWords Go.Proofs.YtigikjihagmokaaDoorW.PrintLast Go.Proofs.YtigikjihagmokaaDoorW.PrintMore Go.Proofs.YtigikjihagmokaaDoor.S Go.Proofs.YtigikjihagmokaaDoor.AwakeI
/-- What the decoder tells of numbers, as the reference tells it. -/
def told (d : Nat × Nat) : Int × Int := if d = (65533, 1) then (-1, 1) else ((d.1 : Int), (d.2 : Int))
theorem bt_nat (s : ByteArray) (i : Nat) (h : i < s.size) : bt s (i : Int) = ((s.get! i).toNat : Int) := by
  have h2 : ((i : Int)).toNat < s.size := by omega
  rw [← bt_at s (i : Int) h2]
  congr 1
  have e : s.get! i = s[i]'h := by
    show s.data[i]! = s.data[i]'h
    exact getElem!_pos s.data i h
  rw [e]
  congr 1
theorem byte_le (s : ByteArray) (i : Nat) : (s.get! i).toNat ≤ 255 := by have := (s.get! i).toNat_lt; omega
/-- One byte more. -/
theorem l0_step (s : ByteArray) (i j n : Nat) (low r : Int) (hs : s.size ≤ 140737488355328) (hi : i + j < s.size) (hj : j < n) (hn : n ≤ 4) (hr : 0 ≤ r ∧ r ≤ 2097152) (k : Nat) :
    idiomref01_Step.l0 (k + 1) s (i : Int) (n : Int) low r (j : Int) = if (s.get! (i + j)).toNat / 64 = 2 then idiomref01_Step.l0 k s (i : Int) (n : Int) low (r * 64 + (((s.get! (i + j)).toNat : Nat) : Int) - 128) ((j + 1 : Nat) : Int) else some (-1, 1) := by
  have hb := byte_le s (i + j)
  have w1 : wrap64 ((i : Int) + (j : Int)) = ((i + j : Nat) : Int) := by rw [w64 (by omega) (by omega)]; omega
  have eb : bt s ((i + j : Nat) : Int) = ((s.get! (i + j)).toNat : Int) := bt_nat s (i + j) hi
  generalize (s.get! (i + j)).toNat = b at *
  have w2 : wrap64 (b : Int) = b := w64 (by omega) (by omega)
  have w3 : wrap64 (r * 64) = r * 64 := w64 (by omega) (by omega)
  have w4 : wrap64 (r * 64 + (b : Int)) = r * 64 + b := w64 (by omega) (by omega)
  have w5 : wrap64 (r * 64 + (b : Int) - 128) = r * 64 + b - 128 := w64 (by omega) (by omega)
  have w6 : wrap64 ((j : Int) + 1) = ((j + 1 : Nat) : Int) := by rw [w64 (by omega) (by omega)]; omega
  simp only [idiomref01_Step.l0]
  rw [w1, eb, w2, w3, w4, w5, w6]
  clear w1 eb w2 w3 w4 w5 w6
  rw [if_pos (by omega), if_pos (by omega), if_pos (by omega)]
  by_cases h1 : b / 64 = 2
  · rw [if_pos h1, if_neg (by omega), if_neg (by omega)]
  · rw [if_neg h1]
    by_cases h2 : (b : Int) < 128
    · rw [if_pos h2]
    · rw [if_neg h2, if_pos (by omega)]
theorem l0_end (s : ByteArray) (i n : Nat) (low r : Int) (k : Nat) : idiomref01_Step.l0 (k + 1) s (i : Int) (n : Int) low r (n : Int) = some (if low ≤ r ∧ r ≤ 1114111 ∧ (r < 55296 ∨ 57343 < r) then (r, (n : Int)) else (-1, 1)) := by
  simp only [idiomref01_Step.l0]
  rw [if_neg (by omega)]
  by_cases h1 : r < low
  · rw [if_pos h1, if_neg (by omega)]
  · rw [if_neg h1]
    by_cases h2 : r > 1114111
    · rw [if_pos h2, if_neg (by omega)]
    · rw [if_neg h2]
      by_cases h3 : r ≥ 55296
      · rw [if_pos h3]
        by_cases h4 : r ≤ 57343
        · rw [if_pos h4, if_neg (by omega)]
        · rw [if_neg h4, if_pos (by omega)]
      · rw [if_neg h3, if_pos (by omega)]
theorem step_ev (s : ByteArray) (hs : s.size ≤ 140737488355328) (i : Nat) (hi : i < s.size) : Ev (fun k => idiomref01_Step.f k s (i : Int)) (told (Utf8.decode s i)) := by
  rw [Lib.decode_at]
  have h0 := byte_le s i
  have h1 := byte_le s (i + 1)
  have h2 := byte_le s (i + 2)
  have h3 := byte_le s (i + 3)
  have eb : bt s (i : Int) = ((s.get! i).toNat : Int) := bt_nat s i hi
  have wl : wrap64 ((s.size : Int) - (i : Int)) = ((s.size - i : Nat) : Int) := by rw [w64 (by omega) (by omega)]; omega
  have wb : wrap64 (((s.get! i).toNat : Nat) : Int) = ((s.get! i).toNat : Int) := w64 (by omega) (by omega)
  -- the loop, three lengths
  have loop2 : ∀ low r : Int, 0 ≤ r → r ≤ 31 → i + 1 < s.size → Ev (fun k => idiomref01_Step.l0 k s (i : Int) 2 low r 1) (if (s.get! (i + 1)).toNat / 64 = 2 then (if low ≤ r * 64 + (s.get! (i + 1)).toNat - 128 ∧ r * 64 + (s.get! (i + 1)).toNat - 128 ≤ 1114111 ∧ (r * 64 + (s.get! (i + 1)).toNat - 128 < 55296 ∨ 57343 < r * 64 + (s.get! (i + 1)).toNat - 128) then (r * 64 + (s.get! (i + 1)).toNat - 128, 2) else (-1, 1)) else (-1, 1)) := by
    intro low r r0 r1 hl
    by_cases c1 : (s.get! (i + 1)).toNat / 64 = 2
    · rw [if_pos c1]
      exact Ev.step (fun k => (l0_step s i 1 2 low r hs hl (by omega) (by omega) ⟨r0, by omega⟩ k).trans (if_pos c1)) (Ev.some fun k => l0_end s i 2 low _ k)
    · rw [if_neg c1]
      exact Ev.some fun k => (l0_step s i 1 2 low r hs hl (by omega) (by omega) ⟨r0, by omega⟩ k).trans (if_neg c1)
  have loop3 : ∀ low r : Int, 0 ≤ r → r ≤ 15 → i + 2 < s.size → Ev (fun k => idiomref01_Step.l0 k s (i : Int) 3 low r 1) (if (s.get! (i + 1)).toNat / 64 = 2 ∧ (s.get! (i + 2)).toNat / 64 = 2 then (if low ≤ (r * 64 + (s.get! (i + 1)).toNat - 128) * 64 + (s.get! (i + 2)).toNat - 128 ∧ (r * 64 + (s.get! (i + 1)).toNat - 128) * 64 + (s.get! (i + 2)).toNat - 128 ≤ 1114111 ∧ ((r * 64 + (s.get! (i + 1)).toNat - 128) * 64 + (s.get! (i + 2)).toNat - 128 < 55296 ∨ 57343 < (r * 64 + (s.get! (i + 1)).toNat - 128) * 64 + (s.get! (i + 2)).toNat - 128) then ((r * 64 + (s.get! (i + 1)).toNat - 128) * 64 + (s.get! (i + 2)).toNat - 128, 3) else (-1, 1)) else (-1, 1)) := by
    intro low r r0 r1 hl
    by_cases c1 : (s.get! (i + 1)).toNat / 64 = 2
    · refine Ev.step (fun k => (l0_step s i 1 3 low r hs (by omega) (by omega) (by omega) ⟨r0, by omega⟩ k).trans (if_pos c1)) ?_
      by_cases c2 : (s.get! (i + 2)).toNat / 64 = 2
      · rw [if_pos ⟨c1, c2⟩]
        exact Ev.step (fun k => (l0_step s i 2 3 low _ hs hl (by omega) (by omega) ⟨by omega, by omega⟩ k).trans (if_pos c2)) (Ev.some fun k => l0_end s i 3 low _ k)
      · rw [if_neg (fun h => c2 h.2)]
        exact Ev.some fun k => (l0_step s i 2 3 low _ hs hl (by omega) (by omega) ⟨by omega, by omega⟩ k).trans (if_neg c2)
    · rw [if_neg (fun h => c1 h.1)]
      exact Ev.some fun k => (l0_step s i 1 3 low r hs (by omega) (by omega) (by omega) ⟨r0, by omega⟩ k).trans (if_neg c1)
  have loop4 : ∀ low r : Int, 0 ≤ r → r ≤ 7 → i + 3 < s.size → Ev (fun k => idiomref01_Step.l0 k s (i : Int) 4 low r 1) (if (s.get! (i + 1)).toNat / 64 = 2 ∧ (s.get! (i + 2)).toNat / 64 = 2 ∧ (s.get! (i + 3)).toNat / 64 = 2 then (if low ≤ ((r * 64 + (s.get! (i + 1)).toNat - 128) * 64 + (s.get! (i + 2)).toNat - 128) * 64 + (s.get! (i + 3)).toNat - 128 ∧ ((r * 64 + (s.get! (i + 1)).toNat - 128) * 64 + (s.get! (i + 2)).toNat - 128) * 64 + (s.get! (i + 3)).toNat - 128 ≤ 1114111 ∧ (((r * 64 + (s.get! (i + 1)).toNat - 128) * 64 + (s.get! (i + 2)).toNat - 128) * 64 + (s.get! (i + 3)).toNat - 128 < 55296 ∨ 57343 < ((r * 64 + (s.get! (i + 1)).toNat - 128) * 64 + (s.get! (i + 2)).toNat - 128) * 64 + (s.get! (i + 3)).toNat - 128) then (((r * 64 + (s.get! (i + 1)).toNat - 128) * 64 + (s.get! (i + 2)).toNat - 128) * 64 + (s.get! (i + 3)).toNat - 128, 4) else (-1, 1)) else (-1, 1)) := by
    intro low r r0 r1 hl
    by_cases c1 : (s.get! (i + 1)).toNat / 64 = 2
    · refine Ev.step (fun k => (l0_step s i 1 4 low r hs (by omega) (by omega) (by omega) ⟨r0, by omega⟩ k).trans (if_pos c1)) ?_
      by_cases c2 : (s.get! (i + 2)).toNat / 64 = 2
      · refine Ev.step (fun k => (l0_step s i 2 4 low _ hs (by omega) (by omega) (by omega) ⟨by omega, by omega⟩ k).trans (if_pos c2)) ?_
        by_cases c3 : (s.get! (i + 3)).toNat / 64 = 2
        · rw [if_pos ⟨c1, c2, c3⟩]
          exact Ev.step (fun k => (l0_step s i 3 4 low _ hs hl (by omega) (by omega) ⟨by omega, by omega⟩ k).trans (if_pos c3)) (Ev.some fun k => l0_end s i 4 low _ k)
        · rw [if_neg (fun h => c3 h.2.2)]
          exact Ev.some fun k => (l0_step s i 3 4 low _ hs hl (by omega) (by omega) ⟨by omega, by omega⟩ k).trans (if_neg c3)
      · rw [if_neg (fun h => c2 h.2.1)]
        exact Ev.some fun k => (l0_step s i 2 4 low _ hs (by omega) (by omega) (by omega) ⟨by omega, by omega⟩ k).trans (if_neg c2)
    · rw [if_neg (fun h => c1 h.1)]
      exact Ev.some fun k => (l0_step s i 1 4 low r hs (by omega) (by omega) (by omega) ⟨r0, by omega⟩ k).trans (if_neg c1)
  generalize (s.get! i).toNat = b0 at *
  generalize (s.get! (i + 1)).toNat = b1 at *
  generalize (s.get! (i + 2)).toNat = b2 at *
  generalize (s.get! (i + 3)).toNat = b3 at *
  obtain ⟨n, hn⟩ : ∃ n, n = s.size - i := ⟨_, rfl⟩
  rw [← hn] at wl ⊢
  have n0 : 0 < n := by omega
  -- the first byte
  by_cases c128 : b0 < 128
  · refine Ev.congr (fun k => ?_) (Ev.now _)
    simp only [idiomref01_Step.f]
    rw [wl, if_neg (by omega), if_pos (by omega), if_pos (by omega), eb, wb, if_pos (by omega)]
    have hD : Lib.decodeN n b0 b1 b2 b3 = (b0, 1) := by unfold Lib.decodeN; rw [if_pos c128]
    rw [hD]
    unfold told
    rw [if_neg (by intro h; injection h with h; omega)]
    rfl
  have head : ∀ k, idiomref01_Step.f k s (i : Int) = if (b0 : Int) ≥ 192 then idiomref01_Step.j0 k s (i : Int) (n : Int) (b0 : Int) (decide ((b0 : Int) < 224)) else idiomref01_Step.j0 k s (i : Int) (n : Int) (b0 : Int) false := by
    intro k
    simp only [idiomref01_Step.f]
    rw [wl, if_neg (by omega), if_pos (by omega), if_pos (by omega), eb, wb, if_neg (by omega)]
  refine Ev.congr head ?_
  clear head wl eb wb
  by_cases c2 : b0 / 32 = 6
  · refine Ev.congr (fun k => by rw [if_pos (by omega), decide_eq_true (by omega)]) ?_
    have w : wrap64 ((b0 : Int) - 192) = (b0 : Int) - 192 := w64 (by omega) (by omega)
    refine Ev.step (f := fun k => idiomref01_Step.j2 k s (i : Int) (n : Int) 2 128 ((b0 : Int) - 192)) (fun k => by simp only [idiomref01_Step.j0]; rw [if_pos trivial, w]) ?_
    clear w
    by_cases hl : 1 < n
    · refine Ev.step (fun k => by simp only [idiomref01_Step.j2]; rw [if_neg (by omega)]) ?_
      have e := loop2 128 ((b0 : Int) - 192) (by omega) (by omega) (by omega)
      clear loop2 loop3 loop4
      by_cases d1 : b1 / 64 = 2
      · rw [if_pos d1] at e
        by_cases d2 : b0 % 32 * 64 + b1 % 64 ≥ 128
        · have hD : Lib.decodeN n b0 b1 b2 b3 = (b0 % 32 * 64 + b1 % 64, 2) := by unfold Lib.decodeN; rw [if_neg c128, if_pos ⟨c2, hl, d1⟩, if_pos d2]
          rw [hD]
          unfold told
          rw [if_neg (by intro h; injection h with h h'; omega)]
          rw [if_pos (by omega)] at e
          have e1 : ((b0 : Int) - 192) * 64 + (b1 : Int) - 128 = ((b0 % 32 * 64 + b1 % 64 : Nat) : Int) := by omega
          rw [e1] at e
          exact e
        · have hD : Lib.decodeN n b0 b1 b2 b3 = (65533, 1) := by unfold Lib.decodeN; rw [if_neg c128, if_pos ⟨c2, hl, d1⟩, if_neg d2]
          rw [hD]
          rw [if_neg (by omega)] at e
          exact e
      · have hD : Lib.decodeN n b0 b1 b2 b3 = (65533, 1) := by unfold Lib.decodeN; rw [if_neg c128, if_neg (fun h => d1 h.2.2), if_neg (by omega), if_neg (by omega)]
        rw [hD]
        rw [if_neg d1] at e
        exact e
    · refine Ev.some fun k => ?_
      simp only [idiomref01_Step.j2]
      rw [if_pos (by omega)]
      have hD : Lib.decodeN n b0 b1 b2 b3 = (65533, 1) := by unfold Lib.decodeN; rw [if_neg c128, if_neg (by omega), if_neg (by omega), if_neg (by omega)]
      rw [hD]
      rfl
  by_cases c3 : b0 / 16 = 14
  · refine Ev.congr (fun k => by rw [if_pos (by omega), decide_eq_false (by omega)]) ?_
    have w : wrap64 ((b0 : Int) - 224) = (b0 : Int) - 224 := w64 (by omega) (by omega)
    refine Ev.step (f := fun k => idiomref01_Step.j1 k s (i : Int) (n : Int) (b0 : Int) true) (fun k => by simp only [idiomref01_Step.j0]; rw [if_neg (by decide), if_pos (by omega), decide_eq_true (by omega)]) ?_
    refine Ev.step (f := fun k => idiomref01_Step.j2 k s (i : Int) (n : Int) 3 2048 ((b0 : Int) - 224)) (fun k => by simp only [idiomref01_Step.j1]; rw [if_pos trivial, w]) ?_
    clear w
    by_cases hl : 2 < n
    · refine Ev.step (fun k => by simp only [idiomref01_Step.j2]; rw [if_neg (by omega)]) ?_
      have e := loop3 2048 ((b0 : Int) - 224) (by omega) (by omega) (by omega)
      clear loop2 loop3 loop4
      by_cases d1 : b1 / 64 = 2 ∧ b2 / 64 = 2
      · rw [if_pos d1] at e
        by_cases d2 : b0 % 16 * 4096 + b1 % 64 * 64 + b2 % 64 ≥ 2048 ∧ (b0 % 16 * 4096 + b1 % 64 * 64 + b2 % 64 < 55296 ∨ (57344 ≤ b0 % 16 * 4096 + b1 % 64 * 64 + b2 % 64 ∧ b0 % 16 * 4096 + b1 % 64 * 64 + b2 % 64 ≤ 1114111))
        · have hD : Lib.decodeN n b0 b1 b2 b3 = (b0 % 16 * 4096 + b1 % 64 * 64 + b2 % 64, 3) := by unfold Lib.decodeN; rw [if_neg c128, if_neg (by omega), if_pos ⟨c3, ⟨by omega, d1.1⟩, hl, d1.2⟩, if_pos d2]
          rw [hD]
          unfold told
          rw [if_neg (by intro h; injection h with h h'; omega)]
          rw [if_pos (by omega)] at e
          have e1 : (((b0 : Int) - 224) * 64 + (b1 : Int) - 128) * 64 + (b2 : Int) - 128 = ((b0 % 16 * 4096 + b1 % 64 * 64 + b2 % 64 : Nat) : Int) := by omega
          rw [e1] at e
          exact e
        · have hD : Lib.decodeN n b0 b1 b2 b3 = (65533, 1) := by unfold Lib.decodeN; rw [if_neg c128, if_neg (by omega), if_pos ⟨c3, ⟨by omega, d1.1⟩, hl, d1.2⟩, if_neg d2]
          rw [hD]
          rw [if_neg (by omega)] at e
          exact e
      · have hD : Lib.decodeN n b0 b1 b2 b3 = (65533, 1) := by unfold Lib.decodeN; rw [if_neg c128, if_neg (by omega), if_neg (fun h => d1 ⟨h.2.1.2, h.2.2.2⟩), if_neg (by omega)]
        rw [hD]
        rw [if_neg d1] at e
        exact e
    · refine Ev.some fun k => ?_
      simp only [idiomref01_Step.j2]
      rw [if_pos (by omega)]
      have hD : Lib.decodeN n b0 b1 b2 b3 = (65533, 1) := by unfold Lib.decodeN; rw [if_neg c128, if_neg (by omega), if_neg (by omega), if_neg (by omega)]
      rw [hD]
      rfl
  by_cases c4 : b0 / 8 = 30
  · refine Ev.congr (fun k => by rw [if_pos (by omega), decide_eq_false (by omega)]) ?_
    have w : wrap64 ((b0 : Int) - 240) = (b0 : Int) - 240 := w64 (by omega) (by omega)
    refine Ev.step (f := fun k => idiomref01_Step.j1 k s (i : Int) (n : Int) (b0 : Int) false) (fun k => by simp only [idiomref01_Step.j0]; rw [if_neg (by decide), if_pos (by omega), decide_eq_false (by omega)]) ?_
    refine Ev.step (f := fun k => idiomref01_Step.j2 k s (i : Int) (n : Int) 4 65536 ((b0 : Int) - 240)) (fun k => by simp only [idiomref01_Step.j1]; rw [if_neg (by decide), if_pos (by omega), if_pos (by omega), w]) ?_
    clear w
    by_cases hl : 3 < n
    · refine Ev.step (fun k => by simp only [idiomref01_Step.j2]; rw [if_neg (by omega)]) ?_
      have e := loop4 65536 ((b0 : Int) - 240) (by omega) (by omega) (by omega)
      clear loop2 loop3 loop4
      by_cases d1 : b1 / 64 = 2 ∧ b2 / 64 = 2 ∧ b3 / 64 = 2
      · rw [if_pos d1] at e
        by_cases d2 : b0 % 8 * 262144 + b1 % 64 * 4096 + b2 % 64 * 64 + b3 % 64 ≥ 65536 ∧ (b0 % 8 * 262144 + b1 % 64 * 4096 + b2 % 64 * 64 + b3 % 64 < 55296 ∨ (57344 ≤ b0 % 8 * 262144 + b1 % 64 * 4096 + b2 % 64 * 64 + b3 % 64 ∧ b0 % 8 * 262144 + b1 % 64 * 4096 + b2 % 64 * 64 + b3 % 64 ≤ 1114111))
        · have hD : Lib.decodeN n b0 b1 b2 b3 = (b0 % 8 * 262144 + b1 % 64 * 4096 + b2 % 64 * 64 + b3 % 64, 4) := by unfold Lib.decodeN; rw [if_neg c128, if_neg (by omega), if_neg (by omega), if_pos ⟨c4, ⟨by omega, d1.1⟩, ⟨by omega, d1.2.1⟩, hl, d1.2.2⟩, if_pos d2]
          rw [hD]
          unfold told
          rw [if_neg (by intro h; injection h with h h'; omega)]
          rw [if_pos (by omega)] at e
          have e1 : ((((b0 : Int) - 240) * 64 + (b1 : Int) - 128) * 64 + (b2 : Int) - 128) * 64 + (b3 : Int) - 128 = ((b0 % 8 * 262144 + b1 % 64 * 4096 + b2 % 64 * 64 + b3 % 64 : Nat) : Int) := by omega
          rw [e1] at e
          exact e
        · have hD : Lib.decodeN n b0 b1 b2 b3 = (65533, 1) := by unfold Lib.decodeN; rw [if_neg c128, if_neg (by omega), if_neg (by omega), if_pos ⟨c4, ⟨by omega, d1.1⟩, ⟨by omega, d1.2.1⟩, hl, d1.2.2⟩, if_neg d2]
          rw [hD]
          rw [if_neg (by omega)] at e
          exact e
      · have hD : Lib.decodeN n b0 b1 b2 b3 = (65533, 1) := by unfold Lib.decodeN; rw [if_neg c128, if_neg (by omega), if_neg (by omega), if_neg (fun h => d1 ⟨h.2.1.2, h.2.2.1.2, h.2.2.2.2⟩)]
        rw [hD]
        rw [if_neg d1] at e
        exact e
    · refine Ev.some fun k => ?_
      simp only [idiomref01_Step.j2]
      rw [if_pos (by omega)]
      have hD : Lib.decodeN n b0 b1 b2 b3 = (65533, 1) := by unfold Lib.decodeN; rw [if_neg c128, if_neg (by omega), if_neg (by omega), if_neg (by omega)]
      rw [hD]
      rfl
  clear loop2 loop3 loop4
  have bad : told (Lib.decodeN n b0 b1 b2 b3) = (-1, 1) := by
    have hD : Lib.decodeN n b0 b1 b2 b3 = (65533, 1) := by unfold Lib.decodeN; rw [if_neg c128, if_neg (fun h => c2 h.1), if_neg (fun h => c3 h.1), if_neg (fun h => c4 h.1)]
    rw [hD]
    rfl
  rw [bad]
  have z : ∀ g : Nat → Option (Int × Int), (∀ k, g k = idiomref01_Step.j0 k s (i : Int) (n : Int) (b0 : Int) false) → Ev g (-1, 1) := by
    intro g hg
    refine Ev.congr hg ?_
    have j1 : Ev (fun k => idiomref01_Step.j1 k s (i : Int) (n : Int) (b0 : Int) false) (-1, 1) := by
      refine Ev.some fun k => ?_
      simp only [idiomref01_Step.j1]
      rw [if_neg (by decide)]
      by_cases a : (b0 : Int) ≥ 240
      · rw [if_pos a, if_neg (by omega)]
      · rw [if_neg a]
    refine Ev.step (fun k => ?_) j1
    simp only [idiomref01_Step.j0]
    rw [if_neg (by decide)]
    by_cases a : (b0 : Int) ≥ 224
    · rw [if_pos a, decide_eq_false (by omega)]
    · rw [if_neg a]
  by_cases a : (b0 : Int) ≥ 192
  · exact z _ (fun k => by rw [if_pos a, decide_eq_false (by omega)])
  · exact z _ (fun k => if_neg a)
end Go.Proofs.YtigikjihagmokaaDoor.StepI
namespace Go.Proofs.YtigikjihagmokaaDoor.NumP
set_option linter.unusedVariables false
set_option linter.unusedSimpArgs false
open Go
def dig (c : UInt8) : Prop := 48 ≤ c.toNat ∧ c.toNat ≤ 57
instance (c : UInt8) : Decidable (dig c) := by unfold dig; infer_instance
def val (acc : Nat) (l : List UInt8) : Nat := l.foldl (fun a c => a * 10 + (c.toNat - 48)) acc
theorem val_nil (acc : Nat) : val acc [] = acc := List.foldl_nil
theorem val_cons (acc : Nat) (c : UInt8) (r : List UInt8) : val acc (c :: r) = val (acc * 10 + (c.toNat - 48)) r := List.foldl_cons ..
theorem val_le (l : List UInt8) : ∀ (acc : Nat), acc ≤ val acc l := by
  induction l with
  | nil => intro acc; exact Nat.le_refl _
  | cons c r ih =>
    intro acc
    have := ih (acc * 10 + (c.toNat - 48))
    rw [val_cons]
    omega
theorem val_app (l : List UInt8) (c : UInt8) : ∀ (acc : Nat), val acc (l ++ [c]) = val acc l * 10 + (c.toNat - 48) := by
  induction l with
  | nil => intro acc; rw [List.nil_append, val_cons, val_nil, val_nil]
  | cons d r ih =>
    intro acc
    rw [List.cons_append, val_cons, val_cons]
    exact ih _
theorem parse_iff (M : Nat) (hM : M < 1844674407370955162) (l : List UInt8) : ∀ (acc u : Nat), acc ≤ M → (Lib.parseUintM M acc l = .ok u ↔ (∀ c ∈ l, dig c) ∧ u = val acc l ∧ val acc l ≤ M) := by
  induction l with
  | nil =>
    intro acc u ha
    rw [val_nil]
    unfold Lib.parseUintM
    rw [Lib.NumEnd.ok.injEq]
    constructor
    · intro h; subst h; exact ⟨fun c hc => by simp at hc, rfl, ha⟩
    · intro h; exact h.2.1.symm
  | cons c r ih =>
    intro acc u ha
    rw [val_cons]
    unfold Lib.parseUintM
    by_cases hc : 48 ≤ c.toNat ∧ c.toNat ≤ 57
    · rw [if_pos hc, if_neg (by omega)]
      by_cases hm : M < acc * 10 + (c.toNat - 48)
      · rw [if_pos hm]
        constructor
        · intro h; cases h
        · intro h
          have := val_le r (acc * 10 + (c.toNat - 48))
          omega
      · rw [if_neg hm, ih _ u (by omega)]
        constructor
        · intro h
          refine ⟨fun d hd => ?_, h.2⟩
          rcases List.mem_cons.1 hd with e | e
          · subst e; exact hc
          · exact h.1 d e
        · intro h
          exact ⟨fun d hd => h.1 d (List.mem_cons_of_mem _ hd), h.2⟩
    · rw [if_neg hc]
      constructor
      · intro h; cases h
      · intro h; exact absurd (h.1 c (List.mem_cons_self ..)) hc
theorem dec_val (l : List UInt8) : l ≠ [] → (∀ c ∈ l, dig c) → (l.head? = some 48 → l.length = 1) → Lib.decDigits (val 0 l) = l := by
  generalize hn : l.length = n
  induction n generalizing l with
  | zero => intro h; exact absurd (List.length_eq_zero_iff.1 hn) h
  | succ n ih =>
    intro hne hd hz
    obtain ⟨x, c, rfl⟩ : ∃ x c, l = x ++ [c] := ⟨l.dropLast, l.getLast hne, (List.dropLast_concat_getLast hne).symm⟩
    have hc : dig c := hd c (by simp)
    unfold dig at hc
    have hx : x.length = n := by rw [List.length_append] at hn; simpa using hn
    rw [val_app]
    have hcu : UInt8.ofNat (48 + (c.toNat - 48)) = c := by rw [show 48 + (c.toNat - 48) = c.toNat by omega]; simp
    cases x with
    | nil =>
      rw [List.nil_append, val_nil]
      rw [Lib.decDigits, dif_pos (by omega), show 0 * 10 + (c.toNat - 48) = c.toNat - 48 by omega, hcu]
    | cons a t =>
      have ha : a ≠ 48 := by
        intro e
        subst e
        have := hz rfl
        simp at hx
        omega
      have had : dig a := hd a (by simp)
      unfold dig at had
      have ha2 : a.toNat ≠ 48 := fun e => ha (UInt8.toNat_inj.1 (by rw [e]; rfl))
      have hv : 1 ≤ val 0 (a :: t) := by
        rw [val_cons]
        exact Nat.le_trans (by omega) (val_le t _)
      rw [Lib.decDigits, dif_neg (by omega), show (val 0 (a :: t) * 10 + (c.toNat - 48)) / 10 = val 0 (a :: t) by omega, show (val 0 (a :: t) * 10 + (c.toNat - 48)) % 10 = c.toNat - 48 by omega, hcu,
        ih (a :: t) hx (by simp) (fun d h => hd d (List.mem_append_left _ h)) (fun e => absurd (Option.some.inj e) ha)]
theorem head_dec (u : Nat) : (Lib.decDigits u).head? = some 48 → u = 0 := by
  induction u using Nat.strongRecOn with
  | _ u ih =>
    rw [Lib.decDigits]
    by_cases h : u < 10
    · rw [dif_pos h]
      intro e
      have e2 : UInt8.ofNat (48 + u) = 48 := Option.some.inj e
      have e3 := congrArg UInt8.toNat e2
      rw [UInt8.toNat_ofNat'] at e3
      have : (48 : UInt8).toNat = 48 := rfl
      omega
    · rw [dif_neg h]
      intro e
      have hn : Lib.decDigits (u / 10) ≠ [] := by
        intro z
        have := Lib.decDigits_length (u / 10)
        rw [z] at this
        have := Lib.nDigits_pos (u / 10)
        simp at *
        omega
      have := ih (u / 10) (by omega) (by
        cases hx : Lib.decDigits (u / 10) with
        | nil => exact absurd hx hn
        | cons a t => rw [hx] at e; exact e)
      omega
theorem val_split (l : List UInt8) : ∀ (acc : Nat), val acc l = acc * 10 ^ l.length + val 0 l := by
  induction l with
  | nil => intro acc; rw [val_nil, val_nil]; simp
  | cons c r ih =>
    intro acc
    rw [val_cons, val_cons, List.length_cons, ih (acc * 10 + (c.toNat - 48)), ih (0 * 10 + (c.toNat - 48)), Nat.pow_succ]
    generalize 10 ^ r.length = P
    generalize c.toNat - 48 = d
    generalize val 0 r = v
    rw [Nat.add_mul, Nat.zero_mul, Nat.zero_add, Nat.mul_assoc, Nat.mul_comm 10 P, Nat.add_assoc]
theorem val_lt (l : List UInt8) : (∀ c ∈ l, dig c) → val 0 l < 10 ^ l.length := by
  induction l with
  | nil => intro _; rw [val_nil]; simp
  | cons c r ih =>
    intro hd
    have hc := hd c (by simp)
    unfold dig at hc
    have := ih (fun d h => hd d (List.mem_cons_of_mem _ h))
    rw [val_cons, List.length_cons, val_split, Nat.pow_succ]
    have h2 : (0 * 10 + (c.toNat - 48)) * 10 ^ r.length ≤ 9 * 10 ^ r.length := Nat.mul_le_mul_right _ (by omega)
    omega
theorem less_cons (a b : UInt8) (x y : List UInt8) : Op.bytesLess (a :: x) (b :: y) = (decide (a < b) || (a == b && Op.bytesLess x y)) := rfl
theorem less_iff (x : List UInt8) : ∀ (y : List UInt8), x.length = y.length → (∀ c ∈ x, dig c) → (∀ c ∈ y, dig c) → (Op.bytesLess x y = true ↔ val 0 x < val 0 y) := by
  induction x with
  | nil =>
    intro y hl _ _
    cases y with
    | nil => constructor <;> (intro h; first | cases h | exact absurd h (Nat.lt_irrefl _))
    | cons b y => cases hl
  | cons a x ihx =>
    intro y hl hx hy
    cases y with
    | nil => cases hl
    | cons b y =>
    have hl2 : x.length = y.length := by simpa using hl
    have ha := hx a (by simp)
    have hb := hy b (by simp)
    have hx2 : ∀ c ∈ x, dig c := fun d h => hx d (List.mem_cons_of_mem _ h)
    have hy2 : ∀ c ∈ y, dig c := fun d h => hy d (List.mem_cons_of_mem _ h)
    have ih := ihx y hl2 hx2 hy2
    have bx := val_lt x hx2
    have by_ := val_lt y hy2
    unfold dig at ha hb
    rw [less_cons, Bool.or_eq_true, Bool.and_eq_true, decide_eq_true_eq, beq_iff_eq, val_cons, val_cons, val_split x, val_split y, hl2, ih]
    rw [hl2] at bx
    have hlt : a < b ↔ a.toNat < b.toNat := UInt8.lt_iff_toNat_lt
    have heq : a = b ↔ a.toNat = b.toNat := UInt8.toNat_inj.symm
    rw [hlt, heq]
    generalize 10 ^ y.length = P at *
    generalize val 0 x = vx at *
    generalize val 0 y = vy at *
    generalize a.toNat = na at *
    generalize b.toNat = nb at *
    clear ihx ih hlt heq
    rcases Nat.lt_trichotomy na nb with h | h | h
    · have : (0 * 10 + (na - 48)) * P + P ≤ (0 * 10 + (nb - 48)) * P := by
        rw [← Nat.succ_mul]; exact Nat.mul_le_mul_right _ (by omega)
      constructor
      · intro _; omega
      · intro _; exact .inl h
    · subst h
      constructor
      · rintro (h2 | h2)
        · omega
        · omega
      · intro h2; exact .inr ⟨rfl, by omega⟩
    · have : (0 * 10 + (nb - 48)) * P + P ≤ (0 * 10 + (na - 48)) * P := by
        rw [← Nat.succ_mul]; exact Nat.mul_le_mul_right _ (by omega)
      constructor
      · rintro (h2 | h2)
        · omega
        · omega
      · intro h2; omega
/-- A number's digits, as the document has them. -/
def Dig (l : List UInt8) : Prop := l ≠ [] ∧ (l.head? = some 48 → l.length = 1) ∧ ∀ c ∈ l, dig c
def numL (l : List UInt8) : Bool := match Lib.parseIntB 32 l with
  | .ok v => decide (Lib.itoa v = l)
  | _ => false
def top : List UInt8 := [50, 49, 52, 55, 52, 56, 51, 54, 52, 55]
theorem small_iff (l : List UInt8) (h : Dig l) : val 0 l < 2147483648 ↔ l.length < 10 ∨ l.length = 10 ∧ Op.bytesLess top l = false := by
  obtain ⟨h0, h1, h2⟩ := h
  have hv := val_lt l h2
  have htop : val 0 top = 2147483647 := by decide
  rcases Nat.lt_trichotomy l.length 10 with e | e | e
  · have : 10 ^ l.length ≤ 10 ^ 9 := Nat.pow_le_pow_right (by omega) (by omega)
    constructor
    · intro _; exact .inl e
    · intro _; omega
  · have hb := less_iff top l (by rw [e]; rfl) (by decide) h2
    rw [htop] at hb
    constructor
    · intro h
      refine .inr ⟨e, ?_⟩
      cases hq : Op.bytesLess top l with
      | false => rfl
      | true => have := hb.1 hq; omega
    · rintro (h | ⟨_, h⟩)
      · omega
      · have : ¬ 2147483647 < val 0 l := fun hh => by rw [hb.2 hh] at h; cases h
        omega
  · constructor
    · intro h
      exfalso
      cases l with
      | nil => exact h0 rfl
      | cons a t =>
        have ha : a ≠ 48 := fun z => by
          subst z
          have := h1 rfl
          omega
        have had := h2 a (by simp)
        unfold dig at had
        have ha2 : a.toNat ≠ 48 := fun z => ha (UInt8.toNat_inj.1 (by rw [z]; rfl))
        rw [val_cons, val_split] at h
        have h3 : 1 * 10 ^ 10 ≤ (0 * 10 + (a.toNat - 48)) * 10 ^ t.length := Nat.mul_le_mul (by omega) (Nat.pow_le_pow_right (by omega) (by simp at e; omega))
        omega
    · rintro (h | ⟨h, _⟩) <;> omega
theorem numL_iff (c : UInt8) (r : List UInt8) (hc : dig c) : numL (c :: r) = true ↔ Dig (c :: r) ∧ ((c :: r).length < 10 ∨ (c :: r).length = 10 ∧ Op.bytesLess top (c :: r) = false) := by
  have hc' := hc
  unfold dig at hc'
  have hp : Lib.parseIntB 32 (c :: r) = Lib.signlessC (2 ^ (32 - 1)) (Lib.parseUintB 32 (c :: r)) := Lib.parseIntB_plain 32 c r (by omega) (by omega)
  have hu : Lib.parseUintB 32 (c :: r) = Lib.parseUintM (2 ^ 32 - 1) 0 (c :: r) := by unfold Lib.parseUintB; rw [if_neg (by simp)]
  have hiff := parse_iff (2 ^ 32 - 1) (by decide) (c :: r) 0
  unfold numL
  rw [hp, hu]
  constructor
  · intro h
    rcases hq : Lib.parseUintM (2 ^ 32 - 1) 0 (c :: r) with u | _ | _
    · rw [hq] at h
      simp only [Lib.signlessC] at h
      obtain ⟨hd, hv, hm⟩ := (hiff u (by decide)).1 hq
      by_cases hb : 2 ^ (32 - 1) ≤ u
      · rw [if_pos hb] at h; simp at h
      · rw [if_neg hb] at h
        simp only [decide_eq_true_eq] at h
        rw [Lib.itoa_nonneg] at h
        have hD : Dig (c :: r) := ⟨by simp, fun e => by
          have hu0 := head_dec u (by rw [h]; exact e)
          rw [hu0, Lib.decDigits_one (by omega)] at h
          rw [← h]; rfl, hd⟩
        exact ⟨hD, (small_iff _ hD).1 (by omega)⟩
    · rw [hq] at h; simp [Lib.signlessC] at h
    · rw [hq] at h; simp [Lib.signlessC] at h
  · rintro ⟨hD, hs⟩
    have hv := (small_iff _ hD).2 hs
    have hq := (hiff (val 0 (c :: r)) (by decide)).2 ⟨hD.2.2, rfl, by omega⟩
    rw [hq]
    simp only [Lib.signlessC]
    rw [if_neg (by omega)]
    simp only [decide_eq_true_eq]
    rw [Lib.itoa_nonneg]
    exact dec_val _ hD.1 hD.2.2 hD.2.1
end Go.Proofs.YtigikjihagmokaaDoor.NumP
set_option linter.unusedVariables false
set_option linter.unusedSimpArgs false
namespace Go.Proofs.YtigikjihagmokaaDoor.RunesIdents
open Go.RowKit Go.Proofs.YtigikjihagmokaaDoorW.PrintWords Go.Proofs.YtigikjihagmokaaDoorW.PrintLast Go.Proofs.YtigikjihagmokaaDoorW.PrintMore Go.Proofs.YtigikjihagmokaaDoor.S Go.Proofs.YtigikjihagmokaaDoor.AwakeI Go.Proofs.YtigikjihagmokaaDoor.StepI Go.Proofs.YtigikjihagmokaaDoor.IdentW Go.Proofs.YtigikjihagmokaaDoor.Trim Go.Proofs.YtigikjihagmokaaDoor.NumP
/-- Does a number lie in one of some ranges? -/
def inB (r : Int) : List Int → Bool
  | a :: b :: t => (decide (a ≤ r) && decide (r ≤ b)) || inB r t
  | _ => false
theorem in_ev (r : Int) (l : List Int) (hl : l.length ≤ 1000) : Ev (fun k => idiomref01_in.f k r l) (inB r l) := by
  have aux : ∀ (m i : Nat), l.length - i = m → i ≤ l.length + 1 → Ev (fun k => idiomref01_in.l0 k r l (i : Int)) (inB r (l.drop i)) := by
    intro m
    induction m using Nat.strongRecOn with
    | _ m ih =>
      intro i h1 h2
      have w1 : wrap64 ((i : Int) + 1) = ((i + 1 : Nat) : Int) := by rw [w64 (by omega) (by omega)]; omega
      have w2 : wrap64 ((i : Int) + 2) = ((i + 2 : Nat) : Int) := by rw [w64 (by omega) (by omega)]; omega
      by_cases h : i + 1 < l.length
      · have e : l.drop i = l.getD i 0 :: l.getD (i + 1) 0 :: l.drop (i + 2) := by
          rw [List.drop_eq_getElem_cons (by omega), List.drop_eq_getElem_cons h, List.getD_eq_getElem?_getD, List.getD_eq_getElem?_getD, List.getElem?_eq_getElem (by omega), List.getElem?_eq_getElem h]
          rfl
        have r1 : rd l (i : Int) = l.getD i 0 := by unfold rd; rw [Int.toNat_natCast]
        have r2 : rd l ((i + 1 : Nat) : Int) = l.getD (i + 1) 0 := by unfold rd; rw [Int.toNat_natCast]
        have rest := ih (l.length - (i + 2)) (by omega) (i + 2) rfl (by omega)
        rw [e]
        simp only [inB]
        by_cases c1 : l.getD i 0 ≤ r
        · by_cases c2 : r ≤ l.getD (i + 1) 0
          · refine Ev.some fun k => ?_
            simp only [idiomref01_in.l0]
            rw [w1, if_pos (by omega), if_pos (by omega), if_pos (by omega), r1, if_pos c1, if_pos (by omega), r2, if_pos c2]
            rw [decide_eq_true c1, decide_eq_true c2]; rfl
          · refine Ev.step (fun k => ?_) (by rw [decide_eq_false c2, Bool.and_false, Bool.false_or]; exact rest)
            simp only [idiomref01_in.l0]
            rw [w1, if_pos (by omega), if_pos (by omega), if_pos (by omega), r1, if_pos c1, if_pos (by omega), r2, if_neg c2, w2]
        · refine Ev.step (fun k => ?_) (by rw [decide_eq_false c1, Bool.false_and, Bool.false_or]; exact rest)
          simp only [idiomref01_in.l0]
          rw [w1, if_pos (by omega), if_pos (by omega), if_pos (by omega), r1, if_neg c1, w2]
      · have e : inB r (l.drop i) = false := by
          have hlen : (l.drop i).length ≤ 1 := by rw [List.length_drop]; omega
          match hd : l.drop i, hlen with
          | [], _ => rfl
          | [_], _ => rfl
        rw [e]
        refine Ev.some fun k => ?_
        simp only [idiomref01_in.l0]
        rw [w1, if_neg (by omega)]
  exact aux l.length 0 (by omega) (by omega)

theorem ref_syn (r : Int) : Ev (fun k => idiomref01_Syntax.f k r) (decide (syn r)) := by
  have a := in_ev r [33, 47, 58, 64, 91, 94, 96, 96, 123, 126, 161, 167, 169, 169, 171, 172, 174, 174, 176, 177, 182, 182, 187, 187, 191, 191, 215, 215, 247, 247] (by decide)
  have b := in_ev r [8208, 8231, 8240, 8254, 8257, 8275, 8277, 8286, 8592, 11263, 11776, 11903, 12289, 12291, 12296, 12320, 12336, 12336, 64830, 64831, 65093, 65094] (by decide)
  refine Ev.bind a ?_
  have hd : ∀ x y : Bool, inB r [33, 47, 58, 64, 91, 94, 96, 96, 123, 126, 161, 167, 169, 169, 171, 172, 174, 174, 176, 177, 182, 182, 187, 187, 191, 191, 215, 215, 247, 247] = x → inB r [8208, 8231, 8240, 8254, 8257, 8275, 8277, 8286, 8592, 11263, 11776, 11903, 12289, 12291, 12296, 12320, 12336, 12336, 64830, 64831, 65093, 65094] = y → decide (syn r) = (x || y) := by
    intro x y hx hy
    subst hx hy
    rw [Bool.eq_iff_iff]
    simp only [decide_eq_true_eq, Bool.or_eq_true, inB, Bool.and_eq_true, Bool.false_eq_true, or_false]
    unfold syn
    omega
  generalize hx : inB r [33, 47, 58, 64, 91, 94, 96, 96, 123, 126, 161, 167, 169, 169, 171, 172, 174, 174, 176, 177, 182, 182, 187, 187, 191, 191, 215, 215, 247, 247] = x at *
  generalize hy : inB r [8208, 8231, 8240, 8254, 8257, 8275, 8277, 8286, 8592, 11263, 11776, 11903, 12289, 12291, 12296, 12320, 12336, 12336, 64830, 64831, 65093, 65094] = y at *
  rw [hd x y rfl rfl]
  cases x with
  | true => exact Ev.congr (fun k => if_pos rfl) (Ev.now _)
  | false => exact Ev.congr (fun k => if_neg (by decide)) (Ev.bind b (Ev.now _))
theorem ref_space (r : Int) : idiomref01_Space.f r = some (spaceB r) := by
  unfold idiomref01_Space.f
  have key : ∀ b : Bool, (b = true ↔ (r = 9 ∨ r = 10 ∨ r = 11 ∨ r = 12 ∨ r = 13 ∨ r = 32 ∨ r = 133 ∨ r = 8206 ∨ r = 8207 ∨ r = 8232 ∨ r = 8233)) → some b = some (spaceB r) := by
    intro b hb
    congr 1
    unfold spaceB
    rw [Bool.eq_iff_iff, hb, decide_eq_true_eq]
  repeat' (refine ite_key (fun _ => ?_) (fun _ => ?_))
  all_goals (apply key; simp only [decide_eq_true_eq, beq_iff_eq, Bool.false_eq_true, true_iff, false_iff] at * <;> omega)
theorem rune_le (s : ByteArray) (i : Nat) : (Utf8.decode s i).1 ≤ 1114111 := by
  rw [Lib.decode_N]
  have b0 := ((s.data.toList.getD i 0)).toNat_lt
  generalize ((s.data.toList.getD i 0)).toNat = x0 at *
  generalize ((s.data.toList.getD (i + 1) 0)).toNat = x1 at *
  generalize ((s.data.toList.getD (i + 2) 0)).toNat = x2 at *
  generalize ((s.data.toList.getD (i + 3) 0)).toNat = x3 at *
  rcases Lib.decodeN_shape (s.data.toList.length - i) x0 x1 x2 x3 with ⟨c, e⟩ | ⟨c1, c2, c3, cv, e⟩ | ⟨c1, c2, c3, c4, cv, cs, e⟩ | ⟨c1, c2, c3, c4, c5, cv, cw, e⟩ | e
  all_goals (rw [e]; simp only []; omega)
theorem told_bad {d : Nat × Nat} (h : d = (65533, 1)) : told d = (-1, 1) := by unfold told; rw [if_pos h]
theorem told_good {d : Nat × Nat} (h : d ≠ (65533, 1)) : told d = ((d.1 : Int), (d.2 : Int)) := by unfold told; rw [if_neg h]
theorem loop_ev (s : ByteArray) (hs : s.size ≤ 140737488351232) : ∀ (fuel i : Nat), i ≤ s.size → s.size + 1 ≤ i + fuel → Ev (fun k => idiomref01_Ident.l0 k s (i : Int)) (if name_ s fuel i = true then 1 else 0) := by
  intro fuel
  induction fuel with
  | zero => intro i h1 h2; omega
  | succ fuel ih =>
    intro i h1 h2
    by_cases hi : i < s.size
    · rw [name_at s fuel i hi]
      have st := step_ev s (by omega) i hi
      have hf := Trim.fits s i hi
      have hw := Stray.width s i hi
      have hr := rune_le s i
      refine Ev.step (f := fun k => (idiomref01_Step.f k s (i : Int)).bind fun bt120 => (if bt120.1 < 0 then (some 0) else ((idiomref01_Space.f (wrap32 (bt120.1))).bind fun t122 => (if t122 = true then (some 0) else ((idiomref01_Syntax.f k (wrap32 (bt120.1))).bind fun t123 => (if t123 = true then (some 0) else (idiomref01_Ident.l0 k s (wrap64 ((i : Int) + bt120.2))))))))) (fun k => ?_) ?_
      · simp only [idiomref01_Ident.l0]
        rw [if_pos (by omega)]
      · refine Ev.bind st ?_
        by_cases hd : Utf8.decode s i = (65533, 1)
        · rw [told_bad hd]
          have hst : Stray.strayB s i = true := decide_eq_true hd
          have z : (if (if spaceB ((Utf8.decode s i).1 : Int) = true then false else if decide (syn ((Utf8.decode s i).1 : Int)) = true then false else if Stray.strayB s i = true then false else name_ s fuel (i + (Utf8.decode s i).2)) = true then (1 : Int) else 0) = 0 := by
            rw [if_pos hst]
            repeat' split
            all_goals first | rfl | contradiction
          rw [z]
          exact Ev.congr (fun k => if_pos (by decide)) (Ev.now _)
        · have hst : ¬ Stray.strayB s i = true := by unfold Stray.strayB; simp [hd]
          rw [told_good hd, if_neg hst]
          have w1 : wrap32 ((Utf8.decode s i).1 : Int) = ((Utf8.decode s i).1 : Int) := by unfold wrap32; omega
          have w : wrap64 ((i : Int) + ((Utf8.decode s i).2 : Int)) = ((i + (Utf8.decode s i).2 : Nat) : Int) := by rw [w64 (by omega) (by omega)]; omega
          refine Ev.congr (fun k => by simp only []; rw [if_neg (by omega), w1, ref_space, w, Option.bind_some]) ?_
          by_cases c1 : spaceB ((Utf8.decode s i).1 : Int) = true
          · rw [if_pos c1, if_neg Bool.false_ne_true]
            exact Ev.congr (fun k => if_pos c1) (Ev.now _)
          · rw [if_neg c1]
            refine Ev.congr (fun k => if_neg c1) (Ev.bind (ref_syn _) ?_)
            by_cases c2 : decide (syn ((Utf8.decode s i).1 : Int)) = true
            · rw [if_pos c2, if_neg Bool.false_ne_true]
              exact Ev.congr (fun k => if_pos c2) (Ev.now _)
            · rw [if_neg c2]
              exact Ev.congr (fun k => if_neg c2) (ih (i + (Utf8.decode s i).2) hf (by omega))
    · rw [name_end s (fuel + 1) i hi, if_pos rfl]
      refine Ev.some fun k => ?_
      simp only [idiomref01_Ident.l0]
      rw [if_neg (by omega)]
theorem dig_iff (c : UInt8) : dig c ↔ 48 ≤ c.toNat ∧ c.toNat ≤ 57 := Iff.rfl
theorem digit_f (c : UInt8) : idiomref01_Digit.f (c.toNat : Int) = some (decide (dig c)) := by
  unfold idiomref01_Digit.f
  by_cases h : 48 ≤ c.toNat
  · rw [if_pos (by omega)]
    congr 1
    rw [Bool.eq_iff_iff, decide_eq_true_eq, decide_eq_true_eq, dig_iff]
    omega
  · rw [if_neg (by omega), decide_eq_false (fun e => h ((dig_iff c).1 e).1)]
theorem get_list (s : ByteArray) (i : Nat) (h : i < s.size) : s.data.toList.drop i = s.get! i :: s.data.toList.drop (i + 1) := by
  have h2 : i < s.data.toList.length := by rw [Array.length_toList]; exact h
  rw [List.drop_eq_getElem_cons h2]
  congr 1
  show s.data.toList[i] = s.data[i]!
  rw [getElem!_pos s.data i h]
  simp
def allB (l : List UInt8) : Bool := l.all fun c => decide (dig c)
theorem allB_iff (l : List UInt8) : allB l = true ↔ ∀ c ∈ l, dig c := by
  unfold allB
  rw [List.all_eq_true]
  constructor
  · intro h c hc; exact of_decide_eq_true (h c hc)
  · intro h c hc; exact decide_eq_true (h c hc)
theorem all_ev (s : ByteArray) (hs : s.size ≤ 140737488351232) : ∀ (n i : Nat), s.size - i = n → i ≤ s.size → Ev (fun k => idiomref01_Digits.l0 k s (i : Int)) (allB (s.data.toList.drop i)) := by
  intro n
  induction n with
  | zero =>
    intro i h1 h2
    have hd : s.data.toList.drop i = [] := List.drop_eq_nil_of_le (by rw [Array.length_toList]; have h3 : s.data.size = s.size := rfl; omega)
    rw [hd, show allB [] = true from rfl]
    refine Ev.some fun k => ?_
    simp only [idiomref01_Digits.l0]
    rw [if_neg (by omega)]
  | succ n ih =>
    intro i h1 h2
    have hi : i < s.size := by omega
    rw [get_list s i hi]
    have hb := bt_nat s i hi
    have w : wrap64 ((i : Int) + 1) = ((i + 1 : Nat) : Int) := by rw [w64 (by omega) (by omega)]; omega
    have st : ∀ k, idiomref01_Digits.l0 (k + 1) s (i : Int) = if decide (dig (s.get! i)) = true then idiomref01_Digits.l0 k s ((i + 1 : Nat) : Int) else some false := by
      intro k
      simp only [idiomref01_Digits.l0]
      rw [if_pos (by omega), if_pos (by omega), hb, digit_f, Option.bind_some, w]
    by_cases hc : dig (s.get! i)
    · have e : allB (s.get! i :: s.data.toList.drop (i + 1)) = allB (s.data.toList.drop (i + 1)) := by
        unfold allB
        rw [List.all_cons, decide_eq_true hc, Bool.true_and]
      rw [e]
      exact Ev.step (fun k => by rw [st, if_pos (decide_eq_true hc)]) (ih (i + 1) (by omega) (by omega))
    · have e : allB (s.get! i :: s.data.toList.drop (i + 1)) = false := by
        unfold allB
        rw [List.all_cons, decide_eq_false hc, Bool.false_and]
      rw [e]
      exact Ev.some fun k => by rw [st, if_neg (by simp [hc])]
noncomputable instance digDec (l : List UInt8) : Decidable (Dig l) := Classical.propDecidable _
theorem list_ne (s : ByteArray) : s.toList = [] ↔ s.size = 0 := by
  rw [ByteArray.toList_eq]
  have h2 : s.data.toList.length = s.size := Array.length_toList
  constructor
  · intro h; rw [h] at h2; exact h2.symm
  · intro h; exact List.length_eq_zero_iff.1 (by omega)
theorem digits_ev (s : ByteArray) (hs : s.size ≤ 140737488351232) : Ev (fun k => idiomref01_Digits.f k s) (decide (Dig s.data.toList)) := by
  have hl : s.data.toList.length = s.size := Array.length_toList
  unfold idiomref01_Digits.f
  by_cases h0 : s.size = 0
  · have hn : ¬ Dig s.data.toList := fun h => h.1 (List.length_eq_zero_iff.1 (by omega))
    rw [decide_eq_false hn]
    refine Ev.congr (fun k => if_pos ((list_ne s).2 h0)) ?_
    exact Ev.some fun k => by simp only [idiomref01_Digits.j0, if_true]
  · have hp : 0 < s.size := by omega
    refine Ev.congr (fun k => by rw [if_neg (fun e => h0 ((list_ne s).1 e)), if_pos (by omega)]) ?_
    have hb := bt_nat s 0 hp
    have hd := get_list s 0 hp
    rw [List.drop_zero] at hd
    have hall := all_ev s hs s.size 0 (by omega) (by omega)
    rw [List.drop_zero] at hall
    have j0 : ∀ b : Bool, Ev (fun k => idiomref01_Digits.j0 k s b) (if b = true then false else allB s.data.toList) := by
      intro b
      cases b with
      | true => exact Ev.some fun k => by simp only [idiomref01_Digits.j0, if_true]
      | false =>
        rw [if_neg Bool.false_ne_true]
        exact Ev.step (fun k => by simp only [idiomref01_Digits.j0]; rw [if_neg Bool.false_ne_true]; rfl) hall
    rw [show bt s 0 = ((s.get! 0).toNat : Int) from hb]
    have hhead : s.data.toList.head? = some (s.get! 0) := by rw [hd]; rfl
    by_cases c : ((s.get! 0).toNat : Int) = 48
    · have c2 : s.get! 0 = 48 := UInt8.toNat_inj.1 (by rw [show (48 : UInt8).toNat = 48 from rfl]; omega)
      refine Ev.congr (fun k => if_pos c) ?_
      have e := j0 (decide ((s.size : Int) > 1))
      refine (show (if decide ((s.size : Int) > 1) = true then false else allB s.data.toList) = decide (Dig s.data.toList) from ?_) ▸ e
      by_cases c3 : s.size > 1
      · rw [decide_eq_true (show (s.size : Int) > 1 by omega), if_pos rfl, decide_eq_false]
        intro h
        have := h.2.1 (by rw [hhead, c2])
        omega
      · rw [decide_eq_false (show ¬ (s.size : Int) > 1 by omega), if_neg Bool.false_ne_true, Bool.eq_iff_iff, allB_iff, decide_eq_true_eq]
        constructor
        · intro h; exact ⟨fun e2 => by rw [e2] at hl; simp at hl; omega, fun _ => by omega, h⟩
        · intro h; exact h.2.2
    · have c2 : s.get! 0 ≠ 48 := fun e2 => c (by rw [e2]; rfl)
      refine Ev.congr (fun k => if_neg c) ?_
      have e := j0 false
      rw [if_neg Bool.false_ne_true] at e
      refine (show allB s.data.toList = decide (Dig s.data.toList) from ?_) ▸ e
      rw [Bool.eq_iff_iff, allB_iff, decide_eq_true_eq]
      constructor
      · intro h; exact ⟨fun e2 => by rw [e2] at hl; simp at hl; omega, fun e2 => absurd (Option.some.inj (hhead.symm.trans e2)) c2, h⟩
      · intro h; exact h.2.2
theorem numB_eq (s : ByteArray) : Num.numB s = numL s.data.toList := rfl
theorem ref_ev (s : ByteArray) (hs : s.size ≤ 140737488351232) : Ev (fun k => idiomref01_Ident.f k s) (ident s) := by
  have hl : s.data.toList.length = s.size := Array.length_toList
  have ht : s.toList = s.data.toList := ByteArray.toList_eq ..
  unfold idiomref01_Ident.f
  refine Ev.bind (digits_ev s hs) ?_
  by_cases hD : Dig s.data.toList
  · have h0 : 0 < s.size := by
      have := hD.1
      refine Nat.pos_of_ne_zero fun e => this (List.length_eq_zero_iff.1 (by omega))
    have hd := get_list s 0 h0
    rw [List.drop_zero] at hd
    have hc : dig (s.get! 0) := hD.2.2 _ (by rw [hd]; exact List.mem_cons_self ..)
    have hn := numL_iff (s.get! 0) (s.data.toList.drop (0 + 1)) hc
    rw [← hd, ← numB_eq, hl] at hn
    refine Ev.congr (fun k => if_pos (decide_eq_true hD)) ?_
    have hc' := hc
    unfold dig at hc'
    have hi : ident s = if 64 < s.size then 0 else if Num.numB s = true then 2 else 0 := by
      unfold ident
      rw [if_neg (by omega), if_pos hc']
    rw [hi]
    clear hi
    by_cases c1 : (s.size : Int) > 10
    · refine Ev.congr (fun k => if_pos c1) ?_
      have z : ¬ Num.numB s = true := fun e => by have := (hn.1 e).2; omega
      rw [if_neg z]
      have : (if 64 < s.size then (0 : Int) else 0) = 0 := by split <;> rfl
      rw [this]
      exact Ev.now _
    · have hi : (if 64 < s.size then (0 : Int) else if Num.numB s = true then 2 else 0) = if Num.numB s = true then 2 else 0 := if_neg (by omega)
      rw [hi]
      refine Ev.congr (fun k => if_neg c1) ?_
      by_cases c2 : (s.size : Int) = 10
      · rw [ht]
        by_cases c3 : Op.bytesLess top s.data.toList = true
        · have z : ¬ Num.numB s = true := fun e => by
            rcases (hn.1 e).2 with h | ⟨_, h⟩
            · omega
            · rw [c3] at h; cases h
          rw [if_neg z]
          exact Ev.congr (fun k => (if_pos c2).trans (if_pos c3)) (Ev.now _)
        · have z : Num.numB s = true := hn.2 ⟨hD, .inr ⟨by omega, by simpa using c3⟩⟩
          rw [if_pos z]
          exact Ev.congr (fun k => (if_pos c2).trans (if_neg c3)) (Ev.now _)
      · have z : Num.numB s = true := hn.2 ⟨hD, .inl (by omega)⟩
        rw [if_pos z]
        exact Ev.congr (fun k => if_neg c2) (Ev.now _)
  · refine Ev.congr (fun k => if_neg (by rw [decide_eq_false hD]; exact Bool.false_ne_true)) ?_
    unfold ident
    have jt : Ev (fun k => idiomref01_Ident.j0 k s true) 0 := Ev.some fun k => by simp only [idiomref01_Ident.j0, if_true]
    by_cases h0 : s.size = 0
    · rw [if_pos h0]
      exact Ev.congr (fun k => if_pos ((list_ne s).2 h0)) jt
    rw [if_neg h0]
    refine Ev.congr (fun k => if_neg (fun e => h0 ((list_ne s).1 e))) ?_
    by_cases h1 : 64 < s.size
    · rw [if_pos h1]
      exact Ev.congr (fun k => if_pos (by omega)) jt
    rw [if_neg h1]
    have hp : 0 < s.size := by omega
    have hb : bt s 0 = ((s.get! 0).toNat : Int) := bt_nat s 0 hp
    have hd := get_list s 0 hp
    rw [List.drop_zero] at hd
    refine Ev.congr (fun k => by rw [if_neg (by omega), if_pos (by omega), hb, digit_f, Option.bind_some]) ?_
    by_cases hc : dig (s.get! 0)
    · have z : ¬ Num.numB s = true := fun e => by
        have hn := numL_iff (s.get! 0) (s.data.toList.drop (0 + 1)) hc
        rw [← hd, ← numB_eq] at hn
        exact hD (hn.1 e).1
      have hc' := hc
      unfold dig at hc'
      rw [if_pos hc', if_neg z, decide_eq_true hc]
      exact jt
    · have hc' := hc
      unfold dig at hc'
      rw [if_neg hc', decide_eq_false hc]
      exact Ev.step (fun k => by simp only [idiomref01_Ident.j0]; rw [if_neg Bool.false_ne_true]; rfl) (loop_ev s hs (s.size + 1) 0 (by omega) (by omega))
theorem law (s : ByteArray) (hs : s.size ≤ 140737488351232) : ∃ k, idiomlaw01_RunesIdents.f k s = some true := by
  apply Ev.rounds (g := fun k => idiomlaw01_RunesIdents.f k s)
  unfold idiomlaw01_RunesIdents.f runes_Ident.f
  rw [if_pos hs]
  refine Ev.congr (fun k => by rw [Option.bind_some]) (Ev.bind (ref_ev s hs) ?_)
  exact Ev.congr (fun k => by rw [if_pos rfl]) awake_ev
end Go.Proofs.YtigikjihagmokaaDoor.RunesIdents
namespace Go.Proofs.YtigikjihagmokaaDoor.TabI
open Go
set_option linter.unusedVariables false
theorem iface_cell {P : Program} {w : World} {n name : String} {d : DataW Unit} {g t : Nat} {ms : Array (String × TypeId)} (hg : P.globalNamed n = some g) (hty : (P.globals[g]?).map (·.type) = some t) (hi : P.underlying t = some (.interface ms))
    (h : Lib.VarReads P w n (.iface name d)) : ∃ te pe, w.cell? ⟨g, 0, none⟩ = some (.iface te pe) := by
  obtain ⟨g', t', cs, fuel, p, hg', hty', hvar, hd⟩ := h
  obtain rfl := Option.some.inj (hg.symm.trans hg')
  obtain rfl := Option.some.inj (hty.symm.trans hty')
  cases fuel with
  | zero => cases hd
  | succ fuel =>
    have e : ∃ te pe, cs.toList = [.iface te pe] := by
      unfold DataW.trod at hd
      rw [hi] at hd
      split at hd <;> first | (exact ⟨_, _, by assumption⟩) | (simp_all; done) | skip
      all_goals (rename_i h1 h2; try cases h1)
      all_goals first | exact ⟨_, _, by assumption⟩ | (simp at hd; done) | skip
    obtain ⟨te, pe, e⟩ := e
    refine ⟨te, pe, ?_⟩
    rw [World.var?_cell hg hvar 0, ← Array.getElem?_toList, e]
    rfl
theorem pow_tab {P : Program} {w : World} {g t e : Nat} {nn : Nat} (hg : P.globalNamed "internal/strconv.uint64pow10" = some g) (hty : (P.globals[g]?).map (·.type) = some t) (ht : P.underlying t = some (.array nn e)) (he : P.underlying e = some (.int .u64)) (hce : P.cellsOf e = 1) (hct : P.cellsOf t = nn)
    (h : Lib.VarReads P w "internal/strconv.uint64pow10" (Lib.tabData .u64 Lib.pow10Tab)) : Lib.TabIs P w "internal/strconv.uint64pow10" .u64 Lib.pow10Tab := by
  obtain ⟨g', t', cs, fuel, p, hg', hty', hvar, hd⟩ := h
  obtain rfl := Option.some.inj (hg.symm.trans hg')
  obtain rfl := Option.some.inj (hty.symm.trans hty')
  have := Lib.cells_of_tab ht he hce hct hd
  unfold Lib.TabIs
  rw [hvar, ← this]
theorem tabs {w : World} (h1 : Stray.Tabs w) {n1 n2 : String} {d1 d2 : DataW Unit} (h2 : Lib.VarReads Tryd.prog w "internal/strconv.uint64pow10" (Lib.tabData .u64 Lib.pow10Tab)) (h3 : Lib.VarReads Tryd.prog w "strconv.ErrSyntax" (.iface n1 d1)) (h4 : Lib.VarReads Tryd.prog w "strconv.ErrRange" (.iface n2 d2)) : Num.Tabs w :=
  ⟨h1, pow_tab (g := 4) (t := 98) (e := 77) (nn := 20) (by kernel_rfl) (by kernel_rfl) Tryd.underlying98 Tryd.underlying77 (by kernel_rfl) (by kernel_rfl) h2,
    iface_cell (g := 2) (t := 46) (by kernel_rfl) (by kernel_rfl) Tryd.underlying46 h3, iface_cell (g := 3) (t := 46) (by kernel_rfl) (by kernel_rfl) Tryd.underlying46 h4⟩
end Go.Proofs.YtigikjihagmokaaDoor.TabI
set_option linter.unusedVariables false
set_option linter.unusedSimpArgs false
namespace Go.Proofs.YtigikjihagmokaaDoor.lawRunesIdents
open Go.ChangeShapes Go.WideShapes Go.ChangeAt Go.RowKit
open Go.ChangeMaps (open_string shut_string)
theorem own : ownKnob Tryd.prog.godebug = none := by kernel_rfl
theorem laidOut : laidOutB Tryd.prog = true := by kernel_rfl
set_option maxRecDepth 100000 in
theorem lifted (os : Os) (started : os.Started) (H : Type) (enc : TypeId × Value → H) :
    ReturnsInHanded {} Tryd.checked os 4 .any (fun w args => (Rows.runesIdentsSpec.pre enc Tryd.prog Tryd.f4 [] false w args ∧ laidMetH Tryd.prog Rows.runesIdentsRow.laid w) ∧ sizedMet enc Tryd.prog Tryd.f4 (OpenSpec.ofChange Rows.runesIdentsSpec) false w args)
      (Rows.runesIdentsSpec.post enc Tryd.prog Tryd.f4 false true false false) := by
  refine returnsInHanded_of_change_and (C := Tryd.checked) (X := (fun w _ => laidMetH Tryd.prog Rows.runesIdentsRow.laid w)) (fun _ _ _ hh h => h.of_heap hh) own started (by kernel_rfl) Tryd.func4
    (ChangeSpec.witness_shaped (enc := enc) (C := Tryd.checked) (os := os) (X := (fun w _ => laidMetH Tryd.prog Rows.runesIdentsRow.laid w)) false (World.laidAll Tryd.prog os Rows.runesIdentsRow.laid) #[.string ByteArray.empty] 12 (World.laidAll_os _ _ _)
      (World.shaped_of_ZipB (by kernel_rfl) (by kernel_rfl)) (by kernel_rfl) (by kernel_rfl) (by kernel_rfl)
      (by rw [MakeChecks.laidMetH_plain _ _ _ (by kernel_rfl)]; exact laidMet_laidAll _ (by kernel_rfl) (by kernel_rfl))) ?_
  intro W base args ds gs before hval0 hW _ hsz0 hL0 _
  have hsz : (DataW.weightsEach Tryd.prog (Tryd.f4.params.toList ++ Rows.runesIdentsSpec.plain.varTypes Tryd.prog) (ds ++ gs)).all (· ≤ reachBytes) = true := hsz0
  have hval : ∀ (j : Nat) t v, Tryd.f4.params[j]? = some t → args[j]? = some v → Value.okWide Tryd.prog W .any base t v := hval0
  have hW' := hW
  obtain ⟨p, q, hA0, hV, rfl, hfz, hnd⟩ := hW
  have hA : DataW.TrodAll enc Tryd.prog W 0 (fun _ => true) true Tryd.f4.params.toList args.toList ds p := hA0
  rw [Tryd.params4] at hA hval hsz
  obtain ⟨v0, vs0, d0, ds0, p0, q0, hargs, rfl, rfl, h0, r0⟩ := trodAll_cons hA
  obtain ⟨rfl, rfl, rfl⟩ := trodAll_nil r0
  obtain rfl : args = #[v0] := by cases args; simp_all
  obtain ⟨rfl, rfl⟩ := trodVars_none hV
  have k0 := h0
  have lt0 : ∀ x ∈ p0, x.block < W.heap.size := by obtain ⟨m, hm⟩ := k0; exact DataW.trod_lt m _ _ _ hm
  obtain ⟨a0, rfl, rfl, rfl, y0⟩ := open_string Tryd.underlying9 (hval 0 9 v0 rfl rfl) h0
  have w0 : a0.size ≤ 140737488351232 := by
    have z := sized_string hsz (j := 0) (t := 9) rfl rfl
    rw [Array.length_toList] at z
    exact z
  have hL1 : laidMet Tryd.prog Rows.runesIdentsRow.laid W := hL0
  have hU : Stray.Tabs W := utf8Tabs_of_reads (ρ := Tryd.lays260_ren) { Tryd.lays260 with } ⟨by kernel_rfl, by kernel_rfl, by kernel_rfl, by kernel_rfl, by kernel_rfl, by kernel_rfl, by kernel_rfl⟩ (Lib.laidMet.reads hL1 (.tail _ (.tail _ (.tail _ (.tail _ (.tail _ (.tail _ (.head _)))))))) (Lib.laidMet.reads hL1 (.tail _ (.tail _ (.tail _ (.head _)))))
  have hG : Num.Tabs W := TabI.tabs hU (Lib.laidMet.reads hL1 (.tail _ (.tail _ (.head _)))) (Lib.laidMet.reads hL1 (.tail _ (.tail _ (.tail _ (.tail _ (.tail _ (.head _))))))) (Lib.laidMet.reads hL1 (.tail _ (.tail _ (.tail _ (.tail _ (.head _))))))
  obtain ⟨k, hk⟩ := RunesIdents.law a0 w0
  refine (Go.Proofs.YtigikjihagmokaaDoor.S.idiomlaw01_RunesIdents.calls k a0 true W hk hG).mono fun e W' ⟨he, bel0⟩ => ?_
  have bel : Below W.heap.size W W' := by first | exact bel0 | exact YtigikjihagmokaaDoorW.PrintWords.Drawn0.below bel0
  subst he
  exact ⟨_, rfl, _, _, _, [], _, [], hW', trodAll_mk1 (shut_bool Tryd.underlying4 _), (trodAll_cons_mk (Below.trod laidOut (by kernel_rfl) (of_decide_eq_true (by kernel_rfl)) k0 bel lt0) trodAll_mk0), rfl, bel.frame _, fun h => by cases h⟩
theorem said : Rows.runesIdentsRow.holds Tryd.pinned (OpenSpec.ofChange Rows.runesIdentsSpec) :=
  OpenClaim.holds_of_wide 4 Tryd.f4 rfl rfl rfl rfl rfl rfl rfl ⟨rfl, rfl, rfl, rfl, rfl⟩ rfl rfl rfl rfl rfl (by kernel_rfl) Tryd.func4 (by kernel_rfl)
    (of_decide_eq_true (by kernel_rfl)) (by unfold Func.isWrapper; first | (rw [if_pos (by decide +kernel)]; kernel_rfl) | (rw [if_neg (by decide +kernel)]; exact ⟨rfl, rfl⟩))
    (fun os started H enc _ => lifted os started H enc)
theorem plain (f : FuncId) (fn : Func) (hf : Tryd.pinned.checked.prog.funcNamed "idiom/idiomlaw01.RunesIdents" = some f) (hfn : Tryd.pinned.checked.prog.funcs[f]? = some fn) :
    true = Tryd.pinned.checked.prog.looks [] ∧ ∀ (j : Nat) t, fn.params[j]? = some t → Tryd.pinned.checked.prog.wantsStandIn t = false := by
  obtain rfl : f = 4 := Option.some.inj ((show Tryd.prog.funcNamed "idiom/idiomlaw01.RunesIdents" = some 4 by kernel_rfl).symm.trans hf) |>.symm
  obtain rfl : fn = Tryd.f4 := (Option.some.inj (Tryd.func4.symm.trans hfn)).symm
  refine ⟨by kernel_rfl, fun j t ht => ?_⟩
  rw [Tryd.params4] at ht
  have hm : t ∈ [9] := by simpa using Array.mem_of_getElem? ht
  have hall : ([9].all fun u => !Tryd.prog.wantsStandIn u) = true := by kernel_rfl
  exact (show Tryd.prog.wantsStandIn t = false by simpa using List.all_eq_true.1 hall t hm)
/-- THE CARD. -/
theorem card : Rows.RunesIdentsCardSaid :=
  Claim7.holds_tied_plain_at .later [] _ _ _ _ said (fun _ h => by cases h) (by kernel_rfl) (fun _ h => by cases h) runesIdents_row_tie rfl ⟨rfl, rfl⟩ (by kernel_rfl) rfl plain (by kernel_rfl)
#print axioms card
end Go.Proofs.YtigikjihagmokaaDoor.lawRunesIdents
namespace Go.Proofs.YtigikjihagmokaaDoor
/-- The claim, under a short name. -/
theorem runesIdents_holds : Rows.RunesIdentsCardSaid := lawRunesIdents.card
end Go.Proofs.YtigikjihagmokaaDoor
