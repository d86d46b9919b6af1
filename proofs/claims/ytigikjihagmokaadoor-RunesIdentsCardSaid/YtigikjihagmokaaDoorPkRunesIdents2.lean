/- Part 3 of 4 of the proof of the law RunesIdents: it is true at every input. Conditions: those of the given row, no others. -/
import Derived.Test.YtigikjihagmokaaDoorPkRunesIdents0
import Derived.Test.YtigikjihagmokaaDoorPkRunesIdents1
namespace Go.Proofs.YtigikjihagmokaaDoor.IdentW
open Go.RowKit Go.Proofs.YtigikjihagmokaaDoorW.PrintWords Go.Proofs.YtigikjihagmokaaDoorW.PrintLast Go.Proofs.YtigikjihagmokaaDoorW.PrintMore Go.Proofs.YtigikjihagmokaaDoor.Stray Go.Proofs.YtigikjihagmokaaDoor.Trim Go.Proofs.YtigikjihagmokaaDoor.Num Go.Proofs.YtigikjihagmokaaDoor.S
set_option linter.unusedVariables false
set_option linter.unusedSimpArgs false
def syn (r : Int) : Prop := 33 ≤ r ∧ r ≤ 47 ∨ 58 ≤ r ∧ r ≤ 64 ∨ 91 ≤ r ∧ r ≤ 94 ∨ r = 96 ∨ 123 ≤ r ∧ r ≤ 126 ∨ 161 ≤ r ∧ r ≤ 167 ∨ r = 169 ∨ 171 ≤ r ∧ r ≤ 172 ∨ r = 174 ∨ 176 ≤ r ∧ r ≤ 177 ∨ r = 182 ∨ r = 187 ∨ r = 191 ∨ r = 215 ∨ r = 247 ∨
  8208 ≤ r ∧ r ≤ 8231 ∨ 8240 ≤ r ∧ r ≤ 8254 ∨ 8257 ≤ r ∧ r ≤ 8275 ∨ 8277 ≤ r ∧ r ≤ 8286 ∨ 8592 ≤ r ∧ r ≤ 11263 ∨ 11776 ≤ r ∧ r ≤ 11903 ∨ 12289 ≤ r ∧ r ≤ 12291 ∨ 12296 ≤ r ∧ r ≤ 12320 ∨ r = 12336 ∨ 64830 ≤ r ∧ r ≤ 64831 ∨ 65093 ≤ r ∧ r ≤ 65094
instance synDec (r : Int) : Decidable (syn r) := by unfold syn; infer_instance
theorem ite_key {α : Type} {c : Prop} [Decidable c] {a b x : α} (h1 : c → a = x) (h2 : ¬ c → b = x) : (if c then a else b) = x := by
  by_cases h : c
  · rw [if_pos h]; exact h1 h
  · rw [if_neg h]; exact h2 h
set_option maxHeartbeats 4000000 in
theorem prog_syn (r : Int) : runes_Syntax.f 2 r = some (decide (syn r)) := by
  have key : ∀ b : Bool, (b = true ↔ syn r) → some b = some (decide (syn r)) := by
    intro b hb
    congr 1
    rw [Bool.eq_iff_iff, hb, decide_eq_true_eq]
  unfold runes_Syntax.f
  simp only [runes_Syntax.j0, runes_Syntax.j1]
  repeat' (refine ite_key (fun _ => ?_) (fun _ => ?_))
  all_goals (apply key; unfold syn; simp only [decide_eq_true_eq, beq_iff_eq, Bool.false_eq_true, true_iff, false_iff] at * <;> omega)
def name_ (s : ByteArray) : Nat → Nat → Bool
  | 0, _ => true
  | k + 1, pos => if pos < s.size then (if spaceB ((Utf8.decode s pos).1 : Int) = true then false else if decide (syn ((Utf8.decode s pos).1 : Int)) = true then false else if strayB s pos = true then false else name_ s k (pos + (Utf8.decode s pos).2)) else true
def ident (s : ByteArray) : Int := if s.size = 0 then 0 else if 64 < s.size then 0 else if 48 ≤ (s.get! 0).toNat ∧ (s.get! 0).toNat ≤ 57 then (if numB s = true then 2 else 0) else if name_ s (s.size + 1) 0 = true then 1 else 0
theorem name_end (s : ByteArray) (k pos : Nat) (h : ¬ pos < s.size) : name_ s k pos = true := by
  cases k with
  | zero => rfl
  | succ k => simp only [name_]; rw [if_neg h]
theorem ne_list (s : ByteArray) (h : 0 < s.size) : s.toList.isEmpty = false := by
  rw [ByteArray.toList_eq]
  have h2 : s.data.toList.length = s.size := Array.length_toList
  cases hl : s.data.toList with
  | nil => rw [hl] at h2; exact absurd h2 (by simp; omega)
  | cons a t => rfl
theorem name_at (s : ByteArray) (k pos : Nat) (h : pos < s.size) : name_ s (k + 1) pos = if spaceB ((Utf8.decode s pos).1 : Int) = true then false else if decide (syn ((Utf8.decode s pos).1 : Int)) = true then false else if strayB s pos = true then false else name_ s k (pos + (Utf8.decode s pos).2) := by
  simp only [name_]
  rw [if_pos h]
/-- What is asked of each rune, in one word for the walk. -/
def answer (x : Bool) : Int := if x = true then 1 else 0
set_option maxHeartbeats 4000000 in
set_option maxRecDepth 100000 in
/-- Behind the first byte, which is no digit: rune for rune. -/
theorem rest (s : ByteArray) (b : Int) (x y : Bool) (h0 : 0 < s.size) (h64 : s.size ≤ 64) (hb : ((s.get! 0).toNat : Int) = b) (hx : decide (b ≥ 48) = x) (hy : decide (b ≤ 57) = y) (hd : (x && y) = false) (w : World) (hT : Stray.Tabs w) :
    Calls Tryd.prog 17 #[.string s] w fun e w' => e = .returned (.int .i64 (answer (name_ s (s.size + 1) 0))) ∧ Below w.heap.size w w' := by
  have HS := Aside0.mk h64
  have HT := Aside0.mk hT
  have e0 : s.toList.isEmpty = false := ne_list s h0
  have e2 : decide (64 < (s.size : Int)) = false := decide_eq_false (by omega)
  have e3 : decide (64 < s.size) = false := decide_eq_false (by omega)
  have p2 : (0 < s.size) = True := eq_true h0
  have eb : s.get! 0 = s[0]'h0 := getElem!_pos s.data 0 h0
  have Eb : ((s[0]'h0).toNat : Int) = b := by rw [← hb, eb]
  have hx2 : decide (48 ≤ b) = x := hx
  clear hT h64 hb eb
  have main : ∀ (pc : Bool), pc = (x && y) → True := fun _ _ => trivial
  cases x with
  | true =>
    obtain rfl : y = false := by simpa using hd
    clear hd main
    go_enter Tryd.func17, Tryd.ntmps17
    go_wp2
    go_loopw [] (fun wr => ∃ (pos fuel : Nat), wr.heap[w.heap.size]? = some (.stringIter s pos) ∧ Aside0 (Below w.heap.size w wr) ∧ Aside0 (name_ s fuel pos = name_ s (s.size + 1) 0) ∧ Aside0 (s.size + 1 ≤ pos + fuel)) (fun wr => s.size - wr.iterPos w.heap.size)
    case atStart =>
      refine ⟨0, s.size + 1, ?_, ⟨(Below.refl _ w).alloc (Nat.le_refl _) _⟩, ⟨rfl⟩, ⟨by omega⟩⟩
      have := World.iter_heap w s 0
      simpa using this
    case round =>
      obtain ⟨pos, fuel, hit, HB, HF, HL⟩ := hrel
      have hsz : w.heap.size < wr.heap.size := (Array.getElem?_eq_some_iff.1 hit).1
      by_cases hp : pos < s.size
      · have hnx : ∀ ty, (Instr.next (.pointer (some ⟨w.heap.size, 0, none⟩)) true ty).run Tryd.prog wr = _ := fun ty => Lib.run_next_any_at wr w.heap.size s pos ty hit hp
        have hwd := width s pos hp
        have hit2 := Lib.iterAt_heap wr w.heap.size s pos (pos + (Utf8.decode s pos).2) hit
        have hbw2 := Lib.below_iterAt HB.out (k := w.heap.size) (by omega) s (pos + (Utf8.decode s pos).2)
        have hlt2 : w.heap.size < (wr.iterAt w.heap.size s (pos + (Utf8.decode s pos).2)).heap.size := by rw [Lib.iterAt_size]; exact hsz
        obtain ⟨k, rfl⟩ : ∃ k, fuel = k + 1 := ⟨fuel - 1, by have := HL.out; omega⟩
        have HF2 : Aside0 (name_ s (s.size + 1) 0 = if spaceB ((Utf8.decode s pos).1 : Int) = true then false else if decide (syn ((Utf8.decode s pos).1 : Int)) = true then false else if strayB s pos = true then false else name_ s k (pos + (Utf8.decode s pos).2)) := ⟨HF.out.symm.trans (name_at s k pos hp)⟩
        obtain ⟨b1, Hb1⟩ : ∃ b1 : Bool, spaceB ((Utf8.decode s pos).1 : Int) = b1 := ⟨_, rfl⟩
        obtain ⟨b2, Hb2⟩ : ∃ b2 : Bool, decide (syn ((Utf8.decode s pos).1 : Int)) = b2 := ⟨_, rfl⟩
        obtain ⟨b3, Hb3⟩ : ∃ b3 : Bool, strayB s pos = b3 := ⟨_, rfl⟩
        have c1 := Aside0.mk (space ((Utf8.decode s pos).1 : Int) (wr.iterAt w.heap.size s (pos + (Utf8.decode s pos).2)))
        have c2 := Aside0.mk (runes_Syntax.calls 2 ((Utf8.decode s pos).1 : Int) b2 (wr.iterAt w.heap.size s (pos + (Utf8.decode s pos).2)) (by rw [prog_syn, Hb2]))
        have c3 : Aside0 (∀ nd, Calls Tryd.prog 33 #[.string s, .int .i64 pos, .int .i32 (Utf8.decode s pos).1] ((wr.iterAt w.heap.size s (pos + (Utf8.decode s pos).2)).drewN nd) fun e w' => e = .returned (.bool b3) ∧ Below w.heap.size w w' ∧ w'.heap[w.heap.size]? = some (.stringIter s (pos + (Utf8.decode s pos).2))) := ⟨fun nd => by
          have hb := pw_below_drewN hbw2 nd
          rw [← Hb3]
          exact (stray s pos hp (by have := HS.out; omega) _ (HT.out.below hb)).mono fun e w' ⟨he, h⟩ => ⟨he, below_then hb hb.size h, (h.block _ hlt2).trans hit2⟩⟩
        have Hit := Aside0.mk hit
        have Hwd := Aside0.mk hwd
        have Hp := Aside0.mk hp
        clear hwd
        cases b1 with
        | true =>
          rw [Hb1] at c1
          go_wp2_with (first | (go_at_call 12; refine c1.out.mono ?_; rintro e W1 ⟨rfl, rfl⟩) | (go_at_call 14; refine c2.out.mono ?_; rintro e W1 ⟨rfl, ⟨nd, rfl⟩⟩) | (go_at_call 33; refine (c3.out nd).mono ?_; rintro e W1 ⟨rfl, b1_, hit3⟩))
          go_ret
          exact ⟨by rw [HF2.out, if_pos Hb1]; rfl, hbw2⟩
        | false =>
          rw [Hb1] at c1
          cases b2 with
          | true =>
            go_wp2_with (first | (go_at_call 12; refine c1.out.mono ?_; rintro e W1 ⟨rfl, rfl⟩) | (go_at_call 14; refine c2.out.mono ?_; rintro e W1 ⟨rfl, ⟨nd, rfl⟩⟩) | (go_at_call 33; refine (c3.out nd).mono ?_; rintro e W1 ⟨rfl, b1_, hit3⟩))
            go_ret
            exact ⟨by rw [HF2.out, if_neg (by rw [Hb1]; exact Bool.false_ne_true), if_pos Hb2]; rfl, pw_below_drewN hbw2 nd⟩
          | false =>
            cases b3 with
            | true =>
              go_wp2_with (first | (go_at_call 12; refine c1.out.mono ?_; rintro e W1 ⟨rfl, rfl⟩) | (go_at_call 14; refine c2.out.mono ?_; rintro e W1 ⟨rfl, ⟨nd, rfl⟩⟩) | (go_at_call 33; refine (c3.out nd).mono ?_; rintro e W1 ⟨rfl, b1_, hit3⟩))
              go_ret
              exact ⟨by rw [HF2.out, if_neg (by rw [Hb1]; exact Bool.false_ne_true), if_neg (by rw [Hb2]; exact Bool.false_ne_true), if_pos Hb3]; rfl, b1_⟩
            | false =>
              go_wp2_with (first | (go_at_call 12; refine c1.out.mono ?_; rintro e W1 ⟨rfl, rfl⟩) | (go_at_call 14; refine c2.out.mono ?_; rintro e W1 ⟨rfl, ⟨nd, rfl⟩⟩) | (go_at_call 33; refine (c3.out nd).mono ?_; rintro e W1 ⟨rfl, b1_, hit3⟩))
              go_roundw
              case rel => exact ⟨_, k, hit3, ⟨b1_⟩, ⟨by rw [HF2.out, if_neg (by rw [Hb1]; exact Bool.false_ne_true), if_neg (by rw [Hb2]; exact Bool.false_ne_true), if_neg (by rw [Hb3]; exact Bool.false_ne_true)]⟩, ⟨by have := HL.out; have := Hwd.out; omega⟩⟩
              case measure => simp only [World.iterPos, hit3, hit]; have := Hwd.out; have := Hp.out; omega
      · have hnx : ∀ ty, (Instr.next (.pointer (some ⟨w.heap.size, 0, none⟩)) true ty).run Tryd.prog wr = _ := fun ty => Lib.run_next_end_at wr w.heap.size s pos ty hit hp
        have hr : Aside0 (name_ s (s.size + 1) 0 = true) := ⟨HF.out.symm.trans (name_end s fuel pos hp)⟩
        go_wp2
        go_ret
        exact ⟨by rw [hr.out]; rfl, HB.out⟩
  | false =>
    clear hd main hy
    go_enter Tryd.func17, Tryd.ntmps17
    go_wp2
    go_loopw [] (fun wr => ∃ (pos fuel : Nat), wr.heap[w.heap.size]? = some (.stringIter s pos) ∧ Aside0 (Below w.heap.size w wr) ∧ Aside0 (name_ s fuel pos = name_ s (s.size + 1) 0) ∧ Aside0 (s.size + 1 ≤ pos + fuel)) (fun wr => s.size - wr.iterPos w.heap.size)
    case atStart =>
      refine ⟨0, s.size + 1, ?_, ⟨(Below.refl _ w).alloc (Nat.le_refl _) _⟩, ⟨rfl⟩, ⟨by omega⟩⟩
      have := World.iter_heap w s 0
      simpa using this
    case round =>
      obtain ⟨pos, fuel, hit, HB, HF, HL⟩ := hrel
      have hsz : w.heap.size < wr.heap.size := (Array.getElem?_eq_some_iff.1 hit).1
      by_cases hp : pos < s.size
      · have hnx : ∀ ty, (Instr.next (.pointer (some ⟨w.heap.size, 0, none⟩)) true ty).run Tryd.prog wr = _ := fun ty => Lib.run_next_any_at wr w.heap.size s pos ty hit hp
        have hwd := width s pos hp
        have hit2 := Lib.iterAt_heap wr w.heap.size s pos (pos + (Utf8.decode s pos).2) hit
        have hbw2 := Lib.below_iterAt HB.out (k := w.heap.size) (by omega) s (pos + (Utf8.decode s pos).2)
        have hlt2 : w.heap.size < (wr.iterAt w.heap.size s (pos + (Utf8.decode s pos).2)).heap.size := by rw [Lib.iterAt_size]; exact hsz
        obtain ⟨k, rfl⟩ : ∃ k, fuel = k + 1 := ⟨fuel - 1, by have := HL.out; omega⟩
        have HF2 : Aside0 (name_ s (s.size + 1) 0 = if spaceB ((Utf8.decode s pos).1 : Int) = true then false else if decide (syn ((Utf8.decode s pos).1 : Int)) = true then false else if strayB s pos = true then false else name_ s k (pos + (Utf8.decode s pos).2)) := ⟨HF.out.symm.trans (name_at s k pos hp)⟩
        obtain ⟨b1, Hb1⟩ : ∃ b1 : Bool, spaceB ((Utf8.decode s pos).1 : Int) = b1 := ⟨_, rfl⟩
        obtain ⟨b2, Hb2⟩ : ∃ b2 : Bool, decide (syn ((Utf8.decode s pos).1 : Int)) = b2 := ⟨_, rfl⟩
        obtain ⟨b3, Hb3⟩ : ∃ b3 : Bool, strayB s pos = b3 := ⟨_, rfl⟩
        have c1 := Aside0.mk (space ((Utf8.decode s pos).1 : Int) (wr.iterAt w.heap.size s (pos + (Utf8.decode s pos).2)))
        have c2 := Aside0.mk (runes_Syntax.calls 2 ((Utf8.decode s pos).1 : Int) b2 (wr.iterAt w.heap.size s (pos + (Utf8.decode s pos).2)) (by rw [prog_syn, Hb2]))
        have c3 : Aside0 (∀ nd, Calls Tryd.prog 33 #[.string s, .int .i64 pos, .int .i32 (Utf8.decode s pos).1] ((wr.iterAt w.heap.size s (pos + (Utf8.decode s pos).2)).drewN nd) fun e w' => e = .returned (.bool b3) ∧ Below w.heap.size w w' ∧ w'.heap[w.heap.size]? = some (.stringIter s (pos + (Utf8.decode s pos).2))) := ⟨fun nd => by
          have hb := pw_below_drewN hbw2 nd
          rw [← Hb3]
          exact (stray s pos hp (by have := HS.out; omega) _ (HT.out.below hb)).mono fun e w' ⟨he, h⟩ => ⟨he, below_then hb hb.size h, (h.block _ hlt2).trans hit2⟩⟩
        have Hit := Aside0.mk hit
        have Hwd := Aside0.mk hwd
        have Hp := Aside0.mk hp
        clear hwd
        cases b1 with
        | true =>
          rw [Hb1] at c1
          go_wp2_with (first | (go_at_call 12; refine c1.out.mono ?_; rintro e W1 ⟨rfl, rfl⟩) | (go_at_call 14; refine c2.out.mono ?_; rintro e W1 ⟨rfl, ⟨nd, rfl⟩⟩) | (go_at_call 33; refine (c3.out nd).mono ?_; rintro e W1 ⟨rfl, b1_, hit3⟩))
          go_ret
          exact ⟨by rw [HF2.out, if_pos Hb1]; rfl, hbw2⟩
        | false =>
          rw [Hb1] at c1
          cases b2 with
          | true =>
            go_wp2_with (first | (go_at_call 12; refine c1.out.mono ?_; rintro e W1 ⟨rfl, rfl⟩) | (go_at_call 14; refine c2.out.mono ?_; rintro e W1 ⟨rfl, ⟨nd, rfl⟩⟩) | (go_at_call 33; refine (c3.out nd).mono ?_; rintro e W1 ⟨rfl, b1_, hit3⟩))
            go_ret
            exact ⟨by rw [HF2.out, if_neg (by rw [Hb1]; exact Bool.false_ne_true), if_pos Hb2]; rfl, pw_below_drewN hbw2 nd⟩
          | false =>
            cases b3 with
            | true =>
              go_wp2_with (first | (go_at_call 12; refine c1.out.mono ?_; rintro e W1 ⟨rfl, rfl⟩) | (go_at_call 14; refine c2.out.mono ?_; rintro e W1 ⟨rfl, ⟨nd, rfl⟩⟩) | (go_at_call 33; refine (c3.out nd).mono ?_; rintro e W1 ⟨rfl, b1_, hit3⟩))
              go_ret
              exact ⟨by rw [HF2.out, if_neg (by rw [Hb1]; exact Bool.false_ne_true), if_neg (by rw [Hb2]; exact Bool.false_ne_true), if_pos Hb3]; rfl, b1_⟩
            | false =>
              go_wp2_with (first | (go_at_call 12; refine c1.out.mono ?_; rintro e W1 ⟨rfl, rfl⟩) | (go_at_call 14; refine c2.out.mono ?_; rintro e W1 ⟨rfl, ⟨nd, rfl⟩⟩) | (go_at_call 33; refine (c3.out nd).mono ?_; rintro e W1 ⟨rfl, b1_, hit3⟩))
              go_roundw
              case rel => exact ⟨_, k, hit3, ⟨b1_⟩, ⟨by rw [HF2.out, if_neg (by rw [Hb1]; exact Bool.false_ne_true), if_neg (by rw [Hb2]; exact Bool.false_ne_true), if_neg (by rw [Hb3]; exact Bool.false_ne_true)]⟩, ⟨by have := HL.out; have := Hwd.out; omega⟩⟩
              case measure => simp only [World.iterPos, hit3, hit]; have := Hwd.out; have := Hp.out; omega
      · have hnx : ∀ ty, (Instr.next (.pointer (some ⟨w.heap.size, 0, none⟩)) true ty).run Tryd.prog wr = _ := fun ty => Lib.run_next_end_at wr w.heap.size s pos ty hit hp
        have hr : Aside0 (name_ s (s.size + 1) 0 = true) := ⟨HF.out.symm.trans (name_end s fuel pos hp)⟩
        go_wp2
        go_ret
        exact ⟨by rw [hr.out]; rfl, HB.out⟩
set_option maxHeartbeats 4000000 in
set_option maxRecDepth 100000 in
theorem digit (s : ByteArray) (b : Int) (h0 : 0 < s.size) (h64 : s.size ≤ 64) (hb : ((s.get! 0).toNat : Int) = b) (hx : 48 ≤ b) (hy : b ≤ 57) (w : World) (hT : Num.Tabs w) :
    Calls Tryd.prog 17 #[.string s] w fun e w' => e = .returned (.int .i64 (if numB s = true then 2 else 0)) ∧ Below w.heap.size w w' := by
  have e0 : s.toList.isEmpty = false := ne_list s h0
  have e2 : decide (64 < (s.size : Int)) = false := decide_eq_false (by omega)
  have e3 : decide (64 < s.size) = false := decide_eq_false (by omega)
  have p2 : (0 < s.size) = True := eq_true h0
  have eb : s.get! 0 = s[0]'h0 := getElem!_pos s.data 0 h0
  have Eb : ((s[0]'h0).toNat : Int) = b := by rw [← hb, eb]
  have x1 : decide (b ≥ 48) = true := decide_eq_true hx
  have x2 : decide (48 ≤ b) = true := decide_eq_true hx
  have x3 : decide (b ≤ 57) = true := decide_eq_true hy
  have c := Aside0.mk (numeral s h64 w hT)
  generalize (if numB s = true then (2 : Int) else 0) = v at *
  clear hT h64 hb eb hx hy
  go_enter Tryd.func17, Tryd.ntmps17
  go_wp2_with (go_at_call 32; refine c.out.mono ?_; rintro e W1 ⟨rfl, b1⟩)
  go_ret
  exact ⟨rfl, b1⟩
set_option maxHeartbeats 4000000 in
set_option maxRecDepth 100000 in
theorem none_ (s : ByteArray) (h : s.size = 0 ∨ 64 < s.size) (w : World) :
    Calls Tryd.prog 17 #[.string s] w fun e w' => e = .returned (.int .i64 0) ∧ Below w.heap.size w w' := by
  rcases h with h | h
  · obtain rfl : s = ⟨#[]⟩ := by
      apply ByteArray.ext
      exact Array.eq_empty_of_size_eq_zero h
    clear h
    go_enter Tryd.func17, Tryd.ntmps17
    go_wp2
    go_ret
    exact ⟨rfl, Below.refl _ _⟩
  · have e0 : s.toList.isEmpty = false := ne_list s (by omega)
    have e2 : decide (64 < (s.size : Int)) = true := decide_eq_true (by omega)
    have e3 : decide (64 < s.size) = true := decide_eq_true (by omega)
    clear h
    go_enter Tryd.func17, Tryd.ntmps17
    go_wp2
    go_ret
    exact ⟨rfl, Below.refl _ _⟩
theorem identCalls (s : ByteArray) (hs : s.size ≤ 140737488351232) (w : World) (hT : Num.Tabs w) : Calls Tryd.prog 17 #[.string s] w fun e w' => e = .returned (.int .i64 (ident s)) ∧ Below w.heap.size w w' := by
  unfold ident
  by_cases h0 : s.size = 0
  · rw [if_pos h0]
    exact none_ s (.inl h0) w
  rw [if_neg h0]
  by_cases h1 : 64 < s.size
  · rw [if_pos h1]
    exact none_ s (.inr h1) w
  rw [if_neg h1]
  by_cases h2 : 48 ≤ (s.get! 0).toNat ∧ (s.get! 0).toNat ≤ 57
  · rw [if_pos h2]
    exact digit s _ (by omega) (by omega) rfl (by omega) (by omega) w hT
  · rw [if_neg h2]
    refine rest s _ _ _ (by omega) (by omega) rfl rfl rfl ?_ w hT.1
    by_cases c : 48 ≤ (s.get! 0).toNat
    · rw [decide_eq_false (show ¬ (((s.get! 0).toNat : Int) ≤ 57) by omega), Bool.and_false]
    · rw [decide_eq_false (show ¬ (((s.get! 0).toNat : Int) ≥ 48) by omega), Bool.false_and]
end Go.Proofs.YtigikjihagmokaaDoor.IdentW
namespace Go.Proofs.YtigikjihagmokaaDoor.S
open Go.RowKit Go.Proofs.YtigikjihagmokaaDoorW.PrintWords Go.Proofs.YtigikjihagmokaaDoorW.PrintLast Go.Proofs.YtigikjihagmokaaDoorW.PrintMore
attribute [local go_sem] max2_int min2_int max_two min_two max_three min_three max_four min_four   -- for this text's walks alone
set_option linter.unusedVariables false
set_option linter.unusedSimpArgs false

def runes_Ident.f (a0 : ByteArray) : Option (Int) := if a0.size ≤ 140737488351232 then some (IdentW.ident a0) else none
theorem runes_Ident.calls (a0 : ByteArray) (r : Int) (w : World) (h : runes_Ident.f a0 = some r) (hG_ : Num.Tabs w) :
 Calls Tryd.prog 17 #[.string a0] w fun e w' => e = .returned (.int .i64 r) ∧ Below w.heap.size w w' := by
 unfold runes_Ident.f at h
 split at h
 · rename_i hs
   obtain rfl := Option.some.inj h
   exact IdentW.identCalls a0 hs w hG_
 · cases h

def runes_Fill.f (a0 : ByteArray) (l1 : List ByteArray) : Option (ByteArray × Int) := some (Fill.f a0 l1)
theorem runes_Fill.calls (a0 : ByteArray) (A1 : Option Addr) (c1 : Nat) (l1 : List ByteArray) (r1 : ByteArray) (r2 : Int) (w : World) (hr1 : Kd.C Kd.string w A1 l1.length l1) (hc1 : l1.length ≤ c1) (h : runes_Fill.f a0 l1 = some (r1, r2)) :
 Calls Tryd.prog 19 #[.string a0, .slice A1 l1.length c1] w fun e w' => e = .returned (.tuple #[.string r1, .int .i64 r2]) ∧ Below w.heap.size w w' := by
 have e : Fill.f a0 l1 = (r1, r2) := Option.some.inj h
 have c := Fill.calls a0 A1 c1 l1 w hr1 hc1
 rw [e] at c
 exact c

end Go.Proofs.YtigikjihagmokaaDoor.S
namespace Go.Proofs.YtigikjihagmokaaDoor.S
open Go.RowKit Go.Proofs.YtigikjihagmokaaDoorW.PrintWords Go.Proofs.YtigikjihagmokaaDoorW.PrintLast Go.Proofs.YtigikjihagmokaaDoorW.PrintMore Go.Proofs.YtigikjihagmokaaDoor.Q
attribute [local go_sem] max2_int min2_int max_two min_two max_three min_three max_four min_four   -- for this text's walks alone
set_option linter.unusedVariables false
set_option linter.unusedSimpArgs false

def idiomlaw01_awake.f  : Option (Bool) := (runes_Fill.f (⟨#[123, 49, 125, 45, 123, 48, 125]⟩ : ByteArray) (([(⟨#[97]⟩ : ByteArray), (⟨#[98]⟩ : ByteArray)] : List ByteArray))).bind fun bt104 => (if bt104.1.toList = ([98, 45, 97] : List UInt8) then (if bt104.2 = 0 then ((runes_Ident.f (⟨#[110]⟩ : ByteArray)).bind fun t106 => (some (t106 == 1))) else (some false)) else (some false))
set_option maxHeartbeats 8000000 in
set_option maxRecDepth 100000 in
theorem idiomlaw01_awake.calls  (r : Bool) (w : World) (h : idiomlaw01_awake.f  = some r) (hG_ : Num.Tabs w) :
 Calls Tryd.prog 16 #[] w fun e w' => e = .returned (.bool r) ∧ Below w.heap.size w w' := by
 have HG := Aside0.mk hG_
 clear hG_
 have HB := Aside0.mk (Below.refl w.heap.size w)
 have H : ((runes_Fill.f (⟨#[123, 49, 125, 45, 123, 48, 125]⟩ : ByteArray) (([(⟨#[97]⟩ : ByteArray), (⟨#[98]⟩ : ByteArray)] : List ByteArray))).bind fun bt104 => (if bt104.1.toList = ([98, 45, 97] : List UInt8) then (if bt104.2 = 0 then ((runes_Ident.f (⟨#[110]⟩ : ByteArray)).bind fun t106 => (some (t106 == 1))) else (some false)) else (some false))) = some r := h
 clear h
 obtain ⟨y101, hy101⟩ : ∃ y_ : List ByteArray, y_ = (([(⟨#[97]⟩ : ByteArray), (⟨#[98]⟩ : ByteArray)] : List ByteArray)) := ⟨_, rfl⟩
 replace H : ((runes_Fill.f (⟨#[123, 49, 125, 45, 123, 48, 125]⟩ : ByteArray) y101).bind fun bt104 => (if bt104.1.toList = ([98, 45, 97] : List UInt8) then (if bt104.2 = 0 then ((runes_Ident.f (⟨#[110]⟩ : ByteArray)).bind fun t106 => (some (t106 == 1))) else (some false)) else (some false))) = some r := by first | (rw [hy101]; with_reducible exact H) | (have H2_ := (Option.bind_some _ _).symm.trans H; rw [hy101]; with_reducible exact H2_) | (have H2_ := (Option.bind_some _ _).symm.trans H; with_reducible exact H2_) | with_reducible exact H | (rw [hy101]; exact H) | exact H
 have Ny101 := Aside0.mk hy101
 clear hy101
 replace H := Option.bind_eq_some_iff.mp H
 obtain ⟨⟨t104, t105⟩, A10, H⟩ := H
 replace H : (if t104.toList = ([98, 45, 97] : List UInt8) then (if t105 = 0 then ((runes_Ident.f (⟨#[110]⟩ : ByteArray)).bind fun t106 => (some (t106 == 1))) else (some false)) else (some false)) = some r := H
 have A1 := Aside0.mk A10
 clear A10
 by_cases c2 : t104.toList = ([98, 45, 97] : List UInt8)
 · rw [if_pos c2] at H
   have c2b0 : (t104.toList == ([98, 45, 97] : List UInt8)) = true := beq_iff_eq.mpr c2
   have c2b1 : (t104.toList != ([98, 45, 97] : List UInt8)) = false := bne_eq_false_iff_eq.mpr c2
   clear c2
   by_cases c3 : t105 = 0
   · rw [if_pos c3] at H
     have c3b0 : (t105 == 0) = true := beq_iff_eq.mpr c3
     have c3b1 : (t105 != 0) = false := bne_eq_false_iff_eq.mpr c3
     try have c3b1z := c3b1
     (try simp only [bne] at c3b1z)
     clear c3
     replace H := Option.bind_eq_some_iff.mp H
     obtain ⟨t106, A40, H⟩ := H
     replace H : (some (t106 == 1)) = some r := H
     have A4 := Aside0.mk A40
     clear A40
     obtain rfl := Option.some.inj H
     go_enter Tryd.func16, Tryd.ntmps16
     go_wp2_with (first | ((with_reducible refine gate_dst (N := 4) rfl ?_); refine Kd.R_lit Kd.string _ 9 ?hg (N := 4) ?hd (xs := ([(⟨#[97]⟩ : ByteArray), (⟨#[98]⟩ : ByteArray)] : List ByteArray)) (inner := [.string (⟨#[97]⟩ : ByteArray), .string (⟨#[98]⟩ : ByteArray)]) (ok := fun _ => True) (okp := fun _ => True) ?hr ?hp (fun _ hk => hk) trivial (Below.refl _ _) (Nat.le_refl _) (by simp) ?_; (case hd => rfl); (case hg => rfl); (case hr => first | (go_simp; done) | (go_simp; rfl)); (case hp => exact (Reps.one (show Kd.M Kd.string _ _ _ (⟨#[97]⟩ : ByteArray) [.string (⟨#[97]⟩ : ByteArray)] from rfl) (Reps.one (show Kd.M Kd.string _ _ _ (⟨#[98]⟩ : ByteArray) [.string (⟨#[98]⟩ : ByteArray)] from rfl) (Reps.none _ _)))); intro v102 w5 ho6 hb hg_ hnew_; clear hg_ hnew_; (first | rw [← Ny101.out] at ho6 | (simp only [Int.reduceToNat] at ho6; rw [← Ny101.out] at ho6)); have HO103 := Aside0.mk (Kd.R_lower ho6 (below_size (qh HB))); replace HB := qn HB hb; clear hb ho6; obtain ⟨Ao7, co7, eo7⟩ := Kd.R_slice HO103.out; subst eo7) | ((with_reducible refine gate_callee (f := 19) rfl ?_); refine goesL_ (some 5) rfl rfl Tryd.func19 (by kernel_rfl) rfl #[.string (⟨#[123, 49, 125, 45, 123, 48, 125]⟩ : ByteArray), .slice Ao7 y101.length co7] rfl ql ?_; (with_reducible refine (runes_Fill.calls (⟨#[123, 49, 125, 45, 123, 48, 125]⟩ : ByteArray) _ _ y101 t104 t105 _ ?side1 ?side2 A1.out).mono ?_); (case side1 => repeat (first | exact (Kd.R_reads' HO103.out).2.2 | (with_reducible refine Kd.C_alloc ?_ _) | (with_reducible refine Kd.C_drewN ?_ _) | (with_reducible refine Kd.C_drew ?_))); (case side2 => exact (Kd.R_reads' HO103.out).2.1); rintro e w8 ⟨rfl, hb⟩; refine ⟨_, rfl, ?_⟩; replace HO103 := Aside0.mk (Kd.R_below (by (with_reducible repeat (first | apply Kd.R_alloc | apply Kd.R_drewN | apply Kd.R_drew)); exact HO103.out) hb); replace HB := qn HB hb; (try clear hb); (try clear hb2); (try clear hk); (try clear hi)) | (go_at_call 17; (with_reducible refine (runes_Ident.calls (⟨#[110]⟩ : ByteArray) t106 _ A4.out (by first | exact HG.out | exact HG.out.below HB.out | exact HG.out.below (pw_below_drewN HB.out _) | exact HG.out.below (below_drew HB.out) | exact HG.out.below (by assumption))).mono ?_); rintro e w9 ⟨rfl, hb⟩; replace HO103 := Aside0.mk (Kd.R_below (by (with_reducible repeat (first | apply Kd.R_alloc | apply Kd.R_drewN | apply Kd.R_drew)); exact HO103.out) hb); replace HB := qn HB hb; (try clear hb); (try clear hb2); (try clear hk); (try clear hi)))
     go_ret
     exact ⟨qe, qh HB⟩
   · rw [if_neg c3] at H
     have c3b0 : (t105 == 0) = false := beq_eq_false_iff_ne.mpr c3
     have c3b1 : (t105 != 0) = true := bne_iff_ne.mpr c3
     try have c3b1z := c3b1
     (try simp only [bne] at c3b1z)
     obtain rfl := Option.some.inj H
     go_enter Tryd.func16, Tryd.ntmps16
     go_wp2_with (first | ((with_reducible refine gate_dst (N := 4) rfl ?_); refine Kd.R_lit Kd.string _ 9 ?hg (N := 4) ?hd (xs := ([(⟨#[97]⟩ : ByteArray), (⟨#[98]⟩ : ByteArray)] : List ByteArray)) (inner := [.string (⟨#[97]⟩ : ByteArray), .string (⟨#[98]⟩ : ByteArray)]) (ok := fun _ => True) (okp := fun _ => True) ?hr ?hp (fun _ hk => hk) trivial (Below.refl _ _) (Nat.le_refl _) (by simp) ?_; (case hd => rfl); (case hg => rfl); (case hr => first | (go_simp; done) | (go_simp; rfl)); (case hp => exact (Reps.one (show Kd.M Kd.string _ _ _ (⟨#[97]⟩ : ByteArray) [.string (⟨#[97]⟩ : ByteArray)] from rfl) (Reps.one (show Kd.M Kd.string _ _ _ (⟨#[98]⟩ : ByteArray) [.string (⟨#[98]⟩ : ByteArray)] from rfl) (Reps.none _ _)))); intro v102 w10 ho11 hb hg_ hnew_; clear hg_ hnew_; (first | rw [← Ny101.out] at ho11 | (simp only [Int.reduceToNat] at ho11; rw [← Ny101.out] at ho11)); have HO103 := Aside0.mk (Kd.R_lower ho11 (below_size (qh HB))); replace HB := qn HB hb; clear hb ho11; obtain ⟨Ao12, co12, eo12⟩ := Kd.R_slice HO103.out; subst eo12) | ((with_reducible refine gate_callee (f := 19) rfl ?_); refine goesL_ (some 5) rfl rfl Tryd.func19 (by kernel_rfl) rfl #[.string (⟨#[123, 49, 125, 45, 123, 48, 125]⟩ : ByteArray), .slice Ao12 y101.length co12] rfl ql ?_; (with_reducible refine (runes_Fill.calls (⟨#[123, 49, 125, 45, 123, 48, 125]⟩ : ByteArray) _ _ y101 t104 t105 _ ?side1 ?side2 A1.out).mono ?_); (case side1 => repeat (first | exact (Kd.R_reads' HO103.out).2.2 | (with_reducible refine Kd.C_alloc ?_ _) | (with_reducible refine Kd.C_drewN ?_ _) | (with_reducible refine Kd.C_drew ?_))); (case side2 => exact (Kd.R_reads' HO103.out).2.1); rintro e w13 ⟨rfl, hb⟩; refine ⟨_, rfl, ?_⟩; replace HO103 := Aside0.mk (Kd.R_below (by (with_reducible repeat (first | apply Kd.R_alloc | apply Kd.R_drewN | apply Kd.R_drew)); exact HO103.out) hb); replace HB := qn HB hb; (try clear hb); (try clear hb2); (try clear hk); (try clear hi)))
     go_ret
     exact ⟨qe, qh HB⟩
 · rw [if_neg c2] at H
   have c2b0 : (t104.toList == ([98, 45, 97] : List UInt8)) = false := beq_eq_false_iff_ne.mpr c2
   have c2b1 : (t104.toList != ([98, 45, 97] : List UInt8)) = true := bne_iff_ne.mpr c2
   obtain rfl := Option.some.inj H
   go_enter Tryd.func16, Tryd.ntmps16
   go_wp2_with (first | ((with_reducible refine gate_dst (N := 4) rfl ?_); refine Kd.R_lit Kd.string _ 9 ?hg (N := 4) ?hd (xs := ([(⟨#[97]⟩ : ByteArray), (⟨#[98]⟩ : ByteArray)] : List ByteArray)) (inner := [.string (⟨#[97]⟩ : ByteArray), .string (⟨#[98]⟩ : ByteArray)]) (ok := fun _ => True) (okp := fun _ => True) ?hr ?hp (fun _ hk => hk) trivial (Below.refl _ _) (Nat.le_refl _) (by simp) ?_; (case hd => rfl); (case hg => rfl); (case hr => first | (go_simp; done) | (go_simp; rfl)); (case hp => exact (Reps.one (show Kd.M Kd.string _ _ _ (⟨#[97]⟩ : ByteArray) [.string (⟨#[97]⟩ : ByteArray)] from rfl) (Reps.one (show Kd.M Kd.string _ _ _ (⟨#[98]⟩ : ByteArray) [.string (⟨#[98]⟩ : ByteArray)] from rfl) (Reps.none _ _)))); intro v102 w14 ho15 hb hg_ hnew_; clear hg_ hnew_; (first | rw [← Ny101.out] at ho15 | (simp only [Int.reduceToNat] at ho15; rw [← Ny101.out] at ho15)); have HO103 := Aside0.mk (Kd.R_lower ho15 (below_size (qh HB))); replace HB := qn HB hb; clear hb ho15; obtain ⟨Ao16, co16, eo16⟩ := Kd.R_slice HO103.out; subst eo16) | ((with_reducible refine gate_callee (f := 19) rfl ?_); refine goesL_ (some 5) rfl rfl Tryd.func19 (by kernel_rfl) rfl #[.string (⟨#[123, 49, 125, 45, 123, 48, 125]⟩ : ByteArray), .slice Ao16 y101.length co16] rfl ql ?_; (with_reducible refine (runes_Fill.calls (⟨#[123, 49, 125, 45, 123, 48, 125]⟩ : ByteArray) _ _ y101 t104 t105 _ ?side1 ?side2 A1.out).mono ?_); (case side1 => repeat (first | exact (Kd.R_reads' HO103.out).2.2 | (with_reducible refine Kd.C_alloc ?_ _) | (with_reducible refine Kd.C_drewN ?_ _) | (with_reducible refine Kd.C_drew ?_))); (case side2 => exact (Kd.R_reads' HO103.out).2.1); rintro e w17 ⟨rfl, hb⟩; refine ⟨_, rfl, ?_⟩; replace HO103 := Aside0.mk (Kd.R_below (by (with_reducible repeat (first | apply Kd.R_alloc | apply Kd.R_drewN | apply Kd.R_drew)); exact HO103.out) hb); replace HB := qn HB hb; (try clear hb); (try clear hb2); (try clear hk); (try clear hi)))
   go_ret
   exact ⟨qe, qh HB⟩

end Go.Proofs.YtigikjihagmokaaDoor.S
namespace Go.Proofs.YtigikjihagmokaaDoor.S
open Go.RowKit Go.Proofs.YtigikjihagmokaaDoorW.PrintWords Go.Proofs.YtigikjihagmokaaDoorW.PrintLast Go.Proofs.YtigikjihagmokaaDoorW.PrintMore
attribute [local go_sem] max2_int min2_int max_two min_two max_three min_three max_four min_four   -- for this text's walks alone
set_option linter.unusedVariables false
set_option linter.unusedSimpArgs false

def idiomref01_Space.f (a0 : Int) : Option (Bool) := if a0 ≥ 9 then (if a0 ≤ 13 then (some true) else (if a0 = 32 then (some true) else (if a0 = 133 then (some true) else (if a0 = 8206 then (some true) else (if a0 = 8207 then (some true) else (if a0 = 8232 then (some true) else (some (a0 == 8233)))))))) else (if a0 = 32 then (some true) else (if a0 = 133 then (some true) else (if a0 = 8206 then (some true) else (if a0 = 8207 then (some true) else (if a0 = 8232 then (some true) else (some (a0 == 8233)))))))
set_option maxHeartbeats 8000000 in
set_option maxRecDepth 100000 in
theorem idiomref01_Space.calls (a0 : Int) (r : Bool) (w : World) (h : idiomref01_Space.f a0 = some r) :
 Calls Tryd.prog 13 #[.int .i32 a0] w fun e w' => e = .returned (.bool r) ∧ Drawn0 w w' := by
 have H : (if a0 ≥ 9 then (if a0 ≤ 13 then (some true) else (if a0 = 32 then (some true) else (if a0 = 133 then (some true) else (if a0 = 8206 then (some true) else (if a0 = 8207 then (some true) else (if a0 = 8232 then (some true) else (some (a0 == 8233)))))))) else (if a0 = 32 then (some true) else (if a0 = 133 then (some true) else (if a0 = 8206 then (some true) else (if a0 = 8207 then (some true) else (if a0 = 8232 then (some true) else (some (a0 == 8233)))))))) = some r := h
 clear h
 by_cases c2 : a0 ≥ 9
 · rw [if_pos c2] at H
   have c2b0 : decide (9 ≤ a0) = true := decide_eq_true c2
   clear c2
   by_cases c3 : a0 ≤ 13
   · rw [if_pos c3] at H
     have c3b0 : decide (a0 ≤ 13) = true := decide_eq_true c3
     clear c3
     obtain rfl := Option.some.inj H
     go_enter Tryd.func13, Tryd.ntmps13
     go_wp2
     go_ret
     exact ⟨by first | rfl | (simp; done) | (simp [*]; done), by repeat (first | exact Drawn0.refl _ | apply Drawn0.step)⟩
   · rw [if_neg c3] at H
     have c3b0 : decide (a0 ≤ 13) = false := decide_eq_false c3
     clear c3
     by_cases c4 : a0 = 32
     · rw [if_pos c4] at H
       have c4b0 : (a0 == 32) = true := beq_iff_eq.mpr c4
       have c4b1 : (a0 != 32) = false := bne_eq_false_iff_eq.mpr c4
       try have c4b1z := c4b1
       (try simp only [bne] at c4b1z)
       clear c4
       obtain rfl := Option.some.inj H
       go_enter Tryd.func13, Tryd.ntmps13
       go_wp2
       go_ret
       exact ⟨by first | rfl | (simp; done) | (simp [*]; done), by repeat (first | exact Drawn0.refl _ | apply Drawn0.step)⟩
     · rw [if_neg c4] at H
       have c4b0 : (a0 == 32) = false := beq_eq_false_iff_ne.mpr c4
       have c4b1 : (a0 != 32) = true := bne_iff_ne.mpr c4
       try have c4b1z := c4b1
       (try simp only [bne] at c4b1z)
       by_cases c5 : a0 = 133
       · rw [if_pos c5] at H
         have c5b0 : (a0 == 133) = true := beq_iff_eq.mpr c5
         have c5b1 : (a0 != 133) = false := bne_eq_false_iff_eq.mpr c5
         try have c5b1z := c5b1
         (try simp only [bne] at c5b1z)
         clear c5
         obtain rfl := Option.some.inj H
         go_enter Tryd.func13, Tryd.ntmps13
         go_wp2
         go_ret
         exact ⟨by first | rfl | (simp; done) | (simp [*]; done), by repeat (first | exact Drawn0.refl _ | apply Drawn0.step)⟩
       · rw [if_neg c5] at H
         have c5b0 : (a0 == 133) = false := beq_eq_false_iff_ne.mpr c5
         have c5b1 : (a0 != 133) = true := bne_iff_ne.mpr c5
         try have c5b1z := c5b1
         (try simp only [bne] at c5b1z)
         by_cases c6 : a0 = 8206
         · rw [if_pos c6] at H
           have c6b0 : (a0 == 8206) = true := beq_iff_eq.mpr c6
           have c6b1 : (a0 != 8206) = false := bne_eq_false_iff_eq.mpr c6
           try have c6b1z := c6b1
           (try simp only [bne] at c6b1z)
           clear c6
           obtain rfl := Option.some.inj H
           go_enter Tryd.func13, Tryd.ntmps13
           go_wp2
           go_ret
           exact ⟨by first | rfl | (simp; done) | (simp [*]; done), by repeat (first | exact Drawn0.refl _ | apply Drawn0.step)⟩
         · rw [if_neg c6] at H
           have c6b0 : (a0 == 8206) = false := beq_eq_false_iff_ne.mpr c6
           have c6b1 : (a0 != 8206) = true := bne_iff_ne.mpr c6
           try have c6b1z := c6b1
           (try simp only [bne] at c6b1z)
           by_cases c7 : a0 = 8207
           · rw [if_pos c7] at H
             have c7b0 : (a0 == 8207) = true := beq_iff_eq.mpr c7
             have c7b1 : (a0 != 8207) = false := bne_eq_false_iff_eq.mpr c7
             try have c7b1z := c7b1
             (try simp only [bne] at c7b1z)
             clear c7
             obtain rfl := Option.some.inj H
             go_enter Tryd.func13, Tryd.ntmps13
             go_wp2
             go_ret
             exact ⟨by first | rfl | (simp; done) | (simp [*]; done), by repeat (first | exact Drawn0.refl _ | apply Drawn0.step)⟩
           · rw [if_neg c7] at H
             have c7b0 : (a0 == 8207) = false := beq_eq_false_iff_ne.mpr c7
             have c7b1 : (a0 != 8207) = true := bne_iff_ne.mpr c7
             try have c7b1z := c7b1
             (try simp only [bne] at c7b1z)
             by_cases c8 : a0 = 8232
             · rw [if_pos c8] at H
               have c8b0 : (a0 == 8232) = true := beq_iff_eq.mpr c8
               have c8b1 : (a0 != 8232) = false := bne_eq_false_iff_eq.mpr c8
               try have c8b1z := c8b1
               (try simp only [bne] at c8b1z)
               clear c8
               obtain rfl := Option.some.inj H
               go_enter Tryd.func13, Tryd.ntmps13
               go_wp2
               go_ret
               exact ⟨by first | rfl | (simp; done) | (simp [*]; done), by repeat (first | exact Drawn0.refl _ | apply Drawn0.step)⟩
             · rw [if_neg c8] at H
               have c8b0 : (a0 == 8232) = false := beq_eq_false_iff_ne.mpr c8
               have c8b1 : (a0 != 8232) = true := bne_iff_ne.mpr c8
               try have c8b1z := c8b1
               (try simp only [bne] at c8b1z)
               obtain rfl := Option.some.inj H
               go_enter Tryd.func13, Tryd.ntmps13
               go_wp2
               go_ret
               exact ⟨by first | rfl | (simp; done) | (simp [*]; done), by repeat (first | exact Drawn0.refl _ | apply Drawn0.step)⟩
 · rw [if_neg c2] at H
   have c2b0 : decide (9 ≤ a0) = false := decide_eq_false c2
   clear c2
   by_cases c9 : a0 = 32
   · rw [if_pos c9] at H
     have c9b0 : (a0 == 32) = true := beq_iff_eq.mpr c9
     have c9b1 : (a0 != 32) = false := bne_eq_false_iff_eq.mpr c9
     try have c9b1z := c9b1
     (try simp only [bne] at c9b1z)
     clear c9
     obtain rfl := Option.some.inj H
     go_enter Tryd.func13, Tryd.ntmps13
     go_wp2
     go_ret
     exact ⟨by first | rfl | (simp; done) | (simp [*]; done), by repeat (first | exact Drawn0.refl _ | apply Drawn0.step)⟩
   · rw [if_neg c9] at H
     have c9b0 : (a0 == 32) = false := beq_eq_false_iff_ne.mpr c9
     have c9b1 : (a0 != 32) = true := bne_iff_ne.mpr c9
     try have c9b1z := c9b1
     (try simp only [bne] at c9b1z)
     by_cases c10 : a0 = 133
     · rw [if_pos c10] at H
       have c10b0 : (a0 == 133) = true := beq_iff_eq.mpr c10
       have c10b1 : (a0 != 133) = false := bne_eq_false_iff_eq.mpr c10
       try have c10b1z := c10b1
       (try simp only [bne] at c10b1z)
       clear c10
       obtain rfl := Option.some.inj H
       go_enter Tryd.func13, Tryd.ntmps13
       go_wp2
       go_ret
       exact ⟨by first | rfl | (simp; done) | (simp [*]; done), by repeat (first | exact Drawn0.refl _ | apply Drawn0.step)⟩
     · rw [if_neg c10] at H
       have c10b0 : (a0 == 133) = false := beq_eq_false_iff_ne.mpr c10
       have c10b1 : (a0 != 133) = true := bne_iff_ne.mpr c10
       try have c10b1z := c10b1
       (try simp only [bne] at c10b1z)
       by_cases c11 : a0 = 8206
       · rw [if_pos c11] at H
         have c11b0 : (a0 == 8206) = true := beq_iff_eq.mpr c11
         have c11b1 : (a0 != 8206) = false := bne_eq_false_iff_eq.mpr c11
         try have c11b1z := c11b1
         (try simp only [bne] at c11b1z)
         clear c11
         obtain rfl := Option.some.inj H
         go_enter Tryd.func13, Tryd.ntmps13
         go_wp2
         go_ret
         exact ⟨by first | rfl | (simp; done) | (simp [*]; done), by repeat (first | exact Drawn0.refl _ | apply Drawn0.step)⟩
       · rw [if_neg c11] at H
         have c11b0 : (a0 == 8206) = false := beq_eq_false_iff_ne.mpr c11
         have c11b1 : (a0 != 8206) = true := bne_iff_ne.mpr c11
         try have c11b1z := c11b1
         (try simp only [bne] at c11b1z)
         by_cases c12 : a0 = 8207
         · rw [if_pos c12] at H
           have c12b0 : (a0 == 8207) = true := beq_iff_eq.mpr c12
           have c12b1 : (a0 != 8207) = false := bne_eq_false_iff_eq.mpr c12
           try have c12b1z := c12b1
           (try simp only [bne] at c12b1z)
           clear c12
           obtain rfl := Option.some.inj H
           go_enter Tryd.func13, Tryd.ntmps13
           go_wp2
           go_ret
           exact ⟨by first | rfl | (simp; done) | (simp [*]; done), by repeat (first | exact Drawn0.refl _ | apply Drawn0.step)⟩
         · rw [if_neg c12] at H
           have c12b0 : (a0 == 8207) = false := beq_eq_false_iff_ne.mpr c12
           have c12b1 : (a0 != 8207) = true := bne_iff_ne.mpr c12
           try have c12b1z := c12b1
           (try simp only [bne] at c12b1z)
           by_cases c13 : a0 = 8232
           · rw [if_pos c13] at H
             have c13b0 : (a0 == 8232) = true := beq_iff_eq.mpr c13
             have c13b1 : (a0 != 8232) = false := bne_eq_false_iff_eq.mpr c13
             try have c13b1z := c13b1
             (try simp only [bne] at c13b1z)
             clear c13
             obtain rfl := Option.some.inj H
             go_enter Tryd.func13, Tryd.ntmps13
             go_wp2
             go_ret
             exact ⟨by first | rfl | (simp; done) | (simp [*]; done), by repeat (first | exact Drawn0.refl _ | apply Drawn0.step)⟩
           · rw [if_neg c13] at H
             have c13b0 : (a0 == 8232) = false := beq_eq_false_iff_ne.mpr c13
             have c13b1 : (a0 != 8232) = true := bne_iff_ne.mpr c13
             try have c13b1z := c13b1
             (try simp only [bne] at c13b1z)
             obtain rfl := Option.some.inj H
             go_enter Tryd.func13, Tryd.ntmps13
             go_wp2
             go_ret
             exact ⟨by first | rfl | (simp; done) | (simp [*]; done), by repeat (first | exact Drawn0.refl _ | apply Drawn0.step)⟩

end Go.Proofs.YtigikjihagmokaaDoor.S
namespace Go.Proofs.YtigikjihagmokaaDoor.S
open Go.RowKit Go.Proofs.YtigikjihagmokaaDoorW.PrintWords Go.Proofs.YtigikjihagmokaaDoorW.PrintLast Go.Proofs.YtigikjihagmokaaDoorW.PrintMore Go.Proofs.YtigikjihagmokaaDoor.Q
attribute [local go_sem] max2_int min2_int max_two min_two max_three min_three max_four min_four   -- for this text's walks alone
set_option linter.unusedVariables false
set_option linter.unusedSimpArgs false

def idiomref01_in.l0 : Nat → Int → List Int → Int → Option (Bool)
 | 0, _, _, _ => none
 | k + 1, x0, x1, x5 => if (wrap64 (x5 + 1)) < (x1.length : Int) then (if 0 ≤ x5 then (if x5 < (x1.length : Int) then (if x0 ≥ (rd x1 x5) then (if 0 ≤ (wrap64 (x5 + 1)) then (if x0 ≤ (rd x1 (wrap64 (x5 + 1))) then (some true) else (idiomref01_in.l0 k x0 x1 (wrap64 (x5 + 2)))) else (none)) else (idiomref01_in.l0 k x0 x1 (wrap64 (x5 + 2)))) else (none)) else (none)) else (some false)
def idiomref01_in.f (k : Nat) (a0 : Int) (l1 : List Int) : Option (Bool) := idiomref01_in.l0 k a0 l1 0
theorem idiomref01_in.mono_l : ∀ k, (∀ y0 y1 y2, LeO (idiomref01_in.l0 k y0 y1 y2) (idiomref01_in.l0 (k + 1) y0 y1 y2))
 | 0 => fun _ _ _ r h => by simp [idiomref01_in.l0] at h
 | k + 1 => by
  have ih0 := idiomref01_in.mono_l k
  · intro y0 y1 y2
    unfold idiomref01_in.l0
    repeat' first
    | (with_reducible exact ih0 _ _ _)
    | (with_reducible exact LeO.refl _)
    | (with_reducible exact LeO.none _)
    | (with_reducible refine LeO.ite ?_ ?_)
    | (with_reducible refine LeO.bind ?_ (fun _ => ?_))
    | exact ih0 _ _ _
    | exact LeO.none _
    | refine LeO.ite ?_ ?_
    | refine LeO.bind ?_ (fun _ => ?_)
theorem idiomref01_in.mono : ∀ a0 a1 k, LeO (idiomref01_in.f k a0 a1) (idiomref01_in.f (k + 1) a0 a1) := by
 intro a0 a1 k
 have ih0 := idiomref01_in.mono_l k
 unfold idiomref01_in.f
 repeat' first
  | (with_reducible exact ih0 _ _ _)
  | (with_reducible exact LeO.refl _)
  | (with_reducible exact LeO.none _)
  | (with_reducible refine LeO.ite ?_ ?_)
  | (with_reducible refine LeO.bind ?_ (fun _ => ?_))
  | exact ih0 _ _ _
  | exact LeO.none _
  | refine LeO.ite ?_ ?_
  | refine LeO.bind ?_ (fun _ => ?_)
set_option maxHeartbeats 8000000 in
set_option maxRecDepth 100000 in
theorem idiomref01_in.calls (k : Nat) (a0 : Int) (A1 : Option Addr) (c1 : Nat) (l1 : List Int) (r : Bool) (w : World) (hr1 : Kd.C (Kd.int .i32) w A1 l1.length l1) (hc1 : l1.length ≤ c1) (h : idiomref01_in.f k a0 l1 = some r) :
 Calls Tryd.prog 31 #[.int .i32 a0, .slice A1 l1.length c1] w fun e w' => e = .returned (.bool r) ∧ Drawn0 w w' := by
 have HR1 := Aside0.mk hr1
 have HC1 := Aside0.mk hc1
 clear hr1 hc1
 have H : (idiomref01_in.l0 k a0 l1 0) = some r := h
 clear h
 have H' := Aside0.mk H
 clear H
 go_enter Tryd.func31, Tryd.ntmps31
 go_wp2
 (try simp only [Act.put, List.setIfInBounds_toArray, List.set_cons_zero, List.set_cons_succ])
 go_loopg [5] k (fun kq v5 w' => ∃ (x5_1 : Int), v5 = .int .i64 x5_1 ∧ Aside0 (idiomref01_in.l0 kq a0 l1 x5_1 = some r) ∧ Aside0 (kq ≤ k) ∧ Drawn0 w w')
 case atStart => exact ⟨(0), (by first | rfl | (simp; done) | (simp [*]; done)), H', ⟨Nat.le_refl _⟩, by repeat (first | exact Drawn0.refl _ | apply Drawn0.step)⟩
 case round =>
  clear H'
  try clear c1
  try clear p2
  obtain ⟨x5_1, rfl, HA, HK1, ⟨m1, rfl⟩⟩ := hrel
  cases gk with
  | zero => exact absurd HA.out (by simp [idiomref01_in.l0])
  | succ k1 =>
   have H := HA.out
   clear HA
   simp only [idiomref01_in.l0] at H
   by_cases c3 : (wrap64 (x5_1 + 1)) < (l1.length : Int)
   · rw [if_pos c3] at H
     have c3b0 : decide ((wrap64 (x5_1 + 1)) < (l1.length : Int)) = true := decide_eq_true c3
     clear c3
     by_cases c4 : 0 ≤ x5_1
     · rw [if_pos c4] at H
       have c4b0 : decide (0 ≤ x5_1) = true := decide_eq_true c4
       clear c4
       by_cases c5 : x5_1 < (l1.length : Int)
       · rw [if_pos c5] at H
         have c5b0 : decide (x5_1 < (l1.length : Int)) = true := decide_eq_true c5
         clear c5
         by_cases c6 : a0 ≥ (rd l1 x5_1)
         · rw [if_pos c6] at H
           have c6b0 : decide ((rd l1 x5_1) ≤ a0) = true := decide_eq_true c6
           clear c6
           obtain ⟨ji7, hji7⟩ : ∃ j_ : Int, (wrap64 (x5_1 + 1)) = j_ := ⟨_, rfl⟩
           replace H : (if 0 ≤ (ji7) then (if a0 ≤ (rd l1 (ji7)) then (some true) else (idiomref01_in.l0 k1 a0 l1 (wrap64 (x5_1 + 2)))) else (none)) = some r := by first | (rw [hji7] at H; exact H) | (simp only [hji7] at H ⊢; exact H)
           (try rw [hji7] at c3b0)
           have hji7w : (IntKind.i64.wrap (x5_1 + 1)) = ji7 := (i64_w _).trans hji7
           by_cases c8 : 0 ≤ (ji7)
           · rw [if_pos c8] at H
             have c8b0 : decide (0 ≤ (ji7)) = true := decide_eq_true c8
             clear c8
             by_cases c9 : a0 ≤ (rd l1 (ji7))
             · rw [if_pos c9] at H
               have c9b0 : decide (a0 ≤ (rd l1 (ji7))) = true := decide_eq_true c9
               clear c9
               obtain rfl := Option.some.inj H
               have p107 : 0 ≤ (x5_1 : Int) := of_decide_eq_true qa
               have q107 : x5_1 < (l1.length : Int) := of_decide_eq_true qa
               obtain ⟨ad107, e107, hx107_0⟩ := Kd.at_int HR1.out x5_1 p107 q107
               cases e107
               replace p107 := eq_true p107
               replace q107 := eq_true q107
               have p108 : 0 ≤ ((ji7) : Int) := of_decide_eq_true qa
               have q108 : (ji7) < (l1.length : Int) := of_decide_eq_true qa
               obtain ⟨ad108, e108, hx108_0⟩ := Kd.at_int HR1.out (ji7) p108 q108
               obtain rfl : ad107 = ad108 := (by injection e108)
               replace p108 := eq_true p108
               replace q108 := eq_true q108
               go_wp2
               go_ret
               exact ⟨by first | rfl | (simp; done) | (simp only [← hji7] <;> (first | rfl | simp)) | (simp [*]; done), by repeat (first | exact Drawn0.refl _ | apply Drawn0.step)⟩
             · rw [if_neg c9] at H
               have c9b0 : decide (a0 ≤ (rd l1 (ji7))) = false := decide_eq_false c9
               clear c9
               have H' := Aside0.mk H
               clear H
               have p107 : 0 ≤ (x5_1 : Int) := of_decide_eq_true qa
               have q107 : x5_1 < (l1.length : Int) := of_decide_eq_true qa
               obtain ⟨ad107, e107, hx107_0⟩ := Kd.at_int HR1.out x5_1 p107 q107
               cases e107
               replace p107 := eq_true p107
               replace q107 := eq_true q107
               have p108 : 0 ≤ ((ji7) : Int) := of_decide_eq_true qa
               have q108 : (ji7) < (l1.length : Int) := of_decide_eq_true qa
               obtain ⟨ad108, e108, hx108_0⟩ := Kd.at_int HR1.out (ji7) p108 q108
               obtain rfl : ad107 = ad108 := (by injection e108)
               replace p108 := eq_true p108
               replace q108 := eq_true q108
               go_wp2
               go_roundg k1
               case measure => have := HK1.out; omega
               case rel => exact ⟨(wrap64 (x5_1 + 2)), (by first | rfl | (simp; done) | (simp [*]; done)), H', ⟨by have := HK1.out; omega⟩, by repeat (first | exact Drawn0.refl _ | apply Drawn0.step)⟩
           · rw [if_neg c8] at H
             exact absurd H (by simp)
         · rw [if_neg c6] at H
           have c6b0 : decide ((rd l1 x5_1) ≤ a0) = false := decide_eq_false c6
           clear c6
           have H' := Aside0.mk H
           clear H
           have p107 : 0 ≤ (x5_1 : Int) := of_decide_eq_true qa
           have q107 : x5_1 < (l1.length : Int) := of_decide_eq_true qa
           obtain ⟨ad107, e107, hx107_0⟩ := Kd.at_int HR1.out x5_1 p107 q107
           cases e107
           replace p107 := eq_true p107
           replace q107 := eq_true q107
           go_wp2
           go_roundg k1
           case measure => have := HK1.out; omega
           case rel => exact ⟨(wrap64 (x5_1 + 2)), (by first | rfl | (simp; done) | (simp [*]; done)), H', ⟨by have := HK1.out; omega⟩, by repeat (first | exact Drawn0.refl _ | apply Drawn0.step)⟩
       · rw [if_neg c5] at H
         exact absurd H (by simp)
     · rw [if_neg c4] at H
       exact absurd H (by simp)
   · rw [if_neg c3] at H
     have c3b0 : decide ((wrap64 (x5_1 + 1)) < (l1.length : Int)) = false := decide_eq_false c3
     clear c3
     obtain rfl := Option.some.inj H
     go_wp2
     go_ret
     exact ⟨by first | rfl | (simp; done) | (simp [*]; done), by repeat (first | exact Drawn0.refl _ | apply Drawn0.step)⟩

end Go.Proofs.YtigikjihagmokaaDoor.S
namespace Go.Proofs.YtigikjihagmokaaDoor.S
open Go.RowKit Go.Proofs.YtigikjihagmokaaDoorW.PrintWords Go.Proofs.YtigikjihagmokaaDoorW.PrintLast Go.Proofs.YtigikjihagmokaaDoorW.PrintMore Go.Proofs.YtigikjihagmokaaDoor.Q
attribute [local go_sem] max2_int min2_int max_two min_two max_three min_three max_four min_four   -- for this text's walks alone
set_option linter.unusedVariables false
set_option linter.unusedSimpArgs false

def idiomref01_Syntax.f (k : Nat) (a0 : Int) : Option (Bool) := (idiomref01_in.f k a0 (([33, 47, 58, 64, 91, 94, 96, 96, 123, 126, 161, 167, 169, 169, 171, 172, 174, 174, 176, 177, 182, 182, 187, 187, 191, 191, 215, 215, 247, 247] : List Int))).bind fun t115 => (if t115 = true then (some true) else ((idiomref01_in.f k a0 (([8208, 8231, 8240, 8254, 8257, 8275, 8277, 8286, 8592, 11263, 11776, 11903, 12289, 12291, 12296, 12320, 12336, 12336, 64830, 64831, 65093, 65094] : List Int))).bind fun t116 => (some t116)))
theorem idiomref01_Syntax.mono : ∀ a0 k, LeO (idiomref01_Syntax.f k a0) (idiomref01_Syntax.f (k + 1) a0) := by
 intro a0 k
 unfold idiomref01_Syntax.f
 repeat' first
  | (with_reducible exact idiomref01_in.mono _ _ _)
  | (with_reducible exact LeO.refl _)
  | (with_reducible exact LeO.none _)
  | (with_reducible refine LeO.ite ?_ ?_)
  | (with_reducible refine LeO.bind ?_ (fun _ => ?_))
  | exact idiomref01_in.mono _ _ _
  | exact LeO.none _
  | refine LeO.ite ?_ ?_
  | refine LeO.bind ?_ (fun _ => ?_)
set_option maxHeartbeats 8000000 in
set_option maxRecDepth 100000 in
theorem idiomref01_Syntax.calls (k : Nat) (a0 : Int) (r : Bool) (w : World) (h : idiomref01_Syntax.f k a0 = some r) :
 Calls Tryd.prog 15 #[.int .i32 a0] w fun e w' => e = .returned (.bool r) ∧ Below w.heap.size w w' := by
 have HB := Aside0.mk (Below.refl w.heap.size w)
 have H : ((idiomref01_in.f k a0 (([33, 47, 58, 64, 91, 94, 96, 96, 123, 126, 161, 167, 169, 169, 171, 172, 174, 174, 176, 177, 182, 182, 187, 187, 191, 191, 215, 215, 247, 247] : List Int))).bind fun t115 => (if t115 = true then (some true) else ((idiomref01_in.f k a0 (([8208, 8231, 8240, 8254, 8257, 8275, 8277, 8286, 8592, 11263, 11776, 11903, 12289, 12291, 12296, 12320, 12336, 12336, 64830, 64831, 65093, 65094] : List Int))).bind fun t116 => (some t116)))) = some r := h
 clear h
 obtain ⟨y109, hy109⟩ : ∃ y_ : List Int, y_ = (([33, 47, 58, 64, 91, 94, 96, 96, 123, 126, 161, 167, 169, 169, 171, 172, 174, 174, 176, 177, 182, 182, 187, 187, 191, 191, 215, 215, 247, 247] : List Int)) := ⟨_, rfl⟩
 replace H : ((idiomref01_in.f k a0 y109).bind fun t115 => (if t115 = true then (some true) else ((idiomref01_in.f k a0 (([8208, 8231, 8240, 8254, 8257, 8275, 8277, 8286, 8592, 11263, 11776, 11903, 12289, 12291, 12296, 12320, 12336, 12336, 64830, 64831, 65093, 65094] : List Int))).bind fun t116 => (some t116)))) = some r := by first | (rw [hy109]; with_reducible exact H) | (have H2_ := (Option.bind_some _ _).symm.trans H; rw [hy109]; with_reducible exact H2_) | (have H2_ := (Option.bind_some _ _).symm.trans H; with_reducible exact H2_) | with_reducible exact H | (rw [hy109]; exact H) | exact H
 have Ny109 := Aside0.mk hy109
 clear hy109
 obtain ⟨y112, hy112⟩ : ∃ y_ : List Int, y_ = (([8208, 8231, 8240, 8254, 8257, 8275, 8277, 8286, 8592, 11263, 11776, 11903, 12289, 12291, 12296, 12320, 12336, 12336, 64830, 64831, 65093, 65094] : List Int)) := ⟨_, rfl⟩
 replace H : ((idiomref01_in.f k a0 y109).bind fun t115 => (if t115 = true then (some true) else ((idiomref01_in.f k a0 y112).bind fun t116 => (some t116)))) = some r := by first | (rw [hy112]; with_reducible exact H) | (have H2_ := (Option.bind_some _ _).symm.trans H; rw [hy112]; with_reducible exact H2_) | (have H2_ := (Option.bind_some _ _).symm.trans H; with_reducible exact H2_) | with_reducible exact H | (rw [hy112]; exact H) | exact H
 have Ny112 := Aside0.mk hy112
 clear hy112
 replace H := Option.bind_eq_some_iff.mp H
 obtain ⟨t115, A20, H⟩ := H
 replace H : (if t115 = true then (some true) else ((idiomref01_in.f k a0 y112).bind fun t116 => (some t116))) = some r := H
 have A2 := Aside0.mk A20
 clear A20
 by_cases c3 : t115 = true
 · subst c3
   have H1 : (some true) = some r := by rw [if_pos rfl] at H; exact H
   clear H
   have H := H1
   clear H1
   obtain rfl := Option.some.inj H
   go_enter Tryd.func15, Tryd.ntmps15
   go_wp2_with (first | ((with_reducible refine gate_dst (N := 5) rfl ?_); refine Kd.R_lit (Kd.int .i32) _ 21 ?hg (N := 5) ?hd (xs := ([33, 47, 58, 64, 91, 94, 96, 96, 123, 126, 161, 167, 169, 169, 171, 172, 174, 174, 176, 177, 182, 182, 187, 187, 191, 191, 215, 215, 247, 247] : List Int)) (inner := [.int .i32 33, .int .i32 47, .int .i32 58, .int .i32 64, .int .i32 91, .int .i32 94, .int .i32 96, .int .i32 96, .int .i32 123, .int .i32 126, .int .i32 161, .int .i32 167, .int .i32 169, .int .i32 169, .int .i32 171, .int .i32 172, .int .i32 174, .int .i32 174, .int .i32 176, .int .i32 177, .int .i32 182, .int .i32 182, .int .i32 187, .int .i32 187, .int .i32 191, .int .i32 191, .int .i32 215, .int .i32 215, .int .i32 247, .int .i32 247]) (ok := fun _ => True) (okp := fun _ => True) ?hr ?hp (fun _ hk => hk) trivial (Below.refl _ _) (Nat.le_refl _) (by simp) ?_; (case hd => rfl); (case hg => rfl); (case hr => first | (go_simp; done) | (go_simp; rfl)); (case hp => exact (Reps.one (show Kd.M (Kd.int .i32) _ _ _ 33 [.int .i32 33] from rfl) (Reps.one (show Kd.M (Kd.int .i32) _ _ _ 47 [.int .i32 47] from rfl) (Reps.one (show Kd.M (Kd.int .i32) _ _ _ 58 [.int .i32 58] from rfl) (Reps.one (show Kd.M (Kd.int .i32) _ _ _ 64 [.int .i32 64] from rfl) (Reps.one (show Kd.M (Kd.int .i32) _ _ _ 91 [.int .i32 91] from rfl) (Reps.one (show Kd.M (Kd.int .i32) _ _ _ 94 [.int .i32 94] from rfl) (Reps.one (show Kd.M (Kd.int .i32) _ _ _ 96 [.int .i32 96] from rfl) (Reps.one (show Kd.M (Kd.int .i32) _ _ _ 96 [.int .i32 96] from rfl) (Reps.one (show Kd.M (Kd.int .i32) _ _ _ 123 [.int .i32 123] from rfl) (Reps.one (show Kd.M (Kd.int .i32) _ _ _ 126 [.int .i32 126] from rfl) (Reps.one (show Kd.M (Kd.int .i32) _ _ _ 161 [.int .i32 161] from rfl) (Reps.one (show Kd.M (Kd.int .i32) _ _ _ 167 [.int .i32 167] from rfl) (Reps.one (show Kd.M (Kd.int .i32) _ _ _ 169 [.int .i32 169] from rfl) (Reps.one (show Kd.M (Kd.int .i32) _ _ _ 169 [.int .i32 169] from rfl) (Reps.one (show Kd.M (Kd.int .i32) _ _ _ 171 [.int .i32 171] from rfl) (Reps.one (show Kd.M (Kd.int .i32) _ _ _ 172 [.int .i32 172] from rfl) (Reps.one (show Kd.M (Kd.int .i32) _ _ _ 174 [.int .i32 174] from rfl) (Reps.one (show Kd.M (Kd.int .i32) _ _ _ 174 [.int .i32 174] from rfl) (Reps.one (show Kd.M (Kd.int .i32) _ _ _ 176 [.int .i32 176] from rfl) (Reps.one (show Kd.M (Kd.int .i32) _ _ _ 177 [.int .i32 177] from rfl) (Reps.one (show Kd.M (Kd.int .i32) _ _ _ 182 [.int .i32 182] from rfl) (Reps.one (show Kd.M (Kd.int .i32) _ _ _ 182 [.int .i32 182] from rfl) (Reps.one (show Kd.M (Kd.int .i32) _ _ _ 187 [.int .i32 187] from rfl) (Reps.one (show Kd.M (Kd.int .i32) _ _ _ 187 [.int .i32 187] from rfl) (Reps.one (show Kd.M (Kd.int .i32) _ _ _ 191 [.int .i32 191] from rfl) (Reps.one (show Kd.M (Kd.int .i32) _ _ _ 191 [.int .i32 191] from rfl) (Reps.one (show Kd.M (Kd.int .i32) _ _ _ 215 [.int .i32 215] from rfl) (Reps.one (show Kd.M (Kd.int .i32) _ _ _ 215 [.int .i32 215] from rfl) (Reps.one (show Kd.M (Kd.int .i32) _ _ _ 247 [.int .i32 247] from rfl) (Reps.one (show Kd.M (Kd.int .i32) _ _ _ 247 [.int .i32 247] from rfl) (Reps.none _ _)))))))))))))))))))))))))))))))); intro v110 w4 ho5 hb hg_ hnew_; clear hg_ hnew_; (first | rw [← Ny109.out] at ho5 | (simp only [Int.reduceToNat] at ho5; rw [← Ny109.out] at ho5)); have HO111 := Aside0.mk (Kd.R_lower ho5 (below_size (qh HB))); replace HB := qn HB hb; clear hb ho5) | ((with_reducible refine gate_dst (N := 6) rfl ?_); refine Kd.R_lit (Kd.int .i32) _ 21 ?hg (N := 6) ?hd (xs := ([8208, 8231, 8240, 8254, 8257, 8275, 8277, 8286, 8592, 11263, 11776, 11903, 12289, 12291, 12296, 12320, 12336, 12336, 64830, 64831, 65093, 65094] : List Int)) (inner := [.int .i32 8208, .int .i32 8231, .int .i32 8240, .int .i32 8254, .int .i32 8257, .int .i32 8275, .int .i32 8277, .int .i32 8286, .int .i32 8592, .int .i32 11263, .int .i32 11776, .int .i32 11903, .int .i32 12289, .int .i32 12291, .int .i32 12296, .int .i32 12320, .int .i32 12336, .int .i32 12336, .int .i32 64830, .int .i32 64831, .int .i32 65093, .int .i32 65094]) (ok := fun _ => True) (okp := fun _ => True) ?hr ?hp (fun _ hk => hk) trivial (Below.refl _ _) (Nat.le_refl _) (by simp) ?_; (case hd => rfl); (case hg => rfl); (case hr => first | (go_simp; done) | (go_simp; rfl)); (case hp => exact (Reps.one (show Kd.M (Kd.int .i32) _ _ _ 8208 [.int .i32 8208] from rfl) (Reps.one (show Kd.M (Kd.int .i32) _ _ _ 8231 [.int .i32 8231] from rfl) (Reps.one (show Kd.M (Kd.int .i32) _ _ _ 8240 [.int .i32 8240] from rfl) (Reps.one (show Kd.M (Kd.int .i32) _ _ _ 8254 [.int .i32 8254] from rfl) (Reps.one (show Kd.M (Kd.int .i32) _ _ _ 8257 [.int .i32 8257] from rfl) (Reps.one (show Kd.M (Kd.int .i32) _ _ _ 8275 [.int .i32 8275] from rfl) (Reps.one (show Kd.M (Kd.int .i32) _ _ _ 8277 [.int .i32 8277] from rfl) (Reps.one (show Kd.M (Kd.int .i32) _ _ _ 8286 [.int .i32 8286] from rfl) (Reps.one (show Kd.M (Kd.int .i32) _ _ _ 8592 [.int .i32 8592] from rfl) (Reps.one (show Kd.M (Kd.int .i32) _ _ _ 11263 [.int .i32 11263] from rfl) (Reps.one (show Kd.M (Kd.int .i32) _ _ _ 11776 [.int .i32 11776] from rfl) (Reps.one (show Kd.M (Kd.int .i32) _ _ _ 11903 [.int .i32 11903] from rfl) (Reps.one (show Kd.M (Kd.int .i32) _ _ _ 12289 [.int .i32 12289] from rfl) (Reps.one (show Kd.M (Kd.int .i32) _ _ _ 12291 [.int .i32 12291] from rfl) (Reps.one (show Kd.M (Kd.int .i32) _ _ _ 12296 [.int .i32 12296] from rfl) (Reps.one (show Kd.M (Kd.int .i32) _ _ _ 12320 [.int .i32 12320] from rfl) (Reps.one (show Kd.M (Kd.int .i32) _ _ _ 12336 [.int .i32 12336] from rfl) (Reps.one (show Kd.M (Kd.int .i32) _ _ _ 12336 [.int .i32 12336] from rfl) (Reps.one (show Kd.M (Kd.int .i32) _ _ _ 64830 [.int .i32 64830] from rfl) (Reps.one (show Kd.M (Kd.int .i32) _ _ _ 64831 [.int .i32 64831] from rfl) (Reps.one (show Kd.M (Kd.int .i32) _ _ _ 65093 [.int .i32 65093] from rfl) (Reps.one (show Kd.M (Kd.int .i32) _ _ _ 65094 [.int .i32 65094] from rfl) (Reps.none _ _)))))))))))))))))))))))); intro v113 w6 ho7 hb hg_ hnew_; clear hg_ hnew_; (first | rw [← Ny112.out] at ho7 | (simp only [Int.reduceToNat] at ho7; rw [← Ny112.out] at ho7)); have HO114 := Aside0.mk (Kd.R_lower (Kd.R_new' ho7 (Kd.R_lt (by (with_reducible repeat (first | apply Kd.R_alloc | apply Kd.R_drewN | apply Kd.R_drew)); exact HO111.out))) (below_size (qh HB))); replace HO111 := Aside0.mk (Kd.R_elder' (by (with_reducible repeat (first | apply Kd.R_alloc | apply Kd.R_drewN | apply Kd.R_drew)); exact HO111.out) (Kd.R_base ho7) hb); replace HB := qn HB hb; clear hb ho7; obtain ⟨Ao8, co8, eo8⟩ := Kd.R_slice HO111.out; subst eo8) | ((with_reducible refine gate_callee (f := 31) rfl ?_); refine goesL_ (some 9) rfl rfl Tryd.func31 (by kernel_rfl) rfl #[.int .i32 a0, .slice Ao8 y109.length co8] rfl ql ?_; (with_reducible refine (idiomref01_in.calls k a0 _ _ y109 true _ ?side1 ?side2 A2.out).mono ?_); (case side1 => repeat (first | exact (Kd.R_reads' HO111.out).2.2 | (with_reducible refine Kd.C_alloc ?_ _) | (with_reducible refine Kd.C_drewN ?_ _) | (with_reducible refine Kd.C_drew ?_))); (case side2 => exact (Kd.R_reads' HO111.out).2.1); rintro e w' ⟨rfl, ⟨nd, rfl⟩⟩; refine ⟨_, rfl, ?_⟩))
   go_ret
   exact ⟨qe, qh HB⟩
 · replace c3 := Bool.eq_false_iff.mpr c3
   subst c3
   have H1 : ((idiomref01_in.f k a0 y112).bind fun t116 => (some t116)) = some r := by rw [if_neg (show ¬ (false = true) by decide)] at H; exact H
   clear H
   have H := H1
   clear H1
   replace H := Option.bind_eq_some_iff.mp H
   obtain ⟨t116, A90, H⟩ := H
   replace H : (some t116) = some r := H
   have A9 := Aside0.mk A90
   clear A90
   obtain rfl := Option.some.inj H
   go_enter Tryd.func15, Tryd.ntmps15
   go_wp2_with (first | ((with_reducible refine gate_dst (N := 5) rfl ?_); refine Kd.R_lit (Kd.int .i32) _ 21 ?hg (N := 5) ?hd (xs := ([33, 47, 58, 64, 91, 94, 96, 96, 123, 126, 161, 167, 169, 169, 171, 172, 174, 174, 176, 177, 182, 182, 187, 187, 191, 191, 215, 215, 247, 247] : List Int)) (inner := [.int .i32 33, .int .i32 47, .int .i32 58, .int .i32 64, .int .i32 91, .int .i32 94, .int .i32 96, .int .i32 96, .int .i32 123, .int .i32 126, .int .i32 161, .int .i32 167, .int .i32 169, .int .i32 169, .int .i32 171, .int .i32 172, .int .i32 174, .int .i32 174, .int .i32 176, .int .i32 177, .int .i32 182, .int .i32 182, .int .i32 187, .int .i32 187, .int .i32 191, .int .i32 191, .int .i32 215, .int .i32 215, .int .i32 247, .int .i32 247]) (ok := fun _ => True) (okp := fun _ => True) ?hr ?hp (fun _ hk => hk) trivial (Below.refl _ _) (Nat.le_refl _) (by simp) ?_; (case hd => rfl); (case hg => rfl); (case hr => first | (go_simp; done) | (go_simp; rfl)); (case hp => exact (Reps.one (show Kd.M (Kd.int .i32) _ _ _ 33 [.int .i32 33] from rfl) (Reps.one (show Kd.M (Kd.int .i32) _ _ _ 47 [.int .i32 47] from rfl) (Reps.one (show Kd.M (Kd.int .i32) _ _ _ 58 [.int .i32 58] from rfl) (Reps.one (show Kd.M (Kd.int .i32) _ _ _ 64 [.int .i32 64] from rfl) (Reps.one (show Kd.M (Kd.int .i32) _ _ _ 91 [.int .i32 91] from rfl) (Reps.one (show Kd.M (Kd.int .i32) _ _ _ 94 [.int .i32 94] from rfl) (Reps.one (show Kd.M (Kd.int .i32) _ _ _ 96 [.int .i32 96] from rfl) (Reps.one (show Kd.M (Kd.int .i32) _ _ _ 96 [.int .i32 96] from rfl) (Reps.one (show Kd.M (Kd.int .i32) _ _ _ 123 [.int .i32 123] from rfl) (Reps.one (show Kd.M (Kd.int .i32) _ _ _ 126 [.int .i32 126] from rfl) (Reps.one (show Kd.M (Kd.int .i32) _ _ _ 161 [.int .i32 161] from rfl) (Reps.one (show Kd.M (Kd.int .i32) _ _ _ 167 [.int .i32 167] from rfl) (Reps.one (show Kd.M (Kd.int .i32) _ _ _ 169 [.int .i32 169] from rfl) (Reps.one (show Kd.M (Kd.int .i32) _ _ _ 169 [.int .i32 169] from rfl) (Reps.one (show Kd.M (Kd.int .i32) _ _ _ 171 [.int .i32 171] from rfl) (Reps.one (show Kd.M (Kd.int .i32) _ _ _ 172 [.int .i32 172] from rfl) (Reps.one (show Kd.M (Kd.int .i32) _ _ _ 174 [.int .i32 174] from rfl) (Reps.one (show Kd.M (Kd.int .i32) _ _ _ 174 [.int .i32 174] from rfl) (Reps.one (show Kd.M (Kd.int .i32) _ _ _ 176 [.int .i32 176] from rfl) (Reps.one (show Kd.M (Kd.int .i32) _ _ _ 177 [.int .i32 177] from rfl) (Reps.one (show Kd.M (Kd.int .i32) _ _ _ 182 [.int .i32 182] from rfl) (Reps.one (show Kd.M (Kd.int .i32) _ _ _ 182 [.int .i32 182] from rfl) (Reps.one (show Kd.M (Kd.int .i32) _ _ _ 187 [.int .i32 187] from rfl) (Reps.one (show Kd.M (Kd.int .i32) _ _ _ 187 [.int .i32 187] from rfl) (Reps.one (show Kd.M (Kd.int .i32) _ _ _ 191 [.int .i32 191] from rfl) (Reps.one (show Kd.M (Kd.int .i32) _ _ _ 191 [.int .i32 191] from rfl) (Reps.one (show Kd.M (Kd.int .i32) _ _ _ 215 [.int .i32 215] from rfl) (Reps.one (show Kd.M (Kd.int .i32) _ _ _ 215 [.int .i32 215] from rfl) (Reps.one (show Kd.M (Kd.int .i32) _ _ _ 247 [.int .i32 247] from rfl) (Reps.one (show Kd.M (Kd.int .i32) _ _ _ 247 [.int .i32 247] from rfl) (Reps.none _ _)))))))))))))))))))))))))))))))); intro v110 w10 ho11 hb hg_ hnew_; clear hg_ hnew_; (first | rw [← Ny109.out] at ho11 | (simp only [Int.reduceToNat] at ho11; rw [← Ny109.out] at ho11)); have HO111 := Aside0.mk (Kd.R_lower ho11 (below_size (qh HB))); replace HB := qn HB hb; clear hb ho11) | ((with_reducible refine gate_dst (N := 6) rfl ?_); refine Kd.R_lit (Kd.int .i32) _ 21 ?hg (N := 6) ?hd (xs := ([8208, 8231, 8240, 8254, 8257, 8275, 8277, 8286, 8592, 11263, 11776, 11903, 12289, 12291, 12296, 12320, 12336, 12336, 64830, 64831, 65093, 65094] : List Int)) (inner := [.int .i32 8208, .int .i32 8231, .int .i32 8240, .int .i32 8254, .int .i32 8257, .int .i32 8275, .int .i32 8277, .int .i32 8286, .int .i32 8592, .int .i32 11263, .int .i32 11776, .int .i32 11903, .int .i32 12289, .int .i32 12291, .int .i32 12296, .int .i32 12320, .int .i32 12336, .int .i32 12336, .int .i32 64830, .int .i32 64831, .int .i32 65093, .int .i32 65094]) (ok := fun _ => True) (okp := fun _ => True) ?hr ?hp (fun _ hk => hk) trivial (Below.refl _ _) (Nat.le_refl _) (by simp) ?_; (case hd => rfl); (case hg => rfl); (case hr => first | (go_simp; done) | (go_simp; rfl)); (case hp => exact (Reps.one (show Kd.M (Kd.int .i32) _ _ _ 8208 [.int .i32 8208] from rfl) (Reps.one (show Kd.M (Kd.int .i32) _ _ _ 8231 [.int .i32 8231] from rfl) (Reps.one (show Kd.M (Kd.int .i32) _ _ _ 8240 [.int .i32 8240] from rfl) (Reps.one (show Kd.M (Kd.int .i32) _ _ _ 8254 [.int .i32 8254] from rfl) (Reps.one (show Kd.M (Kd.int .i32) _ _ _ 8257 [.int .i32 8257] from rfl) (Reps.one (show Kd.M (Kd.int .i32) _ _ _ 8275 [.int .i32 8275] from rfl) (Reps.one (show Kd.M (Kd.int .i32) _ _ _ 8277 [.int .i32 8277] from rfl) (Reps.one (show Kd.M (Kd.int .i32) _ _ _ 8286 [.int .i32 8286] from rfl) (Reps.one (show Kd.M (Kd.int .i32) _ _ _ 8592 [.int .i32 8592] from rfl) (Reps.one (show Kd.M (Kd.int .i32) _ _ _ 11263 [.int .i32 11263] from rfl) (Reps.one (show Kd.M (Kd.int .i32) _ _ _ 11776 [.int .i32 11776] from rfl) (Reps.one (show Kd.M (Kd.int .i32) _ _ _ 11903 [.int .i32 11903] from rfl) (Reps.one (show Kd.M (Kd.int .i32) _ _ _ 12289 [.int .i32 12289] from rfl) (Reps.one (show Kd.M (Kd.int .i32) _ _ _ 12291 [.int .i32 12291] from rfl) (Reps.one (show Kd.M (Kd.int .i32) _ _ _ 12296 [.int .i32 12296] from rfl) (Reps.one (show Kd.M (Kd.int .i32) _ _ _ 12320 [.int .i32 12320] from rfl) (Reps.one (show Kd.M (Kd.int .i32) _ _ _ 12336 [.int .i32 12336] from rfl) (Reps.one (show Kd.M (Kd.int .i32) _ _ _ 12336 [.int .i32 12336] from rfl) (Reps.one (show Kd.M (Kd.int .i32) _ _ _ 64830 [.int .i32 64830] from rfl) (Reps.one (show Kd.M (Kd.int .i32) _ _ _ 64831 [.int .i32 64831] from rfl) (Reps.one (show Kd.M (Kd.int .i32) _ _ _ 65093 [.int .i32 65093] from rfl) (Reps.one (show Kd.M (Kd.int .i32) _ _ _ 65094 [.int .i32 65094] from rfl) (Reps.none _ _)))))))))))))))))))))))); intro v113 w12 ho13 hb hg_ hnew_; clear hg_ hnew_; (first | rw [← Ny112.out] at ho13 | (simp only [Int.reduceToNat] at ho13; rw [← Ny112.out] at ho13)); have HO114 := Aside0.mk (Kd.R_lower (Kd.R_new' ho13 (Kd.R_lt (by (with_reducible repeat (first | apply Kd.R_alloc | apply Kd.R_drewN | apply Kd.R_drew)); exact HO111.out))) (below_size (qh HB))); replace HO111 := Aside0.mk (Kd.R_elder' (by (with_reducible repeat (first | apply Kd.R_alloc | apply Kd.R_drewN | apply Kd.R_drew)); exact HO111.out) (Kd.R_base ho13) hb); replace HB := qn HB hb; clear hb ho13; obtain ⟨Ao14, co14, eo14⟩ := Kd.R_slice HO111.out; subst eo14) | ((with_reducible refine gate_callee (f := 31) rfl ?_); refine goesL_ (some 9) rfl rfl Tryd.func31 (by kernel_rfl) rfl #[.int .i32 a0, .slice Ao14 y109.length co14] rfl ql ?_; (with_reducible refine (idiomref01_in.calls k a0 _ _ y109 false _ ?side1 ?side2 A2.out).mono ?_); (case side1 => repeat (first | exact (Kd.R_reads' HO111.out).2.2 | (with_reducible refine Kd.C_alloc ?_ _) | (with_reducible refine Kd.C_drewN ?_ _) | (with_reducible refine Kd.C_drew ?_))); (case side2 => exact (Kd.R_reads' HO111.out).2.1); rintro e w' ⟨rfl, ⟨nd, rfl⟩⟩; refine ⟨_, rfl, ?_⟩; obtain ⟨Ao15, co15, eo15⟩ := Kd.R_slice HO114.out; subst eo15) | (go_at_call 31; (with_reducible refine (idiomref01_in.calls k a0 _ _ y112 t116 _ ?side1 ?side2 A9.out).mono ?_); (case side1 => repeat (first | exact (Kd.R_reads' HO114.out).2.2 | (with_reducible refine Kd.C_alloc ?_ _) | (with_reducible refine Kd.C_drewN ?_ _) | (with_reducible refine Kd.C_drew ?_))); (case side2 => exact (Kd.R_reads' HO114.out).2.1); rintro e w' ⟨rfl, ⟨nd, rfl⟩⟩))
   go_ret
   exact ⟨qe, qh HB⟩

end Go.Proofs.YtigikjihagmokaaDoor.S
namespace Go.Proofs.YtigikjihagmokaaDoor.S
open Go.RowKit Go.Proofs.YtigikjihagmokaaDoorW.PrintWords Go.Proofs.YtigikjihagmokaaDoorW.PrintLast Go.Proofs.YtigikjihagmokaaDoorW.PrintMore
attribute [local go_sem] max2_int min2_int max_two min_two max_three min_three max_four min_four   -- for this text's walks alone
set_option linter.unusedVariables false
set_option linter.unusedSimpArgs false

def idiomref01_Digit.f (a0 : Int) : Option (Bool) := if a0 ≥ 48 then (some (decide (a0 ≤ 57))) else (some false)
set_option maxHeartbeats 8000000 in
set_option maxRecDepth 100000 in
theorem idiomref01_Digit.calls (a0 : Int) (r : Bool) (w : World) (h : idiomref01_Digit.f a0 = some r) :
 Calls Tryd.prog 35 #[.int .u8 a0] w fun e w' => e = .returned (.bool r) ∧ Drawn0 w w' := by
 have H : (if a0 ≥ 48 then (some (decide (a0 ≤ 57))) else (some false)) = some r := h
 clear h
 by_cases c2 : a0 ≥ 48
 · rw [if_pos c2] at H
   have c2b0 : decide (48 ≤ a0) = true := decide_eq_true c2
   clear c2
   obtain rfl := Option.some.inj H
   go_enter Tryd.func35, Tryd.ntmps35
   go_wp2
   go_ret
   exact ⟨by first | rfl | (simp; done) | (simp [*]; done), by repeat (first | exact Drawn0.refl _ | apply Drawn0.step)⟩
 · rw [if_neg c2] at H
   have c2b0 : decide (48 ≤ a0) = false := decide_eq_false c2
   clear c2
   obtain rfl := Option.some.inj H
   go_enter Tryd.func35, Tryd.ntmps35
   go_wp2
   go_ret
   exact ⟨by first | rfl | (simp; done) | (simp [*]; done), by repeat (first | exact Drawn0.refl _ | apply Drawn0.step)⟩

end Go.Proofs.YtigikjihagmokaaDoor.S
namespace Go.Proofs.YtigikjihagmokaaDoor.S
open Go.RowKit Go.Proofs.YtigikjihagmokaaDoorW.PrintWords Go.Proofs.YtigikjihagmokaaDoorW.PrintLast Go.Proofs.YtigikjihagmokaaDoorW.PrintMore Go.Proofs.YtigikjihagmokaaDoor.Q
attribute [local go_sem] max2_int min2_int max_two min_two max_three min_three max_four min_four   -- for this text's walks alone
set_option linter.unusedVariables false
set_option linter.unusedSimpArgs false

mutual
def idiomref01_Digits.j0 : Nat → ByteArray → Bool → Option (Bool)
 | 0, _, _ => none
 | k + 1, x0, x15 => if x15 = true then (some false) else (idiomref01_Digits.l0 k x0 0)
def idiomref01_Digits.l0 : Nat → ByteArray → Int → Option (Bool)
 | 0, _, _ => none
 | k + 1, x0, x3 => if x3 < (x0.size : Int) then (if 0 ≤ x3 then ((idiomref01_Digit.f (bt x0 x3)).bind fun t117 => (if t117 = true then (idiomref01_Digits.l0 k x0 (wrap64 (x3 + 1))) else (some false))) else (none)) else (some true)
end
def idiomref01_Digits.f (k : Nat) (a0 : ByteArray) : Option (Bool) := if a0.toList = ([] : List UInt8) then (idiomref01_Digits.j0 k a0 true) else (if 0 < (a0.size : Int) then (if (bt a0 0) = 48 then (idiomref01_Digits.j0 k a0 (decide ((a0.size : Int) > 1))) else (idiomref01_Digits.j0 k a0 false)) else (none))
theorem idiomref01_Digits.mono_l : ∀ k, (∀ y0 y1, LeO (idiomref01_Digits.j0 k y0 y1) (idiomref01_Digits.j0 (k + 1) y0 y1)) ∧ (∀ y0 y1, LeO (idiomref01_Digits.l0 k y0 y1) (idiomref01_Digits.l0 (k + 1) y0 y1))
 | 0 => ⟨fun _ _ r h => by simp [idiomref01_Digits.j0] at h, fun _ _ r h => by simp [idiomref01_Digits.l0] at h⟩
 | k + 1 => by
  obtain ⟨ih0, ih1⟩ := idiomref01_Digits.mono_l k
  refine ⟨?_, ?_⟩
  · intro y0 y1
    unfold idiomref01_Digits.j0
    repeat' first
    | (with_reducible exact ih0 _ _)
    | (with_reducible exact ih1 _ _)
    | (with_reducible exact LeO.refl _)
    | (with_reducible exact LeO.none _)
    | (with_reducible refine LeO.ite ?_ ?_)
    | (with_reducible refine LeO.bind ?_ (fun _ => ?_))
    | exact ih0 _ _
    | exact ih1 _ _
    | exact LeO.none _
    | refine LeO.ite ?_ ?_
    | refine LeO.bind ?_ (fun _ => ?_)
  · intro y0 y1
    unfold idiomref01_Digits.l0
    repeat' first
    | (with_reducible exact ih0 _ _)
    | (with_reducible exact ih1 _ _)
    | (with_reducible exact LeO.refl _)
    | (with_reducible exact LeO.none _)
    | (with_reducible refine LeO.ite ?_ ?_)
    | (with_reducible refine LeO.bind ?_ (fun _ => ?_))
    | exact ih0 _ _
    | exact ih1 _ _
    | exact LeO.none _
    | refine LeO.ite ?_ ?_
    | refine LeO.bind ?_ (fun _ => ?_)
theorem idiomref01_Digits.mono : ∀ a0 k, LeO (idiomref01_Digits.f k a0) (idiomref01_Digits.f (k + 1) a0) := by
 intro a0 k
 obtain ⟨ih0, ih1⟩ := idiomref01_Digits.mono_l k
 unfold idiomref01_Digits.f
 repeat' first
  | (with_reducible exact ih0 _ _)
  | (with_reducible exact ih1 _ _)
  | (with_reducible exact LeO.refl _)
  | (with_reducible exact LeO.none _)
  | (with_reducible refine LeO.ite ?_ ?_)
  | (with_reducible refine LeO.bind ?_ (fun _ => ?_))
  | exact ih0 _ _
  | exact ih1 _ _
  | exact LeO.none _
  | refine LeO.ite ?_ ?_
  | refine LeO.bind ?_ (fun _ => ?_)
set_option maxHeartbeats 8000000 in
set_option maxRecDepth 100000 in
theorem idiomref01_Digits.calls (k : Nat) (a0 : ByteArray) (r : Bool) (w : World) (h : idiomref01_Digits.f k a0 = some r) :
 Calls Tryd.prog 34 #[.string a0] w fun e w' => e = .returned (.bool r) ∧ Drawn0 w w' := by
 have H : (if a0.toList = ([] : List UInt8) then (idiomref01_Digits.j0 k a0 true) else (if 0 < (a0.size : Int) then (if (bt a0 0) = 48 then (idiomref01_Digits.j0 k a0 (decide ((a0.size : Int) > 1))) else (idiomref01_Digits.j0 k a0 false)) else (none))) = some r := h
 clear h
 have HC2 := Aside0.mk H
 clear H
 go_enter Tryd.func34, Tryd.ntmps34
 go_upto_region 1 with (fail)
 go_cut [15] (fun v15 wc => ∃ (kq : Nat) (x15_1 : Bool), v15 = .bool x15_1 ∧ Aside0 (idiomref01_Digits.j0 kq a0 x15_1 = some r) ∧ Aside0 (kq ≤ k) ∧ Drawn0 w wc)
 case first =>
  have H := HC2.out
  clear HC2
  by_cases c3 : a0.toList = ([] : List UInt8)
  · rw [if_pos c3] at H
    have c3b0 : (a0.toList == ([] : List UInt8)) = true := beq_iff_eq.mpr c3
    try have c3b0z := Aid.empty_of c3b0
    have c3b1 : (a0.toList != ([] : List UInt8)) = false := bne_eq_false_iff_eq.mpr c3
    clear c3
    (first | rw [c3b0] | rw [c3b0z] | (simp only [i64_w, i32_w]; rw [c3b0]) | skip)
    have H' := Aside0.mk H
    clear H
    go_wp2
    go_meet
    case rel => exact ⟨_, (true), (by first | rfl | (simp; done) | (simp [*]; done)), H', ⟨by first | omega | exact Nat.le_refl _⟩, by repeat (first | exact Drawn0.refl _ | apply Drawn0.step)⟩
  · rw [if_neg c3] at H
    have c3b0 : (a0.toList == ([] : List UInt8)) = false := beq_eq_false_iff_ne.mpr c3
    try have c3b0z := Aid.empty_of c3b0
    have c3b1 : (a0.toList != ([] : List UInt8)) = true := bne_iff_ne.mpr c3
    (first | rw [c3b0] | rw [c3b0z] | (simp only [i64_w, i32_w]; rw [c3b0]) | skip)
    by_cases c4 : 0 < (a0.size : Int)
    · rw [if_pos c4] at H
      have c4b0 : decide (0 < (a0.size : Int)) = true := decide_eq_true c4
      have c4b1 : decide (0 < a0.size) = true := decide_eq_true (by omega)
      clear c4
      by_cases c6 : (bt a0 0) = 48
      · rw [if_pos c6] at H
        have c6b0 : ((bt a0 0) == 48) = true := beq_iff_eq.mpr c6
        have c6b1 : ((bt a0 0) != 48) = false := bne_eq_false_iff_eq.mpr c6
        clear c6
        have H' := Aside0.mk H
        clear H
        have p5 : 0 ≤ (0 : Int) := (by omega)
        have q5 : 0 < a0.size := (by have : (0 : Int) < (a0.size : Int) := of_decide_eq_true qa; omega)
        have hx5 : ∀ h : 0 < a0.size, ((a0[0]'h).toNat : Int) = bt a0 0 := bt_at a0 0
        clear p5
        have qi5 : (0 < (a0.size : Int)) = True := eq_true (of_decide_eq_true qa)
        replace q5 := eq_true q5
        go_wp2
        go_meet
        case rel => exact ⟨_, (decide ((a0.size : Int) > 1)), (by first | rfl | (simp; done) | (simp [*]; done)), H', ⟨by first | omega | exact Nat.le_refl _⟩, by repeat (first | exact Drawn0.refl _ | apply Drawn0.step)⟩
      · rw [if_neg c6] at H
        have c6b0 : ((bt a0 0) == 48) = false := beq_eq_false_iff_ne.mpr c6
        have c6b1 : ((bt a0 0) != 48) = true := bne_iff_ne.mpr c6
        have H' := Aside0.mk H
        clear H
        have p5 : 0 ≤ (0 : Int) := (by omega)
        have q5 : 0 < a0.size := (by have : (0 : Int) < (a0.size : Int) := of_decide_eq_true qa; omega)
        have hx5 : ∀ h : 0 < a0.size, ((a0[0]'h).toNat : Int) = bt a0 0 := bt_at a0 0
        clear p5
        have qi5 : (0 < (a0.size : Int)) = True := eq_true (of_decide_eq_true qa)
        replace q5 := eq_true q5
        go_wp2
        go_meet
        case rel => exact ⟨_, (false), (by first | rfl | (simp; done) | (simp [*]; done)), H', ⟨by first | omega | exact Nat.le_refl _⟩, by repeat (first | exact Drawn0.refl _ | apply Drawn0.step)⟩
    · rw [if_neg c4] at H
      exact absurd H (by simp)
 case rest =>
  clear HC2
  try clear p2
  try clear c3
  try clear c3b0
  try clear c3b1
  try clear c4
  try clear c4b0
  try clear c4b1
  try clear p5
  try clear q5
  try clear hx5
  try clear qi5
  try clear c6
  try clear c6b0
  try clear c6b1
  try clear p5
  try clear q5
  obtain ⟨kq, x15_1, rfl, HA, HJ1, ⟨mc1, rfl⟩⟩ := hcut
  cases kq with
  | zero => exact absurd HA.out (by simp [idiomref01_Digits.j0])
  | succ kj1 =>
   have H := HA.out
   clear HA
   simp only [idiomref01_Digits.j0] at H
   by_cases c7 : x15_1 = true
   · subst c7
     have H1 : (some false) = some r := by rw [if_pos rfl] at H; exact H
     clear H
     have H := H1
     clear H1
     obtain rfl := Option.some.inj H
     go_wp2
     go_ret
     exact ⟨by first | rfl | (simp; done) | (simp [*]; done), by repeat (first | exact Drawn0.refl _ | apply Drawn0.step)⟩
   · replace c7 := Bool.eq_false_iff.mpr c7
     subst c7
     have H1 : (idiomref01_Digits.l0 kj1 a0 0) = some r := by rw [if_neg (show ¬ (false = true) by decide)] at H; exact H
     clear H
     have H := H1
     clear H1
     have H' := Aside0.mk H
     clear H
     go_wp2
     (try simp only [Act.put, List.setIfInBounds_toArray, List.set_cons_zero, List.set_cons_succ])
     go_loopg [3] kj1 (fun kq v3 w' => ∃ (x3_2 : Int), v3 = .int .i64 x3_2 ∧ Aside0 (idiomref01_Digits.l0 kq a0 x3_2 = some r) ∧ Aside0 (kq ≤ kj1) ∧ Drawn0 w w')
     case atStart => exact ⟨(0), (by first | rfl | (simp; done) | (simp [*]; done)), H', ⟨Nat.le_refl _⟩, by repeat (first | exact Drawn0.refl _ | apply Drawn0.step)⟩
     case round =>
      clear H'
      try clear c1
      try clear p2
      try clear c3
      try clear c3b0
      try clear c3b1
      try clear c4
      try clear c4b0
      try clear c4b1
      try clear p5
      try clear q5
      try clear hx5
      try clear qi5
      try clear c6
      try clear c6b0
      try clear c6b1
      try clear c7
      try clear p2
      try clear p5
      try clear q5
      obtain ⟨x3_2, rfl, HA, HK2, ⟨m2, rfl⟩⟩ := hrel
      cases gk with
      | zero => exact absurd HA.out (by simp [idiomref01_Digits.l0])
      | succ k2 =>
       have H := HA.out
       clear HA
       simp only [idiomref01_Digits.l0] at H
       by_cases c8 : x3_2 < (a0.size : Int)
       · rw [if_pos c8] at H
         have c8b0 : decide (x3_2 < (a0.size : Int)) = true := decide_eq_true c8
         clear c8
         by_cases c9 : 0 ≤ x3_2
         · rw [if_pos c9] at H
           have c9b0 : decide (0 ≤ x3_2) = true := decide_eq_true c9
           clear c9
           replace H := Option.bind_eq_some_iff.mp H
           obtain ⟨t117, A110, H⟩ := H
           replace H : (if t117 = true then (idiomref01_Digits.l0 k2 a0 (wrap64 (x3_2 + 1))) else (some false)) = some r := H
           have A11 := Aside0.mk A110
           clear A110
           by_cases c12 : t117 = true
           · subst c12
             have H1 : (idiomref01_Digits.l0 k2 a0 (wrap64 (x3_2 + 1))) = some r := by rw [if_pos rfl] at H; exact H
             clear H
             have H := H1
             clear H1
             have H' := Aside0.mk H
             clear H
             have p10 : 0 ≤ (x3_2 : Int) := of_decide_eq_true qa
             have q10 : x3_2 < (a0.size : Int) := of_decide_eq_true qa
             have hx10 := bt_at a0 x3_2
             replace p10 := eq_true p10
             replace q10 := eq_true q10
             go_wp2_with (first | ((with_reducible refine gate_callee (f := 35) rfl ?_); refine goesL_ (some 25) rfl rfl Tryd.func35 (by kernel_rfl) rfl #[.int .u8 (bt a0 x3_2)] rfl ql ?_; (with_reducible refine (idiomref01_Digit.calls (bt a0 x3_2) true _ A11.out).mono ?_); rintro e w' ⟨rfl, ⟨nd, rfl⟩⟩; refine ⟨_, rfl, ?_⟩))
             go_roundg k2
             case measure => have := HJ1.out; have := HK2.out; omega
             case rel => exact ⟨(wrap64 (x3_2 + 1)), (by first | rfl | (simp; done) | (simp [*]; done)), H', ⟨by have := HJ1.out; have := HK2.out; omega⟩, by repeat (first | exact Drawn0.refl _ | apply Drawn0.step)⟩
           · replace c12 := Bool.eq_false_iff.mpr c12
             subst c12
             have H1 : (some false) = some r := by rw [if_neg (show ¬ (false = true) by decide)] at H; exact H
             clear H
             have H := H1
             clear H1
             obtain rfl := Option.some.inj H
             have p10 : 0 ≤ (x3_2 : Int) := of_decide_eq_true qa
             have q10 : x3_2 < (a0.size : Int) := of_decide_eq_true qa
             have hx10 := bt_at a0 x3_2
             replace p10 := eq_true p10
             replace q10 := eq_true q10
             go_wp2_with (first | ((with_reducible refine gate_callee (f := 35) rfl ?_); refine goesL_ (some 25) rfl rfl Tryd.func35 (by kernel_rfl) rfl #[.int .u8 (bt a0 x3_2)] rfl ql ?_; (with_reducible refine (idiomref01_Digit.calls (bt a0 x3_2) false _ A11.out).mono ?_); rintro e w' ⟨rfl, ⟨nd, rfl⟩⟩; refine ⟨_, rfl, ?_⟩))
             go_ret
             exact ⟨by first | rfl | (simp; done) | (simp [*]; done), by repeat (first | exact Drawn0.refl _ | apply Drawn0.step)⟩
         · rw [if_neg c9] at H
           exact absurd H (by simp)
       · rw [if_neg c8] at H
         have c8b0 : decide (x3_2 < (a0.size : Int)) = false := decide_eq_false c8
         clear c8
         obtain rfl := Option.some.inj H
         go_wp2
         go_ret
         exact ⟨by first | rfl | (simp; done) | (simp [*]; done), by repeat (first | exact Drawn0.refl _ | apply Drawn0.step)⟩

end Go.Proofs.YtigikjihagmokaaDoor.S
namespace Go.Proofs.YtigikjihagmokaaDoor.S
open Go.RowKit Go.Proofs.YtigikjihagmokaaDoorW.PrintWords Go.Proofs.YtigikjihagmokaaDoorW.PrintLast Go.Proofs.YtigikjihagmokaaDoorW.PrintMore Go.Proofs.YtigikjihagmokaaDoor.Q
attribute [local go_sem] max2_int min2_int max_two min_two max_three min_three max_four min_four   -- for this text's walks alone
set_option linter.unusedVariables false
set_option linter.unusedSimpArgs false

mutual
def idiomref01_Step.j2 : Nat → ByteArray → Int → Int → Int → Int → Int → Option (Int × Int)
 | 0, _, _, _, _, _, _ => none
 | k + 1, x0, x1, x6, x8, x9, x10 => if x6 < x8 then (some ((-1), 1)) else (idiomref01_Step.l0 k x0 x1 x8 x9 x10 1)
def idiomref01_Step.l0 : Nat → ByteArray → Int → Int → Int → Int → Int → Option (Int × Int)
 | 0, _, _, _, _, _, _ => none
 | k + 1, x0, x1, x8, x9, x10, x11 => if x11 < x8 then (if 0 ≤ (wrap64 (x1 + x11)) then (if (wrap64 (x1 + x11)) < (x0.size : Int) then (if (wrap64 (bt x0 (wrap64 (x1 + x11)))) < 128 then (some ((-1), 1)) else (if (wrap64 (bt x0 (wrap64 (x1 + x11)))) ≥ 192 then (some ((-1), 1)) else (idiomref01_Step.l0 k x0 x1 x8 x9 (wrap64 ((wrap64 ((wrap64 (x10 * 64)) + (wrap64 (bt x0 (wrap64 (x1 + x11)))))) - 128)) (wrap64 (x11 + 1))))) else (none)) else (none)) else (if x10 < x9 then (some ((-1), 1)) else (if x10 > 1114111 then (some ((-1), 1)) else (if x10 ≥ 55296 then (if x10 ≤ 57343 then (some ((-1), 1)) else (some (x10, x8))) else (some (x10, x8)))))
def idiomref01_Step.j0 : Nat → ByteArray → Int → Int → Int → Bool → Option (Int × Int)
 | 0, _, _, _, _, _ => none
 | k + 1, x0, x1, x6, x7, x27 => if x27 = true then (idiomref01_Step.j2 k x0 x1 x6 2 128 (wrap64 (x7 - 192))) else (if x7 ≥ 224 then (idiomref01_Step.j1 k x0 x1 x6 x7 (decide (x7 < 240))) else (idiomref01_Step.j1 k x0 x1 x6 x7 false))
def idiomref01_Step.j1 : Nat → ByteArray → Int → Int → Int → Bool → Option (Int × Int)
 | 0, _, _, _, _, _ => none
 | k + 1, x0, x1, x6, x7, x36 => if x36 = true then (idiomref01_Step.j2 k x0 x1 x6 3 2048 (wrap64 (x7 - 224))) else (if x7 ≥ 240 then (if x7 < 248 then (idiomref01_Step.j2 k x0 x1 x6 4 65536 (wrap64 (x7 - 240))) else (some ((-1), 1))) else (some ((-1), 1)))
end
def idiomref01_Step.f (k : Nat) (a0 : ByteArray) (a1 : Int) : Option (Int × Int) := if (wrap64 ((a0.size : Int) - a1)) ≤ 0 then (some (0, 0)) else (if 0 ≤ a1 then (if a1 < (a0.size : Int) then (if (wrap64 (bt a0 a1)) < 128 then (some (wrap64 (bt a0 a1), 1)) else (if (wrap64 (bt a0 a1)) ≥ 192 then (idiomref01_Step.j0 k a0 a1 (wrap64 ((a0.size : Int) - a1)) (wrap64 (bt a0 a1)) (decide ((wrap64 (bt a0 a1)) < 224))) else (idiomref01_Step.j0 k a0 a1 (wrap64 ((a0.size : Int) - a1)) (wrap64 (bt a0 a1)) false))) else (none)) else (none))
theorem idiomref01_Step.mono_l : ∀ k, (∀ y0 y1 y2 y3 y4 y5, LeO (idiomref01_Step.j2 k y0 y1 y2 y3 y4 y5) (idiomref01_Step.j2 (k + 1) y0 y1 y2 y3 y4 y5)) ∧ (∀ y0 y1 y2 y3 y4 y5, LeO (idiomref01_Step.l0 k y0 y1 y2 y3 y4 y5) (idiomref01_Step.l0 (k + 1) y0 y1 y2 y3 y4 y5)) ∧ (∀ y0 y1 y2 y3 y4, LeO (idiomref01_Step.j0 k y0 y1 y2 y3 y4) (idiomref01_Step.j0 (k + 1) y0 y1 y2 y3 y4)) ∧ (∀ y0 y1 y2 y3 y4, LeO (idiomref01_Step.j1 k y0 y1 y2 y3 y4) (idiomref01_Step.j1 (k + 1) y0 y1 y2 y3 y4))
 | 0 => ⟨fun _ _ _ _ _ _ r h => by simp [idiomref01_Step.j2] at h, fun _ _ _ _ _ _ r h => by simp [idiomref01_Step.l0] at h, fun _ _ _ _ _ r h => by simp [idiomref01_Step.j0] at h, fun _ _ _ _ _ r h => by simp [idiomref01_Step.j1] at h⟩
 | k + 1 => by
  obtain ⟨ih0, ih1, ih2, ih3⟩ := idiomref01_Step.mono_l k
  refine ⟨?_, ?_, ?_, ?_⟩
  · intro y0 y1 y2 y3 y4 y5
    unfold idiomref01_Step.j2
    repeat' first
    | (with_reducible exact ih0 _ _ _ _ _ _)
    | (with_reducible exact ih1 _ _ _ _ _ _)
    | (with_reducible exact ih2 _ _ _ _ _)
    | (with_reducible exact ih3 _ _ _ _ _)
    | (with_reducible exact LeO.refl _)
    | (with_reducible exact LeO.none _)
    | (with_reducible refine LeO.ite ?_ ?_)
    | (with_reducible refine LeO.bind ?_ (fun _ => ?_))
    | exact ih0 _ _ _ _ _ _
    | exact ih1 _ _ _ _ _ _
    | exact ih2 _ _ _ _ _
    | exact ih3 _ _ _ _ _
    | exact LeO.none _
    | refine LeO.ite ?_ ?_
    | refine LeO.bind ?_ (fun _ => ?_)
  · intro y0 y1 y2 y3 y4 y5
    unfold idiomref01_Step.l0
    repeat' first
    | (with_reducible exact ih0 _ _ _ _ _ _)
    | (with_reducible exact ih1 _ _ _ _ _ _)
    | (with_reducible exact ih2 _ _ _ _ _)
    | (with_reducible exact ih3 _ _ _ _ _)
    | (with_reducible exact LeO.refl _)
    | (with_reducible exact LeO.none _)
    | (with_reducible refine LeO.ite ?_ ?_)
    | (with_reducible refine LeO.bind ?_ (fun _ => ?_))
    | exact ih0 _ _ _ _ _ _
    | exact ih1 _ _ _ _ _ _
    | exact ih2 _ _ _ _ _
    | exact ih3 _ _ _ _ _
    | exact LeO.none _
    | refine LeO.ite ?_ ?_
    | refine LeO.bind ?_ (fun _ => ?_)
  · intro y0 y1 y2 y3 y4
    unfold idiomref01_Step.j0
    repeat' first
    | (with_reducible exact ih0 _ _ _ _ _ _)
    | (with_reducible exact ih1 _ _ _ _ _ _)
    | (with_reducible exact ih2 _ _ _ _ _)
    | (with_reducible exact ih3 _ _ _ _ _)
    | (with_reducible exact LeO.refl _)
    | (with_reducible exact LeO.none _)
    | (with_reducible refine LeO.ite ?_ ?_)
    | (with_reducible refine LeO.bind ?_ (fun _ => ?_))
    | exact ih0 _ _ _ _ _ _
    | exact ih1 _ _ _ _ _ _
    | exact ih2 _ _ _ _ _
    | exact ih3 _ _ _ _ _
    | exact LeO.none _
    | refine LeO.ite ?_ ?_
    | refine LeO.bind ?_ (fun _ => ?_)
  · intro y0 y1 y2 y3 y4
    unfold idiomref01_Step.j1
    repeat' first
    | (with_reducible exact ih0 _ _ _ _ _ _)
    | (with_reducible exact ih1 _ _ _ _ _ _)
    | (with_reducible exact ih2 _ _ _ _ _)
    | (with_reducible exact ih3 _ _ _ _ _)
    | (with_reducible exact LeO.refl _)
    | (with_reducible exact LeO.none _)
    | (with_reducible refine LeO.ite ?_ ?_)
    | (with_reducible refine LeO.bind ?_ (fun _ => ?_))
    | exact ih0 _ _ _ _ _ _
    | exact ih1 _ _ _ _ _ _
    | exact ih2 _ _ _ _ _
    | exact ih3 _ _ _ _ _
    | exact LeO.none _
    | refine LeO.ite ?_ ?_
    | refine LeO.bind ?_ (fun _ => ?_)
theorem idiomref01_Step.mono : ∀ a0 a1 k, LeO (idiomref01_Step.f k a0 a1) (idiomref01_Step.f (k + 1) a0 a1) := by
 intro a0 a1 k
 obtain ⟨ih0, ih1, ih2, ih3⟩ := idiomref01_Step.mono_l k
 unfold idiomref01_Step.f
 repeat' first
  | (with_reducible exact ih0 _ _ _ _ _ _)
  | (with_reducible exact ih1 _ _ _ _ _ _)
  | (with_reducible exact ih2 _ _ _ _ _)
  | (with_reducible exact ih3 _ _ _ _ _)
  | (with_reducible exact LeO.refl _)
  | (with_reducible exact LeO.none _)
  | (with_reducible refine LeO.ite ?_ ?_)
  | (with_reducible refine LeO.bind ?_ (fun _ => ?_))
  | exact ih0 _ _ _ _ _ _
  | exact ih1 _ _ _ _ _ _
  | exact ih2 _ _ _ _ _
  | exact ih3 _ _ _ _ _
  | exact LeO.none _
  | refine LeO.ite ?_ ?_
  | refine LeO.bind ?_ (fun _ => ?_)
set_option maxHeartbeats 8000000 in
set_option maxRecDepth 100000 in
theorem idiomref01_Step.calls (k : Nat) (a0 : ByteArray) (a1 : Int) (r1 : Int) (r2 : Int) (w : World) (h : idiomref01_Step.f k a0 a1 = some (r1, r2)) :
 Calls Tryd.prog 36 #[.string a0, .int .i64 a1] w fun e w' => e = .returned (.tuple #[.int .i64 r1, .int .i64 r2]) ∧ Drawn0 w w' := by
 have H : (if (wrap64 ((a0.size : Int) - a1)) ≤ 0 then (some (0, 0)) else (if 0 ≤ a1 then (if a1 < (a0.size : Int) then (if (wrap64 (bt a0 a1)) < 128 then (some (wrap64 (bt a0 a1), 1)) else (if (wrap64 (bt a0 a1)) ≥ 192 then (idiomref01_Step.j0 k a0 a1 (wrap64 ((a0.size : Int) - a1)) (wrap64 (bt a0 a1)) (decide ((wrap64 (bt a0 a1)) < 224))) else (idiomref01_Step.j0 k a0 a1 (wrap64 ((a0.size : Int) - a1)) (wrap64 (bt a0 a1)) false))) else (none)) else (none))) = some (r1, r2) := h
 clear h
 by_cases c3 : (wrap64 ((a0.size : Int) - a1)) ≤ 0
 · rw [if_pos c3] at H
   have c3b0 : decide ((wrap64 ((a0.size : Int) - a1)) ≤ 0) = true := decide_eq_true c3
   clear c3
   simp only [Option.some.injEq, Prod.mk.injEq] at H
   obtain ⟨rfl, rfl⟩ := H
   go_enter Tryd.func36, Tryd.ntmps36
   go_wp2
   go_ret2
   exact ⟨by first | rfl | (simp; done) | (simp [*]; done), by repeat (first | exact Drawn0.refl _ | apply Drawn0.step)⟩
 · rw [if_neg c3] at H
   have c3b0 : decide ((wrap64 ((a0.size : Int) - a1)) ≤ 0) = false := decide_eq_false c3
   clear c3
   by_cases c4 : 0 ≤ a1
   · rw [if_pos c4] at H
     have c4b0 : decide (0 ≤ a1) = true := decide_eq_true c4
     clear c4
     by_cases c5 : a1 < (a0.size : Int)
     · rw [if_pos c5] at H
       have c5b0 : decide (a1 < (a0.size : Int)) = true := decide_eq_true c5
       clear c5
       have HC7 := Aside0.mk H
       clear H
       have p6 : 0 ≤ (a1 : Int) := of_decide_eq_true qa
       have q6 : a1 < (a0.size : Int) := of_decide_eq_true qa
       have hx6 := bt_at a0 a1
       replace p6 := eq_true p6
       replace q6 := eq_true q6
       go_enter Tryd.func36, Tryd.ntmps36
       go_upto_block 0 with (fail)
       go_cut [8, 9, 10] (fun v8 v9 v10 wc => ∃ (kq : Nat) (x8_6 : Int) (x9_6 : Int) (x10_6 : Int), v8 = .int .i64 x8_6 ∧ v9 = .int .i64 x9_6 ∧ v10 = .int .i64 x10_6 ∧ Aside0 (idiomref01_Step.j2 kq a0 a1 (wrap64 ((a0.size : Int) - a1)) x8_6 x9_6 x10_6 = some (r1, r2)) ∧ Aside0 (kq ≤ k) ∧ Drawn0 w wc)
       case first =>
        have H := HC7.out
        clear HC7
        by_cases c8 : (wrap64 (bt a0 a1)) < 128
        · rw [if_pos c8] at H
          have c8b0 : decide ((wrap64 (bt a0 a1)) < 128) = true := decide_eq_true c8
          clear c8
          (first | rw [c8b0] | (simp only [i64_w, i32_w]; rw [c8b0]) | skip)
          simp only [Option.some.injEq, Prod.mk.injEq] at H
          obtain ⟨rfl, rfl⟩ := H
          go_wp2
          go_ret2
          exact ⟨by first | rfl | (simp; done) | (simp [*]; done), by repeat (first | exact Drawn0.refl _ | apply Drawn0.step)⟩
        · rw [if_neg c8] at H
          have c8b0 : decide ((wrap64 (bt a0 a1)) < 128) = false := decide_eq_false c8
          clear c8
          (first | rw [c8b0] | (simp only [i64_w, i32_w]; rw [c8b0]) | skip)
          have HC9 := Aside0.mk H
          clear H
          go_upto_region 9 with (fail)
          go_cut [27] (fun v27 wc => ∃ (kq : Nat) (x27_8 : Bool), v27 = .bool x27_8 ∧ Aside0 (idiomref01_Step.j0 kq a0 a1 (wrap64 ((a0.size : Int) - a1)) (wrap64 (bt a0 a1)) x27_8 = some (r1, r2)) ∧ Aside0 (kq ≤ k) ∧ Drawn0 w wc)
          case first =>
           have H := HC9.out
           clear HC9
           by_cases c10 : (wrap64 (bt a0 a1)) ≥ 192
           · rw [if_pos c10] at H
             have c10b0 : decide (192 ≤ (wrap64 (bt a0 a1))) = true := decide_eq_true c10
             clear c10
             (first | rw [c10b0] | (simp only [i64_w, i32_w]; rw [c10b0]) | skip)
             have H' := Aside0.mk H
             clear H
             go_wp2
             go_meet
             case rel => exact ⟨_, (decide ((wrap64 (bt a0 a1)) < 224)), (by first | rfl | (simp; done) | (simp [*]; done)), H', ⟨by first | omega | exact Nat.le_refl _⟩, by repeat (first | exact Drawn0.refl _ | apply Drawn0.step)⟩
           · rw [if_neg c10] at H
             have c10b0 : decide (192 ≤ (wrap64 (bt a0 a1))) = false := decide_eq_false c10
             clear c10
             (first | rw [c10b0] | (simp only [i64_w, i32_w]; rw [c10b0]) | skip)
             have H' := Aside0.mk H
             clear H
             go_wp2
             go_meet
             case rel => exact ⟨_, (false), (by first | rfl | (simp; done) | (simp [*]; done)), H', ⟨by first | omega | exact Nat.le_refl _⟩, by repeat (first | exact Drawn0.refl _ | apply Drawn0.step)⟩
          case rest =>
           clear HC9
           try clear c1
           try clear p2
           try clear c3
           try clear c3b0
           try clear c4
           try clear c4b0
           try clear c5
           try clear c5b0
           try clear p6
           try clear q6
           try clear hx6
           try clear c8
           try clear c8b0
           try clear c10
           try clear c10b0
           try clear p6
           try clear q6
           obtain ⟨kq, x27_8, rfl, HA, HJ8, ⟨mc8, rfl⟩⟩ := hcut
           cases kq with
           | zero => exact absurd HA.out (by simp [idiomref01_Step.j0])
           | succ kj8 =>
            have H := HA.out
            clear HA
            simp only [idiomref01_Step.j0] at H
            by_cases c11 : x27_8 = true
            · subst c11
              have H1 : (idiomref01_Step.j2 kj8 a0 a1 (wrap64 ((a0.size : Int) - a1)) 2 128 (wrap64 ((wrap64 (bt a0 a1)) - 192))) = some (r1, r2) := by rw [if_pos rfl] at H; exact H
              clear H
              have H := H1
              clear H1
              have H' := Aside0.mk H
              clear H
              go_wp2
              go_meet
              case rel => exact ⟨_, (2), (128), (wrap64 ((wrap64 (bt a0 a1)) - 192)), (by first | rfl | (simp; done) | (simp [*]; done)), (by first | rfl | (simp; done) | (simp [*]; done)), (by first | rfl | (simp; done) | (simp [*]; done)), H', ⟨by have := HJ8.out; first | omega | exact Nat.le_refl _⟩, by repeat (first | exact Drawn0.refl _ | apply Drawn0.step)⟩
            · replace c11 := Bool.eq_false_iff.mpr c11
              subst c11
              have H1 : (if (wrap64 (bt a0 a1)) ≥ 224 then (idiomref01_Step.j1 kj8 a0 a1 (wrap64 ((a0.size : Int) - a1)) (wrap64 (bt a0 a1)) (decide ((wrap64 (bt a0 a1)) < 240))) else (idiomref01_Step.j1 kj8 a0 a1 (wrap64 ((a0.size : Int) - a1)) (wrap64 (bt a0 a1)) false)) = some (r1, r2) := by rw [if_neg (show ¬ (false = true) by decide)] at H; exact H
              clear H
              have H := H1
              clear H1
              have HC12 := Aside0.mk H
              clear H
              go_upto_region 11 with (fail)
              go_cut [36] (fun v36 wc => ∃ (kq : Nat) (x36_11 : Bool), v36 = .bool x36_11 ∧ Aside0 (idiomref01_Step.j1 kq a0 a1 (wrap64 ((a0.size : Int) - a1)) (wrap64 (bt a0 a1)) x36_11 = some (r1, r2)) ∧ Aside0 (kq ≤ kj8) ∧ Drawn0 w wc)
              case first =>
               have H := HC12.out
               clear HC12
               by_cases c13 : (wrap64 (bt a0 a1)) ≥ 224
               · rw [if_pos c13] at H
                 have c13b0 : decide (224 ≤ (wrap64 (bt a0 a1))) = true := decide_eq_true c13
                 clear c13
                 (first | rw [c13b0] | (simp only [i64_w, i32_w]; rw [c13b0]) | skip)
                 have H' := Aside0.mk H
                 clear H
                 go_wp2
                 go_meet
                 case rel => exact ⟨_, (decide ((wrap64 (bt a0 a1)) < 240)), (by first | rfl | (simp; done) | (simp [*]; done)), H', ⟨by have := HJ8.out; first | omega | exact Nat.le_refl _⟩, by repeat (first | exact Drawn0.refl _ | apply Drawn0.step)⟩
               · rw [if_neg c13] at H
                 have c13b0 : decide (224 ≤ (wrap64 (bt a0 a1))) = false := decide_eq_false c13
                 clear c13
                 (first | rw [c13b0] | (simp only [i64_w, i32_w]; rw [c13b0]) | skip)
                 have H' := Aside0.mk H
                 clear H
                 go_wp2
                 go_meet
                 case rel => exact ⟨_, (false), (by first | rfl | (simp; done) | (simp [*]; done)), H', ⟨by have := HJ8.out; first | omega | exact Nat.le_refl _⟩, by repeat (first | exact Drawn0.refl _ | apply Drawn0.step)⟩
              case rest =>
               clear HC12
               try clear c1
               try clear p2
               try clear c3
               try clear c3b0
               try clear c4
               try clear c4b0
               try clear c5
               try clear c5b0
               try clear p6
               try clear q6
               try clear hx6
               try clear c8
               try clear c8b0
               try clear c10
               try clear c10b0
               try clear c11
               try clear c13
               try clear c13b0
               try clear p2
               try clear p6
               try clear q6
               obtain ⟨kq, x36_11, rfl, HA, HJ11, ⟨mc11, rfl⟩⟩ := hcut
               cases kq with
               | zero => exact absurd HA.out (by simp [idiomref01_Step.j1])
               | succ kj11 =>
                have H := HA.out
                clear HA
                simp only [idiomref01_Step.j1] at H
                by_cases c14 : x36_11 = true
                · subst c14
                  have H1 : (idiomref01_Step.j2 kj11 a0 a1 (wrap64 ((a0.size : Int) - a1)) 3 2048 (wrap64 ((wrap64 (bt a0 a1)) - 224))) = some (r1, r2) := by rw [if_pos rfl] at H; exact H
                  clear H
                  have H := H1
                  clear H1
                  have H' := Aside0.mk H
                  clear H
                  go_wp2
                  go_meet
                  case rel => exact ⟨_, (3), (2048), (wrap64 ((wrap64 (bt a0 a1)) - 224)), (by first | rfl | (simp; done) | (simp [*]; done)), (by first | rfl | (simp; done) | (simp [*]; done)), (by first | rfl | (simp; done) | (simp [*]; done)), H', ⟨by have := HJ8.out; have := HJ11.out; first | omega | exact Nat.le_refl _⟩, by repeat (first | exact Drawn0.refl _ | apply Drawn0.step)⟩
                · replace c14 := Bool.eq_false_iff.mpr c14
                  subst c14
                  have H1 : (if (wrap64 (bt a0 a1)) ≥ 240 then (if (wrap64 (bt a0 a1)) < 248 then (idiomref01_Step.j2 kj11 a0 a1 (wrap64 ((a0.size : Int) - a1)) 4 65536 (wrap64 ((wrap64 (bt a0 a1)) - 240))) else (some ((-1), 1))) else (some ((-1), 1))) = some (r1, r2) := by rw [if_neg (show ¬ (false = true) by decide)] at H; exact H
                  clear H
                  have H := H1
                  clear H1
                  by_cases c15 : (wrap64 (bt a0 a1)) ≥ 240
                  · rw [if_pos c15] at H
                    have c15b0 : decide (240 ≤ (wrap64 (bt a0 a1))) = true := decide_eq_true c15
                    clear c15
                    by_cases c16 : (wrap64 (bt a0 a1)) < 248
                    · rw [if_pos c16] at H
                      have c16b0 : decide ((wrap64 (bt a0 a1)) < 248) = true := decide_eq_true c16
                      clear c16
                      have H' := Aside0.mk H
                      clear H
                      go_wp2
                      go_meet
                      case rel => exact ⟨_, (4), (65536), (wrap64 ((wrap64 (bt a0 a1)) - 240)), (by first | rfl | (simp; done) | (simp [*]; done)), (by first | rfl | (simp; done) | (simp [*]; done)), (by first | rfl | (simp; done) | (simp [*]; done)), H', ⟨by have := HJ8.out; have := HJ11.out; first | omega | exact Nat.le_refl _⟩, by repeat (first | exact Drawn0.refl _ | apply Drawn0.step)⟩
                    · rw [if_neg c16] at H
                      have c16b0 : decide ((wrap64 (bt a0 a1)) < 248) = false := decide_eq_false c16
                      clear c16
                      simp only [Option.some.injEq, Prod.mk.injEq] at H
                      obtain ⟨rfl, rfl⟩ := H
                      go_wp2
                      go_ret2
                      exact ⟨by first | rfl | (simp; done) | (simp [*]; done), by repeat (first | exact Drawn0.refl _ | apply Drawn0.step)⟩
                  · rw [if_neg c15] at H
                    have c15b0 : decide (240 ≤ (wrap64 (bt a0 a1))) = false := decide_eq_false c15
                    clear c15
                    simp only [Option.some.injEq, Prod.mk.injEq] at H
                    obtain ⟨rfl, rfl⟩ := H
                    go_wp2
                    go_ret2
                    exact ⟨by first | rfl | (simp; done) | (simp [*]; done), by repeat (first | exact Drawn0.refl _ | apply Drawn0.step)⟩
       case rest =>
        clear HC7
        try clear c1
        try clear p2
        try clear c3
        try clear c3b0
        try clear c4
        try clear c4b0
        try clear c5
        try clear c5b0
        try clear p6
        try clear q6
        try clear hx6
        try clear c8
        try clear c8b0
        try clear c10
        try clear c10b0
        try clear c11
        try clear c13
        try clear c13b0
        try clear c14
        try clear c15
        try clear c15b0
        try clear c16
        try clear c16b0
        try clear p2
        try clear p6
        try clear q6
        obtain ⟨kq, x8_6, x9_6, x10_6, rfl, rfl, rfl, HA, HJ6, ⟨mc6, rfl⟩⟩ := hcut
        cases kq with
        | zero => exact absurd HA.out (by simp [idiomref01_Step.j2])
        | succ kj6 =>
         have H := HA.out
         clear HA
         simp only [idiomref01_Step.j2] at H
         by_cases c17 : (wrap64 ((a0.size : Int) - a1)) < x8_6
         · rw [if_pos c17] at H
           have c17b0 : decide ((wrap64 ((a0.size : Int) - a1)) < x8_6) = true := decide_eq_true c17
           clear c17
           simp only [Option.some.injEq, Prod.mk.injEq] at H
           obtain ⟨rfl, rfl⟩ := H
           go_wp2
           go_ret2
           exact ⟨by first | rfl | (simp; done) | (simp [*]; done), by repeat (first | exact Drawn0.refl _ | apply Drawn0.step)⟩
         · rw [if_neg c17] at H
           have c17b0 : decide ((wrap64 ((a0.size : Int) - a1)) < x8_6) = false := decide_eq_false c17
           clear c17
           have H' := Aside0.mk H
           clear H
           go_wp2
           (try simp only [Act.put, List.setIfInBounds_toArray, List.set_cons_zero, List.set_cons_succ])
           go_loopg [10, 11] kj6 (fun kq v10 v11 w' => ∃ (x10_2 : Int) (x11_2 : Int), v10 = .int .i64 x10_2 ∧ v11 = .int .i64 x11_2 ∧ Aside0 (idiomref01_Step.l0 kq a0 a1 x8_6 x9_6 x10_2 x11_2 = some (r1, r2)) ∧ Aside0 (kq ≤ kj6) ∧ Drawn0 w w')
           case atStart => exact ⟨(x10_6), (1), (by first | rfl | (simp; done) | (simp [*]; done)), (by first | rfl | (simp; done) | (simp [*]; done)), H', ⟨Nat.le_refl _⟩, by repeat (first | exact Drawn0.refl _ | apply Drawn0.step)⟩
           case round =>
            clear H'
            try clear c1
            try clear p2
            try clear c3
            try clear c3b0
            try clear c4
            try clear c4b0
            try clear c5
            try clear c5b0
            try clear c6
            try clear p6
            try clear q6
            try clear hx6
            try clear c8
            try clear c8b0
            try clear c10
            try clear c10b0
            try clear c11
            try clear c13
            try clear c13b0
            try clear c14
            try clear c15
            try clear c15b0
            try clear c16
            try clear c16b0
            try clear c17
            try clear c17b0
            try clear p2
            try clear p6
            try clear q6
            obtain ⟨x10_2, x11_2, rfl, rfl, HA, HK2, ⟨m2, rfl⟩⟩ := hrel
            cases gk with
            | zero => exact absurd HA.out (by simp [idiomref01_Step.l0])
            | succ k2 =>
             have H := HA.out
             clear HA
             simp only [idiomref01_Step.l0] at H
             by_cases c18 : x11_2 < x8_6
             · rw [if_pos c18] at H
               have c18b0 : decide (x11_2 < x8_6) = true := decide_eq_true c18
               clear c18
               obtain ⟨ji19, hji19⟩ : ∃ j_ : Int, (wrap64 (a1 + x11_2)) = j_ := ⟨_, rfl⟩
               replace H : (if 0 ≤ (ji19) then (if (ji19) < (a0.size : Int) then (if (wrap64 (bt a0 (ji19))) < 128 then (some ((-1), 1)) else (if (wrap64 (bt a0 (ji19))) ≥ 192 then (some ((-1), 1)) else (idiomref01_Step.l0 k2 a0 a1 x8_6 x9_6 (wrap64 ((wrap64 ((wrap64 (x10_2 * 64)) + (wrap64 (bt a0 (ji19))))) - 128)) (wrap64 (x11_2 + 1))))) else (none)) else (none)) = some (r1, r2) := by first | (rw [hji19] at H; exact H) | (simp only [hji19] at H ⊢; exact H)
               have hji19w : (IntKind.i64.wrap (a1 + x11_2)) = ji19 := (i64_w _).trans hji19
               by_cases c20 : 0 ≤ (ji19)
               · rw [if_pos c20] at H
                 have c20b0 : decide (0 ≤ (ji19)) = true := decide_eq_true c20
                 clear c20
                 by_cases c21 : (ji19) < (a0.size : Int)
                 · rw [if_pos c21] at H
                   have c21b0 : decide ((ji19) < (a0.size : Int)) = true := decide_eq_true c21
                   clear c21
                   by_cases c23 : (wrap64 (bt a0 (ji19))) < 128
                   · rw [if_pos c23] at H
                     have c23b0 : decide ((wrap64 (bt a0 (ji19))) < 128) = true := decide_eq_true c23
                     clear c23
                     simp only [Option.some.injEq, Prod.mk.injEq] at H
                     obtain ⟨rfl, rfl⟩ := H
                     have p22 : 0 ≤ ((ji19) : Int) := of_decide_eq_true qa
                     have q22 : (ji19) < (a0.size : Int) := of_decide_eq_true qa
                     have hx22 := bt_at a0 (ji19)
                     replace p22 := eq_true p22
                     replace q22 := eq_true q22
                     go_wp2
                     go_ret2
                     exact ⟨by first | rfl | (simp; done) | (simp only [← hji19] <;> (first | rfl | simp)) | (simp [*]; done), by repeat (first | exact Drawn0.refl _ | apply Drawn0.step)⟩
                   · rw [if_neg c23] at H
                     have c23b0 : decide ((wrap64 (bt a0 (ji19))) < 128) = false := decide_eq_false c23
                     clear c23
                     by_cases c24 : (wrap64 (bt a0 (ji19))) ≥ 192
                     · rw [if_pos c24] at H
                       have c24b0 : decide (192 ≤ (wrap64 (bt a0 (ji19)))) = true := decide_eq_true c24
                       clear c24
                       simp only [Option.some.injEq, Prod.mk.injEq] at H
                       obtain ⟨rfl, rfl⟩ := H
                       have p22 : 0 ≤ ((ji19) : Int) := of_decide_eq_true qa
                       have q22 : (ji19) < (a0.size : Int) := of_decide_eq_true qa
                       have hx22 := bt_at a0 (ji19)
                       replace p22 := eq_true p22
                       replace q22 := eq_true q22
                       go_wp2
                       go_ret2
                       exact ⟨by first | rfl | (simp; done) | (simp only [← hji19] <;> (first | rfl | simp)) | (simp [*]; done), by repeat (first | exact Drawn0.refl _ | apply Drawn0.step)⟩
                     · rw [if_neg c24] at H
                       have c24b0 : decide (192 ≤ (wrap64 (bt a0 (ji19)))) = false := decide_eq_false c24
                       clear c24
                       have H' := Aside0.mk H
                       clear H
                       have p22 : 0 ≤ ((ji19) : Int) := of_decide_eq_true qa
                       have q22 : (ji19) < (a0.size : Int) := of_decide_eq_true qa
                       have hx22 := bt_at a0 (ji19)
                       replace p22 := eq_true p22
                       replace q22 := eq_true q22
                       go_wp2
                       go_roundg k2
                       case measure => have := HJ6.out; have := HK2.out; omega
                       case rel => exact ⟨(wrap64 ((wrap64 ((wrap64 (x10_2 * 64)) + (wrap64 (bt a0 (ji19))))) - 128)), (wrap64 (x11_2 + 1)), (by first | rfl | (simp; done) | (simp only [← hji19] <;> (first | rfl | simp)) | (simp [*]; done)), (by first | rfl | (simp; done) | (simp [*]; done)), H', ⟨by have := HJ6.out; have := HK2.out; omega⟩, by repeat (first | exact Drawn0.refl _ | apply Drawn0.step)⟩
                 · rw [if_neg c21] at H
                   exact absurd H (by simp)
               · rw [if_neg c20] at H
                 exact absurd H (by simp)
             · rw [if_neg c18] at H
               have c18b0 : decide (x11_2 < x8_6) = false := decide_eq_false c18
               clear c18
               by_cases c25 : x10_2 < x9_6
               · rw [if_pos c25] at H
                 have c25b0 : decide (x10_2 < x9_6) = true := decide_eq_true c25
                 clear c25
                 simp only [Option.some.injEq, Prod.mk.injEq] at H
                 obtain ⟨rfl, rfl⟩ := H
                 go_wp2
                 go_ret2
                 exact ⟨by first | rfl | (simp; done) | (simp [*]; done), by repeat (first | exact Drawn0.refl _ | apply Drawn0.step)⟩
               · rw [if_neg c25] at H
                 have c25b0 : decide (x10_2 < x9_6) = false := decide_eq_false c25
                 clear c25
                 by_cases c26 : x10_2 > 1114111
                 · rw [if_pos c26] at H
                   have c26b0 : decide (1114111 < x10_2) = true := decide_eq_true c26
                   clear c26
                   simp only [Option.some.injEq, Prod.mk.injEq] at H
                   obtain ⟨rfl, rfl⟩ := H
                   go_wp2
                   go_ret2
                   exact ⟨by first | rfl | (simp; done) | (simp [*]; done), by repeat (first | exact Drawn0.refl _ | apply Drawn0.step)⟩
                 · rw [if_neg c26] at H
                   have c26b0 : decide (1114111 < x10_2) = false := decide_eq_false c26
                   clear c26
                   by_cases c27 : x10_2 ≥ 55296
                   · rw [if_pos c27] at H
                     have c27b0 : decide (55296 ≤ x10_2) = true := decide_eq_true c27
                     clear c27
                     by_cases c28 : x10_2 ≤ 57343
                     · rw [if_pos c28] at H
                       have c28b0 : decide (x10_2 ≤ 57343) = true := decide_eq_true c28
                       clear c28
                       simp only [Option.some.injEq, Prod.mk.injEq] at H
                       obtain ⟨rfl, rfl⟩ := H
                       go_wp2
                       go_ret2
                       exact ⟨by first | rfl | (simp; done) | (simp [*]; done), by repeat (first | exact Drawn0.refl _ | apply Drawn0.step)⟩
                     · rw [if_neg c28] at H
                       have c28b0 : decide (x10_2 ≤ 57343) = false := decide_eq_false c28
                       clear c28
                       simp only [Option.some.injEq, Prod.mk.injEq] at H
                       obtain ⟨rfl, rfl⟩ := H
                       go_wp2
                       go_ret2
                       exact ⟨by first | rfl | (simp; done) | (simp [*]; done), by repeat (first | exact Drawn0.refl _ | apply Drawn0.step)⟩
                   · rw [if_neg c27] at H
                     have c27b0 : decide (55296 ≤ x10_2) = false := decide_eq_false c27
                     clear c27
                     simp only [Option.some.injEq, Prod.mk.injEq] at H
                     obtain ⟨rfl, rfl⟩ := H
                     go_wp2
                     go_ret2
                     exact ⟨by first | rfl | (simp; done) | (simp [*]; done), by repeat (first | exact Drawn0.refl _ | apply Drawn0.step)⟩
     · rw [if_neg c5] at H
       exact absurd H (by simp)
   · rw [if_neg c4] at H
     exact absurd H (by simp)

end Go.Proofs.YtigikjihagmokaaDoor.S
namespace Go.Proofs.YtigikjihagmokaaDoor.Gtr
open Go
theorem less_cons (a b : UInt8) (x y : List UInt8) : Op.bytesLess (a :: x) (b :: y) = (decide (a < b) || (a == b && Op.bytesLess x y)) := rfl
theorem turn (x : List UInt8) : ∀ (y : List UInt8), (!(Op.bytesLess x y || x == y)) = Op.bytesLess y x := by
  induction x with
  | nil =>
    intro y
    cases y with
    | nil => rfl
    | cons b y => rfl
  | cons a x ih =>
    intro y
    cases y with
    | nil => rfl
    | cons b y =>
      rw [less_cons, less_cons, ← ih y]
      have hlt : a < b ↔ a.toNat < b.toNat := UInt8.lt_iff_toNat_lt
      have hgt : b < a ↔ b.toNat < a.toNat := UInt8.lt_iff_toNat_lt
      have heq : a = b ↔ a.toNat = b.toNat := UInt8.toNat_inj.symm
      rcases Nat.lt_trichotomy a.toNat b.toNat with h | h | h
      · rw [decide_eq_true (hlt.2 h), decide_eq_false (fun e => by have := hgt.1 e; omega), show (b == a) = false from beq_eq_false_iff_ne.2 (fun e => by have := heq.1 e.symm; omega)]
        rfl
      · obtain rfl := heq.2 h
        rw [decide_eq_false (fun e => by have := hlt.1 e; omega), beq_self_eq_true]
        simp
      · rw [decide_eq_true (hgt.2 h), decide_eq_false (fun e => by have := hlt.1 e; omega), show (a == b) = false from beq_eq_false_iff_ne.2 (fun e => by have := heq.1 e; omega)]
        simp
        exact .inl fun e => by have := heq.1 e; omega
theorem run (P : Program) (w : World) (t : TypeId) (a : ByteArray) (l : Array UInt8) (b : Bool) (h : Op.bytesLess l.toList a.toList = b) : (binOp .gtr t (.string a) (.string ⟨l⟩)).run P w = .ok (.bool b) w := by
  have e : (⟨l⟩ : ByteArray).toList = l.toList := by rw [ByteArray.toList_eq]
  have e2 : binOp .gtr t (.string a) (.string ⟨l⟩) = pure (.bool !(Op.bytesLess a.toList (⟨l⟩ : ByteArray).toList || a.toList == (⟨l⟩ : ByteArray).toList)) := by simp [binOp, Op.stringOp]
  rw [e2, turn, e, h]
  rfl
end Go.Proofs.YtigikjihagmokaaDoor.Gtr
namespace Go.Proofs.YtigikjihagmokaaDoor.S
open Go.RowKit Go.Proofs.YtigikjihagmokaaDoorW.PrintWords Go.Proofs.YtigikjihagmokaaDoorW.PrintLast Go.Proofs.YtigikjihagmokaaDoorW.PrintMore Go.Proofs.YtigikjihagmokaaDoor.Q
attribute [local go_sem] max2_int min2_int max_two min_two max_three min_three max_four min_four   -- for this text's walks alone
set_option linter.unusedVariables false
set_option linter.unusedSimpArgs false

mutual
def idiomref01_Ident.j0 : Nat → ByteArray → Bool → Option (Int)
 | 0, _, _ => none
 | k + 1, x0, x31 => if x31 = true then (some 0) else (idiomref01_Ident.l0 k x0 0)
def idiomref01_Ident.l0 : Nat → ByteArray → Int → Option (Int)
 | 0, _, _ => none
 | k + 1, x0, x3 => if x3 < (x0.size : Int) then ((idiomref01_Step.f k x0 x3).bind fun bt120 => (if bt120.1 < 0 then (some 0) else ((idiomref01_Space.f (wrap32 (bt120.1))).bind fun t122 => (if t122 = true then (some 0) else ((idiomref01_Syntax.f k (wrap32 (bt120.1))).bind fun t123 => (if t123 = true then (some 0) else (idiomref01_Ident.l0 k x0 (wrap64 (x3 + bt120.2))))))))) else (some 1)
end
def idiomref01_Ident.f (k : Nat) (a0 : ByteArray) : Option (Int) := (idiomref01_Digits.f k a0).bind fun t118 => (if t118 = true then (if (a0.size : Int) > 10 then (some 0) else (if (a0.size : Int) = 10 then (if (Op.bytesLess ([50, 49, 52, 55, 52, 56, 51, 54, 52, 55] : List UInt8) a0.toList) = true then (some 0) else (some 2)) else (some 2))) else (if a0.toList = ([] : List UInt8) then (idiomref01_Ident.j0 k a0 true) else (if (a0.size : Int) > 64 then (idiomref01_Ident.j0 k a0 true) else (if 0 < (a0.size : Int) then ((idiomref01_Digit.f (bt a0 0)).bind fun t119 => (idiomref01_Ident.j0 k a0 t119)) else (none)))))
theorem idiomref01_Ident.mono_l : ∀ k, (∀ y0 y1, LeO (idiomref01_Ident.j0 k y0 y1) (idiomref01_Ident.j0 (k + 1) y0 y1)) ∧ (∀ y0 y1, LeO (idiomref01_Ident.l0 k y0 y1) (idiomref01_Ident.l0 (k + 1) y0 y1))
 | 0 => ⟨fun _ _ r h => by simp [idiomref01_Ident.j0] at h, fun _ _ r h => by simp [idiomref01_Ident.l0] at h⟩
 | k + 1 => by
  obtain ⟨ih0, ih1⟩ := idiomref01_Ident.mono_l k
  refine ⟨?_, ?_⟩
  · intro y0 y1
    unfold idiomref01_Ident.j0
    repeat' first
    | (with_reducible exact ih0 _ _)
    | (with_reducible exact ih1 _ _)
    | (with_reducible exact idiomref01_Digits.mono _ _)
    | (with_reducible exact idiomref01_Step.mono _ _ _)
    | (with_reducible exact idiomref01_Syntax.mono _ _)
    | (with_reducible exact LeO.refl _)
    | (with_reducible exact LeO.none _)
    | (with_reducible refine LeO.ite ?_ ?_)
    | (with_reducible refine LeO.bind ?_ (fun _ => ?_))
    | exact ih0 _ _
    | exact ih1 _ _
    | exact idiomref01_Digits.mono _ _
    | exact idiomref01_Step.mono _ _ _
    | exact idiomref01_Syntax.mono _ _
    | exact LeO.none _
    | refine LeO.ite ?_ ?_
    | refine LeO.bind ?_ (fun _ => ?_)
  · intro y0 y1
    unfold idiomref01_Ident.l0
    repeat' first
    | (with_reducible exact ih0 _ _)
    | (with_reducible exact ih1 _ _)
    | (with_reducible exact idiomref01_Digits.mono _ _)
    | (with_reducible exact idiomref01_Step.mono _ _ _)
    | (with_reducible exact idiomref01_Syntax.mono _ _)
    | (with_reducible exact LeO.refl _)
    | (with_reducible exact LeO.none _)
    | (with_reducible refine LeO.ite ?_ ?_)
    | (with_reducible refine LeO.bind ?_ (fun _ => ?_))
    | exact ih0 _ _
    | exact ih1 _ _
    | exact idiomref01_Digits.mono _ _
    | exact idiomref01_Step.mono _ _ _
    | exact idiomref01_Syntax.mono _ _
    | exact LeO.none _
    | refine LeO.ite ?_ ?_
    | refine LeO.bind ?_ (fun _ => ?_)
theorem idiomref01_Ident.mono : ∀ a0 k, LeO (idiomref01_Ident.f k a0) (idiomref01_Ident.f (k + 1) a0) := by
 intro a0 k
 obtain ⟨ih0, ih1⟩ := idiomref01_Ident.mono_l k
 unfold idiomref01_Ident.f
 repeat' first
  | (with_reducible exact ih0 _ _)
  | (with_reducible exact ih1 _ _)
  | (with_reducible exact idiomref01_Digits.mono _ _)
  | (with_reducible exact idiomref01_Step.mono _ _ _)
  | (with_reducible exact idiomref01_Syntax.mono _ _)
  | (with_reducible exact LeO.refl _)
  | (with_reducible exact LeO.none _)
  | (with_reducible refine LeO.ite ?_ ?_)
  | (with_reducible refine LeO.bind ?_ (fun _ => ?_))
  | exact ih0 _ _
  | exact ih1 _ _
  | exact idiomref01_Digits.mono _ _
  | exact idiomref01_Step.mono _ _ _
  | exact idiomref01_Syntax.mono _ _
  | exact LeO.none _
  | refine LeO.ite ?_ ?_
  | refine LeO.bind ?_ (fun _ => ?_)
set_option maxHeartbeats 8000000 in
set_option maxRecDepth 100000 in
theorem idiomref01_Ident.calls (k : Nat) (a0 : ByteArray) (r : Int) (w : World) (h : idiomref01_Ident.f k a0 = some r) :
 Calls Tryd.prog 18 #[.string a0] w fun e w' => e = .returned (.int .i64 r) ∧ Below w.heap.size w w' := by
 have HB := Aside0.mk (Below.refl w.heap.size w)
 have H : ((idiomref01_Digits.f k a0).bind fun t118 => (if t118 = true then (if (a0.size : Int) > 10 then (some 0) else (if (a0.size : Int) = 10 then (if (Op.bytesLess ([50, 49, 52, 55, 52, 56, 51, 54, 52, 55] : List UInt8) a0.toList) = true then (some 0) else (some 2)) else (some 2))) else (if a0.toList = ([] : List UInt8) then (idiomref01_Ident.j0 k a0 true) else (if (a0.size : Int) > 64 then (idiomref01_Ident.j0 k a0 true) else (if 0 < (a0.size : Int) then ((idiomref01_Digit.f (bt a0 0)).bind fun t119 => (idiomref01_Ident.j0 k a0 t119)) else (none)))))) = some r := h
 clear h
 replace H := Option.bind_eq_some_iff.mp H
 obtain ⟨t118, A20, H⟩ := H
 replace H : (if t118 = true then (if (a0.size : Int) > 10 then (some 0) else (if (a0.size : Int) = 10 then (if (Op.bytesLess ([50, 49, 52, 55, 52, 56, 51, 54, 52, 55] : List UInt8) a0.toList) = true then (some 0) else (some 2)) else (some 2))) else (if a0.toList = ([] : List UInt8) then (idiomref01_Ident.j0 k a0 true) else (if (a0.size : Int) > 64 then (idiomref01_Ident.j0 k a0 true) else (if 0 < (a0.size : Int) then ((idiomref01_Digit.f (bt a0 0)).bind fun t119 => (idiomref01_Ident.j0 k a0 t119)) else (none))))) = some r := H
 have A2 := Aside0.mk A20
 clear A20
 by_cases c3 : t118 = true
 · subst c3
   have H1 : (if (a0.size : Int) > 10 then (some 0) else (if (a0.size : Int) = 10 then (if (Op.bytesLess ([50, 49, 52, 55, 52, 56, 51, 54, 52, 55] : List UInt8) a0.toList) = true then (some 0) else (some 2)) else (some 2))) = some r := by rw [if_pos rfl] at H; exact H
   clear H
   have H := H1
   clear H1
   by_cases c4 : (a0.size : Int) > 10
   · rw [if_pos c4] at H
     have c4b0 : decide (10 < (a0.size : Int)) = true := decide_eq_true c4
     have c4b1 : decide (10 < a0.size) = true := decide_eq_true (by omega)
     clear c4
     obtain rfl := Option.some.inj H
     go_enter Tryd.func18, Tryd.ntmps18
     go_wp2_with (first | ((with_reducible refine gate_callee (f := 34) rfl ?_); refine goesL_ (some 7) rfl rfl Tryd.func34 (by kernel_rfl) rfl #[.string a0] rfl ql ?_; (with_reducible refine (idiomref01_Digits.calls k a0 true _ A2.out).mono ?_); rintro e w' ⟨rfl, ⟨nd, rfl⟩⟩; refine ⟨_, rfl, ?_⟩))
     go_ret
     exact ⟨qe, qh HB⟩
   · rw [if_neg c4] at H
     have c4b0 : decide (10 < (a0.size : Int)) = false := decide_eq_false c4
     have c4b1 : decide (10 < a0.size) = false := decide_eq_false (by omega)
     clear c4
     by_cases c5 : (a0.size : Int) = 10
     · rw [if_pos c5] at H
       have c5b0 : ((a0.size : Int) == 10) = true := beq_iff_eq.mpr c5
       have c5b1 : ((a0.size : Int) != 10) = false := bne_eq_false_iff_eq.mpr c5
       try have c5b1z := c5b1
       (try simp only [bne] at c5b1z)
       clear c5
       by_cases c6 : (Op.bytesLess ([50, 49, 52, 55, 52, 56, 51, 54, 52, 55] : List UInt8) a0.toList) = true
       · rw [if_pos c6] at H
         have c6b0 : (Op.bytesLess ([50, 49, 52, 55, 52, 56, 51, 54, 52, 55] : List UInt8) a0.toList) = true := c6
         have c6b0g := fun (w_ : World) (t_ : TypeId) => Gtr.run Tryd.prog w_ t_ a0 #[50, 49, 52, 55, 52, 56, 51, 54, 52, 55] true c6b0
         clear c6
         obtain rfl := Option.some.inj H
         go_enter Tryd.func18, Tryd.ntmps18
         go_wp2_with (first | ((with_reducible refine gate_callee (f := 34) rfl ?_); refine goesL_ (some 7) rfl rfl Tryd.func34 (by kernel_rfl) rfl #[.string a0] rfl ql ?_; (with_reducible refine (idiomref01_Digits.calls k a0 true _ A2.out).mono ?_); rintro e w' ⟨rfl, ⟨nd, rfl⟩⟩; refine ⟨_, rfl, ?_⟩))
         go_ret
         exact ⟨qe, qh HB⟩
       · rw [if_neg c6] at H
         have c6b0 : (Op.bytesLess ([50, 49, 52, 55, 52, 56, 51, 54, 52, 55] : List UInt8) a0.toList) = false := by simpa using c6
         have c6b0g := fun (w_ : World) (t_ : TypeId) => Gtr.run Tryd.prog w_ t_ a0 #[50, 49, 52, 55, 52, 56, 51, 54, 52, 55] false c6b0
         clear c6
         obtain rfl := Option.some.inj H
         go_enter Tryd.func18, Tryd.ntmps18
         go_wp2_with (first | ((with_reducible refine gate_callee (f := 34) rfl ?_); refine goesL_ (some 7) rfl rfl Tryd.func34 (by kernel_rfl) rfl #[.string a0] rfl ql ?_; (with_reducible refine (idiomref01_Digits.calls k a0 true _ A2.out).mono ?_); rintro e w' ⟨rfl, ⟨nd, rfl⟩⟩; refine ⟨_, rfl, ?_⟩))
         go_ret
         exact ⟨qe, qh HB⟩
     · rw [if_neg c5] at H
       have c5b0 : ((a0.size : Int) == 10) = false := beq_eq_false_iff_ne.mpr c5
       have c5b1 : ((a0.size : Int) != 10) = true := bne_iff_ne.mpr c5
       try have c5b1z := c5b1
       (try simp only [bne] at c5b1z)
       obtain rfl := Option.some.inj H
       go_enter Tryd.func18, Tryd.ntmps18
       go_wp2_with (first | ((with_reducible refine gate_callee (f := 34) rfl ?_); refine goesL_ (some 7) rfl rfl Tryd.func34 (by kernel_rfl) rfl #[.string a0] rfl ql ?_; (with_reducible refine (idiomref01_Digits.calls k a0 true _ A2.out).mono ?_); rintro e w' ⟨rfl, ⟨nd, rfl⟩⟩; refine ⟨_, rfl, ?_⟩))
       go_ret
       exact ⟨qe, qh HB⟩
 · replace c3 := Bool.eq_false_iff.mpr c3
   subst c3
   have H1 : (if a0.toList = ([] : List UInt8) then (idiomref01_Ident.j0 k a0 true) else (if (a0.size : Int) > 64 then (idiomref01_Ident.j0 k a0 true) else (if 0 < (a0.size : Int) then ((idiomref01_Digit.f (bt a0 0)).bind fun t119 => (idiomref01_Ident.j0 k a0 t119)) else (none)))) = some r := by rw [if_neg (show ¬ (false = true) by decide)] at H; exact H
   clear H
   have H := H1
   clear H1
   have HC7 := Aside0.mk H
   clear H
   go_enter Tryd.func18, Tryd.ntmps18
   go_upto_region 5 with (first | ((with_reducible refine gate_callee (f := 34) rfl ?_); refine goesL_ (some 7) rfl rfl Tryd.func34 (by kernel_rfl) rfl #[.string a0] rfl ql ?_; (with_reducible refine (idiomref01_Digits.calls k a0 false _ A2.out).mono ?_); rintro e w' ⟨rfl, ⟨nd, rfl⟩⟩; refine ⟨_, rfl, ?_⟩))
   (try simp only [Act.put, List.setIfInBounds_toArray, List.set_cons_zero, List.set_cons_succ])
   go_cut [31] (fun v31 wc => ∃ (kq : Nat) (x31_6 : Bool), v31 = .bool x31_6 ∧ Aside0 (idiomref01_Ident.j0 kq a0 x31_6 = some r) ∧ Aside0 (kq ≤ k) ∧ Aside0 (Below w.heap.size w wc))
   case first =>
    have H := HC7.out
    clear HC7
    by_cases c8 : a0.toList = ([] : List UInt8)
    · rw [if_pos c8] at H
      have c8b0 : (a0.toList == ([] : List UInt8)) = true := beq_iff_eq.mpr c8
      try have c8b0z := Aid.empty_of c8b0
      have c8b1 : (a0.toList != ([] : List UInt8)) = false := bne_eq_false_iff_eq.mpr c8
      clear c8
      (first | rw [c8b0] | rw [c8b0z] | (simp only [i64_w, i32_w]; rw [c8b0]) | skip)
      have H' := Aside0.mk H
      clear H
      go_wp2
      go_meet
      case rel => exact ⟨_, (true), (by first | rfl | (simp; done) | (simp [*]; done)), H', ⟨by first | omega | exact Nat.le_refl _⟩, ⟨qh HB⟩⟩
    · rw [if_neg c8] at H
      have c8b0 : (a0.toList == ([] : List UInt8)) = false := beq_eq_false_iff_ne.mpr c8
      try have c8b0z := Aid.empty_of c8b0
      have c8b1 : (a0.toList != ([] : List UInt8)) = true := bne_iff_ne.mpr c8
      (first | rw [c8b0] | rw [c8b0z] | (simp only [i64_w, i32_w]; rw [c8b0]) | skip)
      by_cases c9 : (a0.size : Int) > 64
      · rw [if_pos c9] at H
        have c9b0 : decide (64 < (a0.size : Int)) = true := decide_eq_true c9
        have c9b1 : decide (64 < a0.size) = true := decide_eq_true (by omega)
        clear c9
        have H' := Aside0.mk H
        clear H
        go_wp2
        go_meet
        case rel => exact ⟨_, (true), (by first | rfl | (simp; done) | (simp [*]; done)), H', ⟨by first | omega | exact Nat.le_refl _⟩, ⟨qh HB⟩⟩
      · rw [if_neg c9] at H
        have c9b0 : decide (64 < (a0.size : Int)) = false := decide_eq_false c9
        have c9b1 : decide (64 < a0.size) = false := decide_eq_false (by omega)
        clear c9
        by_cases c10 : 0 < (a0.size : Int)
        · rw [if_pos c10] at H
          have c10b0 : decide (0 < (a0.size : Int)) = true := decide_eq_true c10
          have c10b1 : decide (0 < a0.size) = true := decide_eq_true (by omega)
          clear c10
          replace H := Option.bind_eq_some_iff.mp H
          obtain ⟨t119, A120, H⟩ := H
          replace H : (idiomref01_Ident.j0 k a0 t119) = some r := H
          have A12 := Aside0.mk A120
          clear A120
          have H' := Aside0.mk H
          clear H
          have p11 : 0 ≤ (0 : Int) := (by omega)
          have q11 : 0 < a0.size := (by have : (0 : Int) < (a0.size : Int) := of_decide_eq_true qa; omega)
          have hx11 : ∀ h : 0 < a0.size, ((a0[0]'h).toNat : Int) = bt a0 0 := bt_at a0 0
          clear p11
          have qi11 : (0 < (a0.size : Int)) = True := eq_true (of_decide_eq_true qa)
          replace q11 := eq_true q11
          go_wp2_with (first | (go_at_call 35; (with_reducible refine (idiomref01_Digit.calls (bt a0 0) t119 _ A12.out).mono ?_); rintro e w' ⟨rfl, ⟨nd, rfl⟩⟩))
          go_meet
          case rel => exact ⟨_, (t119), (by first | rfl | (simp; done) | (simp [*]; done)), H', ⟨by first | omega | exact Nat.le_refl _⟩, ⟨qh HB⟩⟩
        · rw [if_neg c10] at H
          exact absurd H (by simp)
   case rest =>
    clear HC7
    try clear c1
    try clear p1
    try clear q1
    try clear hx1
    try clear qi1
    try clear p2
    try clear c3
    try clear c4
    try clear c4b0
    try clear c4b1
    try clear c5
    try clear c5b0
    try clear c5b1
    try clear c6
    try clear c6b0
    try clear c8
    try clear c8b0
    try clear c8b1
    try clear c9
    try clear c9b0
    try clear c9b1
    try clear c10
    try clear c10b0
    try clear c10b1
    try clear p11
    try clear q11
    try clear hx11
    try clear qi11
    try clear p11
    try clear q11
    obtain ⟨kq, x31_6, rfl, HA, HJ6, HB⟩ := hcut
    cases kq with
    | zero => exact absurd HA.out (by simp [idiomref01_Ident.j0])
    | succ kj6 =>
     have H := HA.out
     clear HA
     simp only [idiomref01_Ident.j0] at H
     by_cases c13 : x31_6 = true
     · subst c13
       have H1 : (some 0) = some r := by rw [if_pos rfl] at H; exact H
       clear H
       have H := H1
       clear H1
       obtain rfl := Option.some.inj H
       go_wp2
       go_ret
       exact ⟨qe, qh HB⟩
     · replace c13 := Bool.eq_false_iff.mpr c13
       subst c13
       have H1 : (idiomref01_Ident.l0 kj6 a0 0) = some r := by rw [if_neg (show ¬ (false = true) by decide)] at H; exact H
       clear H
       have H := H1
       clear H1
       have H' := Aside0.mk H
       clear H
       go_wp2
       (try simp only [Act.put, List.setIfInBounds_toArray, List.set_cons_zero, List.set_cons_succ])
       go_loopg [3] kj6 (fun kq v3 w' => ∃ (x3_2 : Int), v3 = .int .i64 x3_2 ∧ Aside0 (idiomref01_Ident.l0 kq a0 x3_2 = some r) ∧ Aside0 (kq ≤ kj6) ∧ Aside0 (Below w.heap.size w w'))
       case atStart => exact ⟨(0), (by first | rfl | (simp; done) | (simp [*]; done)), H', ⟨Nat.le_refl _⟩, ⟨qh HB⟩⟩
       case round =>
        clear H'
        try clear c1
        try clear p1
        try clear q1
        try clear hx1
        try clear qi1
        try clear p2
        try clear c3
        try clear c4
        try clear c4b0
        try clear c4b1
        try clear c5
        try clear c5b0
        try clear c5b1
        try clear c6
        try clear c6b0
        try clear c8
        try clear c8b0
        try clear c8b1
        try clear c9
        try clear c9b0
        try clear c9b1
        try clear c10
        try clear c10b0
        try clear c10b1
        try clear p11
        try clear q11
        try clear hx11
        try clear qi11
        try clear c13
        try clear p1
        try clear p11
        try clear p2
        try clear q1
        try clear q11
        obtain ⟨x3_2, rfl, HA, HK2, HB⟩ := hrel
        cases gk with
        | zero => exact absurd HA.out (by simp [idiomref01_Ident.l0])
        | succ k2 =>
         have H := HA.out
         clear HA
         simp only [idiomref01_Ident.l0] at H
         by_cases c14 : x3_2 < (a0.size : Int)
         · rw [if_pos c14] at H
           have c14b0 : decide (x3_2 < (a0.size : Int)) = true := decide_eq_true c14
           clear c14
           replace H := Option.bind_eq_some_iff.mp H
           obtain ⟨⟨t120, t121⟩, A150, H⟩ := H
           replace H : (if t120 < 0 then (some 0) else ((idiomref01_Space.f (wrap32 (t120))).bind fun t122 => (if t122 = true then (some 0) else ((idiomref01_Syntax.f k2 (wrap32 (t120))).bind fun t123 => (if t123 = true then (some 0) else (idiomref01_Ident.l0 k2 a0 (wrap64 (x3_2 + t121)))))))) = some r := H
           have A15 := Aside0.mk A150
           clear A150
           by_cases c16 : t120 < 0
           · rw [if_pos c16] at H
             have c16b0 : decide (t120 < 0) = true := decide_eq_true c16
             clear c16
             obtain rfl := Option.some.inj H
             go_wp2_with (first | ((with_reducible refine gate_callee (f := 36) rfl ?_); refine goesL_ (some 39) rfl rfl Tryd.func36 (by kernel_rfl) rfl #[.string a0, .int .i64 x3_2] rfl ql ?_; (with_reducible refine (idiomref01_Step.calls k2 a0 x3_2 t120 t121 _ A15.out).mono ?_); rintro e w' ⟨rfl, ⟨nd, rfl⟩⟩; refine ⟨_, rfl, ?_⟩))
             go_ret
             exact ⟨qe, qh HB⟩
           · rw [if_neg c16] at H
             have c16b0 : decide (t120 < 0) = false := decide_eq_false c16
             clear c16
             replace H := Option.bind_eq_some_iff.mp H
             obtain ⟨t122, A170, H⟩ := H
             replace H : (if t122 = true then (some 0) else ((idiomref01_Syntax.f k2 (wrap32 (t120))).bind fun t123 => (if t123 = true then (some 0) else (idiomref01_Ident.l0 k2 a0 (wrap64 (x3_2 + t121)))))) = some r := H
             have A17 := Aside0.mk A170
             clear A170
             by_cases c18 : t122 = true
             · subst c18
               have H1 : (some 0) = some r := by rw [if_pos rfl] at H; exact H
               clear H
               have H := H1
               clear H1
               obtain rfl := Option.some.inj H
               go_wp2_with (first | ((with_reducible refine gate_callee (f := 36) rfl ?_); refine goesL_ (some 39) rfl rfl Tryd.func36 (by kernel_rfl) rfl #[.string a0, .int .i64 x3_2] rfl ql ?_; (with_reducible refine (idiomref01_Step.calls k2 a0 x3_2 t120 t121 _ A15.out).mono ?_); rintro e w' ⟨rfl, ⟨nd, rfl⟩⟩; refine ⟨_, rfl, ?_⟩) | (go_at_call 13; (with_reducible refine (idiomref01_Space.calls (wrap32 (t120)) true _ A17.out).mono ?_); rintro e w' ⟨rfl, ⟨nd, rfl⟩⟩))
               go_ret
               exact ⟨qe, qh HB⟩
             · replace c18 := Bool.eq_false_iff.mpr c18
               subst c18
               have H1 : ((idiomref01_Syntax.f k2 (wrap32 (t120))).bind fun t123 => (if t123 = true then (some 0) else (idiomref01_Ident.l0 k2 a0 (wrap64 (x3_2 + t121))))) = some r := by rw [if_neg (show ¬ (false = true) by decide)] at H; exact H
               clear H
               have H := H1
               clear H1
               replace H := Option.bind_eq_some_iff.mp H
               obtain ⟨t123, A190, H⟩ := H
               replace H : (if t123 = true then (some 0) else (idiomref01_Ident.l0 k2 a0 (wrap64 (x3_2 + t121)))) = some r := H
               have A19 := Aside0.mk A190
               clear A190
               by_cases c20 : t123 = true
               · subst c20
                 have H1 : (some 0) = some r := by rw [if_pos rfl] at H; exact H
                 clear H
                 have H := H1
                 clear H1
                 obtain rfl := Option.some.inj H
                 go_wp2_with (first | ((with_reducible refine gate_callee (f := 36) rfl ?_); refine goesL_ (some 39) rfl rfl Tryd.func36 (by kernel_rfl) rfl #[.string a0, .int .i64 x3_2] rfl ql ?_; (with_reducible refine (idiomref01_Step.calls k2 a0 x3_2 t120 t121 _ A15.out).mono ?_); rintro e w' ⟨rfl, ⟨nd, rfl⟩⟩; refine ⟨_, rfl, ?_⟩) | (go_at_call 13; (with_reducible refine (idiomref01_Space.calls (wrap32 (t120)) false _ A17.out).mono ?_); rintro e w' ⟨rfl, ⟨nd, rfl⟩⟩) | (go_at_call 15; (with_reducible refine (idiomref01_Syntax.calls k2 (wrap32 (t120)) true _ A19.out).mono ?_); rintro e w21 ⟨rfl, hb⟩; replace HB := qn HB hb; (try clear hb); (try clear hb2); (try clear hk); (try clear hi)))
                 go_ret
                 exact ⟨qe, qh HB⟩
               · replace c20 := Bool.eq_false_iff.mpr c20
                 subst c20
                 have H1 : (idiomref01_Ident.l0 k2 a0 (wrap64 (x3_2 + t121))) = some r := by rw [if_neg (show ¬ (false = true) by decide)] at H; exact H
                 clear H
                 have H := H1
                 clear H1
                 have H' := Aside0.mk H
                 clear H
                 go_wp2_with (first | ((with_reducible refine gate_callee (f := 36) rfl ?_); refine goesL_ (some 39) rfl rfl Tryd.func36 (by kernel_rfl) rfl #[.string a0, .int .i64 x3_2] rfl ql ?_; (with_reducible refine (idiomref01_Step.calls k2 a0 x3_2 t120 t121 _ A15.out).mono ?_); rintro e w' ⟨rfl, ⟨nd, rfl⟩⟩; refine ⟨_, rfl, ?_⟩) | (go_at_call 13; (with_reducible refine (idiomref01_Space.calls (wrap32 (t120)) false _ A17.out).mono ?_); rintro e w' ⟨rfl, ⟨nd, rfl⟩⟩) | (go_at_call 15; (with_reducible refine (idiomref01_Syntax.calls k2 (wrap32 (t120)) false _ A19.out).mono ?_); rintro e w22 ⟨rfl, hb⟩; replace HB := qn HB hb; (try clear hb); (try clear hb2); (try clear hk); (try clear hi)))
                 go_roundg k2
                 case measure => have := HJ6.out; have := HK2.out; omega
                 case rel => exact ⟨(wrap64 (x3_2 + t121)), (by first | rfl | (simp; done) | (simp [*]; done)), H', ⟨by have := HJ6.out; have := HK2.out; omega⟩, ⟨qh HB⟩⟩
         · rw [if_neg c14] at H
           have c14b0 : decide (x3_2 < (a0.size : Int)) = false := decide_eq_false c14
           clear c14
           obtain rfl := Option.some.inj H
           go_wp2
           go_ret
           exact ⟨qe, qh HB⟩

end Go.Proofs.YtigikjihagmokaaDoor.S
namespace Go.Proofs.YtigikjihagmokaaDoor.S
open Go.RowKit Go.Proofs.YtigikjihagmokaaDoorW.PrintWords Go.Proofs.YtigikjihagmokaaDoorW.PrintLast Go.Proofs.YtigikjihagmokaaDoorW.PrintMore Go.Proofs.YtigikjihagmokaaDoor.Q
attribute [local go_sem] max2_int min2_int max_two min_two max_three min_three max_four min_four   -- for this text's walks alone
set_option linter.unusedVariables false
set_option linter.unusedSimpArgs false

def idiomlaw01_RunesIdents.f (k : Nat) (a0 : ByteArray) : Option (Bool) := (runes_Ident.f a0).bind fun t124 => ((idiomref01_Ident.f k a0).bind fun t125 => (if t124 = t125 then ((idiomlaw01_awake.f).bind fun t126 => (some t126)) else (none)))
theorem idiomlaw01_RunesIdents.mono : ∀ a0 k, LeO (idiomlaw01_RunesIdents.f k a0) (idiomlaw01_RunesIdents.f (k + 1) a0) := by
 intro a0 k
 unfold idiomlaw01_RunesIdents.f
 repeat' first
  | (with_reducible exact idiomref01_Ident.mono _ _)
  | (with_reducible exact LeO.refl _)
  | (with_reducible exact LeO.none _)
  | (with_reducible refine LeO.ite ?_ ?_)
  | (with_reducible refine LeO.bind ?_ (fun _ => ?_))
  | exact idiomref01_Ident.mono _ _
  | exact LeO.none _
  | refine LeO.ite ?_ ?_
  | refine LeO.bind ?_ (fun _ => ?_)
set_option maxHeartbeats 8000000 in
set_option maxRecDepth 100000 in
theorem idiomlaw01_RunesIdents.calls (k : Nat) (a0 : ByteArray) (r : Bool) (w : World) (h : idiomlaw01_RunesIdents.f k a0 = some r) (hG_ : Num.Tabs w) :
 Calls Tryd.prog 4 #[.string a0] w fun e w' => e = .returned (.bool r) ∧ Below w.heap.size w w' := by
 have HG := Aside0.mk hG_
 clear hG_
 have HB := Aside0.mk (Below.refl w.heap.size w)
 have H : ((runes_Ident.f a0).bind fun t124 => ((idiomref01_Ident.f k a0).bind fun t125 => (if t124 = t125 then ((idiomlaw01_awake.f).bind fun t126 => (some t126)) else (none)))) = some r := h
 clear h
 replace H := Option.bind_eq_some_iff.mp H
 obtain ⟨t124, A20, H⟩ := H
 replace H : ((idiomref01_Ident.f k a0).bind fun t125 => (if t124 = t125 then ((idiomlaw01_awake.f).bind fun t126 => (some t126)) else (none))) = some r := H
 have A2 := Aside0.mk A20
 clear A20
 replace H := Option.bind_eq_some_iff.mp H
 obtain ⟨t125, A30, H⟩ := H
 replace H : (if t124 = t125 then ((idiomlaw01_awake.f).bind fun t126 => (some t126)) else (none)) = some r := H
 have A3 := Aside0.mk A30
 clear A30
 by_cases c4 : t124 = t125
 · rw [if_pos c4] at H
   have c4b0 : (t124 == t125) = true := beq_iff_eq.mpr c4
   have c4b1 : (t124 != t125) = false := bne_eq_false_iff_eq.mpr c4
   try have c4b1z := c4b1
   (try simp only [bne] at c4b1z)
   clear c4
   replace H := Option.bind_eq_some_iff.mp H
   obtain ⟨t126, A50, H⟩ := H
   replace H : (some t126) = some r := H
   have A5 := Aside0.mk A50
   clear A50
   obtain rfl := Option.some.inj H
   go_enter Tryd.func4, Tryd.ntmps4
   go_wp2_with (first | ((with_reducible refine gate_callee (f := 17) rfl ?_); refine goesL_ (some 4) rfl rfl Tryd.func17 (by kernel_rfl) rfl #[.string a0] rfl ql ?_; (with_reducible refine (runes_Ident.calls a0 t124 _ A2.out (by first | exact HG.out | exact HG.out.below HB.out | exact HG.out.below (pw_below_drewN HB.out _) | exact HG.out.below (below_drew HB.out) | exact HG.out.below (by assumption))).mono ?_); rintro e w6 ⟨rfl, hb⟩; refine ⟨_, rfl, ?_⟩; replace HB := qn HB hb; (try clear hb); (try clear hb2); (try clear hk); (try clear hi)) | ((with_reducible refine gate_callee (f := 18) rfl ?_); refine goesL_ (some 6) rfl rfl Tryd.func18 (by kernel_rfl) rfl #[.string a0] rfl ql ?_; (with_reducible refine (idiomref01_Ident.calls k a0 t125 _ A3.out).mono ?_); rintro e w7 ⟨rfl, hb⟩; refine ⟨_, rfl, ?_⟩; replace HB := qn HB hb; (try clear hb); (try clear hb2); (try clear hk); (try clear hi)) | (go_at_call 16; (with_reducible refine (idiomlaw01_awake.calls  t126 _ A5.out (by first | exact HG.out | exact HG.out.below HB.out | exact HG.out.below (pw_below_drewN HB.out _) | exact HG.out.below (below_drew HB.out) | exact HG.out.below (by assumption))).mono ?_); rintro e w8 ⟨rfl, hb⟩; replace HB := qn HB hb; (try clear hb); (try clear hb2); (try clear hk); (try clear hi)))
   go_ret
   exact ⟨qe, qh HB⟩
 · rw [if_neg c4] at H
   exact absurd H (by simp)

/-- THE ONE PURE STATEMENT of idiomlaw01_RunesIdents: yours. -/
def idiomlaw01_RunesIdents.Pure : Prop := ∀ (a0 : ByteArray), a0.size ≤ 140737488351232 → ∃ k, idiomlaw01_RunesIdents.f k a0 = some true
end Go.Proofs.YtigikjihagmokaaDoor.S
set_option linter.unusedVariables false
set_option linter.unusedSimpArgs false
namespace Go.Proofs.YtigikjihagmokaaDoor.AwakeI
open Go.RowKit Go.Proofs.YtigikjihagmokaaDoorW.PrintWords Go.Proofs.YtigikjihagmokaaDoorW.PrintLast Go.Proofs.YtigikjihagmokaaDoorW.PrintMore Go.Proofs.YtigikjihagmokaaDoor.S
theorem Ev.some {α : Type} {g : Nat → Option α} {r : α} (h : ∀ k, g (k + 1) = some r) : Ev g r := Ev.step (f := fun _ => Option.some r) h (Ev.now r)
theorem w64 {x : Int} (h0 : -9223372036854775808 ≤ x) (h1 : x ≤ 9223372036854775807) : wrap64 x = x := by unfold wrap64; omega
theorem toL (l : Array UInt8) : (⟨l⟩ : ByteArray).toList = l.toList := by rw [ByteArray.toList_eq]
theorem name_n : IdentW.name_ ⟨#[110]⟩ 2 0 = true := by
  have h : 0 < (⟨#[110]⟩ : ByteArray).size := by show 0 < 1; omega
  have ha : ((⟨#[110]⟩ : ByteArray)[0]'h).toNat < 128 := by show (110 : Nat) < 128; omega
  have hd : Utf8.decode (⟨#[110]⟩ : ByteArray) 0 = (110, 1) := decode_ascii _ 0 h ha
  rw [IdentW.name_at _ 1 0 h]
  unfold Stray.strayB
  rw [hd, if_neg (by decide), if_neg (by decide), if_neg (by decide)]
  exact IdentW.name_end _ _ _ (by show ¬ 0 + 1 < 1; omega)
theorem ident_n : IdentW.ident ⟨#[110]⟩ = 1 := by
  unfold IdentW.ident
  have s1 : (⟨#[110]⟩ : ByteArray).size = 1 := rfl
  have g0 : ((⟨#[110]⟩ : ByteArray).get! 0).toNat = 110 := rfl
  rw [s1, g0, if_neg (by omega), if_neg (by omega), if_neg (by omega), if_pos name_n]
theorem awake : idiomlaw01_awake.f = some true := by
  have p0 : Fill.piece ⟨#[123, 49, 125, 45, 123, 48, 125]⟩ [(⟨#[97]⟩ : ByteArray), ⟨#[98]⟩] 0 = some (⟨#[98]⟩, 3) := by
    unfold Fill.piece
    rw [if_pos (by rw [ByteArray.toList_eq]; rfl)]
    rfl
  have p3 : Fill.piece ⟨#[123, 49, 125, 45, 123, 48, 125]⟩ [(⟨#[97]⟩ : ByteArray), ⟨#[98]⟩] 3 = some (⟨#[45]⟩, 4) := by
    unfold Fill.piece
    rw [if_neg (by rw [ByteArray.toList_eq]; decide)]
    rfl
  have p4 : Fill.piece ⟨#[123, 49, 125, 45, 123, 48, 125]⟩ [(⟨#[97]⟩ : ByteArray), ⟨#[98]⟩] 4 = some (⟨#[97]⟩, 7) := by
    unfold Fill.piece
    rw [if_pos (by rw [ByteArray.toList_eq]; rfl)]
    rfl
  have sz : ((⟨#[123, 49, 125, 45, 123, 48, 125]⟩ : ByteArray).size : Int) = 7 := rfl
  have s1 : ((⟨#[98]⟩ : ByteArray).size : Int) = 1 := rfl
  have s2 : ((⟨#[45]⟩ : ByteArray).size : Int) = 1 := rfl
  have s3 : ((⟨#[97]⟩ : ByteArray).size : Int) = 1 := rfl
  have e : Fill.f ⟨#[123, 49, 125, 45, 123, 48, 125]⟩ [(⟨#[97]⟩ : ByteArray), ⟨#[98]⟩] = (⟨#[98, 45, 97]⟩, 0) := by
    unfold Fill.f
    rw [sz, if_neg (by decide), show (⟨#[123, 49, 125, 45, 123, 48, 125]⟩ : ByteArray).size + 1 = 8 from rfl]
    simp only [Fill.go]
    rw [sz, if_pos (by decide), p0]
    simp only []
    rw [s1, if_neg (by decide), if_pos (by decide), p3]
    simp only []
    rw [s2, if_neg (by decide), if_pos (by decide), p4]
    simp only []
    rw [s3, if_neg (by decide), if_neg (by decide)]
    rfl
  unfold idiomlaw01_awake.f runes_Fill.f
  rw [e, Option.bind_some]
  simp only []
  rw [if_pos (by rw [toL])]
  simp only [if_true]
  unfold runes_Ident.f
  rw [if_pos (by show (1 : Nat) ≤ _; omega), ident_n]
  rfl
theorem awake_ev : Ev (fun _ : Nat => idiomlaw01_awake.f.bind fun t => some t) true := by rw [awake]; exact Ev.now _
end Go.Proofs.YtigikjihagmokaaDoor.AwakeI
