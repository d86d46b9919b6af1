/- What 'round.one' writes: one more, of a whole number's digits. By hand over the kit's walk. -/
import Derived.Test.YtpmhebdaphjinaaDoorProg
import Derived.Test.YtpmhebdaphjinaaDoorAid
namespace Go.Proofs.YtpmhebdaphjinaaDoor.RoundOne
open Go.RowKit Go.Proofs.YtpmhebdaphjinaaDoorW.PrintWords Go.Proofs.YtpmhebdaphjinaaDoor.Aid
set_option linter.unusedVariables false
set_option linter.unusedSimpArgs false
def inc : List Int → List Int
  | [] => [49]
  | c :: t => if c = 57 then 48 :: inc t else ((c + 1) % 256) :: t
def f (a0 : ByteArray) : Option (ByteArray) := if a0.size ≤ 140737488351232 then some (strOfNums (inc (nums8 a0).reverse).reverse) else none
/-- After all but the first k numbers are gone over (all of them 57): these are 48. -/
def mid (l : List Int) (k : Nat) : List Int := l.take k ++ List.replicate (l.length - k) 48
theorem mid_all (l : List Int) : mid l l.length = l := by simp [mid]
theorem mid_length (l : List Int) (k : Nat) (h : k ≤ l.length) : (mid l k).length = l.length := by simp [mid]; omega
theorem mid_get (l : List Int) (j : Nat) (h : j < l.length) : (mid l (j + 1)).getD j 0 = l.getD j 0 := by
  have h2 : j < (l.take (j + 1)).length := by simp; omega
  simp only [mid, List.getD_eq_getElem?_getD]
  rw [List.getElem?_append_left h2]
  simp [h]
theorem mid_set (l : List Int) (j : Nat) (h : j < l.length) : (mid l (j + 1)).set j 48 = mid l j := by
  apply List.ext_getElem?
  intro i
  simp only [mid, List.getElem?_set]
  by_cases e : j = i
  · subst e
    have h1 : ¬ j < min j l.length := by omega
    have h2 : j < l.length - j + min j l.length := by omega
    simp only [List.getElem?_append, List.length_append, List.length_take, List.length_replicate, if_true, if_neg h1, List.getElem?_replicate]
    rw [if_pos (by omega), if_pos (by omega)]
  · simp only [if_neg e, List.getElem?_append, List.length_take, List.getElem?_take, List.getElem?_replicate]
    repeat' split <;> try omega
    all_goals try rfl
theorem inc_all : ∀ (t u : List Int), (∀ x ∈ t, x = 57) → inc (t ++ u) = List.replicate t.length 48 ++ inc u
  | [], u, _ => by simp
  | c :: t, u, h => by
    have hc : c = 57 := h c (by simp)
    subst hc
    simp only [List.cons_append, inc, if_true, List.length_cons, List.replicate_succ]
    rw [inc_all t u (fun x hx => h x (by simp [hx]))]
/-- What is left to go over decides the rest. -/
theorem inc_mid (l : List Int) (j : Nat) (h : j < l.length) (h9 : ∀ x ∈ l.drop (j + 1), x = 57) (hx : l.getD j 0 ≠ 57) :
    (inc l.reverse).reverse = (mid l (j + 1)).set j ((l.getD j 0 + 1) % 256) := by
  have e : l.reverse = (l.drop (j + 1)).reverse ++ (l.getD j 0 :: (l.take j).reverse) := by
    have e1 : l = l.take j ++ (l.getD j 0 :: l.drop (j + 1)) := by
      rw [List.getD_eq_getElem?_getD, List.getElem?_eq_getElem h, Option.getD_some, List.getElem_cons_drop, List.take_append_drop]
    conv => lhs; rw [e1]
    simp
  rw [e, inc_all _ _ (fun x hx => h9 x (by simpa using hx))]
  simp only [inc, if_neg hx]
  simp only [List.reverse_append, List.reverse_cons, List.reverse_reverse, List.reverse_replicate, List.length_reverse, List.length_drop]
  have e2 : mid l (j + 1) = l.take j ++ (l.getD j 0 :: List.replicate (l.length - (j + 1)) 48) := by
    simp only [mid]
    rw [List.take_succ_eq_append_getElem h, List.getD_eq_getElem?_getD, List.getElem?_eq_getElem h]
    simp only [List.append_assoc, List.singleton_append, Option.getD_some]
  rw [e2, List.set_append]
  have e3 : (l.take j).length = j := by simp; omega
  simp [e3]
theorem inc_none (l : List Int) (h9 : ∀ x ∈ l, x = 57) : (inc l.reverse).reverse = 49 :: List.replicate l.length 48 := by
  have := inc_all l.reverse [] (fun x hx => h9 x (by simpa using hx))
  simp only [List.append_nil] at this
  rw [this]
  simp [inc]

theorem ret_str {a b : List Int} (h : b = a) : Ending.returned (.string (strOfNums a)) = .returned (.string (strOfNums b)) := by rw [h]
theorem strOf_cons49 (l : List Int) : (⟨#[49]⟩ ++ strOfNums l : ByteArray) = strOfNums (49 :: l) := by
  apply ByteArray.ext
  rw [ByteArray.data_append]
  simp [strOfNums]

set_option maxHeartbeats 1000000 in
set_option maxRecDepth 100000 in
theorem calls (a0 : ByteArray) (r : ByteArray) (w : World) (h : f a0 = some r) :
    Calls Tryd.prog 52 #[.string a0] w fun e w' => e = .returned (.string r) ∧ Below w.heap.size w w' := by
  unfold f at h
  split at h
  case isFalse => cases h
  rename_i hn
  obtain rfl := Option.some.inj h
  clear h
  have hconv := fun (w : World) => run_bytes_of_string (P := Tryd.prog) w 9 69 5 a0 Tryd.underlying9 Tryd.underlying69 Tryd.underlying5
  have hl := Lib.hid (nums8_length a0)
  have hbt : ∀ x ∈ nums8 a0, 0 ≤ x ∧ x ≤ 255 := by
    intro x hx
    obtain ⟨c, _, rfl⟩ := List.mem_map.1 hx
    have := c.toNat_lt
    omega
  generalize hN : nums8 a0 = N at *
  go_enter Tryd.func52, Tryd.ntmps52
  go_wp2
  have hB : Bts ((w.alloc (Obj.cells (bytesRow a0 (grownCap w a0.size 0 5)) 5 ((bytesRow a0 (grownCap w a0.size 0 5)).size, (bytesRow a0 (grownCap w a0.size 0 5)).size + 1))).drew) w.heap.size w.heap.size 5 N := hN ▸ Bts.made w 5 a0 _
  have hBl : Below w.heap.size w ((w.alloc (Obj.cells (bytesRow a0 (grownCap w a0.size 0 5)) 5 ((bytesRow a0 (grownCap w a0.size 0 5)).size, (bytesRow a0 (grownCap w a0.size 0 5)).size + 1))).drew) := below_drew (below_alloc (Below.refl _ _) _)
  go_loopw [4] (fun i wr => ∃ k : Nat, k ≤ a0.size ∧ i = .int .i64 ((k : Int) - 1) ∧ Bts wr w.heap.size w.heap.size 5 (mid N k) ∧ (∀ x ∈ N.drop k, x = 57) ∧ Below w.heap.size w wr) (fun i _ => (intOf i + 1).toNat)
  case atStart => 
    have e := hl.out
    refine ⟨N.length, by omega, by rw [e], ?_, ?_, hBl⟩
    · rw [mid_all]; exact hB
    · simp
  case round =>
    clear hB hBl
    obtain ⟨k, hk, rfl, hB, h9, hbe⟩ := hrel
    cases k with
    | zero =>
      have hs : ∀ cap, (convert 69 9 (.slice (some ⟨w.heap.size, 0, none⟩) a0.size cap)).run Tryd.prog wr = .ok (.string (strOfNums (mid N 0))) wr := fun cap =>
        run_convert_bytes_arg wr 69 5 Tryd.underlying69 Tryd.underlying5 _ 0 _ cap _ (by rw [mid_length _ _ (Nat.zero_le _), hl.out]) (fun i hi => by rw [Nat.zero_add]; exact hB.cell i (by rw [mid_length _ _ (Nat.zero_le _), hl.out]; exact hi)) 9 Tryd.underlying9
      rw [show ((0 : Nat) : Int) - 1 = -1 by omega]
      have hsz : ¬ 9223372036854775807 < 1 + (strOfNums (mid N 0)).size := by rw [strOfNums_size, mid_length _ _ (Nat.zero_le _), hl.out]; omega
      go_wp2
      go_ret
      refine ⟨?_, hbe⟩
      rw [inc_none N (by simpa using h9)]
      simp only [mid, List.take_zero, List.nil_append, Nat.sub_zero]
      exact congrArg (fun s => Ending.returned (.string s)) (strOf_cons49 _)
    | succ j =>
      rw [show ((j + 1 : Nat) : Int) - 1 = (j : Int) by omega]
      have hj : j < N.length := by have := hl.out; omega
      have hc := hB.cell j (by rw [mid_length _ _ (by omega)]; exact hj)
      have hf := hB.free j (by rw [mid_length _ _ (by omega)]; exact hj)
      rw [mid_get _ _ hj] at hc
      obtain ⟨hx0, hx1⟩ := hbt (N.getD j 0) (by rw [List.getD_eq_getElem?_getD, List.getElem?_eq_getElem hj, Option.getD_some]; exact List.getElem_mem _)
      generalize hx : N.getD j 0 = x at *
      have HX := Lib.hid hx
      clear hx
      by_cases h57 : x = 57
      · have d : (x != 57) = false := by simp [h57]
        have HS := Lib.hid h57
        clear h57
        go_wp2
        go_roundw
        case rel =>
          refine ⟨j, by omega, rfl, ?_, ?_, below_set hbe hB.1⟩
          · have := hB.set j 48
            rw [mid_set _ _ hj] at this
            exact this
          · intro y hy
            rw [List.drop_eq_getElem_cons hj] at hy
            rcases List.mem_cons.1 hy with rfl | hy
            · have := HX.out
              rw [List.getD_eq_getElem?_getD, List.getElem?_eq_getElem hj, Option.getD_some] at this
              rw [this]; exact HS.out
            · exact h9 y hy
        case measure => simp [intOf]
      · have d : (x != 57) = true := by simp [h57]
        have hB2 := hB.set j ((x + 1) % 256)
        have hs : ∀ cap, (convert 69 9 (.slice (some ⟨w.heap.size, 0, none⟩) a0.size cap)).run Tryd.prog (wr.setCell ⟨w.heap.size, j, none⟩ (.int .u8 ((x + 1) % 256))) = .ok (.string (strOfNums ((mid N (j + 1)).set j ((x + 1) % 256)))) (wr.setCell ⟨w.heap.size, j, none⟩ (.int .u8 ((x + 1) % 256))) := fun cap =>
          run_convert_bytes_arg _ 69 5 Tryd.underlying69 Tryd.underlying5 _ 0 _ cap _ (by rw [List.length_set, mid_length _ _ (by omega), hl.out]) (fun i hi => by rw [Nat.zero_add]; exact hB2.cell i (by rw [List.length_set, mid_length _ _ (by omega), hl.out]; exact hi)) 9 Tryd.underlying9
        clear hB2
        go_wp2
        go_ret
        refine ⟨?_, below_set hbe hB.1⟩
        exact ret_str (by rw [inc_mid N j hj h9 (by rw [HX.out]; exact h57), HX.out])
end Go.Proofs.YtpmhebdaphjinaaDoor.RoundOne
