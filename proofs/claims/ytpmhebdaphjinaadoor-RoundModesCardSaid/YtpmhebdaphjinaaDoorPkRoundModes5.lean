/- Part 6 of 7 of the proof of the law RoundModes: it is true at every input. Conditions: those of the given row, no others. -/
import Derived.Test.YtpmhebdaphjinaaDoorPkRoundModes0
import Derived.Lib.Strings
import Derived.Lib.TrimByte
import Derived.Lib.Repeat
import Derived.Test.YtpmhebdaphjinaaDoorPkRoundModes1
import Derived.Test.YtpmhebdaphjinaaDoorPkRoundModes2
import Derived.Test.YtpmhebdaphjinaaDoorPkRoundModes3
import Derived.Test.YtpmhebdaphjinaaDoorPkRoundModes4
set_option linter.unusedVariables false
set_option linter.unusedSimpArgs false
namespace Go.Proofs.YtpmhebdaphjinaaDoor.Dig
open Go.RowKit Go.Proofs.YtpmhebdaphjinaaDoorW.PrintWords

/-- A list of digits. -/
def Dg (l : List Nat) : Prop := ∀ d ∈ l, d ≤ 9
/-- The text of a list of digits. -/
def ofD (l : List Nat) : ByteArray := ⟨(l.map fun d => UInt8.ofNat (d + 48)).toArray⟩
/-- What a list of digits is worth. -/
def val : List Nat → Nat
  | [] => 0
  | d :: l => d * 10 ^ l.length + val l
/-- Without noughts ahead; '0' of none. -/
def lead : List Nat → List Nat
  | [] => [0]
  | [d] => [d]
  | d :: e :: t => if d = 0 then lead (e :: t) else d :: e :: t
def Canon (l : List Nat) : Prop := l ≠ [] ∧ (l.length = 1 ∨ l.getD 0 0 ≠ 0)

theorem Dg.nil : Dg [] := fun _ h => by cases h
theorem Dg.cons {d : Nat} {l : List Nat} (h : d ≤ 9) (hl : Dg l) : Dg (d :: l) := fun x hx => by
  rcases List.mem_cons.1 hx with rfl | hx
  · exact h
  · exact hl x hx
theorem Dg.head {d : Nat} {l : List Nat} (h : Dg (d :: l)) : d ≤ 9 := h d (by simp)
theorem Dg.tail {d : Nat} {l : List Nat} (h : Dg (d :: l)) : Dg l := fun x hx => h x (by simp [hx])
theorem Dg.append {l m : List Nat} (hl : Dg l) (hm : Dg m) : Dg (l ++ m) := fun x hx => by
  rcases List.mem_append.1 hx with hx | hx
  · exact hl x hx
  · exact hm x hx
theorem Dg.take {l : List Nat} (h : Dg l) (n : Nat) : Dg (l.take n) := fun x hx => h x (List.mem_of_mem_take hx)
theorem Dg.drop {l : List Nat} (h : Dg l) (n : Nat) : Dg (l.drop n) := fun x hx => h x (List.mem_of_mem_drop hx)
theorem Dg.zeros (n : Nat) : Dg (List.replicate n 0) := fun x hx => by rw [List.eq_of_mem_replicate hx]; omega
theorem Dg.get {l : List Nat} (h : Dg l) (i : Nat) : l.getD i 0 ≤ 9 := by
  rw [List.getD_eq_getElem?_getD]
  cases e : l[i]? with
  | none => simp
  | some d => exact h d (List.mem_of_getElem? e)
theorem Dg.set {l : List Nat} (h : Dg l) (i : Nat) {d : Nat} (hd : d ≤ 9) : Dg (l.set i d) := fun x hx => by
  rcases List.mem_or_eq_of_mem_set hx with hx | rfl
  · exact h x hx
  · exact hd

theorem val_append (l m : List Nat) : val (l ++ m) = val l * 10 ^ m.length + val m := by
  induction l with
  | nil => simp [val]
  | cons d l ih =>
    simp only [List.cons_append, val, ih, List.length_append, Nat.pow_add, Nat.add_mul, Nat.mul_assoc]
    omega
theorem val_snoc (l : List Nat) (d : Nat) : val (l ++ [d]) = val l * 10 + d := by rw [val_append]; simp [val]
theorem val_lt {l : List Nat} (h : Dg l) : val l < 10 ^ l.length := by
  induction l with
  | nil => simp [val]
  | cons d l ih =>
    have h1 := h.head
    have h2 := ih h.tail
    simp only [val, List.length_cons, Nat.pow_succ]
    have h3 : d * 10 ^ l.length ≤ 9 * 10 ^ l.length := Nat.mul_le_mul_right _ h1
    omega
theorem val_zeros (n : Nat) : val (List.replicate n 0) = 0 := by
  induction n with
  | zero => rfl
  | succ n ih => simp [List.replicate_succ, val, ih]
theorem val_zeros_append (n : Nat) (l : List Nat) : val (List.replicate n 0 ++ l) = val l := by rw [val_append, val_zeros]; simp
theorem val_append_zeros (n : Nat) (l : List Nat) : val (l ++ List.replicate n 0) = val l * 10 ^ n := by rw [val_append, val_zeros]; simp
theorem val_eq_zero {l : List Nat} : val l = 0 ↔ ∀ d ∈ l, d = 0 := by
  induction l with
  | nil => simp [val]
  | cons d l ih =>
    simp only [val, List.mem_cons, forall_eq_or_imp]
    have hp : 0 < 10 ^ l.length := Nat.pow_pos (by omega)
    constructor
    · intro h
      have h2 : val l = 0 := by omega
      have h1 : d * 10 ^ l.length = 0 := by omega
      rcases Nat.mul_eq_zero.1 h1 with h1 | h1
      · exact ⟨h1, ih.1 h2⟩
      · omega
    · rintro ⟨rfl, h⟩
      simp [ih.2 h]
theorem val_take_drop (l : List Nat) (n : Nat) : val l = val (l.take n) * 10 ^ (l.length - n) + val (l.drop n) := by
  conv => lhs; rw [← List.take_append_drop n l]
  rw [val_append, List.length_drop]
theorem val_take {l : List Nat} (h : Dg l) (n : Nat) : val (l.take n) = val l / 10 ^ (l.length - n) := by
  have h1 := val_take_drop l n
  have h2 := val_lt (h.drop n)
  rw [List.length_drop] at h2
  have hp : 0 < 10 ^ (l.length - n) := Nat.pow_pos (by omega)
  rw [h1, Nat.add_comm, Nat.add_mul_div_right _ _ hp, Nat.div_eq_of_lt h2, Nat.zero_add]
theorem val_drop {l : List Nat} (h : Dg l) (n : Nat) : val (l.drop n) = val l % 10 ^ (l.length - n) := by
  have h1 := val_take_drop l n
  have h2 := val_lt (h.drop n)
  rw [List.length_drop] at h2
  rw [h1, Nat.add_comm, Nat.add_mul_mod_self_right, Nat.mod_eq_of_lt h2]
theorem eq_of_val : ∀ {l m : List Nat}, Dg l → Dg m → l.length = m.length → val l = val m → l = m
  | [], [], _, _, _, _ => rfl
  | [], _ :: _, _, _, h, _ => by simp at h
  | _ :: _, [], _, _, h, _ => by simp at h
  | d :: l, e :: m, hl, hm, h, hv => by
    have h1 : l.length = m.length := by simpa using h
    have a := val_lt hl.tail
    have b := val_lt hm.tail
    simp only [val, h1] at hv a
    have hp : 0 < 10 ^ m.length := Nat.pow_pos (by omega)
    have hd : d = e := by
      have x : (d * 10 ^ m.length + val l) / 10 ^ m.length = d := by
        rw [Nat.add_comm, Nat.add_mul_div_right _ _ hp, Nat.div_eq_of_lt a]; omega
      have y : (e * 10 ^ m.length + val m) / 10 ^ m.length = e := by
        rw [Nat.add_comm, Nat.add_mul_div_right _ _ hp, Nat.div_eq_of_lt b]; omega
      rw [hv] at x
      omega
    subst hd
    rw [eq_of_val hl.tail hm.tail h1 (by omega)]

theorem lead_ne (l : List Nat) : lead l ≠ [] := by
  fun_induction lead l <;> simp_all
theorem Dg.lead {l : List Nat} (h : Dg l) : Dg (lead l) := by
  fun_induction Dig.lead l with
  | case1 => exact Dg.cons (by omega) Dg.nil
  | case2 => exact h
  | case3 e t ih => exact ih h.tail
  | case4 => exact h
theorem val_lead (l : List Nat) : val (lead l) = val l := by
  fun_induction lead l with
  | case1 => rfl
  | case2 => rfl
  | case3 e t ih => rw [ih]; simp [val]
  | case4 => rfl
theorem canon_lead (l : List Nat) : Canon (lead l) := by
  fun_induction lead l with
  | case1 => exact ⟨by simp, .inl rfl⟩
  | case2 => exact ⟨by simp, .inl rfl⟩
  | case3 e t ih => exact ih
  | case4 d e t h => exact ⟨by simp, .inr (by simpa using h)⟩
theorem lead_length (l : List Nat) : (lead l).length ≤ max 1 l.length := by
  fun_induction lead l with
  | case1 => simp
  | case2 => simp
  | case3 e t ih => simp at ih ⊢; omega
  | case4 => simp
theorem Canon.lead {l : List Nat} (h : Canon l) : lead l = l := by
  fun_induction Dig.lead l with
  | case1 => exact absurd rfl h.1
  | case2 => rfl
  | case3 e t ih => rcases h.2 with h2 | h2 <;> simp at h2
  | case4 => rfl
theorem Canon.le_val {l : List Nat} (h : Canon l) (h1 : l.length ≠ 1) : 10 ^ (l.length - 1) ≤ val l := by
  cases l with
  | nil => exact absurd rfl h.1
  | cons d l =>
    rcases h.2 with h2 | h2
    · exact absurd h2 h1
    · simp only [List.getD_cons_zero] at h2
      simp only [val, List.length_cons, Nat.add_sub_cancel]
      have : 1 * 10 ^ l.length ≤ d * 10 ^ l.length := Nat.mul_le_mul_right _ (by omega)
      omega
theorem canon_length_le {l m : List Nat} (hm : Dg m) (cl : Canon l) (h : val l ≤ val m) (cm : m ≠ []) : l.length ≤ m.length := by
  by_cases h1 : l.length = 1
  · have : m.length ≠ 0 := by simpa using cm
    omega
  · have a := cl.le_val h1
    have b := val_lt hm
    have c : 10 ^ (l.length - 1) < 10 ^ m.length := by omega
    have := (Nat.pow_lt_pow_iff_right (show 1 < 10 by omega)).1 c
    omega
theorem canon_unique {l m : List Nat} (hl : Dg l) (hm : Dg m) (cl : Canon l) (cm : Canon m) (h : val l = val m) : l = m := by
  have a := canon_length_le hm cl (by omega) cm.1
  have b := canon_length_le hl cm (by omega) cl.1
  exact eq_of_val hl hm (by omega) h
theorem lead_eq {l m : List Nat} (hl : Dg l) (hm : Dg m) (h : val l = val m) : lead l = lead m :=
  canon_unique hl.lead hm.lead (canon_lead _) (canon_lead _) (by rw [val_lead, val_lead, h])
theorem canon_zero {l : List Nat} (hl : Dg l) (cl : Canon l) (h : val l = 0) : l = [0] :=
  canon_unique hl (Dg.cons (by omega) Dg.nil) cl ⟨by simp, .inl rfl⟩ (by simp [h, val])

theorem ofNat48 {d : Nat} (h : d ≤ 9) : (UInt8.ofNat (d + 48)).toNat = d + 48 := by
  rw [UInt8.toNat_ofNat']; omega
theorem size_ofD (l : List Nat) : (ofD l).size = l.length := by simp [ofD, ByteArray.size]
theorem data_ofD (l : List Nat) : (ofD l).data.toList = l.map fun d => UInt8.ofNat (d + 48) := by simp [ofD]
theorem toList_ofD (l : List Nat) : (ofD l).toList = l.map fun d => UInt8.ofNat (d + 48) := by rw [ByteArray.toList_eq, data_ofD]
theorem ext_data {s t : ByteArray} (h : s.data.toList = t.data.toList) : s = t := by
  obtain ⟨⟨l⟩⟩ := s
  obtain ⟨⟨m⟩⟩ := t
  simpa using h
theorem ofD_append (l m : List Nat) : ofD l ++ ofD m = ofD (l ++ m) := by
  apply ext_data
  rw [ByteArray.data_append]
  simp [ofD]
theorem ofD_extract (l : List Nat) (a b : Nat) : (ofD l).extract a b = ofD ((l.drop a).take (b - a)) := by
  apply ext_data
  rw [Lib.extract_data, data_ofD, data_ofD]
  simp [List.map_take, List.map_drop]
theorem bt_ofD {l : List Nat} (h : Dg l) {i : Int} (h0 : 0 ≤ i) (h1 : i < l.length) : bt (ofD l) i = ((l.getD i.toNat 0 + 48 : Nat) : Int) := by
  have hs : i.toNat < (ofD l).size := by rw [size_ofD]; omega
  have hi : i.toNat < l.length := by omega
  have hd := h (l[i.toNat]) (List.getElem_mem hi)
  unfold bt
  rw [dif_pos hs]
  have e : (ofD l)[i.toNat] = UInt8.ofNat (l[i.toNat] + 48) := by
    show (ofD l).data[i.toNat] = _
    simp [ofD]
  rw [e, ofNat48 hd]
  simp [List.getD_eq_getElem?_getD, hi]
theorem ofD_inj {l m : List Nat} (hl : Dg l) (hm : Dg m) (h : ofD l = ofD m) : l = m := by
  have h1 : (ofD l).data.toList = (ofD m).data.toList := by rw [h]
  rw [data_ofD, data_ofD] at h1
  clear h
  induction l generalizing m with
  | nil => cases m with
    | nil => rfl
    | cons e m => simp at h1
  | cons d l ih => cases m with
    | nil => simp at h1
    | cons e m =>
      simp only [List.map_cons, List.cons.injEq] at h1
      have a := ofNat48 hl.head
      have b := ofNat48 hm.head
      rw [h1.1, b] at a
      rw [ih hl.tail hm.tail h1.2]
      simp; omega
theorem toList_inj {l m : List Nat} (hl : Dg l) (hm : Dg m) : (ofD l).toList = (ofD m).toList ↔ l = m := by
  constructor
  · intro h
    rw [ByteArray.toList_eq, ByteArray.toList_eq] at h
    exact ofD_inj hl hm (ext_data h)
  · rintro rfl; rfl
theorem toList_nil {l : List Nat} : (ofD l).toList = [] ↔ l = [] := by rw [toList_ofD]; simp
theorem ofD_zero : (⟨#[48]⟩ : ByteArray) = ofD [0] := rfl
theorem ofD_one : (⟨#[49]⟩ : ByteArray) = ofD [1] := rfl
theorem ofD_five : (⟨#[53]⟩ : ByteArray) = ofD [5] := rfl
theorem ofD_nil : (⟨#[]⟩ : ByteArray) = ofD [] := rfl
theorem strOfNums_ofD (l : List Nat) : strOfNums (l.map fun d => ((d + 48 : Nat) : Int)) = ofD l := by
  unfold strOfNums ofD
  rw [List.map_map]
  simp only [Function.comp_def, Int.toNat_natCast]
/-- A text all of whose bytes are digits. -/
theorem of_bytes (s : ByteArray) (h : ∀ i : Nat, i < s.size → 48 ≤ bt s i ∧ bt s i ≤ 57) : ∃ l, Dg l ∧ s = ofD l := by
  refine ⟨s.data.toList.map fun c => c.toNat - 48, ?_, ?_⟩
  · intro d hd
    obtain ⟨c, hc, rfl⟩ := List.mem_map.1 hd
    obtain ⟨i, hi, rfl⟩ := List.mem_iff_getElem.1 hc
    have hi2 : i < s.size := by simpa using hi
    have := h i hi2
    unfold bt at this
    rw [dif_pos (by simpa using hi2)] at this
    have e : s.data.toList[i].toNat = (s[((i : Nat) : Int).toNat]'(by simpa using hi2)).toNat := by simp; rfl
    omega
  · apply ext_data
    rw [data_ofD, List.map_map]
    conv => lhs; rw [← List.map_id s.data.toList]
    apply List.map_congr_left
    intro c hc
    obtain ⟨i, hi, rfl⟩ := List.mem_iff_getElem.1 hc
    have hi2 : i < s.size := by simpa using hi
    have := h i hi2
    unfold bt at this
    rw [dif_pos (by simpa using hi2)] at this
    have e : s.data.toList[i].toNat = (s[((i : Nat) : Int).toNat]'(by simpa using hi2)).toNat := by simp; rfl
    simp only [id, Function.comp]
    apply UInt8.toNat_inj.1
    rw [UInt8.toNat_ofNat']
    have := s.data.toList[i].toNat_lt
    omega
theorem bytesLess_ofD : ∀ {l m : List Nat}, Dg l → Dg m → l.length = m.length → Op.bytesLess (ofD l).toList (ofD m).toList = decide (val l < val m) := by
  intro l m hl hm h
  rw [toList_ofD, toList_ofD]
  induction l generalizing m with
  | nil => cases m with
    | nil => simp [Op.bytesLess, val]
    | cons e m => simp at h
  | cons d l ih => cases m with
    | nil => simp at h
    | cons e m =>
      have h1 : l.length = m.length := by simpa using h
      simp only [List.map_cons, Op.bytesLess, ih hl.tail hm.tail h1]
      have a := ofNat48 hl.head
      have b := ofNat48 hm.head
      have e1 : (UInt8.ofNat (d + 48) < UInt8.ofNat (e + 48)) = (d < e) := by rw [UInt8.lt_iff_toNat_lt, a, b]; simp
      have e2 : (UInt8.ofNat (d + 48) == UInt8.ofNat (e + 48)) = (d == e) := by
        rw [Bool.eq_iff_iff]; simp only [beq_iff_eq, ← UInt8.toNat_inj, a, b]; omega
      rw [e2]
      simp only [val, h1]
      have va := val_lt hl.tail
      have vb := val_lt hm.tail
      rw [h1] at va
      rw [Bool.eq_iff_iff]
      simp only [Bool.or_eq_true, decide_eq_true_eq, Bool.and_eq_true, beq_iff_eq, e1]
      constructor
      · rintro (h2 | ⟨rfl, h2⟩)
        · have : (d + 1) * 10 ^ m.length ≤ e * 10 ^ m.length := Nat.mul_le_mul_right _ h2
          rw [Nat.add_mul] at this
          omega
        · omega
      · intro h2
        rcases Nat.lt_trichotomy d e with h3 | h3 | h3
        · exact .inl h3
        · exact .inr ⟨h3, by subst h3; omega⟩
        · have : (e + 1) * 10 ^ m.length ≤ d * 10 ^ m.length := Nat.mul_le_mul_right _ h3
          rw [Nat.add_mul] at this
          omega
theorem dropWhile_ofD {l : List Nat} (h : Dg l) : (l.map fun d => UInt8.ofNat (d + 48)).dropWhile (· == 48) = (l.dropWhile (· == 0)).map fun d => UInt8.ofNat (d + 48) := by
  induction l with
  | nil => rfl
  | cons d l ih =>
    have a := ofNat48 h.head
    have e : (UInt8.ofNat (d + 48) == 48) = (d == 0) := by
      rw [Bool.eq_iff_iff]; simp only [beq_iff_eq, ← UInt8.toNat_inj, a]; simp
    simp only [List.map_cons, List.dropWhile_cons, e]
    split
    · exact ih h.tail
    · simp
def tl (l : List Nat) : List Nat := l.dropWhile (· == 0)
def tt (l : List Nat) : List Nat := tl (l.reverse.dropWhile (· == 0)).reverse
theorem Dg.dropWhile {l : List Nat} (h : Dg l) : Dg (l.dropWhile (· == 0)) := fun x hx => h x (List.dropWhile_sublist _ |>.subset hx)
theorem Dg.reverse {l : List Nat} (h : Dg l) : Dg l.reverse := fun x hx => h x (by simpa using hx)
theorem Dg.tl {l : List Nat} (h : Dg l) : Dg (tl l) := h.dropWhile
theorem Dg.tt {l : List Nat} (h : Dg l) : Dg (tt l) := (h.reverse.dropWhile).reverse.tl
theorem trimLeft_ofD {l : List Nat} (h : Dg l) : (⟨(Lib.trimLeftB (ofD l).data.toList 48).toArray⟩ : ByteArray) = ofD (tl l) := by
  apply ext_data
  rw [data_ofD, data_ofD]
  simp only [Lib.trimLeftB, tl]
  rw [dropWhile_ofD h]
theorem trim_ofD {l : List Nat} (h : Dg l) : (⟨(Lib.trimB (ofD l).data.toList 48).toArray⟩ : ByteArray) = ofD (tt l) := by
  apply ext_data
  rw [data_ofD, data_ofD]
  simp only [Lib.trimB, Lib.trimRightB, Lib.trimLeftB, tt, tl]
  rw [← List.map_reverse, dropWhile_ofD h.reverse, ← List.map_reverse, dropWhile_ofD (h.reverse.dropWhile).reverse]
theorem dropWhile_nil {l : List Nat} : l.dropWhile (· == 0) = [] ↔ ∀ d ∈ l, d = 0 := by
  induction l with
  | nil => simp
  | cons d l ih =>
    simp only [List.dropWhile_cons, List.mem_cons, forall_eq_or_imp]
    split
    · rename_i h; simp at h; simp [h, ih]
    · rename_i h; simp at h; simp [h]
theorem tl_nil {l : List Nat} : tl l = [] ↔ val l = 0 := by rw [val_eq_zero]; exact dropWhile_nil
theorem tt_nil {l : List Nat} : tt l = [] ↔ val l = 0 := by
  rw [tt, tl_nil, val_eq_zero, val_eq_zero]
  constructor
  · intro h d hd
    by_cases hz : ∀ d ∈ l.reverse, d = 0
    · exact hz d (by simpa using hd)
    · exfalso
      apply hz
      rw [← dropWhile_nil]
      cases e : l.reverse.dropWhile (· == 0) with
      | nil => rfl
      | cons x t =>
        have h1 := h x (by rw [e]; simp)
        have h2 := List.head_dropWhile_not (fun d : Nat => d == 0) (l := l.reverse) (by rw [e]; simp)
        simp only [e, List.head_cons, h1] at h2
        simp at h2
  · intro h d hd
    have hd' := (List.dropWhile_sublist _).subset (List.mem_reverse.1 hd)
    exact h d (by simpa using hd')
theorem tl_lead (l : List Nat) : lead l = if tl l = [] then (if l = [] then [0] else [0]) else tl l := by
  fun_induction lead l with
  | case1 => simp [tl]
  | case2 d => by_cases h : d = 0 <;> simp [tl, h]
  | case3 e t ih => rw [ih]; simp [tl]
  | case4 d e t h => simp [tl, h]
theorem lead_of_tl (l : List Nat) : lead l = if tl l = [] then [0] else tl l := by rw [tl_lead]; split <;> simp
theorem val_tl (l : List Nat) : val (tl l) = val l := by
  induction l with
  | nil => rfl
  | cons d l ih =>
    simp only [tl, List.dropWhile_cons] at ih ⊢
    split
    · rename_i h; simp at h; simp [val, h, ih]
    · rfl
theorem repeat_ofD (n : Nat) : (⟨(Lib.repeatL (⟨#[48]⟩ : ByteArray).data.toList n).toArray⟩ : ByteArray) = ofD (List.replicate n 0) := by
  apply ext_data
  rw [data_ofD]
  simp only [List.map_replicate]
  induction n with
  | zero => rfl
  | succ n ih =>
    simp only [Lib.repeatL, List.replicate_succ]
    show (⟨#[48]⟩ : ByteArray).data.toList ++ Lib.repeatL (⟨#[48]⟩ : ByteArray).data.toList n = _
    rw [show Lib.repeatL (⟨#[48]⟩ : ByteArray).data.toList n = List.replicate n (UInt8.ofNat (0 + 48)) from ih]
    rfl
end Go.Proofs.YtpmhebdaphjinaaDoor.Dig
set_option linter.unusedVariables false
set_option linter.unusedSimpArgs false
namespace Go.Proofs.YtpmhebdaphjinaaDoor.RoundRef
open Go.RowKit Go.Proofs.YtpmhebdaphjinaaDoorW.PrintWords Go.Proofs.YtpmhebdaphjinaaDoorW.PrintLast Go.Proofs.YtpmhebdaphjinaaDoor.F Go.Proofs.YtpmhebdaphjinaaDoor.Dig

theorem Ev.some {α : Type} {g : Nat → Option α} {r : α} (h : ∀ k, g (k + 1) = some r) : Ev g r := Ev.step (f := fun _ => Option.some r) h (Ev.now r)
theorem Ev.let {α β : Type} {g : Nat → Option α} {f : Nat → α → Option β} {G : Nat → Option β} {a : α} {r : β} (h : Ev g a) (k : Ev (fun n => f n a) r) (e : ∀ n, G n = (g n).bind (f n)) : Ev G r := Ev.congr e (Ev.bind h k)

theorem lead_ev (l : List Nat) (hl : Dg l) (hn : l.length ≤ 1000000) : Ev (fun k => idiomref03_Lead.f k (ofD l)) (ofD (lead l)) := by
  show Ev (fun k => idiomref03_Lead.l0 k (ofD l)) _
  fun_induction lead l with
  | case1 =>
    refine Ev.some fun k => ?_
    simp only [idiomref03_Lead.l0]
    rw [if_neg (by rw [size_ofD]; simp), if_pos (by rw [toList_ofD]; rfl)]
    rfl
  | case2 d =>
    refine Ev.some fun k => ?_
    simp only [idiomref03_Lead.l0]
    rw [if_neg (by rw [size_ofD]; simp), if_neg (by rw [toList_ofD]; simp)]
  | case3 e t ih =>
    refine Ev.step (fun k => ?_) (ih hl.tail (by simp at hn ⊢; omega))
    simp only [idiomref03_Lead.l0]
    rw [if_pos (by rw [size_ofD]; simp; omega), if_pos (by rw [size_ofD]; simp; omega), bt_ofD hl (by omega) (by simp; omega), if_pos (by simp), if_pos (by rw [size_ofD]; simp; omega), ofD_extract, size_ofD]
    simp
  | case4 d e t h =>
    refine Ev.some fun k => ?_
    simp only [idiomref03_Lead.l0]
    rw [if_pos (by rw [size_ofD]; simp; omega), if_pos (by rw [size_ofD]; simp; omega), bt_ofD hl (by omega) (by simp; omega), if_neg (by simp; omega), if_neg (by rw [toList_ofD]; simp)]

theorem noughts_ev (n : Int) (hn : n ≤ 1000000) : Ev (fun k => idiomref03_Noughts.f k n) (ofD (List.replicate n.toNat 0)) := by
  have aux : ∀ (m i : Nat), (n.toNat - i = m) → i ≤ n.toNat → Ev (fun k => idiomref03_Noughts.l0 k n (List.replicate i 48) i) (ofD (List.replicate n.toNat 0)) := by
    intro m
    induction m with
    | zero =>
      intro i h1 h2
      refine Ev.some fun k => ?_
      simp only [idiomref03_Noughts.l0]
      rw [if_neg (by omega)]
      have : i = n.toNat := by omega
      rw [this, ← strOfNums_ofD]
      simp
    | succ m ih =>
      intro i h1 h2
      refine Ev.step (fun k => ?_) (ih (i + 1) (by omega) (by omega))
      simp only [idiomref03_Noughts.l0]
      rw [if_pos (by omega), if_pos (by simp; omega)]
      congr 1
      · rw [List.replicate_succ']
      · unfold wrap64; omega
  have := aux n.toNat 0 (by omega) (by omega)
  simpa [idiomref03_Noughts.f] using this

theorem cmp_ev (a b : List Nat) (ha : Dg a) (hb : Dg b) (na : a.length ≤ 1000000) (nb : b.length ≤ 1000000) :
    Ev (fun k => idiomref03_cmp.f k (ofD a) (ofD b)) (if val a < val b then -1 else if val a = val b then 0 else 1) := by
  have la := canon_lead a
  have lb := canon_lead b
  have da := ha.lead
  have db := hb.lead
  have va := val_lead a
  have vb := val_lead b
  refine Ev.let (lead_ev a ha na) (Ev.let (lead_ev b hb nb) ?_ (fun n => rfl)) (fun n => rfl)
  simp only [size_ofD]
  have same : ∀ x, (lead a).length = (lead b).length → x = decide (val (lead a) < val (lead b)) → Ev (fun k => idiomref03_cmp.j0 k (ofD (lead a)) (ofD (lead b)) x) (if val a < val b then -1 else if val a = val b then 0 else 1) := by
    intro x hx e
    refine Ev.some fun k => ?_
    simp only [idiomref03_cmp.j0]
    subst e
    rw [va, vb]
    by_cases h1 : val a < val b
    · simp [h1]
    · simp only [h1, decide_false, if_false, Bool.false_eq_true]
      by_cases h2 : val a = val b
      · have e := canon_unique da db la lb (by omega)
        rw [e]; simp [h2]
      · have : lead a ≠ lead b := fun e => h2 (by rw [← va, ← vb, e])
        simp only [toList_inj da db, this, h2, if_false]
  by_cases h : (lead a).length = (lead b).length
  · have e := bytesLess_ofD da db h
    simpa [h, e] using same _ h rfl
  · by_cases h2 : (lead a).length < (lead b).length
    · have hv : val a < val b := by
        rcases Nat.lt_or_ge (val a) (val b) with h3 | h3
        · exact h3
        · exact absurd (canon_length_le da lb (by omega) la.1) (by omega)
      have e1 : ¬ ((lead a).length : Int) = (lead b).length := by omega
      have e2 : ((lead a).length : Int) < (lead b).length := by omega
      simp only [e1, e2, if_false, if_true]
      refine Ev.some fun k => ?_
      simp [idiomref03_cmp.j0, hv]
    · have hv : val b < val a := by
        rcases Nat.lt_or_ge (val b) (val a) with h3 | h3
        · exact h3
        · exact absurd (canon_length_le db la (by omega) lb.1) (by omega)
      have e1 : ¬ ((lead a).length : Int) = (lead b).length := by omega
      have e2 : ¬ ((lead a).length : Int) < (lead b).length := by omega
      simp only [e1, e2, if_false]
      refine Ev.some fun k => ?_
      have e3 : lead a ≠ lead b := fun e => h (by rw [e])
      have e4 : ¬ val a < val b := by omega
      have e5 : ¬ val a = val b := by omega
      simp only [idiomref03_cmp.j0, toList_inj da db, e3, e4, e5, if_false, Bool.false_eq_true]

theorem w64 {x : Int} (h0 : -9223372036854775808 ≤ x) (h1 : x ≤ 9223372036854775807) : wrap64 x = x := by unfold wrap64; omega
theorem digit_of (x : Nat) (h : x ≤ 9) : (((x + 48 : Nat) : Int) - 48) % 256 = x := by omega
theorem add_digit {x y o : Nat} (hx : x ≤ 9) (hy : y ≤ 9) (ho : o ≤ 1) :
    (wrap64 (48 + Int.tmod (wrap64 (((((x + 48 : Nat) : Int) - 48) % 256 + (((y + 48 : Nat) : Int) - 48) % 256) + o)) 10)) % 256 = (((x + y + o) % 10 + 48 : Nat) : Int) := by
  rw [digit_of x hx, digit_of y hy, w64 (x := (x : Int) + y + o) (by omega) (by omega), Int.tmod_eq_emod_of_nonneg (by omega), w64 (by omega) (by omega)]
  omega
theorem add_over {x y o : Nat} (hx : x ≤ 9) (hy : y ≤ 9) (ho : o ≤ 1) :
    wrap64 (Int.tdiv (wrap64 (((((x + 48 : Nat) : Int) - 48) % 256 + (((y + 48 : Nat) : Int) - 48) % 256) + o)) 10) = (((x + y + o) / 10 : Nat) : Int) := by
  rw [digit_of x hx, digit_of y hy, w64 (x := (x : Int) + y + o) (by omega) (by omega), Int.tdiv_eq_ediv_of_nonneg (by omega), w64 (by omega) (by omega)]
  omega
theorem sub_diff {x y o : Nat} (hx : x ≤ 9) (hy : y ≤ 9) (ho : o ≤ 1) :
    wrap64 (wrap64 (wrap64 ((x + 48 : Nat) : Int) - wrap64 ((y + 48 : Nat) : Int)) - (o : Int)) = (x : Int) - y - o := by
  rw [w64 (x := ((x + 48 : Nat) : Int)) (by omega) (by omega), w64 (x := ((y + 48 : Nat) : Int)) (by omega) (by omega), w64 (x := ((x + 48 : Nat) : Int) - ((y + 48 : Nat) : Int)) (by omega) (by omega), w64 (by omega) (by omega)]
  omega
theorem sub_neg {x y o : Nat} (hx : x ≤ 9) (hy : y ≤ 9) (ho : o ≤ 1) (h : x < y + o) :
    (wrap64 (48 + wrap64 (wrap64 (wrap64 (wrap64 ((x + 48 : Nat) : Int) - wrap64 ((y + 48 : Nat) : Int)) - (o : Int)) + 10))) % 256 = ((x + 10 - y - o + 48 : Nat) : Int) := by
  rw [sub_diff hx hy ho, w64 (x := (x : Int) - y - o + 10) (by omega) (by omega), w64 (by omega) (by omega)]
  omega
theorem sub_pos {x y o : Nat} (hx : x ≤ 9) (hy : y ≤ 9) (ho : o ≤ 1) (h : ¬ x < y + o) :
    (wrap64 (48 + wrap64 (wrap64 (wrap64 ((x + 48 : Nat) : Int) - wrap64 ((y + 48 : Nat) : Int)) - (o : Int)))) % 256 = ((x - y - o + 48 : Nat) : Int) := by
  rw [sub_diff hx hy ho, w64 (by omega) (by omega)]
  omega

def dnums (l : List Nat) : List Int := l.map fun d => ((d + 48 : Nat) : Int)
theorem set_mid (j : Nat) (X : List Int) (v : Int) : (List.replicate (j + 1) (0 : Int) ++ X).set j v = List.replicate j 0 ++ v :: X := by
  rw [List.replicate_succ', List.append_assoc, List.set_append]
  simp
theorem getD_drop (l : List Nat) (j : Nat) (h : j < l.length) : l.drop j = l.getD j 0 :: l.drop (j + 1) := by
  rw [List.drop_eq_getElem_cons h, List.getD_eq_getElem?_getD, List.getElem?_eq_getElem h, Option.getD_some]

theorem add_loop (a b : List Nat) (ha : Dg a) (hb : Dg b) (hab : a.length = b.length) (na : a.length ≤ 1000000) :
    ∀ (j : Nat) (c : List Nat) (o : Nat), j ≤ a.length → Dg c → c.length = a.length - j → o ≤ 1 → val (a.drop j) + val (b.drop j) = o * 10 ^ c.length + val c →
    ∃ r, Dg r ∧ Canon r ∧ val r = val a + val b ∧ r.length ≤ a.length + 1 ∧ Ev (fun k => idiomref03_add.l2 k (ofD a) (ofD b) (List.replicate j 0 ++ dnums c) o ((j : Int) - 1)) (ofD r) := by
  intro j
  induction j with
  | zero =>
    intro c o hj hc hcl ho hv
    simp only [List.drop_zero, Nat.sub_zero] at hv hcl
    by_cases h : o = 0
    · subst h
      refine ⟨lead c, hc.lead, canon_lead c, by rw [val_lead]; omega, ?_, ?_⟩
      · have := lead_length c; by_cases h0 : a.length = 0 <;> omega
      · have hE := Ev.let (f := fun _ t => some t) (lead_ev c hc (by omega)) (Ev.now _) (fun n => rfl)
        refine Ev.step (fun k => ?_) hE
        simp only [idiomref03_add.l2, List.replicate_zero, List.nil_append]
        rw [if_neg (by omega), if_neg (by omega)]
        simp only [dnums, strOfNums_ofD]
    · have : o = 1 := by omega
      subst this
      refine ⟨1 :: c, Dg.cons (by omega) hc, ⟨by simp, .inr (by simp)⟩, by simp only [val]; omega, by simp; omega, ?_⟩
      refine Ev.some fun k => ?_
      simp only [idiomref03_add.l2, List.replicate_zero, List.nil_append]
      rw [if_neg (by omega), if_pos (by omega)]
      simp only [dnums, strOfNums_ofD]
      rw [if_pos (by rw [size_ofD]; omega), ofD_one, ofD_append]
      rfl
  | succ j ih =>
    intro c o hj hc hcl ho hv
    have hja : j < a.length := by omega
    have hjb : j < b.length := by omega
    have xa := ha.get j
    have xb := hb.get j
    have e1 := getD_drop a j hja
    have e2 := getD_drop b j hjb
    generalize hx : a.getD j 0 = x at *
    generalize hy : b.getD j 0 = y at *
    obtain ⟨r, h1, h2, h3, h4, h5⟩ := ih ((x + y + o) % 10 :: c) ((x + y + o) / 10) (by omega) (Dg.cons (by omega) hc) (by simp; omega) (by omega) (by
      rw [e1, e2]
      simp only [val, List.length_cons, List.length_drop]
      have p1 : a.length - (j + 1) = c.length := by omega
      have p2 : b.length - (j + 1) = c.length := by omega
      simp only [p1, p2, Nat.pow_succ]
      have hv := hv
      have q : (x + y + o) / 10 * (10 ^ c.length * 10) + (x + y + o) % 10 * 10 ^ c.length = (x + y + o) * 10 ^ c.length := by
        rw [Nat.mul_comm (10 ^ c.length) 10, ← Nat.mul_assoc, ← Nat.add_mul]
        congr 1
        omega
      have q2 : (x + y + o) * 10 ^ c.length = x * 10 ^ c.length + y * 10 ^ c.length + o * 10 ^ c.length := by rw [Nat.add_mul, Nat.add_mul]
      omega)
    refine ⟨r, h1, h2, h3, h4, Ev.step (fun k => ?_) h5⟩
    simp only [idiomref03_add.l2]
    have ej : ((j + 1 : Nat) : Int) - 1 = j := by omega
    rw [ej, if_pos (by omega), if_pos (by omega), if_pos (by rw [size_ofD]; omega), if_pos (by rw [size_ofD]; omega), if_pos (by simp [dnums]; omega)]
    rw [bt_ofD ha (by omega) (by omega), bt_ofD hb (by omega) (by omega), Int.toNat_natCast, hx, hy, set_mid]
    rw [add_digit xa xb ho, add_over xa xb ho, w64 (x := (j : Int) - 1) (by omega) (by omega)]
    simp [dnums]

theorem add_ev (a b : List Nat) (ha : Dg a) (hb : Dg b) (na : a.length ≤ 100000) (nb : b.length ≤ 100000) :
    ∃ r, Dg r ∧ Canon r ∧ val r = val a + val b ∧ r.length ≤ max a.length b.length + 1 ∧ Ev (fun k => idiomref03_add.f k (ofD a) (ofD b)) (ofD r) := by
  have l2 : ∀ (a b : List Nat), Dg a → Dg b → a.length = b.length → a.length ≤ 100000 → ∃ r, Dg r ∧ Canon r ∧ val r = val a + val b ∧ r.length ≤ a.length + 1 ∧ Ev (fun k => idiomref03_add.l1 k (ofD a) (ofD b)) (ofD r) := by
    intro a b ha hb h n
    obtain ⟨r, h1, h2, h3, h4, h5⟩ := add_loop a b ha hb h (by omega) a.length [] 0 (Nat.le_refl _) Dg.nil (by simp) (by omega) (by rw [List.drop_length, h, List.drop_length]; simp [val])
    refine ⟨r, h1, h2, h3, h4, Ev.step (fun k => ?_) h5⟩
    simp only [idiomref03_add.l1, size_ofD]
    rw [if_neg (by omega), if_pos (by omega), if_pos (by omega)]
    congr 1
    · simp [dnums]
    · unfold wrap64; omega
  have l1 : ∀ (d : Nat) (a b : List Nat), Dg a → Dg b → a.length - b.length = d → b.length ≤ a.length → a.length ≤ 100000 → ∃ r, Dg r ∧ Canon r ∧ val r = val a + val b ∧ r.length ≤ a.length + 1 ∧ Ev (fun k => idiomref03_add.l1 k (ofD a) (ofD b)) (ofD r) := by
    intro d
    induction d with
    | zero => intro a b ha hb h h2 n; exact l2 a b ha hb (by omega) n
    | succ d ih =>
      intro a b ha hb h h2 n
      obtain ⟨r, h1, h2, h3, h4, h5⟩ := ih a (0 :: b) ha (Dg.cons (by omega) hb) (by simp; omega) (by simp; omega) n
      refine ⟨r, h1, h2, by simpa [val] using h3, h4, Ev.step (fun k => ?_) h5⟩
      simp only [idiomref03_add.l1]
      rw [if_pos (by rw [size_ofD, size_ofD]; omega), if_pos (by rw [size_ofD]; omega), ofD_zero, ofD_append]
      rfl
  have l0 : ∀ (d : Nat) (a b : List Nat), Dg a → Dg b → b.length - a.length = d → a.length ≤ 100000 → b.length ≤ 100000 → ∃ r, Dg r ∧ Canon r ∧ val r = val a + val b ∧ r.length ≤ max a.length b.length + 1 ∧ Ev (fun k => idiomref03_add.l0 k (ofD a) (ofD b)) (ofD r) := by
    intro d
    induction d with
    | zero =>
      intro a b ha hb h n m
      obtain ⟨r, h1, h2, h3, h4, h5⟩ := l1 _ a b ha hb rfl (by omega) n
      refine ⟨r, h1, h2, h3, by omega, Ev.step (fun k => ?_) h5⟩
      simp only [idiomref03_add.l0]
      rw [if_neg (by rw [size_ofD, size_ofD]; omega)]
    | succ d ih =>
      intro a b ha hb h n m
      obtain ⟨r, h1, h2, h3, h4, h5⟩ := ih (0 :: a) b (Dg.cons (by omega) ha) hb (by simp; omega) (by simp; omega) m
      refine ⟨r, h1, h2, by simpa [val] using h3, by simp at h4; omega, Ev.step (fun k => ?_) h5⟩
      simp only [idiomref03_add.l0]
      rw [if_pos (by rw [size_ofD, size_ofD]; omega), if_pos (by rw [size_ofD]; omega), ofD_zero, ofD_append]
      rfl
  exact l0 _ a b ha hb rfl na nb

theorem sub_loop (a b : List Nat) (ha : Dg a) (hb : Dg b) (hab : a.length = b.length) (na : a.length ≤ 1000000) (hle : val b ≤ val a) :
    ∀ (j : Nat) (c : List Nat) (o : Nat), j ≤ a.length → Dg c → c.length = a.length - j → o ≤ 1 → val (a.drop j) + o * 10 ^ c.length = val (b.drop j) + val c →
    ∃ r, Dg r ∧ Canon r ∧ val r = val a - val b ∧ r.length ≤ max 1 a.length ∧ Ev (fun k => idiomref03_sub.l1 k (ofD a) (ofD b) (List.replicate j 0 ++ dnums c) o ((j : Int) - 1)) (ofD r) := by
  intro j
  induction j with
  | zero =>
    intro c o hj hc hcl ho hv
    simp only [List.drop_zero, Nat.sub_zero] at hv hcl
    have hlt := val_lt hc
    have h : o = 0 := by
      by_cases h1 : o = 1
      · subst h1; omega
      · omega
    subst h
    refine ⟨lead c, hc.lead, canon_lead c, by rw [val_lead]; omega, by rw [← hcl]; exact lead_length c, ?_⟩
    have hE := Ev.let (f := fun _ t => some t) (lead_ev c hc (by omega)) (Ev.now _) (fun n => rfl)
    refine Ev.step (fun k => ?_) hE
    simp only [idiomref03_sub.l1, List.replicate_zero, List.nil_append]
    rw [if_neg (by omega)]
    simp only [dnums, strOfNums_ofD]
  | succ j ih =>
    intro c o hj hc hcl ho hv
    have hja : j < a.length := by omega
    have hjb : j < b.length := by omega
    have xa := ha.get j
    have xb := hb.get j
    have e1 := getD_drop a j hja
    have e2 := getD_drop b j hjb
    generalize hx : a.getD j 0 = x at *
    generalize hy : b.getD j 0 = y at *
    have p1 : a.length - (j + 1) = c.length := by omega
    have p2 : b.length - (j + 1) = c.length := by omega
    have ej : ((j + 1 : Nat) : Int) - 1 = j := by omega
    by_cases hneg : x < y + o
    · obtain ⟨r, h1, h2, h3, h4, h5⟩ := ih ((x + 10 - y - o) :: c) 1 (by omega) (Dg.cons (by omega) hc) (by simp; omega) (by omega) (by
        rw [e1, e2]
        simp only [val, List.length_cons, List.length_drop, p1, p2, Nat.pow_succ]
        have q2 : (x + 10 - y - o) * 10 ^ c.length + y * 10 ^ c.length + o * 10 ^ c.length = x * 10 ^ c.length + 10 * 10 ^ c.length := by
          rw [← Nat.add_mul, ← Nat.add_mul, ← Nat.add_mul]; congr 1; omega
        omega)
      refine ⟨r, h1, h2, h3, h4, Ev.step (fun k => ?_) h5⟩
      simp only [idiomref03_sub.l1]
      rw [ej, if_pos (by omega), if_pos (by omega), if_pos (by rw [size_ofD]; omega), if_pos (by rw [size_ofD]; omega)]
      rw [bt_ofD ha (by omega) (by omega), bt_ofD hb (by omega) (by omega), Int.toNat_natCast, hx, hy]
      rw [if_pos (by rw [sub_diff xa xb ho]; omega), if_pos (by simp [dnums]; omega), set_mid, sub_neg xa xb ho hneg, w64 (x := (j : Int) - 1) (by omega) (by omega)]
      simp [dnums]
    · obtain ⟨r, h1, h2, h3, h4, h5⟩ := ih ((x - y - o) :: c) 0 (by omega) (Dg.cons (by omega) hc) (by simp; omega) (by omega) (by
        rw [e1, e2]
        simp only [val, List.length_cons, List.length_drop, p1, p2, Nat.pow_succ]
        have q2 : (x - y - o) * 10 ^ c.length + y * 10 ^ c.length + o * 10 ^ c.length = x * 10 ^ c.length := by
          rw [← Nat.add_mul, ← Nat.add_mul]; congr 1; omega
        omega)
      refine ⟨r, h1, h2, h3, h4, Ev.step (fun k => ?_) h5⟩
      simp only [idiomref03_sub.l1]
      rw [ej, if_pos (by omega), if_pos (by omega), if_pos (by rw [size_ofD]; omega), if_pos (by rw [size_ofD]; omega)]
      rw [bt_ofD ha (by omega) (by omega), bt_ofD hb (by omega) (by omega), Int.toNat_natCast, hx, hy]
      rw [if_neg (by rw [sub_diff xa xb ho]; omega), if_pos (by simp [dnums]; omega), set_mid, sub_pos xa xb ho hneg, w64 (x := (j : Int) - 1) (by omega) (by omega)]
      simp [dnums]

theorem sub_ev (a b : List Nat) (ha : Dg a) (hb : Dg b) (na : a.length ≤ 100000) (hl : b.length ≤ a.length) (hle : val b ≤ val a) :
    ∃ r, Dg r ∧ Canon r ∧ val r = val a - val b ∧ r.length ≤ max 1 a.length ∧ Ev (fun k => idiomref03_sub.f k (ofD a) (ofD b)) (ofD r) := by
  have l0 : ∀ (d : Nat) (b : List Nat), Dg b → a.length - b.length = d → b.length ≤ a.length → val b ≤ val a → ∃ r, Dg r ∧ Canon r ∧ val r = val a - val b ∧ r.length ≤ max 1 a.length ∧ Ev (fun k => idiomref03_sub.l0 k (ofD a) (ofD b)) (ofD r) := by
    intro d
    induction d with
    | zero =>
      intro b hb h h2 hle
      obtain ⟨r, h1, h2, h3, h4, h5⟩ := sub_loop a b ha hb (by omega) (by omega) hle a.length [] 0 (Nat.le_refl _) Dg.nil (by simp) (by omega) (by rw [List.drop_length, show a.length = b.length by omega, List.drop_length]; simp [val])
      refine ⟨r, h1, h2, h3, h4, Ev.step (fun k => ?_) h5⟩
      simp only [idiomref03_sub.l0, size_ofD]
      rw [if_neg (by omega), if_pos (by omega), if_pos (by omega)]
      congr 1
      · simp [dnums]
      · unfold wrap64; omega
    | succ d ih =>
      intro b hb h h2 hle
      obtain ⟨r, h1, h2, h3, h4, h5⟩ := ih (0 :: b) (Dg.cons (by omega) hb) (by simp; omega) (by simp; omega) (by simpa [val] using hle)
      refine ⟨r, h1, h2, by simpa [val] using h3, h4, Ev.step (fun k => ?_) h5⟩
      simp only [idiomref03_sub.l0]
      rw [if_pos (by rw [size_ofD, size_ofD]; omega), if_pos (by rw [size_ofD]; omega), ofD_zero, ofD_append]
      rfl
  exact l0 _ b hb rfl hl hle

theorem nums_snoc (q : List Nat) (d : Nat) : dnums (q ++ [d]) = dnums q ++ [((d + 48 : Nat) : Int)] := by simp [dnums]
theorem quo_inner (a b q : List Nat) (i : Int) (R : Nat) (hb : Dg b) (cb : Canon b) (nb : b.length ≤ 1000) (hq : q.length ≤ 100000) (hR : R < 10 * val b) (i0 : 0 ≤ i) (i1 : i ≤ 1000000) :
    ∀ (m k : Nat) (r : List Nat), k + m = 9 → Dg r → Canon r → r.length ≤ b.length + 1 → val r + k * val b = R →
    ∃ (d : Nat) (r' : List Nat), d ≤ 9 ∧ Dg r' ∧ Canon r' ∧ val r' < val b ∧ val r' + d * val b = R ∧
      ∀ P, Ev (fun n => idiomref03_quo.l0 n (ofD a) (ofD b) (dnums (q ++ [d])) (ofD r') (i + 1)) P → Ev (fun n => idiomref03_quo.l1 n (ofD a) (ofD b) (dnums q) (ofD r) i ((k + 48 : Nat) : Int)) P := by
  have stop : ∀ (k : Nat) (r : List Nat), k ≤ 9 → Dg r → Canon r → r.length ≤ b.length + 1 → val r + k * val b = R → val r < val b → ∃ (d : Nat) (r' : List Nat), d ≤ 9 ∧ Dg r' ∧ Canon r' ∧ val r' < val b ∧ val r' + d * val b = R ∧
      ∀ P, Ev (fun n => idiomref03_quo.l0 n (ofD a) (ofD b) (dnums (q ++ [d])) (ofD r') (i + 1)) P → Ev (fun n => idiomref03_quo.l1 n (ofD a) (ofD b) (dnums q) (ofD r) i ((k + 48 : Nat) : Int)) P := by
    intro k r hk hr cr nr e h
    refine ⟨k, r, hk, hr, cr, h, e, fun P hP => ?_⟩
    refine Ev.step (f := fun n => (idiomref03_cmp.f n (ofD r) (ofD b)).bind _) (fun n => by simp only [idiomref03_quo.l1]; rfl) ?_
    refine Ev.bind (cmp_ev r b hr hb (by omega) (by omega)) ?_
    rw [if_pos h]
    refine Ev.congr (fun n => ?_) hP
    rw [if_neg (by omega), if_pos (by simp [dnums]; omega), w64 (by omega) (by omega), nums_snoc]
  intro m
  induction m with
  | zero =>
    intro k r hk hr cr nr e
    have hk9 : k = 9 := by omega
    subst hk9
    exact stop 9 r (by omega) hr cr nr e (by omega)
  | succ m ih =>
    intro k r hk hr cr nr e
    by_cases h : val r < val b
    · exact stop k r (by omega) hr cr nr e h
    · obtain ⟨s, s1, s2, s3, s4, s5⟩ := sub_ev r b hr hb (by omega) (canon_length_le hr cb (by omega) cr.1) (by omega)
      have hb0 : b.length ≠ 0 := fun e => cb.1 (List.eq_nil_of_length_eq_zero e)
      obtain ⟨d, r', h1, h2, h3, h4, h5, h6⟩ := ih (k + 1) s (by omega) s1 s2 (by omega) (by rw [s3, Nat.add_mul]; omega)
      refine ⟨d, r', h1, h2, h3, h4, h5, fun P hP => ?_⟩
      refine Ev.step (f := fun n => (idiomref03_cmp.f n (ofD r) (ofD b)).bind _) (fun n => by simp only [idiomref03_quo.l1]; rfl) ?_
      refine Ev.bind (cmp_ev r b hr hb (by omega) (by omega)) ?_
      have hge : (if val r < val b then (-1 : Int) else if val r = val b then 0 else 1) ≥ 0 := by rw [if_neg h]; split <;> omega
      refine Ev.congr (fun n => if_pos hge) ?_
      refine Ev.bind s5 ?_
      refine Ev.congr (fun n => ?_) (h6 P hP)
      congr 1
      omega

theorem quo_loop (a b : List Nat) (ha : Dg a) (hb : Dg b) (cb : Canon b) (hbp : 0 < val b) (na : a.length ≤ 1000) (nb : b.length ≤ 1000) :
    ∀ (m i : Nat) (q r : List Nat), a.length - i = m → i ≤ a.length → Dg q → Dg r → Canon r → q.length = i → val r < val b → val q * val b + val r = val (a.take i) →
    ∃ Q R, Dg Q ∧ Canon Q ∧ Dg R ∧ Canon R ∧ val R < val b ∧ val Q * val b + val R = val a ∧ Q.length ≤ max 1 a.length ∧ Ev (fun n => idiomref03_quo.l0 n (ofD a) (ofD b) (dnums q) (ofD r) (i : Int)) (ofD Q, ofD R) := by
  intro m
  induction m with
  | zero =>
    intro i q r hm hi hq hr cr ql hlt hv
    have : i = a.length := by omega
    subst this
    rw [List.take_length] at hv
    refine ⟨lead q, r, hq.lead, canon_lead q, hr, cr, hlt, by rw [val_lead]; exact hv, by rw [← ql]; exact lead_length q, ?_⟩
    have hE := Ev.let (f := fun _ t => some (t, ofD r)) (lead_ev q hq (by omega)) (Ev.now _) (fun n => rfl)
    refine Ev.step (fun k => ?_) hE
    simp only [idiomref03_quo.l0]
    rw [if_neg (by rw [size_ofD]; omega)]
    simp only [dnums, strOfNums_ofD]
  | succ m ih =>
    intro i q r hm hi hq hr cr ql hlt hv
    have hia : i < a.length := by omega
    have hx := ha.get i
    have i0 : (0 : Int) ≤ i := Int.natCast_nonneg i
    have i1 : (i : Int) ≤ 1000000 := by clear hlt hv; omega
    have w1 : wrap64 ((i : Int) + 1) = (i : Int) + 1 := by clear hlt hv; exact w64 (by omega) (by omega)
    have s1 : ((i : Int) < ((ofD a).size : Int)) := by clear hlt hv; rw [size_ofD]; omega
    have s2 : (i : Int) + 1 ≤ ((ofD a).size : Int) := by clear hlt hv; rw [size_ofD]; omega
    have s4 : (i : Int) ≤ (i : Int) + 1 := by clear hlt hv; omega
    have rl : r.length ≤ b.length := canon_length_le hb cr (by omega) cb.1
    have e1 : (a.drop i).take 1 = [a.getD i 0] := by rw [getD_drop a i hia]; rfl
    have e2 : a.take (i + 1) = a.take i ++ [a.getD i 0] := by
      rw [List.take_succ_eq_append_getElem hia, List.getD_eq_getElem?_getD, List.getElem?_eq_getElem hia, Option.getD_some]
    generalize a.getD i 0 = x at *
    have s3 : (ofD r).size + (ofD [x]).size ≤ 9223372036854775807 := by clear hlt hv; rw [size_ofD, size_ofD, List.length_singleton]; omega
    have s6 : (r ++ [x]).length ≤ 1000000 := by clear hlt hv; rw [List.length_append, List.length_singleton]; omega
    have ex : (ofD a).extract (i : Int).toNat ((i : Int) + 1).toNat = ofD [x] := by
      clear hlt hv
      rw [ofD_extract, ← e1, Int.toNat_natCast, show ((i : Int) + 1).toNat - i = 1 by omega]
    have hr' : Dg (r ++ [x]) := hr.append (Dg.cons hx Dg.nil)
    have hval : val (r ++ [x]) = val r * 10 + x := val_snoc r x
    have ll := lead_length (r ++ [x])
    rw [List.length_append, List.length_singleton] at ll
    obtain ⟨d, r', h1, h2, h3, h4, h5, h6⟩ := quo_inner a b q i (val r * 10 + x) hb cb nb (by clear hlt hv; omega) (by clear hv; omega) i0 i1 9 0 (lead (r ++ [x])) (by omega) hr'.lead (canon_lead _) (by omega) (by rw [val_lead, hval]; omega)
    have key : val (q ++ [d]) * val b + val r' = val (a.take (i + 1)) := by
      have e3 : (val q * 10 + d) * val b = 10 * (val q * val b) + d * val b := by rw [Nat.add_mul, Nat.mul_comm (val q) 10, Nat.mul_assoc]
      rw [e2, val_snoc, val_snoc, e3]
      clear e3 e2 e1 ll hval h6
      generalize val q * val b = A at *
      generalize d * val b = B at *
      omega
    have l1 : a.length - (i + 1) = m := by clear hlt hv key h5 h4; omega
    have l3 : (q ++ [d]).length = i + 1 := by rw [List.length_append, List.length_singleton, ql]
    obtain ⟨Q, R, g1, g2, g3, g4, g5, g6, g8, g7⟩ := ih (i + 1) (q ++ [d]) r' l1 hia (hq.append (Dg.cons h1 Dg.nil)) h2 h3 l3 h4 key
    refine ⟨Q, R, g1, g2, g3, g4, g5, g6, g8, ?_⟩
    have g9 : Ev (fun n => idiomref03_quo.l0 n (ofD a) (ofD b) (dnums (q ++ [d])) (ofD r') ((i : Int) + 1)) (ofD Q, ofD R) := by
      rw [show ((i : Int) + 1) = ((i + 1 : Nat) : Int) from rfl]; exact g7
    have hE := Ev.bind (f := fun n t => idiomref03_quo.l1 n (ofD a) (ofD b) (dnums q) t i ((0 + 48 : Nat) : Int)) (lead_ev (r ++ [x]) hr' s6) (h6 _ g9)
    refine Ev.step (fun k => ?_) hE
    simp only [idiomref03_quo.l0]
    rw [w1, if_pos s1, if_pos i0, if_pos s4, if_pos s2, ex, if_pos s3, ofD_append]
    rfl

theorem quo_ev (a b : List Nat) (ha : Dg a) (hb : Dg b) (cb : Canon b) (hbp : 0 < val b) (na : a.length ≤ 1000) (nb : b.length ≤ 1000) :
    ∃ Q R, Dg Q ∧ Canon Q ∧ Dg R ∧ Canon R ∧ val Q = val a / val b ∧ val R = val a % val b ∧ Q.length ≤ max 1 a.length ∧ Ev (fun n => idiomref03_quo.f n (ofD a) (ofD b)) (ofD Q, ofD R) := by
  obtain ⟨Q, R, g1, g2, g3, g4, g5, g6, g8, g7⟩ := quo_loop a b ha hb cb hbp na nb a.length 0 [] [0] (by omega) (by omega) Dg.nil (Dg.cons (by omega) Dg.nil) ⟨by simp, .inl rfl⟩ rfl (by simpa [val] using hbp) (by simp [val])
  refine ⟨Q, R, g1, g2, g3, g4, ?_, ?_, g8, g7⟩
  · rw [← g6, Nat.add_comm, Nat.add_mul_div_right _ _ hbp, Nat.div_eq_of_lt g5, Nat.zero_add]
  · rw [← g6, Nat.add_comm, Nat.add_mul_mod_self_right, Nat.mod_eq_of_lt g5]

/-- Does one go away from 0? What is refused? -/
def upw (mode : Int) (neg : Bool) (q r u : Nat) : Bool × Int :=
  if r = 0 then (false, 0) else if mode = 1 then (true, 0) else if mode = 2 then (false, 0) else if mode = 3 then (!neg, 0) else if mode = 4 then (neg, 0)
  else if mode = 5 then (decide (u ≤ 2 * r), 0) else if mode = 6 then (decide (u < 2 * r), 0) else if mode = 7 then (decide (u < 2 * r) || (decide (u = 2 * r) && q % 2 == 1), 0) else (false, 31)
theorem val_odd (l : List Nat) (h : l ≠ []) : l.getD (l.length - 1) 0 % 2 = val l % 2 := by
  obtain ⟨m, d, rfl⟩ : ∃ m d, l = m ++ [d] := ⟨l.dropLast, l.getLast h, (List.dropLast_concat_getLast h).symm⟩
  rw [val_snoc]
  simp only [List.length_append, List.length_singleton, Nat.add_sub_cancel, List.getD_eq_getElem?_getD]
  simp
  omega
theorem away_ev (mode : Int) (neg : Bool) (q r u : List Nat) (hq : Dg q) (cq : Canon q) (nq : q.length ≤ 100000) (hr : Dg r) (cr : Canon r) (nr : r.length ≤ 10000) (hu : Dg u) (nu : u.length ≤ 10000) :
    Ev (fun n => idiomref03_away.f n mode neg (ofD q) (ofD r) (ofD u)) (upw mode neg (val q) (val r) (val u)) := by
  have hr0 : (ofD r).toList = ([48] : List UInt8) ↔ val r = 0 := by
    have : ([48] : List UInt8) = (ofD [0]).toList := by rw [toList_ofD]; rfl
    rw [this, toList_inj hr (Dg.cons (by omega) Dg.nil)]
    constructor
    · rintro rfl; rfl
    · exact canon_zero hr cr
  by_cases h0 : val r = 0
  · refine Ev.congr (fun n => ?_) (Ev.now _)
    simp only [idiomref03_away.f]
    rw [if_pos (hr0.2 h0)]
    simp [upw, h0]
  · obtain ⟨t, t1, t2, t3, t4, t5⟩ := add_ev r r hr hr (by omega) (by omega)
    refine Ev.congr (g := fun n => idiomref03_away.f n mode neg (ofD q) (ofD r) (ofD u)) (fun n => by simp only [idiomref03_away.f]; rw [if_neg (fun e => h0 (hr0.1 e))]) ?_
    refine Ev.bind t5 ?_
    refine Ev.bind (cmp_ev t u t1 hu (by omega) (by omega)) ?_
    refine Ev.congr (fun n => ?_) (Ev.now _)
    have ql : q.length ≠ 0 := fun e => cq.1 (List.eq_nil_of_length_eq_zero e)
    have w1 : wrap64 (((ofD q).size : Int) - 1) = (q.length : Int) - 1 := by rw [size_ofD]; exact w64 (by omega) (by omega)
    rw [w1, if_pos (by omega), if_pos (by rw [size_ofD]; omega), bt_ofD hq (by omega) (by omega)]
    have e1 : ((q.length : Int) - 1).toNat = q.length - 1 := by omega
    have odd : ((((((q.getD (q.length - 1) 0 + 48 : Nat) : Int) - 48) % 256) % 2) == 1) = (val q % 2 == 1) := by
      have a := hq.get (q.length - 1)
      have b := val_odd q cq.1
      rw [digit_of _ a, Bool.eq_iff_iff]
      simp only [beq_iff_eq]
      omega
    rw [e1, odd]
    have e3 : val t = 2 * val r := by omega
    rw [e3]
    unfold upw
    rw [if_neg h0]
    have c1 : ((if 2 * val r < val u then (-1 : Int) else if 2 * val r = val u then 0 else 1) ≥ 0) ↔ val u ≤ 2 * val r := by split <;> (try split) <;> omega
    have c2 : ((if 2 * val r < val u then (-1 : Int) else if 2 * val r = val u then 0 else 1) > 0) ↔ val u < 2 * val r := by split <;> (try split) <;> omega
    have c3 : ((if 2 * val r < val u then (-1 : Int) else if 2 * val r = val u then 0 else 1) = 0) ↔ val u = 2 * val r := by split <;> (try split) <;> omega
    generalize (if 2 * val r < val u then (-1 : Int) else if 2 * val r = val u then 0 else 1) = c at *
    by_cases m1 : mode = 1
    · rw [if_pos m1, if_pos m1]
    rw [if_neg m1, if_neg m1]
    by_cases m2 : mode = 2
    · rw [if_pos m2, if_pos m2]
    rw [if_neg m2, if_neg m2]
    by_cases m3 : mode = 3
    · rw [if_pos m3, if_pos m3]
    rw [if_neg m3, if_neg m3]
    by_cases m4 : mode = 4
    · rw [if_pos m4, if_pos m4]
    rw [if_neg m4, if_neg m4]
    by_cases m5 : mode = 5
    · rw [if_pos m5, if_pos m5, decide_eq_decide.2 c1]
    rw [if_neg m5, if_neg m5]
    by_cases m6 : mode = 6
    · rw [if_pos m6, if_pos m6, decide_eq_decide.2 c2]
    rw [if_neg m6, if_neg m6]
    by_cases m7 : mode = 7
    · rw [if_pos m7, if_pos m7]
      by_cases h1 : val u < 2 * val r
      · rw [if_pos (c2.2 h1)]; simp [h1]
      · rw [if_neg (fun h => h1 (c2.1 h))]
        by_cases h2 : val u = 2 * val r
        · rw [if_pos (c3.2 h2)]; simp [h2]
        · rw [if_neg (fun h => h2 (c3.1 h))]; simp [h1, h2]
    rw [if_neg m7, if_neg m7]

theorem up_none (mode : Int) (neg : Bool) (q r u : Nat) (h1 : 1 ≤ mode) (h7 : mode ≤ 7) : (upw mode neg q r u).2 = 0 := by
  unfold upw
  repeat' split
  all_goals first | rfl | omega
theorem turned_ev (mode : Int) (neg : Bool) (s u : List Nat) (hs : Dg s) (hu : Dg u) (cu : Canon u) (up0 : 0 < val u) (ns : s.length ≤ 1000) (nu : u.length ≤ 1000) :
    ∃ q, Dg q ∧ Canon q ∧ val q = val s / val u + (if (upw mode neg (val s / val u) (val s % val u) (val u)).1 = true then 1 else 0) ∧ q.length ≤ s.length + 2 ∧
      Ev (fun n => idiomref03_turned.f n mode neg (ofD s) (ofD u)) (ofD q, (upw mode neg (val s / val u) (val s % val u) (val u)).2) := by
  obtain ⟨Q, R, g1, g2, g3, g4, g5, g6, g8, g7⟩ := quo_ev s u hs hu cu up0 ns nu
  have hR : R.length ≤ u.length := canon_length_le hu g4 (by rw [g6]; exact Nat.le_of_lt (Nat.mod_lt _ up0)) cu.1
  have aw := away_ev mode neg Q R u g1 g2 (by omega) g3 g4 (by omega) hu (by omega)
  rw [g5, g6] at aw
  generalize upw mode neg (val s / val u) (val s % val u) (val u) = x at *
  by_cases hx : x.1 = true
  · obtain ⟨t, t1, t2, t3, t4, t5⟩ := add_ev Q [1] g1 (Dg.cons (by omega) Dg.nil) (by omega) (by simp)
    refine ⟨t, t1, t2, by rw [t3, g5, if_pos hx]; simp [val], by simp at t4; omega, ?_⟩
    refine Ev.bind g7 (Ev.bind aw ?_)
    refine Ev.congr (fun n => if_pos hx) ?_
    exact Ev.bind t5 (Ev.now _)
  · refine ⟨Q, g1, g2, by rw [g5, if_neg hx]; rfl, by omega, ?_⟩
    refine Ev.bind g7 (Ev.bind aw ?_)
    exact Ev.congr (fun n => if_neg hx) (Ev.now _)

def pad (p : Nat) (l : List Nat) : List Nat := List.replicate (p + 1 - l.length) 0 ++ l
def iOf (p : Nat) (l : List Nat) : List Nat := lead ((pad p l).take ((pad p l).length - p))
def fOf (p : Nat) (l : List Nat) : List Nat := (pad p l).drop ((pad p l).length - p)
theorem pad_length (p : Nat) (l : List Nat) : (pad p l).length = max (p + 1) l.length := by simp [pad]; omega
theorem dg_pad {l : List Nat} (h : Dg l) (p : Nat) : Dg (pad p l) := (Dg.zeros _).append h
theorem val_pad (p : Nat) (l : List Nat) : val (pad p l) = val l := val_zeros_append _ _
theorem pad_of_lt {p : Nat} {l : List Nat} (h : p < l.length) : pad p l = l := by
  rw [pad, show p + 1 - l.length = 0 by omega]; rfl
theorem pad_cons {p : Nat} {l : List Nat} (h : l.length ≤ p) : pad p (0 :: l) = pad p l := by
  simp only [pad, List.length_cons]
  rw [show p + 1 - l.length = (p + 1 - (l.length + 1)) + 1 by omega, List.replicate_succ']
  simp
theorem fOf_length (p : Nat) (l : List Nat) : (fOf p l).length = p := by simp [fOf, pad_length]; omega
theorem dg_fOf {l : List Nat} (h : Dg l) (p : Nat) : Dg (fOf p l) := (dg_pad h p).drop _
theorem dg_iOf {l : List Nat} (h : Dg l) (p : Nat) : Dg (iOf p l) := ((dg_pad h p).take _).lead
theorem val_fOf {l : List Nat} (h : Dg l) (p : Nat) : val (fOf p l) = val l % 10 ^ p := by
  have e : (pad p l).length - ((pad p l).length - p) = p := by rw [pad_length]; omega
  rw [fOf, val_drop (dg_pad h p), val_pad, e]
theorem val_iOf {l : List Nat} (h : Dg l) (p : Nat) : val (iOf p l) = val l / 10 ^ p := by
  have e : (pad p l).length - ((pad p l).length - p) = p := by rw [pad_length]; omega
  rw [iOf, val_lead, val_take (dg_pad h p), val_pad, e]
/-- Whole part and places are told by the worth alone. -/
theorem parts_eq {l m : List Nat} (hl : Dg l) (hm : Dg m) (h : val l = val m) (p : Nat) : iOf p l = iOf p m ∧ fOf p l = fOf p m :=
  ⟨canon_unique (dg_iOf hl p) (dg_iOf hm p) (canon_lead _) (canon_lead _) (by rw [val_iOf hl, val_iOf hm, h]), eq_of_val (dg_fOf hl p) (dg_fOf hm p) (by rw [fOf_length, fOf_length]) (by rw [val_fOf hl, val_fOf hm, h])⟩

theorem made_ev (neg : Bool) (s : List Nat) (p : Nat) (hs : Dg s) (ns : s.length ≤ 10000) (np : p ≤ 10000) :
    Ev (fun n => idiomref03_Made.f n neg (ofD s) (p : Int)) (neg && decide (val s ≠ 0), ofD (iOf p s), ofD (fOf p s)) := by
  have base : ∀ s : List Nat, Dg s → s.length ≤ 10001 → p < s.length → Ev (fun n => idiomref03_Made.l0 n neg (ofD s) (p : Int)) (neg && decide (val s ≠ 0), ofD (iOf p s), ofD (fOf p s)) := by
    intro s hs ns h
    have w1 : wrap64 (((ofD s).size : Int) - p) = ((s.length - p : Nat) : Int) := by rw [size_ofD, w64 (by omega) (by omega)]; omega
    have hI : (ofD s).extract 0 (s.length - p) = ofD (s.take (s.length - p)) := by rw [ofD_extract]; simp
    have hF : (ofD s).extract (s.length - p) s.length = ofD (s.drop (s.length - p)) := by
      rw [ofD_extract, List.take_of_length_le (by simp)]
    have eI : iOf p s = lead (s.take (s.length - p)) := by simp only [iOf, pad_of_lt h]
    have eF : fOf p s = s.drop (s.length - p) := by simp only [fOf, pad_of_lt h]
    have lI := lead_length (s.take (s.length - p))
    rw [List.length_take] at lI
    refine Ev.step (f := fun n => (idiomref03_Lead.f n (ofD (s.take (s.length - p)))).bind fun t => if neg = true then (if t.size + (ofD (s.drop (s.length - p))).size ≤ 9223372036854775807 then ((idiomref03_Lead.f n (t ++ ofD (s.drop (s.length - p)))).bind fun t190 => some ((t190.toList != ([48] : List UInt8)), t, ofD (s.drop (s.length - p)))) else none) else some (false, t, ofD (s.drop (s.length - p)))) (fun n => ?_) ?_
    · simp only [idiomref03_Made.l0]
      rw [if_neg (by rw [size_ofD]; omega), w1, if_pos (by omega), if_pos (by rw [size_ofD]; omega), Int.toNat_natCast, size_ofD, hI, hF]
    · refine Ev.bind (lead_ev _ (hs.take _) (by simp; omega)) ?_
      rw [← eI, ← eF]
      cases neg with
      | false => exact Ev.congr (fun n => by simp) (Ev.now _)
      | true =>
        have hv : val (iOf p s ++ fOf p s) = val s := by
          rw [val_append, fOf_length, val_iOf hs, val_fOf hs]
          have := Nat.div_add_mod (val s) (10 ^ p)
          rw [Nat.mul_comm] at this
          exact this
        have hd : Dg (iOf p s ++ fOf p s) := (dg_iOf hs p).append (dg_fOf hs p)
        refine Ev.congr (fun n => by rw [if_pos rfl, if_pos (by rw [size_ofD, size_ofD, fOf_length, eI]; omega), ofD_append]) ?_
        refine Ev.let (f := fun _ t190 => some ((t190.toList != ([48] : List UInt8)), ofD (iOf p s), ofD (fOf p s))) (lead_ev _ hd (by rw [List.length_append, fOf_length, eI]; omega)) ?_ (fun n => rfl)
        have e : ((ofD (lead (iOf p s ++ fOf p s))).toList != ([48] : List UInt8)) = (true && decide (val s ≠ 0)) := by
          have : ([48] : List UInt8) = (ofD [0]).toList := by rw [toList_ofD]; rfl
          rw [this, Bool.eq_iff_iff, bne_iff_ne, Ne, toList_inj hd.lead (Dg.cons (by omega) Dg.nil)]
          simp only [Bool.true_and, decide_eq_true_eq, Ne]
          constructor
          · intro h1 h2
            exact h1 (canon_zero hd.lead (canon_lead _) (by rw [val_lead, hv, h2]))
          · intro h1 h2
            apply h1
            rw [← hv, ← val_lead, h2]; rfl
        rw [e]
        exact Ev.now _
  have go : ∀ (m : Nat) (s : List Nat), p + 1 - s.length = m → Dg s → s.length ≤ 10001 → Ev (fun n => idiomref03_Made.l0 n neg (ofD s) (p : Int)) (neg && decide (val s ≠ 0), ofD (iOf p s), ofD (fOf p s)) := by
    intro m
    induction m with
    | zero => intro s hm hs ns; exact base s hs ns (by omega)
    | succ m ih =>
      intro s hm hs ns
      have := ih (0 :: s) (by simp; omega) (Dg.cons (by omega) hs) (by simp; omega)
      have e0 : val (0 :: s) = val s := by simp [val]
      have e1 : pad p (0 :: s) = pad p s := pad_cons (by omega)
      rw [e0, iOf, fOf, e1] at this
      refine Ev.step (fun n => ?_) this
      simp only [idiomref03_Made.l0]
      rw [if_pos (by rw [size_ofD]; omega), if_pos (by rw [size_ofD]; omega), ofD_zero, ofD_append]
      rfl
  exact go _ s rfl hs (by omega)
end Go.Proofs.YtpmhebdaphjinaaDoor.RoundRef
set_option linter.unusedVariables false
set_option linter.unusedSimpArgs false
namespace Go.Proofs.YtpmhebdaphjinaaDoor.RoundProg
open Go.RowKit Go.Proofs.YtpmhebdaphjinaaDoorW.PrintWords Go.Proofs.YtpmhebdaphjinaaDoorW.PrintLast Go.Proofs.YtpmhebdaphjinaaDoor.F Go.Proofs.YtpmhebdaphjinaaDoor.Dig Go.Proofs.YtpmhebdaphjinaaDoor.RoundRef

def AllD (s : ByteArray) : Prop := ∀ i : Nat, i < s.size → 48 ≤ bt s i ∧ bt s i ≤ 57
theorem allD_ofD {l : List Nat} (h : Dg l) : AllD (ofD l) := fun i hi => by
  rw [size_ofD] at hi
  rw [bt_ofD h (by omega) (by omega)]
  have := h.get (i : Int).toNat
  omega
theorem all_yes (s : ByteArray) (hs : s.size ≤ 1000000) (h : AllD s) : Ev (fun k => decimal_all.f k s) true := by
  have go : ∀ (m i : Nat), s.size - i = m → Ev (fun k => decimal_all.l0 k s (s.size : Int) (i : Int)) true := by
    intro m
    induction m with
    | zero =>
      intro i hi
      refine Ev.some fun k => ?_
      simp only [decimal_all.l0]
      rw [if_neg (by omega)]
    | succ m ih =>
      intro i hi
      obtain ⟨a, b⟩ := h i (by omega)
      refine Ev.step (fun k => ?_) (ih (i + 1) (by omega))
      simp only [decimal_all.l0]
      rw [if_pos (by omega), if_pos (by omega), if_pos (by omega), if_neg (by omega), if_neg (by omega), w64 (by omega) (by omega)]
      rfl
  exact go _ 0 rfl
theorem all_no (s : ByteArray) (hs : s.size ≤ 1000000) (h : ¬ AllD s) : Ev (fun k => decimal_all.f k s) false := by
  have go : ∀ (m i : Nat), s.size - i = m → (∃ j, i ≤ j ∧ j < s.size ∧ ¬ (48 ≤ bt s j ∧ bt s j ≤ 57)) → Ev (fun k => decimal_all.l0 k s (s.size : Int) (i : Int)) false := by
    intro m
    induction m with
    | zero => rintro i hi ⟨j, h1, h2, _⟩; omega
    | succ m ih =>
      rintro i hi ⟨j, h1, h2, h3⟩
      by_cases hd : 48 ≤ bt s i ∧ bt s i ≤ 57
      · have hj : i ≠ j := fun e => h3 (e ▸ hd)
        refine Ev.step (fun k => ?_) (ih (i + 1) (by omega) ⟨j, by omega, h2, h3⟩)
        simp only [decimal_all.l0]
        rw [if_pos (by omega), if_pos (by omega), if_pos (by omega), if_neg (by omega), if_neg (by omega), w64 (by omega) (by omega)]
        rfl
      · refine Ev.some fun k => ?_
        simp only [decimal_all.l0]
        rw [if_pos (by omega), if_pos (by omega), if_pos (by omega)]
        by_cases h4 : bt s i < 48
        · rw [if_pos h4]
        · rw [if_neg h4, if_pos (by omega)]
  refine go _ 0 rfl ?_
  apply Classical.byContradiction
  intro hn
  exact h fun i hi => Classical.byContradiction fun hh => hn ⟨i, Nat.zero_le _, hi, hh⟩
theorem digits_yes (s : ByteArray) (hs : s.size ≤ 1000000) (h : AllD s) : Ev (fun k => idiomref02_Digits.f k s) true := by
  have go : ∀ (m i : Nat), s.size - i = m → Ev (fun k => idiomref02_Digits.l0 k s (i : Int)) true := by
    intro m
    induction m with
    | zero =>
      intro i hi
      refine Ev.some fun k => ?_
      simp only [idiomref02_Digits.l0]
      rw [if_neg (by omega)]
    | succ m ih =>
      intro i hi
      obtain ⟨a, b⟩ := h i (by omega)
      refine Ev.step (fun k => ?_) (ih (i + 1) (by omega))
      simp only [idiomref02_Digits.l0, idiomref02_Digit.f]
      rw [if_pos (by omega), if_pos (by omega), if_pos (by omega), w64 (by omega) (by omega)]
      simp [b]
  exact go _ 0 rfl
theorem digits_no (s : ByteArray) (hs : s.size ≤ 1000000) (h : ¬ AllD s) : Ev (fun k => idiomref02_Digits.f k s) false := by
  have go : ∀ (m i : Nat), s.size - i = m → (∃ j, i ≤ j ∧ j < s.size ∧ ¬ (48 ≤ bt s j ∧ bt s j ≤ 57)) → Ev (fun k => idiomref02_Digits.l0 k s (i : Int)) false := by
    intro m
    induction m with
    | zero => rintro i hi ⟨j, h1, h2, _⟩; omega
    | succ m ih =>
      rintro i hi ⟨j, h1, h2, h3⟩
      by_cases hd : 48 ≤ bt s i ∧ bt s i ≤ 57
      · have hj : i ≠ j := fun e => h3 (e ▸ hd)
        refine Ev.step (fun k => ?_) (ih (i + 1) (by omega) ⟨j, by omega, h2, h3⟩)
        simp only [idiomref02_Digits.l0, idiomref02_Digit.f]
        rw [if_pos (by omega), if_pos (by omega), if_pos (by omega), w64 (by omega) (by omega)]
        simp [hd.2]
      · refine Ev.some fun k => ?_
        simp only [idiomref02_Digits.l0, idiomref02_Digit.f]
        rw [if_pos (by omega), if_pos (by omega)]
        by_cases h4 : bt s i ≥ 48
        · rw [if_pos h4]
          have h5 : ¬ bt s i ≤ 57 := by omega
          simp [h5]
        · rw [if_neg h4]; simp
  refine go _ 0 rfl ?_
  apply Classical.byContradiction
  intro hn
  exact h fun i hi => Classical.byContradiction fun hh => hn ⟨i, Nat.zero_le _, hi, hh⟩
theorem noughts_of (l : List Nat) (hl : Dg l) (hs : l.length ≤ 1000000) : Ev (fun k => idiomref02_noughts.f k (ofD l)) (decide (val l = 0)) := by
  have go : ∀ (m i : Nat), l.length - i = m → Ev (fun k => idiomref02_noughts.l0 k (ofD l) (i : Int)) (decide (val (l.drop i) = 0)) := by
    intro m
    induction m with
    | zero =>
      intro i hi
      rw [List.drop_eq_nil_of_le (by omega)]
      refine Ev.some fun k => ?_
      simp only [idiomref02_noughts.l0]
      rw [if_neg (by rw [size_ofD]; omega)]
      simp [val]
    | succ m ih =>
      intro i hi
      have e := getD_drop l i (by omega)
      have hx := hl.get i
      generalize hxe : l.getD i 0 = x at *
      by_cases h0 : x = 0
      · have ez : (val (l.drop i) = 0) = (val (l.drop (i + 1)) = 0) := by rw [e, h0]; simp [val]
        simp only [ez]
        refine Ev.step (fun k => ?_) (ih (i + 1) (by omega))
        simp only [idiomref02_noughts.l0]
        rw [if_pos (by rw [size_ofD]; omega), if_pos (by omega), bt_ofD hl (by omega) (by omega), Int.toNat_natCast, hxe, h0, if_pos (by omega), w64 (by omega) (by omega)]
        rfl
      · have ez : ¬ val (l.drop i) = 0 := by
          rw [e, val_eq_zero]
          intro hh
          exact h0 (hh x (by simp))
        refine Ev.some fun k => ?_
        simp only [idiomref02_noughts.l0]
        rw [if_pos (by rw [size_ofD]; omega), if_pos (by omega), bt_ofD hl (by omega) (by omega), Int.toNat_natCast, hxe, if_neg (by omega)]
        simp [ez]
  exact go _ 0 rfl

def Ok (neg : Bool) (I F : ByteArray) : Prop := ∃ li lf, Dg li ∧ Dg lf ∧ I = ofD li ∧ F = ofD lf ∧ Canon li ∧ li.length + lf.length ≤ 40 ∧ (neg = true → val li ≠ 0 ∨ val lf ≠ 0)
theorem trim_f (l : List Nat) (h : Dg l) (hs : l.length ≤ 1000000) : strings_Trim.f (ofD l) (⟨#[48]⟩ : ByteArray) = some (ofD (tt l)) := by
  unfold strings_Trim.f
  rw [if_pos ⟨rfl, by decide, by rw [size_ofD]; omega⟩]
  exact congrArg some (trim_ofD h)
theorem trimLeft_f (l : List Nat) (h : Dg l) (hs : l.length ≤ 1000000) : strings_TrimLeft.f (ofD l) (⟨#[48]⟩ : ByteArray) = some (ofD (tl l)) := by
  unfold strings_TrimLeft.f
  rw [if_pos ⟨rfl, by decide, by rw [size_ofD]; omega⟩]
  exact congrArg some (trimLeft_ofD h)
theorem repeat_f (n : Int) (h0 : 0 ≤ n) (h1 : n ≤ 1000000) : strings_Repeat.f (⟨#[48]⟩ : ByteArray) n = some (ofD (List.replicate n.toNat 0)) := by
  unfold strings_Repeat.f
  have e : (⟨#[48]⟩ : ByteArray).size = 1 := rfl
  rw [if_pos ⟨h0, by omega, by rw [e]; omega⟩]
  exact congrArg some (repeat_ofD _)
theorem toList_empty (s : ByteArray) : s.toList = [] ↔ s.size = 0 := by
  rw [ByteArray.toList_eq]
  obtain ⟨⟨l⟩⟩ := s
  simp [ByteArray.size]
theorem ok_sizes {neg : Bool} {I F : ByteArray} (h : Ok neg I F) : I.size ≠ 0 ∧ I.size + F.size ≤ 40 ∧ AllD I ∧ AllD F := by
  obtain ⟨li, lf, h1, h2, rfl, rfl, h3, h4, h5⟩ := h
  refine ⟨?_, by rw [size_ofD, size_ofD]; exact h4, allD_ofD h1, allD_ofD h2⟩
  rw [size_ofD]
  exact fun e => h3.1 (List.eq_nil_of_length_eq_zero e)
/-- Both checks say the same; where they say 'well', it is a decimal. -/
theorem check (neg : Bool) (I F : ByteArray) : ∃ c : Int, Ev (fun k => decimal_Check.f k neg I F) c ∧ Ev (fun k => idiomref02_Check.f k neg I F) c ∧ (c = 0 ∨ c = 20) ∧ (c = 0 ↔ Ok neg I F) := by
  have refBad : ∀ x : Bool, x = true → Ev (fun k => idiomref02_Check.j0 k x neg I F) 20 := fun x hx => Ev.some fun k => by simp only [idiomref02_Check.j0]; rw [if_pos hx]
  by_cases hI : I.size > 40
  · refine ⟨20, Ev.congr (fun k => ?_) (Ev.now _), Ev.congr (fun k => ?_) (refBad true rfl), .inr rfl, by simp; intro h; have := ok_sizes h; omega⟩
    · simp only [decimal_Check.f]; rw [if_pos (by omega)]
    · simp only [idiomref02_Check.f]; rw [if_neg (by omega), if_pos (by omega)]
  by_cases hF : F.size > 40 - I.size
  · refine ⟨20, Ev.congr (fun k => ?_) (Ev.now _), ?_, .inr rfl, by simp; intro h; have := ok_sizes h; omega⟩
    · simp only [decimal_Check.f]; rw [if_neg (by omega), w64 (by omega) (by omega), if_pos (by omega)]
    · by_cases h1 : I.size < 1
      · exact Ev.congr (fun k => by simp only [idiomref02_Check.f]; rw [if_pos (by omega)]) (refBad true rfl)
      · by_cases h2 : F.size > 40
        · exact Ev.congr (fun k => by simp only [idiomref02_Check.f]; rw [if_neg (by omega), if_neg (by omega), if_pos (by omega)]) (refBad true rfl)
        · exact Ev.congr (fun k => by simp only [idiomref02_Check.f]; rw [if_neg (by omega), if_neg (by omega), if_neg (by omega), w64 (by omega) (by omega)]) (refBad _ (by simp; omega))
  -- the program's form, then
  have prog : ∀ b : Bool, Ev (fun k => decimal_form.f k neg I F) b → Ev (fun k => decimal_Check.f k neg I F) (if b = true then 0 else 20) := fun b hb => by
    refine Ev.congr (g := fun k => decimal_Check.f k neg I F) (fun k => by simp only [decimal_Check.f]; rw [if_neg (by omega), w64 (by omega) (by omega), if_neg (by omega)]) ?_
    refine Ev.bind hb ?_
    cases b <;> exact Ev.now _
  have formBad : ∀ x : Bool, x = true → Ev (fun k => decimal_form.j0 k x neg I F) false := fun x hx => Ev.some fun k => by simp only [decimal_form.j0]; rw [if_pos hx]
  by_cases h0 : I.size = 0
  · refine ⟨20, prog false ?_, Ev.congr (fun k => ?_) (refBad true rfl), .inr rfl, by simp; intro h; have := ok_sizes h; omega⟩
    · exact Ev.congr (fun k => by simp only [decimal_form.f]; rw [if_pos ((toList_empty I).2 h0)]) (formBad true rfl)
    · simp only [idiomref02_Check.f]; rw [if_pos (by omega)]
  have hne : ¬ I.toList = [] := fun e => h0 ((toList_empty I).1 e)
  have ref : ∀ c : Int, Ev (fun k => idiomref02_Check.j0 k false neg I F) c → Ev (fun k => idiomref02_Check.f k neg I F) c := fun c hc => by
    refine Ev.congr (fun k => ?_) hc
    simp only [idiomref02_Check.f]
    rw [if_neg (by omega), if_neg (by omega), if_neg (by omega), w64 (by omega) (by omega), decide_eq_false (by omega)]
  by_cases dI : AllD I
  rotate_left
  · refine ⟨20, prog false ?_, ref 20 ?_, .inr rfl, by simp; intro h; exact dI (ok_sizes h).2.2.1⟩
    · refine Ev.congr (g := fun k => decimal_form.f k neg I F) (fun k => by simp only [decimal_form.f]; rw [if_neg hne]) ?_
      exact Ev.bind (all_no I (by omega) dI) (formBad true rfl)
    · refine Ev.step (g := fun k => idiomref02_Check.j0 k false neg I F) (fun k => by simp only [idiomref02_Check.j0]; rw [if_neg (by decide)]) ?_
      exact Ev.bind (digits_no I (by omega) dI) (Ev.now _)
  by_cases dF : AllD F
  rotate_left
  · refine ⟨20, prog false ?_, ref 20 ?_, .inr rfl, by simp; intro h; exact dF (ok_sizes h).2.2.2⟩
    · refine Ev.congr (g := fun k => decimal_form.f k neg I F) (fun k => by simp only [decimal_form.f]; rw [if_neg hne]) ?_
      exact Ev.bind (all_yes I (by omega) dI) (Ev.bind (all_no F (by omega) dF) (formBad true rfl))
    · refine Ev.step (g := fun k => idiomref02_Check.j0 k false neg I F) (fun k => by simp only [idiomref02_Check.j0]; rw [if_neg (by decide)]) ?_
      exact Ev.bind (digits_yes I (by omega) dI) (Ev.bind (digits_no F (by omega) dF) (Ev.now _))
  obtain ⟨li, di, rfl⟩ := of_bytes I dI
  obtain ⟨lf, df, rfl⟩ := of_bytes F dF
  rw [size_ofD] at hI hF h0
  rw [size_ofD] at hF
  have b0 : bt (ofD li) 0 = ((li.getD 0 0 + 48 : Nat) : Int) := bt_ofD di (by omega) (by omega)
  have form : ∀ (b x : Bool), x = decide (li.getD 0 0 = 0 ∧ 1 < li.length) → Ev (fun k => decimal_form.j0 k x neg (ofD li) (ofD lf)) b → Ev (fun k => decimal_form.f k neg (ofD li) (ofD lf)) b := fun b x hx hb => by
    refine Ev.congr (g := fun k => decimal_form.f k neg (ofD li) (ofD lf)) (fun k => by simp only [decimal_form.f]; rw [if_neg hne]) ?_
    refine Ev.bind (all_yes _ (by rw [size_ofD]; omega) dI) (Ev.bind (all_yes _ (by rw [size_ofD]; omega) dF) ?_)
    by_cases h1 : 1 < li.length
    · have e : ((bt (ofD li) 0) == 48) = x := by
        rw [b0, hx, Bool.eq_iff_iff]; simp [h1]; omega
      exact Ev.congr (fun k => by rw [if_pos rfl, if_pos (by rw [size_ofD]; omega), if_pos (by rw [size_ofD]; omega), e]) hb
    · have e : x = false := by rw [hx]; simp [h1]
      subst e
      exact Ev.congr (fun k => by rw [if_pos rfl, if_neg (by rw [size_ofD]; omega)]) hb
  have ref2 : ∀ c : Int, Ev (fun k => if 0 < ((ofD li).size : Int) then (if (bt (ofD li) 0) = 48 then (if ((ofD li).size : Int) > 1 then (some (20 : Int)) else (if neg = true then ((idiomref02_Nought.f k neg (ofD li) (ofD lf)).bind fun t147 => (if t147 = true then (some 20) else (some 0))) else (some 0))) else (if neg = true then ((idiomref02_Nought.f k neg (ofD li) (ofD lf)).bind fun t148 => (if t148 = true then (some 20) else (some 0))) else (some 0))) else (none)) c → Ev (fun k => idiomref02_Check.f k neg (ofD li) (ofD lf)) c := fun c hc => by
    refine ref c (Ev.step (g := fun k => idiomref02_Check.j0 k false neg (ofD li) (ofD lf)) (fun k => by simp only [idiomref02_Check.j0]; rw [if_neg (by decide)]) ?_)
    exact Ev.bind (digits_yes _ (by rw [size_ofD]; omega) dI) (Ev.bind (digits_yes _ (by rw [size_ofD]; omega) dF) hc)
  by_cases hz : li.getD 0 0 = 0 ∧ 1 < li.length
  · refine ⟨20, prog false (form false true (decide_eq_true hz).symm (formBad true rfl)), ref2 20 (Ev.congr (fun k => ?_) (Ev.now _)), .inr rfl, ?_⟩
    · rw [if_pos (by rw [size_ofD]; omega), b0, if_pos (by omega), if_pos (by rw [size_ofD]; omega)]
    · simp only [show ¬ (20 : Int) = 0 by omega, false_iff]
      rintro ⟨mi, mf, h1, h2, h3, h4, h5, h6, h7⟩
      have := ofD_inj di h1 h3
      subst this
      rcases h5.2 with h8 | h8
      · omega
      · exact h8 hz.1
  have cI : Canon li := ⟨fun e => h0 (by rw [e]; rfl), by
    by_cases h1 : li.length = 1
    · exact .inl h1
    · exact .inr fun e => hz ⟨e, by omega⟩⟩
  have okIff : Ok neg (ofD li) (ofD lf) ↔ (neg = true → val li ≠ 0 ∨ val lf ≠ 0) := by
    constructor
    · rintro ⟨mi, mf, h1, h2, h3, h4, h5, h6, h7⟩
      have e1 := ofD_inj di h1 h3
      have e2 := ofD_inj df h2 h4
      subst e1 e2
      exact h7
    · intro h
      exact ⟨li, lf, di, df, rfl, rfl, cI, by omega, h⟩
  have n1 := noughts_of li di (by omega)
  have n2 := noughts_of lf df (by omega)
  have tI := trim_f li di (by omega)
  have tF := trim_f lf df (by omega)
  have nought : Ev (fun k => idiomref02_Nought.f k neg (ofD li) (ofD lf)) (decide (val li = 0 ∧ val lf = 0)) := by
    refine Ev.bind n1 ?_
    by_cases h1 : val li = 0
    · refine Ev.congr (fun k => if_pos (by simp [h1])) ?_
      simp only [h1, true_and]
      exact Ev.bind n2 (Ev.now _)
    · refine Ev.congr (fun k => if_neg (by simp [h1])) ?_
      simp only [h1, false_and, decide_false]
      exact Ev.now _
  have fz : (decide (li.getD 0 0 = 0 ∧ 1 < li.length)) = false := decide_eq_false hz
  cases neg with
  | false =>
    refine ⟨0, ?_, ?_, .inl rfl, by simp [okIff]⟩
    · have := prog true (form true false fz.symm (Ev.some fun k => by simp only [decimal_form.j0]; rw [if_neg (by decide), if_neg (by decide)]))
      simpa using this
    · refine ref2 0 (Ev.congr (fun k => ?_) (Ev.now _))
      rw [if_pos (by rw [size_ofD]; omega)]
      by_cases h1 : bt (ofD li) 0 = 48
      · have : ¬ 1 < li.length := fun h => hz ⟨by omega, h⟩
        rw [if_pos h1, if_neg (by rw [size_ofD]; omega), if_neg (by decide)]
      · rw [if_neg h1, if_neg (by decide)]
  | true =>
    by_cases hv : val li = 0 ∧ val lf = 0
    · have e1 : (ofD (tt li)).toList = [] := toList_nil.2 (tt_nil.2 hv.1)
      have e2 : (ofD (tt lf)).toList = [] := toList_nil.2 (tt_nil.2 hv.2)
      refine ⟨20, ?_, ?_, .inr rfl, by simp [okIff, hv]⟩
      · have := prog false (form false false fz.symm (Ev.some fun k => by simp only [decimal_form.j0]; rw [if_neg (by decide), if_pos trivial, tI, Option.bind_some, if_pos e1, tF, Option.bind_some, e2]; rfl))
        simpa using this
      · refine ref2 20 ?_
        rw [show decide (val li = 0 ∧ val lf = 0) = true from decide_eq_true hv] at nought
        by_cases h1 : bt (ofD li) 0 = 48
        · have : ¬ 1 < li.length := fun h => hz ⟨by omega, h⟩
          exact Ev.congr (fun k => by rw [if_pos (by rw [size_ofD]; omega), if_pos h1, if_neg (by rw [size_ofD]; omega), if_pos rfl]) (Ev.bind nought (Ev.now _))
        · exact Ev.congr (fun k => by rw [if_pos (by rw [size_ofD]; omega), if_neg h1, if_pos rfl]) (Ev.bind nought (Ev.now _))
    · refine ⟨0, ?_, ?_, .inl rfl, by simp [okIff]; omega⟩
      · have hb : Ev (fun k => decimal_form.j0 k false true (ofD li) (ofD lf)) true := by
          refine Ev.some fun k => ?_
          simp only [decimal_form.j0]
          rw [if_neg (by decide), if_pos trivial, tI, Option.bind_some]
          by_cases h1 : val li = 0
          · have e1 : (ofD (tt li)).toList = [] := toList_nil.2 (tt_nil.2 h1)
            have e2 : (ofD (tt lf)).toList ≠ [] := fun e => hv ⟨h1, tt_nil.1 (toList_nil.1 e)⟩
            rw [if_pos e1, tF, Option.bind_some]
            simpa using e2
          · rw [if_neg (fun e => h1 (tt_nil.1 (toList_nil.1 e)))]
        have := prog true (form true false fz.symm hb)
        simpa using this
      · refine ref2 0 ?_
        rw [show decide (val li = 0 ∧ val lf = 0) = false from decide_eq_false hv] at nought
        by_cases h1 : bt (ofD li) 0 = 48
        · have : ¬ 1 < li.length := fun h => hz ⟨by omega, h⟩
          exact Ev.congr (fun k => by rw [if_pos (by rw [size_ofD]; omega), if_pos h1, if_neg (by rw [size_ofD]; omega), if_pos rfl]) (Ev.bind nought (Ev.now _))
        · exact Ev.congr (fun k => by rw [if_pos (by rw [size_ofD]; omega), if_neg h1, if_pos rfl]) (Ev.bind nought (Ev.now _))

/-- How what is left lies: nothing, less than half, half, more. -/
def lies (r u : Nat) : Int := if r = 0 then 0 else if 2 * r < u then 1 else if 2 * r = u then 2 else 3
theorem tt_five (t : List Nat) (h : t.getD 0 0 = 5) (ht : t ≠ []) : tt t = [5] ↔ val t.tail = 0 := by
  cases t with
  | nil => exact absurd rfl ht
  | cons d u =>
    simp only [List.getD_cons_zero] at h
    subst h
    simp only [List.tail_cons, tt, List.reverse_cons]
    rw [val_eq_zero]
    constructor
    · intro e
      by_cases hz : u.reverse.dropWhile (· == 0) = []
      · intro d hd
        exact dropWhile_nil.1 hz d (by simpa using hd)
      · exfalso
        rw [List.dropWhile_append, if_neg (by simpa using hz)] at e
        simp only [List.reverse_append, List.reverse_cons, List.reverse_nil, List.nil_append, List.singleton_append, tl] at e
        rw [List.dropWhile_cons_of_neg (by decide)] at e
        simp at e
        exact hz (by simpa using e)
    · intro hz
      have e1 : u.reverse.dropWhile (· == 0) = [] := dropWhile_nil.2 (fun d hd => hz d (by simpa using hd))
      rw [List.dropWhile_append, if_pos (by simpa using e1)]
      simp [tl]
theorem cut_ev (s : List Nat) (m : Nat) (hs : Dg s) (ns : s.length ≤ 100000) (m0 : 0 < m) (hm : m ≤ s.length) :
    Ev (fun k => round_cut.f k (ofD s) (m : Int)) (ofD (s.take (s.length - m)), lies (val (s.drop (s.length - m))) (10 ^ m)) := by
  have w1 : wrap64 (((ofD s).size : Int) - m) = ((s.length - m : Nat) : Int) := by rw [size_ofD, w64 (by omega) (by omega)]; omega
  have hI : (ofD s).extract 0 (s.length - m) = ofD (s.take (s.length - m)) := by rw [ofD_extract]; simp
  have hF : (ofD s).extract (s.length - m) s.length = ofD (s.drop (s.length - m)) := by rw [ofD_extract, List.take_of_length_le (by simp)]
  have dt := hs.drop (s.length - m)
  have lt : (s.drop (s.length - m)).length = m := by rw [List.length_drop]; omega
  generalize hT : s.drop (s.length - m) = T at *
  have tf := trim_f T dt (by omega)
  have vt := val_lt dt
  rw [lt] at vt
  have b0 : bt (ofD T) 0 = ((T.getD 0 0 + 48 : Nat) : Int) := bt_ofD dt (by omega) (by omega)
  obtain ⟨t, u, rfl⟩ : ∃ t u, T = t :: u := by
    cases T with
    | nil => simp at lt; omega
    | cons t u => exact ⟨t, u, rfl⟩
  simp only [List.getD_cons_zero] at b0
  have lu : u.length + 1 = m := by simpa using lt
  have vu := val_lt dt.tail
  have pw : 10 ^ m = 10 * 10 ^ u.length := by rw [← lu, Nat.pow_succ, Nat.mul_comm]
  have hp : 0 < 10 ^ u.length := Nat.pow_pos (by omega)
  have vT : val (t :: u) = t * 10 ^ u.length + val u := rfl
  have t9 := dt.head
  have big : 5 ≤ t → 5 * 10 ^ u.length ≤ t * 10 ^ u.length := fun h => Nat.mul_le_mul_right _ h
  have small : t ≤ 4 → t * 10 ^ u.length ≤ 4 * 10 ^ u.length := fun h => Nat.mul_le_mul_right _ h
  have six : 6 ≤ t → 6 * 10 ^ u.length ≤ t * 10 ^ u.length := fun h => Nat.mul_le_mul_right _ h
  have hsz : 0 < ((ofD (t :: u)).size : Int) := by rw [size_ofD, List.length_cons]; omega
  refine Ev.congr (g := fun k => round_cut.f k (ofD s) (m : Int)) (fun k => by simp only [round_cut.f]; rw [if_neg (by rw [size_ofD]; omega)]) ?_
  have e5 : ([53] : List UInt8) = (ofD [5]).toList := by rw [toList_ofD]; rfl
  have go : ∀ x : Int, (∀ k, (if (ofD (tt (t :: u))).toList = [] then some (ofD (s.take (s.length - m)), (0 : Int)) else if 0 < ((ofD (t :: u)).size : Int) then (if bt (ofD (t :: u)) 0 = 53 then round_cut.j1 (k + 1) (ofD (s.take (s.length - m))) (ofD (t :: u)) ((ofD (tt (t :: u))).toList == [53]) else round_cut.j1 (k + 1) (ofD (s.take (s.length - m))) (ofD (t :: u)) false) else none) = some (ofD (s.take (s.length - m)), x)) → Ev (fun k => round_cut.j0 k (ofD s) (m : Int)) (ofD (s.take (s.length - m)), x) := by
    intro x hx
    refine Ev.step (f := fun k => _) (fun k => by simp only [round_cut.j0]; rw [w1, if_pos (by omega), if_pos (by rw [size_ofD]; omega), Int.toNat_natCast, size_ofD, hF, hI, tf, Option.bind_some]) ?_
    exact Ev.some fun k => hx k
  by_cases hz : val (t :: u) = 0
  · rw [show lies (val (t :: u)) (10 ^ m) = 0 by simp [lies, hz]]
    exact go 0 fun k => if_pos (toList_nil.2 (tt_nil.2 hz))
  have hz2 : ¬ (ofD (tt (t :: u))).toList = [] := fun e => hz (tt_nil.1 (toList_nil.1 e))
  by_cases h5 : t = 5
  · subst h5
    have e53 : bt (ofD (5 :: u)) 0 = 53 := by rw [b0]; rfl
    by_cases hu : val u = 0
    · have : lies (val (5 :: u)) (10 ^ m) = 2 := by unfold lies; rw [if_neg hz, if_neg (by omega), if_pos (by omega)]
      rw [this]
      have et : tt (5 :: u) = [5] := (tt_five (5 :: u) rfl (by simp)).2 hu
      exact go 2 fun k => by rw [if_neg hz2, if_pos hsz, if_pos e53, et, ← e5]; simp [round_cut.j1]
    · have : lies (val (5 :: u)) (10 ^ m) = 3 := by unfold lies; rw [if_neg hz, if_neg (by omega), if_neg (by omega)]
      rw [this]
      have et : tt (5 :: u) ≠ [5] := fun e => hu ((tt_five (5 :: u) rfl (by simp)).1 e)
      have ef : ((ofD (tt (5 :: u))).toList == [53]) = false := by
        rw [e5, beq_eq_false_iff_ne, Ne, toList_inj dt.tt (Dg.cons (by omega) Dg.nil)]; exact et
      exact go 3 fun k => by rw [if_neg hz2, if_pos hsz, if_pos e53, ef]; simp only [round_cut.j1]; rw [if_neg (by decide), if_pos hsz, if_pos (by omega)]
  · have n53 : ¬ bt (ofD (t :: u)) 0 = 53 := by omega
    by_cases h6 : 6 ≤ t
    · have : lies (val (t :: u)) (10 ^ m) = 3 := by have := six h6; unfold lies; rw [if_neg hz, if_neg (by omega), if_neg (by omega)]
      rw [this]
      exact go 3 fun k => by rw [if_neg hz2, if_pos hsz, if_neg n53]; simp only [round_cut.j1]; rw [if_neg (by decide), if_pos hsz, if_pos (by omega)]
    · have : lies (val (t :: u)) (10 ^ m) = 1 := by have := small (by omega); unfold lies; rw [if_neg hz, if_pos (by omega)]
      rw [this]
      exact go 1 fun k => by rw [if_neg hz2, if_pos hsz, if_neg n53]; simp only [round_cut.j1]; rw [if_neg (by decide), if_pos hsz, if_neg (by omega)]

theorem nums8_ofD {l : List Nat} (h : Dg l) : Aid.nums8 (ofD l) = dnums l := by
  unfold Aid.nums8 dnums
  rw [data_ofD, List.map_map]
  apply List.map_congr_left
  intro d hd
  simp only [Function.comp]
  rw [ofNat48 (h d hd)]
theorem inc_nums : ∀ (g : List Nat), Dg g → ∃ g', Dg g' ∧ RoundOne.inc (dnums g) = dnums g' ∧ val g'.reverse = val g.reverse + 1 ∧ g'.length ≤ g.length + 1 ∧ g.length ≤ g'.length
  | [], _ => ⟨[1], Dg.cons (by omega) Dg.nil, rfl, rfl, by simp, by simp⟩
  | d :: t, h => by
    by_cases h9 : d = 9
    · subst h9
      obtain ⟨t', a, b, c, e, f⟩ := inc_nums t h.tail
      refine ⟨0 :: t', Dg.cons (by omega) a, ?_, ?_, by simp; omega, by simp; omega⟩
      · have : dnums (9 :: t) = 57 :: dnums t := rfl
        rw [this]
        simp only [RoundOne.inc, if_true, b]
        rfl
      · rw [List.reverse_cons, List.reverse_cons, val_snoc, val_snoc, c]; omega
    · refine ⟨(d + 1) :: t, Dg.cons (by have := h.head; omega) h.tail, ?_, ?_, by simp, by simp⟩
      · have : dnums (d :: t) = ((d + 48 : Nat) : Int) :: dnums t := rfl
        rw [this]
        simp only [RoundOne.inc]
        rw [if_neg (by omega)]
        have := h.head
        show _ :: dnums t = ((d + 1 + 48 : Nat) : Int) :: dnums t
        congr 1
        omega
      · rw [List.reverse_cons, List.reverse_cons, val_snoc, val_snoc]; omega
theorem one_f (h : List Nat) (hd : Dg h) (hn : h.length ≤ 1000000) : ∃ h', Dg h' ∧ val h' = val h + 1 ∧ h'.length ≤ h.length + 1 ∧ h.length ≤ h'.length ∧ round_one.f (ofD h) = some (ofD h') := by
  obtain ⟨g', a, b, c, e, f⟩ := inc_nums h.reverse hd.reverse
  refine ⟨g'.reverse, a.reverse, by simpa using c, by simpa using e, by simpa using f, ?_⟩
  unfold round_one.f RoundOne.f
  rw [if_pos (by rw [size_ofD]; omega), nums8_ofD hd]
  have : (dnums h).reverse = dnums h.reverse := by simp [dnums]
  rw [this, b]
  have e2 : (dnums g').reverse = dnums g'.reverse := by simp [dnums]
  rw [e2]
  exact congrArg some (strOfNums_ofD _)

theorem away_f (mode : Int) (neg : Bool) (q r u : Nat) (h1 : 1 ≤ mode) (h8 : mode ≤ 8) : round_away.f mode neg (lies r u) (q % 2 == 1) = some (upw mode neg q r u) := by
  unfold round_away.f upw lies
  by_cases h0 : r = 0
  · simp [h0]
  rw [if_neg h0, if_neg h0]
  have c0 : ¬ (if 2 * r < u then (1 : Int) else if 2 * r = u then 2 else 3) = 0 := by split <;> (try split) <;> omega
  have c1 : ((if 2 * r < u then (1 : Int) else if 2 * r = u then 2 else 3) ≥ 2) ↔ u ≤ 2 * r := by split <;> (try split) <;> omega
  have c2 : ((if 2 * r < u then (1 : Int) else if 2 * r = u then 2 else 3) = 3) ↔ u < 2 * r := by split <;> (try split) <;> omega
  have c3 : ((if 2 * r < u then (1 : Int) else if 2 * r = u then 2 else 3) = 2) ↔ u = 2 * r := by split <;> (try split) <;> omega
  generalize (if 2 * r < u then (1 : Int) else if 2 * r = u then 2 else 3) = c at *
  rw [if_neg c0]
  by_cases m1 : mode = 1
  · rw [if_pos m1, if_pos m1]
  rw [if_neg m1, if_neg m1]
  by_cases m2 : mode = 2
  · subst m2
    rw [if_pos rfl, if_neg (by omega), if_neg (by omega), if_neg (by omega), if_neg (by omega), if_neg (by omega), if_neg (by omega)]
  rw [if_neg m2]
  by_cases m3 : mode = 3
  · rw [if_pos m3, if_pos m3]
  rw [if_neg m3, if_neg m3]
  by_cases m4 : mode = 4
  · rw [if_pos m4, if_pos m4]
  rw [if_neg m4, if_neg m4]
  by_cases m5 : mode = 5
  · rw [if_pos m5, if_pos m5, decide_eq_decide.2 c1]
  rw [if_neg m5, if_neg m5]
  by_cases m6 : mode = 6
  · rw [if_pos m6, if_pos m6]
    have : (c == 3) = decide (u < 2 * r) := by rw [Bool.eq_iff_iff]; simp [c2]
    rw [this]
  rw [if_neg m6, if_neg m6]
  by_cases m7 : mode = 7
  · rw [if_pos m7, if_pos m7]
    by_cases a : u < 2 * r
    · rw [if_pos (c2.2 a)]; simp [a]
    · rw [if_neg (fun h => a (c2.1 h))]
      by_cases b : u = 2 * r
      · rw [if_pos (c3.2 b)]; simp [b]
      · rw [if_neg (fun h => b (c3.1 h))]; simp [a, b]
  rw [if_neg m7, if_neg m7, if_pos (by omega)]

theorem val_parts {h : List Nat} (hd : Dg h) (p : Nat) : val (iOf p h ++ fOf p h) = val h := by
  rw [val_append, fOf_length, val_iOf hd, val_fOf hd]
  have := Nat.div_add_mod (val h) (10 ^ p)
  rw [Nat.mul_comm] at this
  exact this
/-- What 'build' tells. -/
def built (neg : Bool) (h : List Nat) (p : Nat) : Bool × ByteArray × ByteArray × Int :=
  if (iOf p h).length + p > 40 then (false, ⟨#[]⟩, ⟨#[]⟩, 3) else (neg && decide (val h ≠ 0), ofD (iOf p h), ofD (fOf p h), 0)
theorem build_ev (neg : Bool) (h : List Nat) (p : Nat) (hd : Dg h) (hn : h.length ≤ 10000) (hp : p ≤ 10000) : Ev (fun k => round_build.f k neg (ofD h) (p : Int)) (built neg h p) := by
  have lp := pad_length p h
  have dp := dg_pad hd p
  have eI : iOf p h = lead ((pad p h).take ((pad p h).length - p)) := rfl
  have eF : fOf p h = (pad p h).drop ((pad p h).length - p) := rfl
  have dI := dg_iOf hd p
  have dF := dg_fOf hd p
  have lF := fOf_length p h
  have lI := lead_length ((pad p h).take ((pad p h).length - p))
  rw [← eI, List.length_take] at lI
  -- behind the padding
  have main : Ev (fun k => round_build.j0 k neg (ofD (pad p h)) (p : Int)) (built neg h p) := by
    have w1 : wrap64 (((ofD (pad p h)).size : Int) - p) = (((pad p h).length - p : Nat) : Int) := by rw [size_ofD, w64 (by omega) (by omega)]; omega
    have hI : (ofD (pad p h)).extract 0 ((pad p h).length - p) = ofD ((pad p h).take ((pad p h).length - p)) := by rw [ofD_extract]; simp
    have hF : (ofD (pad p h)).extract ((pad p h).length - p) (pad p h).length = ofD (fOf p h) := by rw [ofD_extract, List.take_of_length_le (by simp), eF]
    have j1 : Ev (fun k => round_build.j1 k (p : Int) neg (ofD (iOf p h)) (ofD (fOf p h))) (built neg h p) := by
      refine Ev.some fun k => ?_
      have w2 : wrap64 (((ofD (iOf p h)).size : Int) + p) = (((iOf p h).length + p : Nat) : Int) := by rw [size_ofD, w64 (by omega) (by omega)]; omega
      simp only [round_build.j1]
      rw [if_pos (by rw [size_ofD, size_ofD]; omega), ofD_append, trim_f _ (dI.append dF) (by rw [List.length_append]; omega), Option.bind_some, w2]
      unfold built
      by_cases hz : val h = 0
      · rw [if_pos (toList_nil.2 (tt_nil.2 (by rw [val_parts hd]; exact hz)))]
        by_cases h40 : (iOf p h).length + p > 40
        · rw [if_pos (by omega), if_pos h40]
        · rw [if_neg (by omega), if_neg h40]; simp [hz]
      · rw [if_neg (fun e => hz (by rw [← val_parts hd p]; exact tt_nil.1 (toList_nil.1 e)))]
        by_cases h40 : (iOf p h).length + p > 40
        · rw [if_pos (by omega), if_pos h40]
        · rw [if_neg (by omega), if_neg h40]; simp [hz]
    refine Ev.step (fun k => ?_) j1
    simp only [round_build.j0]
    rw [w1, if_pos (by omega), if_pos (by rw [size_ofD]; omega), Int.toNat_natCast, size_ofD, hI, hF, trimLeft_f _ (dp.take _) (by rw [List.length_take]; omega), Option.bind_some]
    rw [lead_of_tl] at eI
    by_cases hz : tl ((pad p h).take ((pad p h).length - p)) = []
    · rw [if_pos (toList_nil.2 hz)]
      rw [if_pos hz] at eI
      rw [eI]
      rfl
    · rw [if_neg (fun e => hz (toList_nil.1 e))]
      rw [if_neg hz] at eI
      rw [eI]
  by_cases hle : h.length ≤ p
  · have w3 : wrap64 (wrap64 ((p : Int) + 1) - ((ofD h).size : Int)) = ((p + 1 - h.length : Nat) : Int) := by
      rw [size_ofD, w64 (x := (p : Int) + 1) (by omega) (by omega), w64 (by omega) (by omega)]; omega
    refine Ev.congr (fun k => ?_) main
    simp only [round_build.f]
    rw [if_pos (by rw [size_ofD]; omega), w3, repeat_f _ (by omega) (by omega), Option.bind_some, Int.toNat_natCast, if_pos (by rw [size_ofD, size_ofD, List.length_replicate]; omega), ofD_append]
    rfl
  · refine Ev.congr (fun k => ?_) main
    simp only [round_build.f]
    rw [if_neg (by rw [size_ofD]; omega), pad_of_lt (by omega)]

theorem shorten_ev (neg : Bool) (li lf : List Nat) (mode : Int) (m : Nat) (di : Dg li) (df : Dg lf) (hn : li.length + lf.length ≤ 40) (h1 : 1 ≤ mode) (h8 : mode ≤ 8) (m0 : 0 < m) (hm : m < li.length + lf.length) :
    ∃ h, Dg h ∧ h.length ≤ 41 ∧ val h = val (li ++ lf) / 10 ^ m + (if (upw mode neg (val (li ++ lf) / 10 ^ m) (val (li ++ lf) % 10 ^ m) (10 ^ m)).1 = true then 1 else 0) ∧
      Ev (fun k => round_shorten.f k neg (ofD li) (ofD lf) mode (m : Int)) (if (upw mode neg (val (li ++ lf) / 10 ^ m) (val (li ++ lf) % 10 ^ m) (10 ^ m)).2 = 0 then
        (if m > lf.length then built neg (h ++ List.replicate (m - lf.length) 0) 0 else built neg h (lf.length - m)) else (false, ⟨#[]⟩, ⟨#[]⟩, (upw mode neg (val (li ++ lf) / 10 ^ m) (val (li ++ lf) % 10 ^ m) (10 ^ m)).2)) := by
  have hs := di.append df
  have ls : (li ++ lf).length = li.length + lf.length := List.length_append
  have cv := cut_ev (li ++ lf) m hs (by omega) m0 (by omega)
  have vq := val_take hs ((li ++ lf).length - m)
  have vr := val_drop hs ((li ++ lf).length - m)
  have e1 : (li ++ lf).length - ((li ++ lf).length - m) = m := by omega
  rw [e1] at vq vr
  have lh : ((li ++ lf).take ((li ++ lf).length - m)).length = (li ++ lf).length - m := by rw [List.length_take]; omega
  have dh := hs.take ((li ++ lf).length - m)
  rw [vr] at cv
  rw [← vq]
  generalize val (li ++ lf) % 10 ^ m = r at *
  generalize hH : (li ++ lf).take ((li ++ lf).length - m) = H at *
  have hne : H ≠ [] := fun e => by rw [e] at lh; simp at lh; omega
  have aw := away_f mode neg (val H) r (10 ^ m) h1 h8
  generalize upw mode neg (val H) r (10 ^ m) = U at *
  obtain ⟨g, dg, vg, lg⟩ : ∃ g, Dg g ∧ (val g = val H + (if U.1 = true then 1 else 0) ∧ (if U.1 = true then round_one.f (ofD H) = some (ofD g) else g = H)) ∧ g.length ≤ 41 := by
    by_cases hU : U.1 = true
    · obtain ⟨g, a, b, c, d, e⟩ := one_f H dh (by omega)
      exact ⟨g, a, ⟨by rw [if_pos hU]; exact b, by rw [if_pos hU]; exact e⟩, by omega⟩
    · exact ⟨H, dh, ⟨by rw [if_neg hU]; rfl, by rw [if_neg hU]⟩, by omega⟩
  refine ⟨g, dg, lg, vg.1, ?_⟩
  have j1 : Ev (fun k => round_shorten.j1 k (m : Int) (ofD g) neg (ofD li) (ofD lf)) (if m > lf.length then built neg (g ++ List.replicate (m - lf.length) 0) 0 else built neg g (lf.length - m)) := by
    by_cases hm2 : m > lf.length
    · rw [if_pos hm2]
      have w : wrap64 ((m : Int) - ((ofD lf).size : Int)) = ((m - lf.length : Nat) : Int) := by rw [size_ofD, w64 (by omega) (by omega)]; omega
      have bv := build_ev neg (g ++ List.replicate (m - lf.length) 0) 0 (dg.append (Dg.zeros _)) (by rw [List.length_append, List.length_replicate]; omega) (by omega)
      refine Ev.step (f := fun k => (round_build.f k neg (ofD (g ++ List.replicate (m - lf.length) 0)) 0).bind fun bt => some (bt.1, bt.2.1, bt.2.2.1, bt.2.2.2)) (fun k => ?_) (Ev.bind bv (Ev.now _))
      simp only [round_shorten.j1]
      rw [if_pos (by rw [size_ofD]; omega), w, repeat_f _ (by omega) (by omega), Option.bind_some, Int.toNat_natCast, if_pos (by rw [size_ofD, size_ofD, List.length_replicate]; omega), ofD_append]
    · rw [if_neg hm2]
      have w : wrap64 (((ofD lf).size : Int) - (m : Int)) = ((lf.length - m : Nat) : Int) := by rw [size_ofD, w64 (by omega) (by omega)]; omega
      have bv := build_ev neg g (lf.length - m) dg (by omega) (by omega)
      refine Ev.step (f := fun k => (round_build.f k neg (ofD g) ((lf.length - m : Nat) : Int)).bind fun bt => some (bt.1, bt.2.1, bt.2.2.1, bt.2.2.2)) (fun k => ?_) (Ev.bind bv (Ev.now _))
      simp only [round_shorten.j1]
      rw [if_neg (by rw [size_ofD]; omega), w]
  have lH : 0 < H.length := by cases H with
    | nil => exact absurd rfl hne
    | cons a b => simp
  have wl : wrap64 (((ofD H).size : Int) - 1) = ((H.length - 1 : Nat) : Int) := by rw [size_ofD, w64 (by omega) (by omega)]; omega
  have odd : (((((bt (ofD H) ((H.length - 1 : Nat) : Int)) - 48) % 256) % 2) == 1) = (val H % 2 == 1) := by
    have a := dh.get (H.length - 1)
    have b := val_odd H hne
    rw [bt_ofD dh (by omega) (by omega), Int.toNat_natCast, digit_of _ a, Bool.eq_iff_iff]
    simp only [beq_iff_eq]
    omega
  refine Ev.congr (g := fun k => round_shorten.f k neg (ofD li) (ofD lf) mode (m : Int)) (fun k => by simp only [round_shorten.f]; rw [if_pos (by rw [size_ofD, size_ofD]; omega), ofD_append]) ?_
  refine Ev.bind cv ?_
  refine Ev.congr (fun k => by rw [if_neg (fun e => hne (toList_nil.1 e)), wl, if_pos (by omega), if_pos (by rw [size_ofD]; omega), odd]) ?_
  refine Ev.step (g := fun k => round_shorten.j0 k mode (m : Int) (ofD H) (lies r (10 ^ m)) (val H % 2 == 1) neg (ofD li) (ofD lf)) (fun k => by simp only [round_shorten.j0]; rw [aw, Option.bind_some]) ?_
  by_cases hE : U.2 = 0
  · rw [if_pos hE]
    refine Ev.congr (fun k => if_pos hE) ?_
    by_cases hU : U.1 = true
    · have vg2 := vg.2
      rw [if_pos hU] at vg2
      refine Ev.congr (fun k => by rw [if_pos hU, vg2, Option.bind_some]) j1
    · have vg2 := vg.2
      rw [if_neg hU] at vg2
      subst vg2
      exact Ev.congr (fun k => if_neg hU) j1
  · rw [if_neg hE]
    exact Ev.congr (fun k => if_neg hE) (Ev.now _)
end Go.Proofs.YtpmhebdaphjinaaDoor.RoundProg
set_option linter.unusedVariables false
set_option linter.unusedSimpArgs false
namespace Go.Proofs.YtpmhebdaphjinaaDoor.Ref02
open Go.RowKit Go.Proofs.YtpmhebdaphjinaaDoorW.PrintWords Go.Proofs.YtpmhebdaphjinaaDoorW.PrintLast Go.Proofs.YtpmhebdaphjinaaDoorW.PrintMore Go.Proofs.YtpmhebdaphjinaaDoor.F Go.Proofs.YtpmhebdaphjinaaDoor.Dig Go.Proofs.YtpmhebdaphjinaaDoor.RoundRef Go.Proofs.YtpmhebdaphjinaaDoor.RoundProg

/-- A number's digits. -/
def num (n : Nat) : List Nat := if h : n < 10 then [n] else num (n / 10) ++ [n % 10]
termination_by n
theorem val_num (n : Nat) : val (num n) = n := by
  induction n using Nat.strongRecOn with
  | _ n ih =>
    unfold num
    split
    · simp [val]
    · rw [val_snoc, ih (n / 10) (by omega)]; omega
theorem dg_num (n : Nat) : Dg (num n) := by
  induction n using Nat.strongRecOn with
  | _ n ih =>
    unfold num
    split
    · exact Dg.cons (by omega) Dg.nil
    · exact (ih (n / 10) (by omega)).append (Dg.cons (by omega) Dg.nil)
theorem lead_num {l : List Nat} (hl : Dg l) : lead l = lead (num (val l)) := lead_eq hl (dg_num _) (val_num _).symm

theorem lead2_ev (l : List Nat) (hl : Dg l) (hn : l.length ≤ 1000000) : Ev (fun k => idiomref02_Lead.f k (ofD l)) (ofD (lead l)) := by
  show Ev (fun k => idiomref02_Lead.l0 k (ofD l)) _
  fun_induction lead l with
  | case1 =>
    refine Ev.some fun k => ?_
    simp only [idiomref02_Lead.l0]
    rw [if_neg (by rw [size_ofD]; simp), if_pos (toList_nil.2 rfl)]; rfl
  | case2 d =>
    refine Ev.some fun k => ?_
    simp only [idiomref02_Lead.l0]
    rw [if_neg (by rw [size_ofD]; simp), if_neg (fun e => by have := toList_nil.1 e; simp at this)]
  | case3 e t ih =>
    refine Ev.step (fun k => ?_) (ih hl.tail (by simp at hn ⊢; omega))
    simp only [idiomref02_Lead.l0]
    have hx : (ofD (0 :: e :: t)).extract 1 (ofD (0 :: e :: t)).size = ofD (e :: t) := by rw [size_ofD, ofD_extract]; simp
    rw [if_pos (by rw [size_ofD]; simp; omega), if_pos (by rw [size_ofD]; simp; omega), bt_ofD hl (by omega) (by simp; omega), if_pos (by simp), if_pos (by rw [size_ofD]; simp; omega), hx]
  | case4 d e t h =>
    refine Ev.some fun k => ?_
    simp only [idiomref02_Lead.l0]
    rw [if_pos (by rw [size_ofD]; simp; omega), if_pos (by rw [size_ofD]; simp; omega), bt_ofD hl (by omega) (by simp; omega), if_neg (by simp; omega), if_neg (fun e => by have := toList_nil.1 e; simp at this)]

theorem zeros2_ev (n : Nat) (hn : n ≤ 1000000) : Ev (fun k => idiomref02_Zeros.f k (n : Int)) (ofD (List.replicate n 0)) := by
  have aux : ∀ (m i : Nat), n - i = m → i ≤ n → Ev (fun k => idiomref02_Zeros.l0 k (n : Int) (List.replicate i 48 ++ List.replicate (n - i) 0) (i : Int)) (ofD (List.replicate n 0)) := by
    intro m
    induction m with
    | zero =>
      intro i h1 h2
      refine Ev.some fun k => ?_
      simp only [idiomref02_Zeros.l0]
      rw [if_neg (by omega)]
      have : i = n := by omega
      subst this
      rw [← strOfNums_ofD]
      simp
    | succ m ih =>
      intro i h1 h2
      refine Ev.step (fun k => ?_) (ih (i + 1) (by omega) (by omega))
      simp only [idiomref02_Zeros.l0]
      rw [if_pos (by omega), if_pos (by omega), if_pos (by simp; omega)]
      have e1 : wrap64 ((i : Int) + 1) = ((i + 1 : Nat) : Int) := by rw [w64 (by omega) (by omega)]; omega
      have e2 : (List.replicate i (48 : Int) ++ List.replicate (n - i) 0).set ((i : Int).toNat) 48 = List.replicate (i + 1) 48 ++ List.replicate (n - (i + 1)) 0 := by
        have e3 : n - i = (n - (i + 1)) + 1 := by omega
        rw [Int.toNat_natCast, e3, List.set_append_right _ _ (by simp)]
        simp only [List.length_replicate, Nat.sub_self, List.replicate_succ, List.set_cons_zero]
        rw [← List.replicate_succ, List.replicate_succ', List.append_assoc]; rfl
      rw [e1, e2]
  refine Ev.congr (fun k => ?_) (aux n 0 (by omega) (by omega))
  simp only [idiomref02_Zeros.f]
  rw [if_pos (by omega), if_pos (by omega)]
  simp

end Go.Proofs.YtpmhebdaphjinaaDoor.Ref02
set_option linter.unusedVariables false
set_option linter.unusedSimpArgs false
namespace Go.Proofs.YtpmhebdaphjinaaDoor.RoundPlaces
open Go.RowKit Go.Proofs.YtpmhebdaphjinaaDoorW.PrintWords Go.Proofs.YtpmhebdaphjinaaDoorW.PrintLast Go.Proofs.YtpmhebdaphjinaaDoor.F Go.Proofs.YtpmhebdaphjinaaDoor.Dig Go.Proofs.YtpmhebdaphjinaaDoor.RoundRef Go.Proofs.YtpmhebdaphjinaaDoor.RoundProg

/-- A number's digits. -/
def cdig (n : Nat) : List Nat := if h : n < 10 then [n] else cdig (n / 10) ++ [n % 10]
termination_by n
theorem val_cdig (n : Nat) : val (cdig n) = n := by
  induction n using Nat.strongRecOn with
  | _ n ih =>
    unfold cdig
    split
    · simp [val]
    · rw [val_snoc, ih (n / 10) (by omega)]; omega
theorem dg_cdig (n : Nat) : Dg (cdig n) := by
  induction n using Nat.strongRecOn with
  | _ n ih =>
    unfold cdig
    split
    · exact Dg.cons (by omega) Dg.nil
    · exact (ih (n / 10) (by omega)).append (Dg.cons (by omega) Dg.nil)

/-- What a decimal is, rounded to places: its sign, whole part, places; the error. -/
def worth (neg : Bool) (li lf : List Nat) (mode : Int) (most : Nat) : Nat :=
  val (li ++ lf) / 10 ^ (lf.length - most) + (if (upw mode neg (val (li ++ lf) / 10 ^ (lf.length - most)) (val (li ++ lf) % 10 ^ (lf.length - most)) (10 ^ (lf.length - most))).1 = true then 1 else 0)
def plRes (neg : Bool) (li lf : List Nat) (mode : Int) (most : Nat) : Bool × ByteArray × ByteArray × Int :=
  if lf.length ≤ most then (neg, ofD li, ofD lf, 0)
  else if (upw mode neg (val (li ++ lf) / 10 ^ (lf.length - most)) (val (li ++ lf) % 10 ^ (lf.length - most)) (10 ^ (lf.length - most))).2 = 0 then
    (neg && decide (worth neg li lf mode most ≠ 0), ofD (iOf most (cdig (worth neg li lf mode most))), ofD (fOf most (cdig (worth neg li lf mode most))), 0)
  else (false, ⟨#[]⟩, ⟨#[]⟩, (upw mode neg (val (li ++ lf) / 10 ^ (lf.length - most)) (val (li ++ lf) % 10 ^ (lf.length - most)) (10 ^ (lf.length - most))).2)

theorem unit_val (m : Nat) : val (1 :: List.replicate m 0) = 10 ^ m := by simp [val, val_zeros]
theorem dg_unit (m : Nat) : Dg (1 :: List.replicate m 0) := Dg.cons (by omega) (Dg.zeros m)
theorem canon_unit (m : Nat) : Canon (1 :: List.replicate m 0) := ⟨by simp, .inr (by simp)⟩
theorem int_le (neg : Bool) (li lf : List Nat) (mode : Int) (most : Nat) (di : Dg li) (df : Dg lf) (h : most < lf.length) (x : List Nat) (dx : Dg x) (hx : val x = worth neg li lf mode most) : (iOf most x).length ≤ li.length + 1 := by
  have e : val (1 :: List.replicate li.length 0) = 10 ^ li.length := unit_val _
  have hv : val (iOf most x) ≤ val (1 :: List.replicate li.length 0) := by
    rw [val_iOf dx, e, hx]
    have h1 := val_lt di
    have h2 := val_lt df
    have p1 : 10 ^ lf.length = 10 ^ (lf.length - most) * 10 ^ most := by rw [← Nat.pow_add]; congr 1; omega
    have hp : 0 < 10 ^ lf.length := Nat.pow_pos (by omega)
    have hp2 : 0 < 10 ^ most := Nat.pow_pos (by omega)
    have e2 : val (li ++ lf) / 10 ^ (lf.length - most) / 10 ^ most = val li := by
      rw [Nat.div_div_eq_div_mul, ← p1, val_append, Nat.add_comm, Nat.add_mul_div_right _ _ hp, Nat.div_eq_of_lt h2, Nat.zero_add]
    have e3 : worth neg li lf mode most ≤ val (li ++ lf) / 10 ^ (lf.length - most) + 1 := by unfold worth; split <;> omega
    have e4 : worth neg li lf mode most / 10 ^ most ≤ (val (li ++ lf) / 10 ^ (lf.length - most) + 10 ^ most) / 10 ^ most := Nat.div_le_div_right (by omega)
    rw [Nat.add_div_right _ hp2, e2] at e4
    omega
  have := canon_length_le (dg_unit li.length) (canon_lead _ : Canon (iOf most x)) hv (by simp)
  rw [List.length_cons, List.length_replicate] at this
  exact this

theorem places_ev (neg : Bool) (li lf : List Nat) (mode : Int) (most : Nat) (di : Dg li) (df : Dg lf) (cl : Canon li) (hn : li.length + lf.length ≤ 40) (h1 : 1 ≤ mode) (h8 : mode ≤ 8) (h40 : most ≤ 40) :
    Ev (fun k => round_Places.j0 k mode (most : Int) false neg (ofD li) (ofD lf)) (plRes neg li lf mode most) ∧
    Ev (fun k => idiomref03_Places.j0 k mode (most : Int) false neg (ofD li) (ofD lf)) (plRes neg li lf mode most) := by
  have l0 : 0 < li.length := by
    cases li with
    | nil => exact absurd rfl cl.1
    | cons a b => simp
  by_cases h : lf.length ≤ most
  · have e : plRes neg li lf mode most = (neg, ofD li, ofD lf, 0) := by unfold plRes; rw [if_pos h]
    rw [e]
    constructor
    · refine Ev.some fun k => ?_
      simp only [round_Places.j0]
      rw [if_neg (by decide), if_pos (by rw [size_ofD]; omega)]
    · refine Ev.some fun k => ?_
      simp only [idiomref03_Places.j0]
      rw [if_neg (by decide), if_pos (by rw [size_ofD]; omega)]
  have w : wrap64 (((ofD lf).size : Int) - (most : Int)) = ((lf.length - most : Nat) : Int) := by rw [size_ofD, w64 (by omega) (by omega)]; omega
  have hs := di.append df
  have ls : (li ++ lf).length = li.length + lf.length := List.length_append
  obtain ⟨x, dx, lx, vx, sx⟩ := shorten_ev neg li lf mode (lf.length - most) di df hn h1 h8 (by omega) (by omega)
  have hp : 0 < val (1 :: List.replicate (lf.length - most) 0) := by rw [unit_val]; exact Nat.pow_pos (by omega)
  obtain ⟨q, dq, cq, vq, lq, tq⟩ := turned_ev mode neg (li ++ lf) (1 :: List.replicate (lf.length - most) 0) hs (dg_unit _) (canon_unit _) hp (by omega) (by simp; omega)
  rw [unit_val] at vq tq
  have wx : val x = worth neg li lf mode most := vx
  have wq : val q = worth neg li lf mode most := vq
  have il := int_le neg li lf mode most di df (by omega) x dx wx
  have px := parts_eq dx (dg_cdig (worth neg li lf mode most)) (by rw [wx, val_cdig]) most
  have pq := parts_eq dq (dg_cdig (worth neg li lf mode most)) (by rw [wq, val_cdig]) most
  have eb : lf.length - (lf.length - most) = most := by omega
  constructor
  · refine Ev.step (f := fun k => (round_shorten.f k neg (ofD li) (ofD lf) mode ((lf.length - most : Nat) : Int)).bind fun bt136 => some (bt136.1, bt136.2.1, bt136.2.2.1, bt136.2.2.2)) (fun k => ?_) ?_
    · simp only [round_Places.j0]
      rw [if_neg (by decide), if_neg (by rw [size_ofD]; omega), w]
    · refine Ev.bind sx ?_
      rw [if_neg (show ¬ lf.length - most > lf.length by omega), eb]
      unfold plRes
      rw [if_neg h]
      by_cases hU : (upw mode neg (val (li ++ lf) / 10 ^ (lf.length - most)) (val (li ++ lf) % 10 ^ (lf.length - most)) (10 ^ (lf.length - most))).2 = 0
      · rw [if_pos hU, if_pos hU]
        unfold built
        rw [if_neg (by omega), px.1, px.2, wx]
        exact Ev.now _
      · rw [if_neg hU, if_neg hU]
        exact Ev.now _
  · have nv := noughts_ev ((lf.length - most : Nat) : Int) (by omega)
    rw [Int.toNat_natCast] at nv
    have mv := made_ev neg q most dq (by omega) (by omega)
    refine Ev.step (f := fun k => (idiomref03_Noughts.f k ((lf.length - most : Nat) : Int)).bind fun t194 => (if 1 + t194.size ≤ 9223372036854775807 then ((idiomref03_turned.f k mode neg (ofD (li ++ lf)) ((⟨#[49]⟩ : ByteArray) ++ t194)).bind fun bt195 => (if bt195.2 = 0 then ((idiomref03_Made.f k neg bt195.1 (most : Int)).bind fun bt197 => (some (bt197.1, bt197.2.1, bt197.2.2, 0))) else (some (false, (⟨#[]⟩ : ByteArray), (⟨#[]⟩ : ByteArray), bt195.2)))) else (none))) (fun k => ?_) ?_
    · simp only [idiomref03_Places.j0]
      rw [if_neg (by decide), if_neg (by rw [size_ofD]; omega), if_pos (by rw [size_ofD, size_ofD]; omega), w, ofD_append]
    · refine Ev.bind nv ?_
      have eu : (⟨#[49]⟩ : ByteArray) ++ ofD (List.replicate (lf.length - most) 0) = ofD (1 :: List.replicate (lf.length - most) 0) := by rw [ofD_one, ofD_append]; rfl
      refine Ev.congr (fun k => by rw [if_pos (by rw [size_ofD, List.length_replicate]; omega), eu]) ?_
      refine Ev.bind tq ?_
      unfold plRes
      rw [if_neg h]
      by_cases hU : (upw mode neg (val (li ++ lf) / 10 ^ (lf.length - most)) (val (li ++ lf) % 10 ^ (lf.length - most)) (10 ^ (lf.length - most))).2 = 0
      · rw [if_pos hU]
        refine Ev.congr (fun k => if_pos hU) ?_
        refine Ev.bind mv ?_
        rw [pq.1, pq.2, wq]
        exact Ev.now _
      · rw [if_neg hU]
        exact Ev.congr (fun k => if_neg hU) (Ev.now _)

/-- Whatever is asked: both tell one thing. -/
theorem places (neg : Bool) (I F : ByteArray) (mode most : Int) : ∃ r, Ev (fun k => round_Places.f k neg I F mode most) r ∧ Ev (fun k => idiomref03_Places.f k neg I F mode most) r ∧
    (r = (false, ⟨#[]⟩, ⟨#[]⟩, r.2.2.2) ∧ r.2.2.2 ≠ 0 ∨ r.2.2.2 = 0 ∧ ∃ li lf, ∃ m : Nat, Dg li ∧ Dg lf ∧ Canon li ∧ li.length + lf.length ≤ 40 ∧ I = ofD li ∧ F = ofD lf ∧ (neg = true → val li ≠ 0 ∨ val lf ≠ 0) ∧ 1 ≤ mode ∧ mode ≤ 8 ∧ most = m ∧ m ≤ 40 ∧ r = plRes neg li lf mode m) ∧
    (Ok neg I F → 1 ≤ mode → mode ≤ 8 → 0 ≤ most → most ≤ 40 → ∃ li lf, Dg li ∧ Dg lf ∧ I = ofD li ∧ F = ofD lf ∧ Canon li ∧ li.length + lf.length ≤ 40 ∧ (neg = true → val li ≠ 0 ∨ val lf ≠ 0) ∧ r = plRes neg li lf mode most.toNat) := by
  obtain ⟨c, pc, rc, hc, okc⟩ := check neg I F
  have asked : ∀ x : Int, (∀ y : Int, True) → (if c = 0 then (if mode ≤ 0 then (30 : Int) else if mode ≥ 9 then 30 else 0) else c) = x → Ev (fun k => round_asked.f k neg I F mode) x ∧ Ev (fun k => idiomref03_asked.f k neg I F mode) x := by
    intro x _ hx
    subst hx
    have e1 : (mode < 1) = (mode ≤ 0) := by rw [eq_iff_iff]; omega
    have e2 : (mode > 8) = (mode ≥ 9) := by rw [eq_iff_iff]; omega
    refine ⟨Ev.bind pc (Ev.congr (fun k => ?_) (Ev.now _)), Ev.bind rc (Ev.congr (fun k => ?_) (Ev.now _))⟩
    · by_cases h0 : c = 0 <;> by_cases h1 : mode ≤ 0 <;> by_cases h2 : mode ≥ 9 <;> simp only [h0, h1, h2, if_true, if_false]
    · simp only [e1, e2]
      by_cases h0 : c = 0 <;> by_cases h1 : mode ≤ 0 <;> by_cases h2 : mode ≥ 9 <;> simp only [h0, h1, h2, if_true, if_false]
  obtain ⟨pa, ra⟩ := asked _ (fun _ => trivial) rfl
  by_cases hbad : (if c = 0 then (if mode ≤ 0 then (30 : Int) else if mode ≥ 9 then 30 else 0) else c) = 0
  rotate_left
  · refine ⟨(false, ⟨#[]⟩, ⟨#[]⟩, (if c = 0 then (if mode ≤ 0 then (30 : Int) else if mode ≥ 9 then 30 else 0) else c)), ?_, ?_, .inl ⟨rfl, hbad⟩, fun ok a b _ _ => ?_⟩
    · exact Ev.bind pa (Ev.congr (fun k => if_neg hbad) (Ev.now _))
    · exact Ev.bind ra (Ev.congr (fun k => if_neg hbad) (Ev.now _))
    · exact absurd (by rw [if_pos (okc.2 ok), if_neg (by omega), if_neg (by omega)]) hbad
  have h0 : c = 0 := by
    apply Classical.byContradiction
    intro h; rw [if_neg h] at hbad; exact h hbad
  rw [if_pos h0] at hbad
  have hm1 : 1 ≤ mode := by
    apply Classical.byContradiction
    intro h; rw [if_pos (by omega)] at hbad; omega
  have hm8 : mode ≤ 8 := by
    apply Classical.byContradiction
    intro h; rw [if_neg (by omega), if_pos (by omega)] at hbad; omega
  rw [if_pos h0, if_neg (by omega), if_neg (by omega)] at pa ra
  obtain ⟨li, lf, di, df, eI, eF, cl, hn, hsg⟩ := okc.1 h0
  have red : ∀ x r, ((x = true ↔ most < 0 ∨ 40 < most)) → Ev (fun k => round_Places.j0 k mode most x neg I F) r → Ev (fun k => round_Places.f k neg I F mode most) r := by
    intro x r hx h
    refine Ev.bind pa (Ev.congr (fun k => ?_) h)
    by_cases h1 : most < 0
    · rw [if_pos rfl, if_pos h1, hx.2 (.inl h1)]
    · rw [if_pos rfl, if_neg h1]
      have : decide (most > 40) = x := by rw [Bool.eq_iff_iff, hx]; simp; omega
      rw [this]
  have red2 : ∀ x r, ((x = true ↔ most < 0 ∨ 40 < most)) → Ev (fun k => idiomref03_Places.j0 k mode most x neg I F) r → Ev (fun k => idiomref03_Places.f k neg I F mode most) r := by
    intro x r hx h
    refine Ev.bind ra (Ev.congr (fun k => ?_) h)
    by_cases h1 : most < 0
    · rw [if_pos rfl, if_pos h1, hx.2 (.inl h1)]
    · rw [if_pos rfl, if_neg h1]
      have : decide (most > 40) = x := by rw [Bool.eq_iff_iff, hx]; simp; omega
      rw [this]
  by_cases ho : most < 0 ∨ 40 < most
  · refine ⟨(false, ⟨#[]⟩, ⟨#[]⟩, 1), red true _ (by simp [ho]) (Ev.some fun k => by simp only [round_Places.j0]; rw [if_pos trivial]), red2 true _ (by simp [ho]) (Ev.some fun k => by simp only [idiomref03_Places.j0]; rw [if_pos trivial]), .inl ⟨rfl, by simp⟩, fun _ _ _ _ _ => by omega⟩
  · obtain ⟨m, rfl⟩ := Int.eq_ofNat_of_zero_le (show 0 ≤ most by omega)
    obtain ⟨a, b⟩ := places_ev neg li lf mode m di df cl hn hm1 hm8 (by omega)
    refine ⟨plRes neg li lf mode m, red false _ (by simp; omega) (by rw [eI, eF]; exact a), red2 false _ (by simp; omega) (by rw [eI, eF]; exact b), ?_, fun _ _ _ _ _ => ⟨li, lf, di, df, eI, eF, cl, hn, hsg, rfl⟩⟩
    by_cases hr : (plRes neg li lf mode m).2.2.2 = 0
    · exact .inr ⟨hr, li, lf, m, di, df, cl, hn, eI, eF, hsg, hm1, hm8, rfl, by omega, rfl⟩
    · refine .inl ⟨?_, hr⟩
      unfold plRes at hr ⊢
      split at hr
      · exact absurd rfl hr
      · split at hr
        · exact absurd rfl hr
        · rename_i h1 h2
          rw [if_neg h1, if_neg h2]

theorem awake_ev : Ev (fun k => idiomlaw03_awake.f k) true := by
  obtain ⟨r, pr, _, _, hr⟩ := places false (⟨#[50]⟩ : ByteArray) (⟨#[53]⟩ : ByteArray) 7 0
  have d2 : Dg [2] := Dg.cons (by omega) Dg.nil
  have d5 : Dg [5] := Dg.cons (by omega) Dg.nil
  obtain ⟨li, lf, di, df, eI, eF, cl, hn, hsg, er⟩ := hr ⟨[2], [5], d2, d5, rfl, rfl, ⟨by simp, .inl rfl⟩, by simp, by simp⟩ (by omega) (by omega) (by omega) (by omega)
  have e1 : li = [2] := (ofD_inj d2 di eI).symm
  have e2 : lf = [5] := (ofD_inj d5 df eF).symm
  subst e1 e2
  refine Ev.bind pr ?_
  have : r = (false, ofD [2], ofD [], 0) := by
    rw [er]
    have c2 : cdig 2 = [2] := by unfold cdig; rfl
    have hw : worth false [2] [5] 7 0 = 2 := by decide
    unfold plRes
    simp only [show (0 : Int).toNat = 0 from rfl, hw, c2]
    rfl
  subst this
  exact Ev.congr (fun k => by rw [if_pos rfl]; simp only [toList_ofD]; rfl) (Ev.now _)

end Go.Proofs.YtpmhebdaphjinaaDoor.RoundPlaces
set_option linter.unusedVariables false
set_option linter.unusedSimpArgs false
namespace Go.Proofs.YtpmhebdaphjinaaDoor.Sum02
open Go.RowKit Go.Proofs.YtpmhebdaphjinaaDoorW.PrintWords Go.Proofs.YtpmhebdaphjinaaDoorW.PrintLast Go.Proofs.YtpmhebdaphjinaaDoorW.PrintMore Go.Proofs.YtpmhebdaphjinaaDoor.F Go.Proofs.YtpmhebdaphjinaaDoor.Dig Go.Proofs.YtpmhebdaphjinaaDoor.RoundRef Go.Proofs.YtpmhebdaphjinaaDoor.RoundProg Go.Proofs.YtpmhebdaphjinaaDoor.Ref02

/-- A number's digits, none ahead that is a nought. -/
def nd (n : Nat) : List Nat := lead (num n)
theorem dg_nd (n : Nat) : Dg (nd n) := (dg_num n).lead
theorem canon_nd (n : Nat) : Canon (nd n) := canon_lead _
theorem val_nd (n : Nat) : val (nd n) = n := by unfold nd; rw [val_lead, val_num]
theorem nd_of {l : List Nat} (h : Dg l) : lead l = nd (val l) := lead_num h
theorem nd_len {n k : Nat} (h : n < 10 ^ k) (hk : 0 < k) : (nd n).length ≤ k := by
  apply Classical.byContradiction
  intro hc
  have h1 := (canon_nd n).le_val (by omega)
  rw [val_nd] at h1
  have h2 : 10 ^ k ≤ 10 ^ ((nd n).length - 1) := Nat.pow_le_pow_right (by omega) (by omega)
  omega
theorem w_succ {i : Nat} (h : i ≤ 1000000) : wrap64 ((i : Int) + 1) = ((i + 1 : Nat) : Int) := by rw [w64 (by omega) (by omega)]; omega
/-- How two numbers stand. -/
def stand (x y : Nat) : Int := if x < y then -1 else if x = y then 0 else 1
theorem cmp2_ev (x y : Nat) (nx : (nd x).length ≤ 1000000) (ny : (nd y).length ≤ 1000000) : Ev (fun k => idiomref02_Cmp.f k (ofD (nd x)) (ofD (nd y))) (stand x y) := by
  have da := dg_nd x
  have db := dg_nd y
  have la := canon_nd x
  have lb := canon_nd y
  have va := val_nd x
  have vb := val_nd y
  have j : ∀ z : Bool, ((z = true) ↔ x < y) → Ev (fun k => idiomref02_Cmp.j0 k (ofD (nd x)) (ofD (nd y)) z) (stand x y) := by
    intro z hz
    refine Ev.some fun k => ?_
    simp only [idiomref02_Cmp.j0]
    unfold stand
    by_cases h1 : x < y
    · rw [if_pos (hz.2 h1), if_pos h1]
    · rw [if_neg (fun e => h1 (hz.1 e)), if_neg h1]
      by_cases h2 : x = y
      · rw [if_pos (by rw [h2]), if_pos h2]
      · rw [if_neg (fun e => h2 (by rw [← va, ← vb, (toList_inj da db).1 e])), if_neg h2]
  by_cases h : (nd x).length < (nd y).length
  · have hv : x < y := by
      rcases Nat.lt_or_ge x y with h3 | h3
      · exact h3
      · exact absurd (canon_length_le da lb (by omega) la.1) (by omega)
    refine Ev.congr (fun k => ?_) (j true (by simp [hv]))
    simp only [idiomref02_Cmp.f, size_ofD]
    rw [if_pos (by omega)]
  · by_cases h2 : (nd x).length = (nd y).length
    · have e := bytesLess_ofD da db h2
      rw [va, vb] at e
      refine Ev.congr (fun k => ?_) (j (decide (x < y)) (by simp))
      simp only [idiomref02_Cmp.f, size_ofD]
      rw [if_neg (by omega), if_pos (by omega), e]
    · have hv : ¬ x < y := by
        intro h3
        exact absurd (canon_length_le db la (by omega) lb.1) (by omega)
      refine Ev.congr (fun k => ?_) (j false (by simp [hv]))
      simp only [idiomref02_Cmp.f, size_ofD]
      rw [if_neg (by omega), if_neg (by omega)]

theorem first_ev : Ev (fun k => idiomref02_First.f k ([0, 0] : List Int)) 0 := by
  have w0 : wrap64 (0 + 1) = 1 := by rw [w64 (by omega) (by omega)]; omega
  have w1 : wrap64 (1 + 1) = 2 := by rw [w64 (by omega) (by omega)]; omega
  show Ev (fun k => idiomref02_First.l0 k ([0, 0] : List Int) 0) 0
  refine (Ev.step (f := fun k => idiomref02_First.l0 k ([0, 0] : List Int) 1) (fun k => ?_) (Ev.step (f := fun k => idiomref02_First.l0 k ([0, 0] : List Int) 2) (fun k => ?_) (Ev.some fun k => ?_)))
  · simp only [idiomref02_First.l0]
    rw [if_pos (by decide), if_pos (by decide), if_pos (by decide), w0]
  · simp only [idiomref02_First.l0]
    rw [if_pos (by decide), if_pos (by decide), if_pos (by decide), w1]
  · simp only [idiomref02_First.l0]
    rw [if_neg (by decide)]

theorem raised_ev (neg : Bool) (li lf : List Nat) (S : Nat) (di : Dg li) (df : Dg lf) (hn : li.length + lf.length ≤ 1000) (hS : lf.length ≤ S) (h : S ≤ 1000) :
    Ev (fun k => idiomref02_raised.f k neg (ofD li) (ofD lf) (S : Int)) (ofD (nd (val (li ++ lf) * 10 ^ (S - lf.length)))) := by
  have w : wrap64 ((S : Int) - ((ofD lf).size : Int)) = ((S - lf.length : Nat) : Int) := by rw [size_ofD, w64 (by omega) (by omega)]; omega
  have z := zeros2_ev (S - lf.length) (by omega)
  have e : val (li ++ lf ++ List.replicate (S - lf.length) 0) = val (li ++ lf) * 10 ^ (S - lf.length) := val_append_zeros _ _
  have dd := (di.append df).append (Dg.zeros (S - lf.length))
  have ld := lead2_ev (li ++ lf ++ List.replicate (S - lf.length) 0) dd (by simp; omega)
  rw [nd_of dd, e] at ld
  refine Ev.congr (fun k => by simp only [idiomref02_raised.f]; rw [if_pos (by rw [size_ofD, size_ofD]; omega), w, ofD_append]) ?_
  refine Ev.bind z ?_
  refine Ev.congr (fun k => by rw [if_pos (by rw [size_ofD, size_ofD]; simp; omega), ofD_append]) ?_
  exact Ev.bind ld (Ev.now _)

end Go.Proofs.YtpmhebdaphjinaaDoor.Sum02
set_option linter.unusedVariables false
set_option linter.unusedSimpArgs false
namespace Go.Proofs.YtpmhebdaphjinaaDoor.Dec02
open Go.RowKit Go.Proofs.YtpmhebdaphjinaaDoorW.PrintWords Go.Proofs.YtpmhebdaphjinaaDoorW.PrintLast Go.Proofs.YtpmhebdaphjinaaDoorW.PrintMore Go.Proofs.YtpmhebdaphjinaaDoor.F Go.Proofs.YtpmhebdaphjinaaDoor.Dig Go.Proofs.YtpmhebdaphjinaaDoor.RoundRef Go.Proofs.YtpmhebdaphjinaaDoor.RoundProg Go.Proofs.YtpmhebdaphjinaaDoor.Ref02 Go.Proofs.YtpmhebdaphjinaaDoor.Sum02

/-- A decimal in its digits. -/
structure IsDec (neg : Bool) (li lf : List Nat) : Prop where
  di : Dg li
  df : Dg lf
  ci : Canon li
  ln : li.length + lf.length ≤ 40
  sg : neg = true → val li ≠ 0 ∨ val lf ≠ 0
theorem IsDec.ok {neg : Bool} {li lf : List Nat} (h : IsDec neg li lf) : Ok neg (ofD li) (ofD lf) := ⟨li, lf, h.di, h.df, rfl, rfl, h.ci, h.ln, h.sg⟩
theorem IsDec.abs {neg : Bool} {li lf : List Nat} (h : IsDec neg li lf) : IsDec false li lf := ⟨h.di, h.df, h.ci, h.ln, fun e => by cases e⟩
theorem IsDec.check {neg : Bool} {li lf : List Nat} (h : IsDec neg li lf) : Ev (fun k => idiomref02_Check.f k neg (ofD li) (ofD lf)) 0 := by
  obtain ⟨c, _, rc, _, okc⟩ := RoundProg.check neg (ofD li) (ofD lf)
  have h0 := okc.2 h.ok
  subst h0
  exact rc
theorem IsDec.pos {neg : Bool} {li lf : List Nat} (h : IsDec neg li lf) : 0 < li.length := by
  have := h.ci.1
  cases li with
  | nil => exact absurd rfl this
  | cons a b => simp

/-- What a decimal is worth at a scale, without its sign. -/
def at_ (li lf : List Nat) (S : Nat) : Nat := val (li ++ lf) * 10 ^ (S - lf.length)
theorem at_lt {li lf : List Nat} (di : Dg li) (df : Dg lf) {S : Nat} (h : lf.length ≤ S) : at_ li lf S < 10 ^ (li.length + S) := by
  have h1 := val_lt (di.append df)
  rw [List.length_append] at h1
  unfold at_
  have e : li.length + S = li.length + lf.length + (S - lf.length) := by omega
  rw [e, Nat.pow_add]
  exact Nat.mul_lt_mul_of_pos_right h1 (Nat.pow_pos (by omega))
theorem at_len {li lf : List Nat} (di : Dg li) (df : Dg lf) {S : Nat} (h : lf.length ≤ S) (h0 : 0 < li.length) (ln : li.length + lf.length ≤ 40) (hS : S ≤ 40) : (nd (at_ li lf S)).length ≤ 80 :=
  Nat.le_trans (nd_len (at_lt di df h) (by omega)) (by omega)
theorem mx_size (a b : List Nat) : mx ((ofD a).size : Int) ((ofD b).size : Int) = ((max a.length b.length : Nat) : Int) := by
  rw [size_ofD, size_ofD]; unfold mx; split <;> omega

/-- How two decimals stand. -/
def standD (n1 n2 : Bool) (k : Int) : Int := if n1 = true then (if n2 = true then -k else -1) else if n2 = true then 1 else k
theorem compare_ev (n1 : Bool) (i1 f1 : List Nat) (n2 : Bool) (i2 f2 : List Nat) (S : Nat) (hS : S = max f1.length f2.length) (d1 : IsDec n1 i1 f1) (d2 : IsDec n2 i2 f2) :
    Ev (fun k => idiomref02_Compare.f k n1 (ofD i1) (ofD f1) n2 (ofD i2) (ofD f2)) (standD n1 n2 (stand (at_ i1 f1 S) (at_ i2 f2 S)), 0) := by
  have l1 := d1.ln
  have l2 := d2.ln
  have q1 := d1.pos
  have q2 := d2.pos
  have r1 := raised_ev n1 i1 f1 S d1.di d1.df (by omega) (by omega) (by omega)
  have r2 := raised_ev n2 i2 f2 S d2.di d2.df (by omega) (by omega) (by omega)
  have x1 := at_len d1.di d1.df (S := S) (by omega) q1 l1 (by omega)
  have x2 := at_len d2.di d2.df (S := S) (by omega) q2 l2 (by omega)
  change Ev _ (ofD (nd (at_ i1 f1 S))) at r1
  change Ev _ (ofD (nd (at_ i2 f2 S))) at r2
  refine Ev.bind d1.check (Ev.bind d2.check (Ev.bind first_ev ?_))
  refine Ev.congr (fun k => by rw [if_pos rfl, mx_size, ← hS]) ?_
  refine Ev.bind r1 (Ev.bind r2 ?_)
  refine Ev.bind (cmp2_ev _ _ (by omega) (by omega)) ?_
  have st : ∀ x y, -1 ≤ stand x y ∧ stand x y ≤ 1 := fun x y => by unfold stand; repeat' split <;> omega
  have hb := st (at_ i1 f1 S) (at_ i2 f2 S)
  generalize stand (at_ i1 f1 S) (at_ i2 f2 S) = v at *
  have wv : wrap64 (-v) = -v := w64 (by omega) (by omega)
  cases n1 with
  | true =>
    refine Ev.congr (fun k => by rw [if_pos rfl]) ?_
    refine Ev.some fun k => ?_
    simp only [idiomref02_Compare.j0]
    cases n2 with
    | true => simp [standD, wv]
    | false => simp [standD]
  | false =>
    refine Ev.congr (fun k => by rw [if_neg (by decide)]) ?_
    refine Ev.some fun k => ?_
    simp only [idiomref02_Compare.j0]
    cases n2 with
    | true => simp [standD]
    | false => simp [standD]

/-- The parts of what is built. -/
theorem built_val (v p : Nat) : val (iOf p (nd v) ++ fOf p (nd v)) = v := by rw [val_parts (dg_nd v), val_nd]
theorem built_at (v p S : Nat) (h : p ≤ S) : at_ (iOf p (nd v)) (fOf p (nd v)) S = v * 10 ^ (S - p) := by unfold at_; rw [built_val, fOf_length]
theorem built_dec (s : Bool) (v p : Nat) (h : (iOf p (nd v)).length + p ≤ 40) : IsDec (s && decide (v ≠ 0)) (iOf p (nd v)) (fOf p (nd v)) ∧ built s (nd v) p = (s && decide (v ≠ 0), ofD (iOf p (nd v)), ofD (fOf p (nd v)), 0) := by
  have dn := dg_nd v
  refine ⟨⟨dg_iOf dn p, dg_fOf dn p, canon_lead _, by rw [fOf_length]; omega, fun hb => ?_⟩, ?_⟩
  · simp only [Bool.and_eq_true, decide_eq_true_eq] at hb
    have hv := built_val v p
    rw [val_append] at hv
    apply Classical.byContradiction
    intro hz
    have h3 : val (iOf p (nd v)) = 0 := by omega
    have h4 : val (fOf p (nd v)) = 0 := by omega
    rw [h3, h4] at hv
    omega
  · unfold built
    rw [if_neg (by omega), val_nd]
end Go.Proofs.YtpmhebdaphjinaaDoor.Dec02
set_option linter.unusedVariables false
set_option linter.unusedSimpArgs false
namespace Go.Proofs.YtpmhebdaphjinaaDoor.RoundNear
open Go.RowKit Go.Proofs.YtpmhebdaphjinaaDoorW.PrintWords Go.Proofs.YtpmhebdaphjinaaDoorW.PrintLast Go.Proofs.YtpmhebdaphjinaaDoorW.PrintMore Go.Proofs.YtpmhebdaphjinaaDoor.F Go.Proofs.YtpmhebdaphjinaaDoor.Dig Go.Proofs.YtpmhebdaphjinaaDoor.RoundRef Go.Proofs.YtpmhebdaphjinaaDoor.RoundProg Go.Proofs.YtpmhebdaphjinaaDoor.RoundPlaces Go.Proofs.YtpmhebdaphjinaaDoor.Ref02 Go.Proofs.YtpmhebdaphjinaaDoor.Sum02 Go.Proofs.YtpmhebdaphjinaaDoor.Dec02

theorem res_parts (neg : Bool) (li lf : List Nat) (mode : Int) (m : Nat) (d : IsDec neg li lf) (hm : m < lf.length) (h : (plRes neg li lf mode m).2.2.2 = 0) :
    IsDec (neg && decide (worth neg li lf mode m ≠ 0)) (iOf m (nd (worth neg li lf mode m))) (fOf m (nd (worth neg li lf mode m))) ∧
    plRes neg li lf mode m = (neg && decide (worth neg li lf mode m ≠ 0), ofD (iOf m (nd (worth neg li lf mode m))), ofD (fOf m (nd (worth neg li lf mode m))), 0) := by
  have l := d.ln
  have hl := int_le neg li lf mode m d.di d.df (by omega) (nd (worth neg li lf mode m)) (dg_nd _) (val_nd _)
  have p := parts_eq (dg_cdig (worth neg li lf mode m)) (dg_nd (worth neg li lf mode m)) (by rw [val_cdig, val_nd]) m
  refine ⟨(built_dec neg (worth neg li lf mode m) m (by omega)).1, ?_⟩
  unfold plRes at h ⊢
  rw [if_neg (by omega)] at h ⊢
  split at h
  · rename_i h2
    rw [if_pos h2, p.1, p.2]
  · exact absurd h (by assumption)

end Go.Proofs.YtpmhebdaphjinaaDoor.RoundNear
set_option linter.unusedVariables false
set_option linter.unusedSimpArgs false
namespace Go.Proofs.YtpmhebdaphjinaaDoor.RoundModes
open Go.RowKit Go.Proofs.YtpmhebdaphjinaaDoorW.PrintWords Go.Proofs.YtpmhebdaphjinaaDoorW.PrintLast Go.Proofs.YtpmhebdaphjinaaDoorW.PrintMore Go.Proofs.YtpmhebdaphjinaaDoor.F Go.Proofs.YtpmhebdaphjinaaDoor.Dig Go.Proofs.YtpmhebdaphjinaaDoor.RoundRef Go.Proofs.YtpmhebdaphjinaaDoor.RoundProg Go.Proofs.YtpmhebdaphjinaaDoor.RoundPlaces Go.Proofs.YtpmhebdaphjinaaDoor.Ref02 Go.Proofs.YtpmhebdaphjinaaDoor.Sum02 Go.Proofs.YtpmhebdaphjinaaDoor.Dec02 Go.Proofs.YtpmhebdaphjinaaDoor.RoundNear

theorem pl_ev (neg : Bool) (li lf : List Nat) (d : IsDec neg li lf) (mode : Int) (h1 : 1 ≤ mode) (h8 : mode ≤ 8) (m : Nat) (hm : m ≤ 40) :
    Ev (fun k => round_Places.f k neg (ofD li) (ofD lf) mode (m : Int)) (plRes neg li lf mode m) := by
  obtain ⟨r, pr, _, _, hr⟩ := places neg (ofD li) (ofD lf) mode m
  obtain ⟨li', lf', di, df, eI, eF, _, _, _, er⟩ := hr d.ok h1 h8 (by omega) (by omega)
  have e1 : li' = li := (ofD_inj d.di di eI).symm
  have e2 : lf' = lf := (ofD_inj d.df df eF).symm
  subst e1 e2
  rw [Int.toNat_natCast] at er
  rw [← er]
  exact pr

/-- What a mode makes of the number, at the number's own scale. -/
def wv (neg : Bool) (li lf : List Nat) (mode : Int) (m : Nat) : Nat := if lf.length ≤ m then val (li ++ lf) else worth neg li lf mode m * 10 ^ (lf.length - m)
theorem val_ne {neg : Bool} {li lf : List Nat} (d : IsDec neg li lf) : neg = (neg && decide (val (li ++ lf) ≠ 0)) := by
  cases neg with
  | false => rfl
  | true =>
    have h := d.sg rfl
    have : val (li ++ lf) ≠ 0 := by
      rw [val_append]
      intro h0
      have hp : 0 < 10 ^ lf.length := Nat.pow_pos (by omega)
      have h2 : val lf = 0 := by omega
      have h3 : val li * 10 ^ lf.length = 0 := by omega
      rcases Nat.mul_eq_zero.1 h3 with h4 | h4 <;> omega
    simp [this]
theorem res_dec (neg : Bool) (li lf : List Nat) (mode : Int) (m : Nat) (d : IsDec neg li lf) (h : (plRes neg li lf mode m).2.2.2 = 0) :
    ∃ i' f', IsDec (neg && decide (wv neg li lf mode m ≠ 0)) i' f' ∧ plRes neg li lf mode m = (neg && decide (wv neg li lf mode m ≠ 0), ofD i', ofD f', 0) ∧ f'.length ≤ lf.length ∧ at_ i' f' lf.length = wv neg li lf mode m := by
  by_cases hl : lf.length ≤ m
  · have ew : wv neg li lf mode m = val (li ++ lf) := by unfold wv; rw [if_pos hl]
    rw [ew, ← val_ne d]
    refine ⟨li, lf, d, by unfold plRes; rw [if_pos hl], Nat.le_refl _, by unfold at_; simp⟩
  · obtain ⟨dw, e⟩ := res_parts neg li lf mode m d (by omega) h
    have hp : 0 < 10 ^ (lf.length - m) := Nat.pow_pos (by omega)
    have ew : wv neg li lf mode m = worth neg li lf mode m * 10 ^ (lf.length - m) := by unfold wv; rw [if_neg hl]
    have en : decide (wv neg li lf mode m ≠ 0) = decide (worth neg li lf mode m ≠ 0) := by
      rw [decide_eq_decide, ew, ne_eq, ne_eq, Nat.mul_eq_zero]
      constructor
      · intro h1 h2; exact h1 (.inl h2)
      · intro h1 h2; rcases h2 with h2 | h2
        · exact h1 h2
        · omega
    rw [en]
    exact ⟨_, _, dw, e, by rw [fOf_length]; omega, by rw [built_at _ _ _ (by omega), ew]⟩
/-- Two numbers of one sign. -/
def turn (neg : Bool) (k : Int) : Int := if neg = true then -k else k
theorem stand_turn (neg : Bool) (x y : Nat) : standD (neg && decide (x ≠ 0)) (neg && decide (y ≠ 0)) (stand x y) = turn neg (stand x y) := by
  unfold standD turn stand
  cases neg with
  | false => simp
  | true =>
    by_cases hx : x = 0 <;> by_cases hy : y = 0 <;> simp [hx, hy]
    omega
theorem stand_zero (x y : Nat) : stand x y = 0 ↔ x = y := by
  unfold stand
  split
  · constructor
    · intro h; cases h
    · intro h; omega
  · split <;> simp_all
theorem stand_pos (x y : Nat) : 0 < stand x y ↔ y < x := by
  unfold stand
  split
  · constructor
    · intro h; omega
    · intro h; omega
  · split <;> simp <;> omega
theorem stand_neg (x y : Nat) : stand x y < 0 ↔ x < y := by
  unfold stand
  split
  · constructor
    · intro h; assumption
    · intro h; omega
  · split <;> simp <;> omega
theorem stand_mul (x y p : Nat) (hp : 0 < p) : stand (x * p) (y * p) = stand x y := by
  have e1 : (x * p < y * p) = (x < y) := propext (Nat.mul_lt_mul_right hp)
  have e2 : (x * p = y * p) = (x = y) := propext (Nat.mul_left_inj (by omega))
  unfold stand
  simp only [e1, e2]
theorem at_up (i f : List Nat) (S S' : Nat) (h : f.length ≤ S) (h' : S ≤ S') : at_ i f S' = at_ i f S * 10 ^ (S' - S) := by
  unfold at_
  rw [Nat.mul_assoc, ← Nat.pow_add]
  congr 2
  omega
theorem cmp_at (neg : Bool) (i1 f1 i2 f2 : List Nat) (S x y : Nat) (l1 : f1.length ≤ S) (l2 : f2.length ≤ S) (a1 : at_ i1 f1 S = x) (a2 : at_ i2 f2 S = y) (d1 : IsDec (neg && decide (x ≠ 0)) i1 f1) (d2 : IsDec (neg && decide (y ≠ 0)) i2 f2) :
    Ev (fun k => idiomref02_Compare.f k (neg && decide (x ≠ 0)) (ofD i1) (ofD f1) (neg && decide (y ≠ 0)) (ofD i2) (ofD f2)) (turn neg (stand x y), 0) := by
  have c := compare_ev _ i1 f1 _ i2 f2 _ rfl d1 d2
  have e1 := at_up i1 f1 (max f1.length f2.length) S (by omega) (by omega)
  have e2 := at_up i2 f2 (max f1.length f2.length) S (by omega) (by omega)
  rw [a1] at e1
  rw [a2] at e2
  have e3 := stand_mul (at_ i1 f1 (max f1.length f2.length)) (at_ i2 f2 (max f1.length f2.length)) (10 ^ (S - max f1.length f2.length)) (Nat.pow_pos (by omega))
  rw [← e1, ← e2] at e3
  rw [← e3, stand_turn] at c
  exact c

/-- How the modes lie. -/
theorem up_modes (neg : Bool) (q r u : Nat) : (upw 1 neg q r u).1 = decide (r ≠ 0) ∧ (upw 2 neg q r u).1 = false ∧ (upw 3 neg q r u).1 = (decide (r ≠ 0) && !neg) ∧ (upw 4 neg q r u).1 = (decide (r ≠ 0) && neg) := by
  unfold upw
  by_cases h : r = 0 <;> simp [h]
theorem half_modes (mode : Int) (neg : Bool) (q r u : Nat) : (upw mode neg q r u).1 = (upw 4 neg q r u).1 ∨ (upw mode neg q r u).1 = (upw 3 neg q r u).1 := by
  obtain ⟨_, _, h3, h4⟩ := up_modes neg q r u
  rw [h3, h4]
  by_cases h : r = 0
  · left; unfold upw; simp [h]
  · generalize (upw mode neg q r u).1 = b
    cases b <;> cases neg <;> simp [h]
theorem half_res (neg : Bool) (li lf : List Nat) (mode : Int) (m : Nat) (h1 : 1 ≤ mode) (h7 : mode ≤ 7) : plRes neg li lf mode m = plRes neg li lf 4 m ∨ plRes neg li lf mode m = plRes neg li lf 3 m := by
  have hw := half_modes mode neg (val (li ++ lf) / 10 ^ (lf.length - m)) (val (li ++ lf) % 10 ^ (lf.length - m)) (10 ^ (lf.length - m))
  unfold plRes worth
  rw [up_none mode _ _ _ _ h1 h7, up_none 4 _ _ _ _ (by omega) (by omega), up_none 3 _ _ _ _ (by omega) (by omega)]
  rcases hw with e | e
  · left; rw [e]
  · right; rw [e]
theorem res_zero (neg : Bool) (li lf : List Nat) (mode : Int) (m : Nat) (h1 : 1 ≤ mode) (h7 : mode ≤ 7) : (plRes neg li lf mode m).2.2.2 = 0 := by
  unfold plRes
  rw [up_none mode _ _ _ _ h1 h7]
  split
  · rfl
  · rw [if_pos rfl]
theorem wv_down (neg : Bool) (li lf : List Nat) (mode : Int) (m : Nat) (h : (upw mode neg (val (li ++ lf) / 10 ^ (lf.length - m)) (val (li ++ lf) % 10 ^ (lf.length - m)) (10 ^ (lf.length - m))).1 = false) : wv neg li lf mode m ≤ val (li ++ lf) := by
  unfold wv worth
  split
  · exact Nat.le_refl _
  · rw [h, if_neg (by decide), Nat.add_zero]
    exact Nat.div_mul_le_self _ _
theorem wv_up (neg : Bool) (li lf : List Nat) (mode : Int) (m : Nat) (h : val (li ++ lf) % 10 ^ (lf.length - m) ≠ 0 → (upw mode neg (val (li ++ lf) / 10 ^ (lf.length - m)) (val (li ++ lf) % 10 ^ (lf.length - m)) (10 ^ (lf.length - m))).1 = true) : val (li ++ lf) ≤ wv neg li lf mode m := by
  unfold wv worth
  split
  · exact Nat.le_refl _
  · have hV := Nat.div_add_mod (val (li ++ lf)) (10 ^ (lf.length - m))
    have hr := Nat.mod_lt (val (li ++ lf)) (Nat.pow_pos (n := lf.length - m) (show 0 < 10 by omega))
    by_cases h0 : val (li ++ lf) % 10 ^ (lf.length - m) = 0
    · rw [Nat.add_mul, Nat.mul_comm]; omega
    · rw [h h0, if_pos rfl, Nat.add_mul, Nat.mul_comm, Nat.one_mul]; omega

/-- The list of what was rounded. -/
def cell (neg : Bool) (li lf : List Nat) (m : Nat) (j : Nat) : S23 := ⟨(plRes neg li lf j m).1, (plRes neg li lf j m).2.1, (plRes neg li lf j m).2.2.1⟩
def rows (neg : Bool) (li lf : List Nat) (m i : Nat) : List S23 := (List.range 9).map fun j => if 1 ≤ j ∧ j < i then cell neg li lf m j else z23
theorem rows_length (neg : Bool) (li lf : List Nat) (m i : Nat) : (rows neg li lf m i).length = 9 := by simp [rows]
theorem rows_get (neg : Bool) (li lf : List Nat) (m i j : Nat) (h : j < 9) (h1 : 1 ≤ j) (h2 : j < i) : rd_T23 (rows neg li lf m i) (j : Int) = cell neg li lf m j := by
  unfold rd_T23 rows
  rw [Int.toNat_natCast, List.getD_eq_getElem?_getD, List.getElem?_map, List.getElem?_range h, Option.map_some, Option.getD_some, if_pos ⟨h1, h2⟩]
theorem rows_one (neg : Bool) (li lf : List Nat) (m : Nat) : List.replicate 9 z23 = rows neg li lf m 1 := by
  apply List.ext_getElem
  · simp [rows]
  · intro j h h'
    simp only [rows, List.getElem_replicate, List.getElem_map, List.getElem_range]
    rw [if_neg (by omega)]
theorem rows_set (neg : Bool) (li lf : List Nat) (m i : Nat) (h1 : 1 ≤ i) (h : i < 9) : (rows neg li lf m i).set i (cell neg li lf m i) = rows neg li lf m (i + 1) := by
  apply List.ext_getElem
  · simp [rows]
  · intro j h h'
    simp only [rows, List.getElem_set, List.getElem_map, List.getElem_range]
    by_cases e : i = j
    · subst e; rw [if_pos rfl, if_pos (by omega)]
    · rw [if_neg e]
      by_cases hj : 1 ≤ j ∧ j < i
      · rw [if_pos hj, if_pos (by omega)]
      · rw [if_neg hj, if_neg (by omega)]

theorem law (neg : Bool) (I F : ByteArray) (most : Int) : ∃ k, idiomlaw03_RoundModes.f k neg I F most = some true := by
  apply Ev.rounds
  have aw : Ev (fun k => (idiomlaw03_awake.f k).bind fun t => some t) true := Ev.bind awake_ev (Ev.now _)
  refine Ev.congr (fun k => by simp only [idiomlaw03_RoundModes.f]; rw [if_pos (by omega)]) ?_
  obtain ⟨r, pr, rr, hr, _⟩ := places neg I F 1 most
  rcases hr with ⟨e, hne⟩ | ⟨h0, li, lf, m, di, df, cl, hn, eI, eF, hsg, hm1, hm8, rfl, h40, er⟩
  · refine Ev.step (fun k => by simp only [idiomlaw03_RoundModes.l0]; rw [if_pos (by omega)]) ?_
    refine Ev.bind pr ?_
    refine Ev.congr (fun k => by rw [if_neg hne]) ?_
    refine Ev.bind rr ?_
    exact Ev.congr (fun k => by rw [if_pos rfl]) aw
  have d : IsDec neg li lf := ⟨di, df, cl, hn, hsg⟩
  subst eI eF
  have z := fun (j : Int) (a : 1 ≤ j) (b : j ≤ 7) => res_zero neg li lf j m a b
  -- one mode more
  have one : ∀ i : Nat, 1 ≤ i → i ≤ 7 → Ev (fun k => idiomlaw03_RoundModes.l0 k (m : Int) (rows neg li lf m (i + 1)) ((i + 1 : Nat) : Int) neg (ofD li) (ofD lf)) true →
      Ev (fun k => idiomlaw03_RoundModes.l0 k (m : Int) (rows neg li lf m i) (i : Int) neg (ofD li) (ofD lf)) true := by
    intro i h1 h7 hE
    refine Ev.step (fun k => by simp only [idiomlaw03_RoundModes.l0]; rw [if_pos (by omega)]) ?_
    refine Ev.bind (pl_ev neg li lf d i (by omega) (by omega) m h40) ?_
    refine Ev.congr (fun k => ?_) hE
    rw [if_pos (z i (by omega) (by omega)), if_pos (by omega), rows_length, if_pos (by omega), Int.toNat_natCast, w_succ (by omega)]
    rw [show (⟨(plRes neg li lf (i : Int) m).1, (plRes neg li lf (i : Int) m).2.1, (plRes neg li lf (i : Int) m).2.2.1⟩ : S23) = cell neg li lf m i from rfl, rows_set neg li lf m i h1 (by omega)]
  rw [rows_one neg li lf m]
  refine one 1 (by omega) (by omega) (one 2 (by omega) (by omega) (one 3 (by omega) (by omega) (one 4 (by omega) (by omega) (one 5 (by omega) (by omega) (one 6 (by omega) (by omega) (one 7 (by omega) (by omega) ?_))))))
  have g1 : rd_T23 (rows neg li lf m 8) 1 = cell neg li lf m 1 := rows_get neg li lf m 8 1 (by omega) (by omega) (by omega)
  have g2 : rd_T23 (rows neg li lf m 8) 2 = cell neg li lf m 2 := rows_get neg li lf m 8 2 (by omega) (by omega) (by omega)
  have g3 : rd_T23 (rows neg li lf m 8) 3 = cell neg li lf m 3 := rows_get neg li lf m 8 3 (by omega) (by omega) (by omega)
  have g4 : rd_T23 (rows neg li lf m 8) 4 = cell neg li lf m 4 := rows_get neg li lf m 8 4 (by omega) (by omega) (by omega)
  obtain ⟨i1, f1, d1, e1, l1, a1⟩ := res_dec neg li lf 1 m d (z 1 (by omega) (by omega))
  obtain ⟨i2, f2, d2, e2, l2, a2⟩ := res_dec neg li lf 2 m d (z 2 (by omega) (by omega))
  obtain ⟨i3, f3, d3, e3, l3, a3⟩ := res_dec neg li lf 3 m d (z 3 (by omega) (by omega))
  obtain ⟨i4, f4, d4, e4, l4, a4⟩ := res_dec neg li lf 4 m d (z 4 (by omega) (by omega))
  have c1 : cell neg li lf m 1 = ⟨neg && decide (wv neg li lf 1 m ≠ 0), ofD i1, ofD f1⟩ := by unfold cell; rw [show ((1 : Nat) : Int) = 1 from rfl, e1]
  have c2 : cell neg li lf m 2 = ⟨neg && decide (wv neg li lf 2 m ≠ 0), ofD i2, ofD f2⟩ := by unfold cell; rw [show ((2 : Nat) : Int) = 2 from rfl, e2]
  have c3 : cell neg li lf m 3 = ⟨neg && decide (wv neg li lf 3 m ≠ 0), ofD i3, ofD f3⟩ := by unfold cell; rw [show ((3 : Nat) : Int) = 3 from rfl, e3]
  have c4 : cell neg li lf m 4 = ⟨neg && decide (wv neg li lf 4 m ≠ 0), ofD i4, ofD f4⟩ := by unfold cell; rw [show ((4 : Nat) : Int) = 4 from rfl, e4]
  have aV : at_ li lf lf.length = val (li ++ lf) := by unfold at_; simp
  have dV : IsDec (neg && decide (val (li ++ lf) ≠ 0)) li lf := val_ne d ▸ d
  have b4 := cmp_at neg i4 f4 li lf lf.length _ _ l4 (Nat.le_refl _) a4 aV d4 dV
  have b3 := cmp_at neg i3 f3 li lf lf.length _ _ l3 (Nat.le_refl _) a3 aV d3 dV
  have b2 := cmp_at false i2 f2 li lf lf.length _ _ l2 (Nat.le_refl _) a2 aV (by simpa using d2.abs) (by simpa using d.abs)
  have b1 := cmp_at false i1 f1 li lf lf.length _ _ l1 (Nat.le_refl _) a1 aV (by simpa using d1.abs) (by simpa using d.abs)
  have b5 := cmp_at neg i4 f4 i3 f3 lf.length _ _ l4 l3 a4 a3 d4 d3
  rw [← val_ne d] at b4 b3
  rw [Bool.false_and, Bool.false_and] at b2 b1
  obtain ⟨u1, u2, u3, u4⟩ := up_modes neg (val (li ++ lf) / 10 ^ (lf.length - m)) (val (li ++ lf) % 10 ^ (lf.length - m)) (10 ^ (lf.length - m))
  have s1 : ¬ turn false (stand (wv neg li lf 1 m) (val (li ++ lf))) < 0 := by
    have := wv_up neg li lf 1 m (fun h => by rw [u1]; simp [h])
    unfold turn; rw [if_neg (by decide), stand_neg]; omega
  have s2 : ¬ turn false (stand (wv neg li lf 2 m) (val (li ++ lf))) > 0 := by
    have := wv_down neg li lf 2 m u2
    unfold turn; rw [if_neg (by decide), gt_iff_lt, stand_pos]; omega
  have s3 : ¬ turn neg (stand (wv neg li lf 3 m) (val (li ++ lf))) < 0 := by
    cases neg with
    | false =>
      have := wv_up false li lf 3 m (fun h => by rw [u3]; simp [h])
      unfold turn; rw [if_neg (by decide), stand_neg]; omega
    | true =>
      have := wv_down true li lf 3 m (by rw [u3]; simp)
      have h := stand_pos (wv true li lf 3 m) (val (li ++ lf))
      unfold turn; rw [if_pos rfl]; omega
  have s4 : ¬ turn neg (stand (wv neg li lf 4 m) (val (li ++ lf))) > 0 := by
    cases neg with
    | false =>
      have := wv_down false li lf 4 m (by rw [u4]; simp)
      unfold turn; rw [if_neg (by decide), gt_iff_lt, stand_pos]; omega
    | true =>
      have := wv_up true li lf 4 m (fun h => by rw [u4]; simp [h])
      have h := stand_neg (wv true li lf 4 m) (val (li ++ lf))
      unfold turn; rw [if_pos rfl]; omega
  -- the four that are compared
  refine Ev.step (fun k => by simp only [idiomlaw03_RoundModes.l0]; rw [if_neg (by omega), rows_length, g1, g2, g3, g4, c1, c2, c3, c4, if_pos (by omega)]) ?_
  refine Ev.bind b4 ?_
  refine Ev.congr (fun k => by rw [if_pos (by omega)]) ?_
  refine Ev.bind b3 ?_
  refine Ev.congr (fun k => by rw [if_pos (by omega)]) ?_
  refine Ev.bind (Ev.now (false, ofD i2, ofD f2)) (Ev.bind (Ev.now (false, ofD li, ofD lf)) (Ev.bind b2 ?_))
  refine Ev.congr (fun k => by rw [if_pos (by omega)]) ?_
  refine Ev.bind (Ev.now (false, ofD i1, ofD f1)) (Ev.bind (Ev.now (false, ofD li, ofD lf)) (Ev.bind b1 ?_))
  refine Ev.congr (fun k => by rw [if_neg s4, if_neg s3, if_neg s2, decide_eq_false s1]) ?_
  refine Ev.step (fun k => by simp only [idiomlaw03_RoundModes.j1]; rw [if_neg (by decide)]) ?_
  -- each half mode
  have half : ∀ i : Nat, 5 ≤ i → i ≤ 7 → Ev (fun k => idiomlaw03_RoundModes.l1 k (m : Int) (rows neg li lf m 8) ((i + 1 : Nat) : Int) neg (ofD li) (ofD lf)) true →
      Ev (fun k => idiomlaw03_RoundModes.l1 k (m : Int) (rows neg li lf m 8) (i : Int) neg (ofD li) (ofD lf)) true := by
    intro i h5 h7 hE
    have gi := rows_get neg li lf m 8 i (by omega) (by omega) (by omega)
    have hc : cell neg li lf m i = cell neg li lf m 4 ∨ cell neg li lf m i = cell neg li lf m 3 := by
      unfold cell
      rcases half_res neg li lf i m (by omega) (by omega) with e | e
      · left; rw [e]; rfl
      · right; rw [e]; rfl
    refine Ev.step (fun k => ?_) hE
    simp only [idiomlaw03_RoundModes.l1]
    rw [if_pos (by omega), if_pos (by omega), rows_length, if_pos (by omega), if_pos (by omega), gi, g4, g3, w_succ (by omega)]
    rcases hc with e | e
    · rw [e, if_neg (by simp)]
    · rw [e]
      split
      · rw [if_pos (by omega), if_neg (by simp)]
      · rfl
  refine half 5 (by omega) (by omega) (half 6 (by omega) (by omega) (half 7 (by omega) (by omega) ?_))
  refine Ev.step (fun k => by simp only [idiomlaw03_RoundModes.l1]; rw [if_neg (by omega)]) ?_
  refine Ev.bind (pl_ev neg li lf d 8 (by omega) (by omega) m h40) ?_
  refine Ev.congr (fun k => by rw [rows_length, if_pos (by omega), if_pos (by omega), g4, g3, c4, c3]) ?_
  refine Ev.bind b5 ?_
  refine Ev.congr (fun k => ?_) aw
  -- none refuses just where floor and ceiling part
  have key : ((plRes neg li lf 8 m).2.2.2 = 0 ↔ turn neg (stand (wv neg li lf 4 m) (wv neg li lf 3 m)) = 0) ∧ ((plRes neg li lf 8 m).2.2.2 = 0 ∨ (plRes neg li lf 8 m).2.2.2 = 31) := by
    have ht : turn neg (stand (wv neg li lf 4 m) (wv neg li lf 3 m)) = 0 ↔ wv neg li lf 4 m = wv neg li lf 3 m := by
      rw [← stand_zero]
      unfold turn
      split <;> omega
    rw [ht]
    by_cases hl : lf.length ≤ m
    · have x : (plRes neg li lf 8 m).2.2.2 = 0 := by unfold plRes; rw [if_pos hl]
      rw [x]
      unfold wv
      rw [if_pos hl, if_pos hl]
      simp
    · have hp : 0 < 10 ^ (lf.length - m) := Nat.pow_pos (by omega)
      unfold wv worth
      rw [if_neg hl, if_neg hl, u3, u4, Nat.mul_left_inj (by omega)]
      unfold plRes
      rw [if_neg hl]
      by_cases h0 : val (li ++ lf) % 10 ^ (lf.length - m) = 0
      · have x : (upw 8 neg (val (li ++ lf) / 10 ^ (lf.length - m)) (val (li ++ lf) % 10 ^ (lf.length - m)) (10 ^ (lf.length - m))).2 = 0 := by unfold upw; rw [if_pos h0]
        rw [if_pos x]
        simp [h0]
      · have x : (upw 8 neg (val (li ++ lf) / 10 ^ (lf.length - m)) (val (li ++ lf) % 10 ^ (lf.length - m)) (10 ^ (lf.length - m))).2 = 31 := by unfold upw; rw [if_neg h0]; rfl
        rw [if_neg (by rw [x]; decide), x]
        cases neg <;> simp [h0]
  obtain ⟨k1, k2⟩ := key
  have kb : (((plRes neg li lf 8 m).2.2.2 == 0) == ((turn neg (stand (wv neg li lf 4 m) (wv neg li lf 3 m)), (0 : Int)).1 == 0)) = true := by
    rw [beq_iff_eq, Bool.eq_iff_iff, beq_iff_eq, beq_iff_eq]
    exact k1
  rw [if_pos kb]
  rcases k2 with h | h
  · rw [if_pos h]
  · rw [if_neg (by rw [h]; decide), if_pos h]
end Go.Proofs.YtpmhebdaphjinaaDoor.RoundModes
