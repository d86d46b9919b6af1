/- Digits of whole numbers as texts, and what they are worth: plain lemmas, no program in sight. -/
import Derived.Test.YtpmhebdaphjinaaDoorAid
import Derived.Lib.Strings
import Derived.Lib.TrimByte
import Derived.Lib.Repeat
set_option linter.unusedVariables false
set_option linter.unusedSimpArgs false
namespace Go.Proofs.YtpmhebdaphjinaaDoor.Dig
open Go.RowKit Go.Proofs.YtpmhebdaphjinaaDoorW.PrintWords

/-- A list of digits. -/
def Dg (l : List Nat) : Prop := ∀ d ∈ l, d ≤ 9
/-- The text of a list of digits. -/
def ofD (l : List Nat) : ByteArray := ⟨(l.map fun d => UInt8.ofNat (d + 48)).toArray⟩
/-- What a list of digits is worth. -/
def val : List Nat → Nat
  | [] => 0
  | d :: l => d * 10 ^ l.length + val l
/-- Without noughts ahead; '0' of none. -/
def lead : List Nat → List Nat
  | [] => [0]
  | [d] => [d]
  | d :: e :: t => if d = 0 then lead (e :: t) else d :: e :: t
def Canon (l : List Nat) : Prop := l ≠ [] ∧ (l.length = 1 ∨ l.getD 0 0 ≠ 0)

theorem Dg.nil : Dg [] := fun _ h => by cases h
theorem Dg.cons {d : Nat} {l : List Nat} (h : d ≤ 9) (hl : Dg l) : Dg (d :: l) := fun x hx => by
  rcases List.mem_cons.1 hx with rfl | hx
  · exact h
  · exact hl x hx
theorem Dg.head {d : Nat} {l : List Nat} (h : Dg (d :: l)) : d ≤ 9 := h d (by simp)
theorem Dg.tail {d : Nat} {l : List Nat} (h : Dg (d :: l)) : Dg l := fun x hx => h x (by simp [hx])
theorem Dg.append {l m : List Nat} (hl : Dg l) (hm : Dg m) : Dg (l ++ m) := fun x hx => by
  rcases List.mem_append.1 hx with hx | hx
  · exact hl x hx
  · exact hm x hx
theorem Dg.take {l : List Nat} (h : Dg l) (n : Nat) : Dg (l.take n) := fun x hx => h x (List.mem_of_mem_take hx)
theorem Dg.drop {l : List Nat} (h : Dg l) (n : Nat) : Dg (l.drop n) := fun x hx => h x (List.mem_of_mem_drop hx)
theorem Dg.zeros (n : Nat) : Dg (List.replicate n 0) := fun x hx => by rw [List.eq_of_mem_replicate hx]; omega
theorem Dg.get {l : List Nat} (h : Dg l) (i : Nat) : l.getD i 0 ≤ 9 := by
  rw [List.getD_eq_getElem?_getD]
  cases e : l[i]? with
  | none => simp
  | some d => exact h d (List.mem_of_getElem? e)
theorem Dg.set {l : List Nat} (h : Dg l) (i : Nat) {d : Nat} (hd : d ≤ 9) : Dg (l.set i d) := fun x hx => by
  rcases List.mem_or_eq_of_mem_set hx with hx | rfl
  · exact h x hx
  · exact hd

theorem val_append (l m : List Nat) : val (l ++ m) = val l * 10 ^ m.length + val m := by
  induction l with
  | nil => simp [val]
  | cons d l ih =>
    simp only [List.cons_append, val, ih, List.length_append, Nat.pow_add, Nat.add_mul, Nat.mul_assoc]
    omega
theorem val_snoc (l : List Nat) (d : Nat) : val (l ++ [d]) = val l * 10 + d := by rw [val_append]; simp [val]
theorem val_lt {l : List Nat} (h : Dg l) : val l < 10 ^ l.length := by
  induction l with
  | nil => simp [val]
  | cons d l ih =>
    have h1 := h.head
    have h2 := ih h.tail
    simp only [val, List.length_cons, Nat.pow_succ]
    have h3 : d * 10 ^ l.length ≤ 9 * 10 ^ l.length := Nat.mul_le_mul_right _ h1
    omega
theorem val_zeros (n : Nat) : val (List.replicate n 0) = 0 := by
  induction n with
  | zero => rfl
  | succ n ih => simp [List.replicate_succ, val, ih]
theorem val_zeros_append (n : Nat) (l : List Nat) : val (List.replicate n 0 ++ l) = val l := by rw [val_append, val_zeros]; simp
theorem val_append_zeros (n : Nat) (l : List Nat) : val (l ++ List.replicate n 0) = val l * 10 ^ n := by rw [val_append, val_zeros]; simp
theorem val_eq_zero {l : List Nat} : val l = 0 ↔ ∀ d ∈ l, d = 0 := by
  induction l with
  | nil => simp [val]
  | cons d l ih =>
    simp only [val, List.mem_cons, forall_eq_or_imp]
    have hp : 0 < 10 ^ l.length := Nat.pow_pos (by omega)
    constructor
    · intro h
      have h2 : val l = 0 := by omega
      have h1 : d * 10 ^ l.length = 0 := by omega
      rcases Nat.mul_eq_zero.1 h1 with h1 | h1
      · exact ⟨h1, ih.1 h2⟩
      · omega
    · rintro ⟨rfl, h⟩
      simp [ih.2 h]
theorem val_take_drop (l : List Nat) (n : Nat) : val l = val (l.take n) * 10 ^ (l.length - n) + val (l.drop n) := by
  conv => lhs; rw [← List.take_append_drop n l]
  rw [val_append, List.length_drop]
theorem val_take {l : List Nat} (h : Dg l) (n : Nat) : val (l.take n) = val l / 10 ^ (l.length - n) := by
  have h1 := val_take_drop l n
  have h2 := val_lt (h.drop n)
  rw [List.length_drop] at h2
  have hp : 0 < 10 ^ (l.length - n) := Nat.pow_pos (by omega)
  rw [h1, Nat.add_comm, Nat.add_mul_div_right _ _ hp, Nat.div_eq_of_lt h2, Nat.zero_add]
theorem val_drop {l : List Nat} (h : Dg l) (n : Nat) : val (l.drop n) = val l % 10 ^ (l.length - n) := by
  have h1 := val_take_drop l n
  have h2 := val_lt (h.drop n)
  rw [List.length_drop] at h2
  rw [h1, Nat.add_comm, Nat.add_mul_mod_self_right, Nat.mod_eq_of_lt h2]
theorem eq_of_val : ∀ {l m : List Nat}, Dg l → Dg m → l.length = m.length → val l = val m → l = m
  | [], [], _, _, _, _ => rfl
  | [], _ :: _, _, _, h, _ => by simp at h
  | _ :: _, [], _, _, h, _ => by simp at h
  | d :: l, e :: m, hl, hm, h, hv => by
    have h1 : l.length = m.length := by simpa using h
    have a := val_lt hl.tail
    have b := val_lt hm.tail
    simp only [val, h1] at hv a
    have hp : 0 < 10 ^ m.length := Nat.pow_pos (by omega)
    have hd : d = e := by
      have x : (d * 10 ^ m.length + val l) / 10 ^ m.length = d := by
        rw [Nat.add_comm, Nat.add_mul_div_right _ _ hp, Nat.div_eq_of_lt a]; omega
      have y : (e * 10 ^ m.length + val m) / 10 ^ m.length = e := by
        rw [Nat.add_comm, Nat.add_mul_div_right _ _ hp, Nat.div_eq_of_lt b]; omega
      rw [hv] at x
      omega
    subst hd
    rw [eq_of_val hl.tail hm.tail h1 (by omega)]

theorem lead_ne (l : List Nat) : lead l ≠ [] := by
  fun_induction lead l <;> simp_all
theorem Dg.lead {l : List Nat} (h : Dg l) : Dg (lead l) := by
  fun_induction Dig.lead l with
  | case1 => exact Dg.cons (by omega) Dg.nil
  | case2 => exact h
  | case3 e t ih => exact ih h.tail
  | case4 => exact h
theorem val_lead (l : List Nat) : val (lead l) = val l := by
  fun_induction lead l with
  | case1 => rfl
  | case2 => rfl
  | case3 e t ih => rw [ih]; simp [val]
  | case4 => rfl
theorem canon_lead (l : List Nat) : Canon (lead l) := by
  fun_induction lead l with
  | case1 => exact ⟨by simp, .inl rfl⟩
  | case2 => exact ⟨by simp, .inl rfl⟩
  | case3 e t ih => exact ih
  | case4 d e t h => exact ⟨by simp, .inr (by simpa using h)⟩
theorem lead_length (l : List Nat) : (lead l).length ≤ max 1 l.length := by
  fun_induction lead l with
  | case1 => simp
  | case2 => simp
  | case3 e t ih => simp at ih ⊢; omega
  | case4 => simp
theorem Canon.lead {l : List Nat} (h : Canon l) : lead l = l := by
  fun_induction Dig.lead l with
  | case1 => exact absurd rfl h.1
  | case2 => rfl
  | case3 e t ih => rcases h.2 with h2 | h2 <;> simp at h2
  | case4 => rfl
theorem Canon.le_val {l : List Nat} (h : Canon l) (h1 : l.length ≠ 1) : 10 ^ (l.length - 1) ≤ val l := by
  cases l with
  | nil => exact absurd rfl h.1
  | cons d l =>
    rcases h.2 with h2 | h2
    · exact absurd h2 h1
    · simp only [List.getD_cons_zero] at h2
      simp only [val, List.length_cons, Nat.add_sub_cancel]
      have : 1 * 10 ^ l.length ≤ d * 10 ^ l.length := Nat.mul_le_mul_right _ (by omega)
      omega
theorem canon_length_le {l m : List Nat} (hm : Dg m) (cl : Canon l) (h : val l ≤ val m) (cm : m ≠ []) : l.length ≤ m.length := by
  by_cases h1 : l.length = 1
  · have : m.length ≠ 0 := by simpa using cm
    omega
  · have a := cl.le_val h1
    have b := val_lt hm
    have c : 10 ^ (l.length - 1) < 10 ^ m.length := by omega
    have := (Nat.pow_lt_pow_iff_right (show 1 < 10 by omega)).1 c
    omega
theorem canon_unique {l m : List Nat} (hl : Dg l) (hm : Dg m) (cl : Canon l) (cm : Canon m) (h : val l = val m) : l = m := by
  have a := canon_length_le hm cl (by omega) cm.1
  have b := canon_length_le hl cm (by omega) cl.1
  exact eq_of_val hl hm (by omega) h
theorem lead_eq {l m : List Nat} (hl : Dg l) (hm : Dg m) (h : val l = val m) : lead l = lead m :=
  canon_unique hl.lead hm.lead (canon_lead _) (canon_lead _) (by rw [val_lead, val_lead, h])
theorem canon_zero {l : List Nat} (hl : Dg l) (cl : Canon l) (h : val l = 0) : l = [0] :=
  canon_unique hl (Dg.cons (by omega) Dg.nil) cl ⟨by simp, .inl rfl⟩ (by simp [h, val])

/-! ### texts -/
theorem ofNat48 {d : Nat} (h : d ≤ 9) : (UInt8.ofNat (d + 48)).toNat = d + 48 := by
  rw [UInt8.toNat_ofNat']; omega
theorem size_ofD (l : List Nat) : (ofD l).size = l.length := by simp [ofD, ByteArray.size]
theorem data_ofD (l : List Nat) : (ofD l).data.toList = l.map fun d => UInt8.ofNat (d + 48) := by simp [ofD]
theorem toList_ofD (l : List Nat) : (ofD l).toList = l.map fun d => UInt8.ofNat (d + 48) := by rw [ByteArray.toList_eq, data_ofD]
theorem ext_data {s t : ByteArray} (h : s.data.toList = t.data.toList) : s = t := by
  obtain ⟨⟨l⟩⟩ := s
  obtain ⟨⟨m⟩⟩ := t
  simpa using h
theorem ofD_append (l m : List Nat) : ofD l ++ ofD m = ofD (l ++ m) := by
  apply ext_data
  rw [ByteArray.data_append]
  simp [ofD]
theorem ofD_extract (l : List Nat) (a b : Nat) : (ofD l).extract a b = ofD ((l.drop a).take (b - a)) := by
  apply ext_data
  rw [Lib.extract_data, data_ofD, data_ofD]
  simp [List.map_take, List.map_drop]
theorem bt_ofD {l : List Nat} (h : Dg l) {i : Int} (h0 : 0 ≤ i) (h1 : i < l.length) : bt (ofD l) i = ((l.getD i.toNat 0 + 48 : Nat) : Int) := by
  have hs : i.toNat < (ofD l).size := by rw [size_ofD]; omega
  have hi : i.toNat < l.length := by omega
  have hd := h (l[i.toNat]) (List.getElem_mem hi)
  unfold bt
  rw [dif_pos hs]
  have e : (ofD l)[i.toNat] = UInt8.ofNat (l[i.toNat] + 48) := by
    show (ofD l).data[i.toNat] = _
    simp [ofD]
  rw [e, ofNat48 hd]
  simp [List.getD_eq_getElem?_getD, hi]
theorem ofD_inj {l m : List Nat} (hl : Dg l) (hm : Dg m) (h : ofD l = ofD m) : l = m := by
  have h1 : (ofD l).data.toList = (ofD m).data.toList := by rw [h]
  rw [data_ofD, data_ofD] at h1
  clear h
  induction l generalizing m with
  | nil => cases m with
    | nil => rfl
    | cons e m => simp at h1
  | cons d l ih => cases m with
    | nil => simp at h1
    | cons e m =>
      simp only [List.map_cons, List.cons.injEq] at h1
      have a := ofNat48 hl.head
      have b := ofNat48 hm.head
      rw [h1.1, b] at a
      rw [ih hl.tail hm.tail h1.2]
      simp; omega
theorem toList_inj {l m : List Nat} (hl : Dg l) (hm : Dg m) : (ofD l).toList = (ofD m).toList ↔ l = m := by
  constructor
  · intro h
    rw [ByteArray.toList_eq, ByteArray.toList_eq] at h
    exact ofD_inj hl hm (ext_data h)
  · rintro rfl; rfl
theorem toList_nil {l : List Nat} : (ofD l).toList = [] ↔ l = [] := by rw [toList_ofD]; simp
theorem ofD_zero : (⟨#[48]⟩ : ByteArray) = ofD [0] := rfl
theorem ofD_one : (⟨#[49]⟩ : ByteArray) = ofD [1] := rfl
theorem ofD_five : (⟨#[53]⟩ : ByteArray) = ofD [5] := rfl
theorem ofD_nil : (⟨#[]⟩ : ByteArray) = ofD [] := rfl
theorem strOfNums_ofD (l : List Nat) : strOfNums (l.map fun d => ((d + 48 : Nat) : Int)) = ofD l := by
  unfold strOfNums ofD
  rw [List.map_map]
  simp only [Function.comp_def, Int.toNat_natCast]
/-- A text all of whose bytes are digits. -/
theorem of_bytes (s : ByteArray) (h : ∀ i : Nat, i < s.size → 48 ≤ bt s i ∧ bt s i ≤ 57) : ∃ l, Dg l ∧ s = ofD l := by
  refine ⟨s.data.toList.map fun c => c.toNat - 48, ?_, ?_⟩
  · intro d hd
    obtain ⟨c, hc, rfl⟩ := List.mem_map.1 hd
    obtain ⟨i, hi, rfl⟩ := List.mem_iff_getElem.1 hc
    have hi2 : i < s.size := by simpa using hi
    have := h i hi2
    unfold bt at this
    rw [dif_pos (by simpa using hi2)] at this
    have e : s.data.toList[i].toNat = (s[((i : Nat) : Int).toNat]'(by simpa using hi2)).toNat := by simp; rfl
    omega
  · apply ext_data
    rw [data_ofD, List.map_map]
    conv => lhs; rw [← List.map_id s.data.toList]
    apply List.map_congr_left
    intro c hc
    obtain ⟨i, hi, rfl⟩ := List.mem_iff_getElem.1 hc
    have hi2 : i < s.size := by simpa using hi
    have := h i hi2
    unfold bt at this
    rw [dif_pos (by simpa using hi2)] at this
    have e : s.data.toList[i].toNat = (s[((i : Nat) : Int).toNat]'(by simpa using hi2)).toNat := by simp; rfl
    simp only [id, Function.comp]
    apply UInt8.toNat_inj.1
    rw [UInt8.toNat_ofNat']
    have := s.data.toList[i].toNat_lt
    omega
theorem bytesLess_ofD : ∀ {l m : List Nat}, Dg l → Dg m → l.length = m.length → Op.bytesLess (ofD l).toList (ofD m).toList = decide (val l < val m) := by
  intro l m hl hm h
  rw [toList_ofD, toList_ofD]
  induction l generalizing m with
  | nil => cases m with
    | nil => simp [Op.bytesLess, val]
    | cons e m => simp at h
  | cons d l ih => cases m with
    | nil => simp at h
    | cons e m =>
      have h1 : l.length = m.length := by simpa using h
      simp only [List.map_cons, Op.bytesLess, ih hl.tail hm.tail h1]
      have a := ofNat48 hl.head
      have b := ofNat48 hm.head
      have e1 : (UInt8.ofNat (d + 48) < UInt8.ofNat (e + 48)) = (d < e) := by rw [UInt8.lt_iff_toNat_lt, a, b]; simp
      have e2 : (UInt8.ofNat (d + 48) == UInt8.ofNat (e + 48)) = (d == e) := by
        rw [Bool.eq_iff_iff]; simp only [beq_iff_eq, ← UInt8.toNat_inj, a, b]; omega
      rw [e2]
      simp only [val, h1]
      have va := val_lt hl.tail
      have vb := val_lt hm.tail
      rw [h1] at va
      rw [Bool.eq_iff_iff]
      simp only [Bool.or_eq_true, decide_eq_true_eq, Bool.and_eq_true, beq_iff_eq, e1]
      constructor
      · rintro (h2 | ⟨rfl, h2⟩)
        · have : (d + 1) * 10 ^ m.length ≤ e * 10 ^ m.length := Nat.mul_le_mul_right _ h2
          rw [Nat.add_mul] at this
          omega
        · omega
      · intro h2
        rcases Nat.lt_trichotomy d e with h3 | h3 | h3
        · exact .inl h3
        · exact .inr ⟨h3, by subst h3; omega⟩
        · have : (e + 1) * 10 ^ m.length ≤ d * 10 ^ m.length := Nat.mul_le_mul_right _ h3
          rw [Nat.add_mul] at this
          omega
/-! ### strings.Trim, TrimLeft, Repeat with noughts -/
theorem dropWhile_ofD {l : List Nat} (h : Dg l) : (l.map fun d => UInt8.ofNat (d + 48)).dropWhile (· == 48) = (l.dropWhile (· == 0)).map fun d => UInt8.ofNat (d + 48) := by
  induction l with
  | nil => rfl
  | cons d l ih =>
    have a := ofNat48 h.head
    have e : (UInt8.ofNat (d + 48) == 48) = (d == 0) := by
      rw [Bool.eq_iff_iff]; simp only [beq_iff_eq, ← UInt8.toNat_inj, a]; simp
    simp only [List.map_cons, List.dropWhile_cons, e]
    split
    · exact ih h.tail
    · simp
def tl (l : List Nat) : List Nat := l.dropWhile (· == 0)
def tt (l : List Nat) : List Nat := tl (l.reverse.dropWhile (· == 0)).reverse
theorem Dg.dropWhile {l : List Nat} (h : Dg l) : Dg (l.dropWhile (· == 0)) := fun x hx => h x (List.dropWhile_sublist _ |>.subset hx)
theorem Dg.reverse {l : List Nat} (h : Dg l) : Dg l.reverse := fun x hx => h x (by simpa using hx)
theorem Dg.tl {l : List Nat} (h : Dg l) : Dg (tl l) := h.dropWhile
theorem Dg.tt {l : List Nat} (h : Dg l) : Dg (tt l) := (h.reverse.dropWhile).reverse.tl
theorem trimLeft_ofD {l : List Nat} (h : Dg l) : (⟨(Lib.trimLeftB (ofD l).data.toList 48).toArray⟩ : ByteArray) = ofD (tl l) := by
  apply ext_data
  rw [data_ofD, data_ofD]
  simp only [Lib.trimLeftB, tl]
  rw [dropWhile_ofD h]
theorem trim_ofD {l : List Nat} (h : Dg l) : (⟨(Lib.trimB (ofD l).data.toList 48).toArray⟩ : ByteArray) = ofD (tt l) := by
  apply ext_data
  rw [data_ofD, data_ofD]
  simp only [Lib.trimB, Lib.trimRightB, Lib.trimLeftB, tt, tl]
  rw [← List.map_reverse, dropWhile_ofD h.reverse, ← List.map_reverse, dropWhile_ofD (h.reverse.dropWhile).reverse]
theorem dropWhile_nil {l : List Nat} : l.dropWhile (· == 0) = [] ↔ ∀ d ∈ l, d = 0 := by
  induction l with
  | nil => simp
  | cons d l ih =>
    simp only [List.dropWhile_cons, List.mem_cons, forall_eq_or_imp]
    split
    · rename_i h; simp at h; simp [h, ih]
    · rename_i h; simp at h; simp [h]
theorem tl_nil {l : List Nat} : tl l = [] ↔ val l = 0 := by rw [val_eq_zero]; exact dropWhile_nil
theorem tt_nil {l : List Nat} : tt l = [] ↔ val l = 0 := by
  rw [tt, tl_nil, val_eq_zero, val_eq_zero]
  constructor
  · intro h d hd
    by_cases hz : ∀ d ∈ l.reverse, d = 0
    · exact hz d (by simpa using hd)
    · exfalso
      apply hz
      rw [← dropWhile_nil]
      cases e : l.reverse.dropWhile (· == 0) with
      | nil => rfl
      | cons x t =>
        have h1 := h x (by rw [e]; simp)
        have h2 := List.head_dropWhile_not (fun d : Nat => d == 0) (l := l.reverse) (by rw [e]; simp)
        simp only [e, List.head_cons, h1] at h2
        simp at h2
  · intro h d hd
    have hd' := (List.dropWhile_sublist _).subset (List.mem_reverse.1 hd)
    exact h d (by simpa using hd')
theorem tl_lead (l : List Nat) : lead l = if tl l = [] then (if l = [] then [0] else [0]) else tl l := by
  fun_induction lead l with
  | case1 => simp [tl]
  | case2 d => by_cases h : d = 0 <;> simp [tl, h]
  | case3 e t ih => rw [ih]; simp [tl]
  | case4 d e t h => simp [tl, h]
theorem lead_of_tl (l : List Nat) : lead l = if tl l = [] then [0] else tl l := by rw [tl_lead]; split <;> simp
theorem val_tl (l : List Nat) : val (tl l) = val l := by
  induction l with
  | nil => rfl
  | cons d l ih =>
    simp only [tl, List.dropWhile_cons] at ih ⊢
    split
    · rename_i h; simp at h; simp [val, h, ih]
    · rfl
theorem repeat_ofD (n : Nat) : (⟨(Lib.repeatL (⟨#[48]⟩ : ByteArray).data.toList n).toArray⟩ : ByteArray) = ofD (List.replicate n 0) := by
  apply ext_data
  rw [data_ofD]
  simp only [List.map_replicate]
  induction n with
  | zero => rfl
  | succ n ih =>
    simp only [Lib.repeatL, List.replicate_succ]
    show (⟨#[48]⟩ : ByteArray).data.toList ++ Lib.repeatL (⟨#[48]⟩ : ByteArray).data.toList n = _
    rw [show Lib.repeatL (⟨#[48]⟩ : ByteArray).data.toList n = List.replicate n (UInt8.ofNat (0 + 48)) from ih]
    rfl
end Go.Proofs.YtpmhebdaphjinaaDoor.Dig
