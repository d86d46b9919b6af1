/- What layers 2 and 3 reckon for rounding to places: the checks agree; digits cut off and one more are numbers' own; the program's places are the reference's. -/
import Derived.Test.YtpmhebdaphjinaaDoorRoundRef
import Derived.Test.YtpmhebdaphjinaaDoorRoundOne
import Derived.Test.YtpmhebdaphjinaaDoorF10
import Derived.Test.YtpmhebdaphjinaaDoorF11
import Derived.Test.YtpmhebdaphjinaaDoorF17
import Derived.Test.YtpmhebdaphjinaaDoorF3
import Derived.Test.YtpmhebdaphjinaaDoorF4
import Derived.Test.YtpmhebdaphjinaaDoorF7
import Derived.Test.YtpmhebdaphjinaaDoorF8
set_option linter.unusedVariables false
set_option linter.unusedSimpArgs false
namespace Go.Proofs.YtpmhebdaphjinaaDoor.RoundProg
open Go.RowKit Go.Proofs.YtpmhebdaphjinaaDoorW.PrintWords Go.Proofs.YtpmhebdaphjinaaDoorW.PrintLast Go.Proofs.YtpmhebdaphjinaaDoor.F Go.Proofs.YtpmhebdaphjinaaDoor.Dig Go.Proofs.YtpmhebdaphjinaaDoor.RoundRef

/-! ### digits alone -/
def AllD (s : ByteArray) : Prop := ∀ i : Nat, i < s.size → 48 ≤ bt s i ∧ bt s i ≤ 57
theorem allD_ofD {l : List Nat} (h : Dg l) : AllD (ofD l) := fun i hi => by
  rw [size_ofD] at hi
  rw [bt_ofD h (by omega) (by omega)]
  have := h.get (i : Int).toNat
  omega
theorem all_yes (s : ByteArray) (hs : s.size ≤ 1000000) (h : AllD s) : Ev (fun k => decimal_all.f k s) true := by
  have go : ∀ (m i : Nat), s.size - i = m → Ev (fun k => decimal_all.l0 k s (s.size : Int) (i : Int)) true := by
    intro m
    induction m with
    | zero =>
      intro i hi
      refine Ev.some fun k => ?_
      simp only [decimal_all.l0]
      rw [if_neg (by omega)]
    | succ m ih =>
      intro i hi
      obtain ⟨a, b⟩ := h i (by omega)
      refine Ev.step (fun k => ?_) (ih (i + 1) (by omega))
      simp only [decimal_all.l0]
      rw [if_pos (by omega), if_pos (by omega), if_pos (by omega), if_neg (by omega), if_neg (by omega), w64 (by omega) (by omega)]
      rfl
  exact go _ 0 rfl
theorem all_no (s : ByteArray) (hs : s.size ≤ 1000000) (h : ¬ AllD s) : Ev (fun k => decimal_all.f k s) false := by
  have go : ∀ (m i : Nat), s.size - i = m → (∃ j, i ≤ j ∧ j < s.size ∧ ¬ (48 ≤ bt s j ∧ bt s j ≤ 57)) → Ev (fun k => decimal_all.l0 k s (s.size : Int) (i : Int)) false := by
    intro m
    induction m with
    | zero => rintro i hi ⟨j, h1, h2, _⟩; omega
    | succ m ih =>
      rintro i hi ⟨j, h1, h2, h3⟩
      by_cases hd : 48 ≤ bt s i ∧ bt s i ≤ 57
      · have hj : i ≠ j := fun e => h3 (e ▸ hd)
        refine Ev.step (fun k => ?_) (ih (i + 1) (by omega) ⟨j, by omega, h2, h3⟩)
        simp only [decimal_all.l0]
        rw [if_pos (by omega), if_pos (by omega), if_pos (by omega), if_neg (by omega), if_neg (by omega), w64 (by omega) (by omega)]
        rfl
      · refine Ev.some fun k => ?_
        simp only [decimal_all.l0]
        rw [if_pos (by omega), if_pos (by omega), if_pos (by omega)]
        by_cases h4 : bt s i < 48
        · rw [if_pos h4]
        · rw [if_neg h4, if_pos (by omega)]
  refine go _ 0 rfl ?_
  apply Classical.byContradiction
  intro hn
  exact h fun i hi => Classical.byContradiction fun hh => hn ⟨i, Nat.zero_le _, hi, hh⟩
theorem digits_yes (s : ByteArray) (hs : s.size ≤ 1000000) (h : AllD s) : Ev (fun k => idiomref02_Digits.f k s) true := by
  have go : ∀ (m i : Nat), s.size - i = m → Ev (fun k => idiomref02_Digits.l0 k s (i : Int)) true := by
    intro m
    induction m with
    | zero =>
      intro i hi
      refine Ev.some fun k => ?_
      simp only [idiomref02_Digits.l0]
      rw [if_neg (by omega)]
    | succ m ih =>
      intro i hi
      obtain ⟨a, b⟩ := h i (by omega)
      refine Ev.step (fun k => ?_) (ih (i + 1) (by omega))
      simp only [idiomref02_Digits.l0, idiomref02_Digit.f]
      rw [if_pos (by omega), if_pos (by omega), if_pos (by omega), w64 (by omega) (by omega)]
      simp [b]
  exact go _ 0 rfl
theorem digits_no (s : ByteArray) (hs : s.size ≤ 1000000) (h : ¬ AllD s) : Ev (fun k => idiomref02_Digits.f k s) false := by
  have go : ∀ (m i : Nat), s.size - i = m → (∃ j, i ≤ j ∧ j < s.size ∧ ¬ (48 ≤ bt s j ∧ bt s j ≤ 57)) → Ev (fun k => idiomref02_Digits.l0 k s (i : Int)) false := by
    intro m
    induction m with
    | zero => rintro i hi ⟨j, h1, h2, _⟩; omega
    | succ m ih =>
      rintro i hi ⟨j, h1, h2, h3⟩
      by_cases hd : 48 ≤ bt s i ∧ bt s i ≤ 57
      · have hj : i ≠ j := fun e => h3 (e ▸ hd)
        refine Ev.step (fun k => ?_) (ih (i + 1) (by omega) ⟨j, by omega, h2, h3⟩)
        simp only [idiomref02_Digits.l0, idiomref02_Digit.f]
        rw [if_pos (by omega), if_pos (by omega), if_pos (by omega), w64 (by omega) (by omega)]
        simp [hd.2]
      · refine Ev.some fun k => ?_
        simp only [idiomref02_Digits.l0, idiomref02_Digit.f]
        rw [if_pos (by omega), if_pos (by omega)]
        by_cases h4 : bt s i ≥ 48
        · rw [if_pos h4]
          have h5 : ¬ bt s i ≤ 57 := by omega
          simp [h5]
        · rw [if_neg h4]; simp
  refine go _ 0 rfl ?_
  apply Classical.byContradiction
  intro hn
  exact h fun i hi => Classical.byContradiction fun hh => hn ⟨i, Nat.zero_le _, hi, hh⟩
theorem noughts_of (l : List Nat) (hl : Dg l) (hs : l.length ≤ 1000000) : Ev (fun k => idiomref02_noughts.f k (ofD l)) (decide (val l = 0)) := by
  have go : ∀ (m i : Nat), l.length - i = m → Ev (fun k => idiomref02_noughts.l0 k (ofD l) (i : Int)) (decide (val (l.drop i) = 0)) := by
    intro m
    induction m with
    | zero =>
      intro i hi
      rw [List.drop_eq_nil_of_le (by omega)]
      refine Ev.some fun k => ?_
      simp only [idiomref02_noughts.l0]
      rw [if_neg (by rw [size_ofD]; omega)]
      simp [val]
    | succ m ih =>
      intro i hi
      have e := getD_drop l i (by omega)
      have hx := hl.get i
      generalize hxe : l.getD i 0 = x at *
      by_cases h0 : x = 0
      · have ez : (val (l.drop i) = 0) = (val (l.drop (i + 1)) = 0) := by rw [e, h0]; simp [val]
        simp only [ez]
        refine Ev.step (fun k => ?_) (ih (i + 1) (by omega))
        simp only [idiomref02_noughts.l0]
        rw [if_pos (by rw [size_ofD]; omega), if_pos (by omega), bt_ofD hl (by omega) (by omega), Int.toNat_natCast, hxe, h0, if_pos (by omega), w64 (by omega) (by omega)]
        rfl
      · have ez : ¬ val (l.drop i) = 0 := by
          rw [e, val_eq_zero]
          intro hh
          exact h0 (hh x (by simp))
        refine Ev.some fun k => ?_
        simp only [idiomref02_noughts.l0]
        rw [if_pos (by rw [size_ofD]; omega), if_pos (by omega), bt_ofD hl (by omega) (by omega), Int.toNat_natCast, hxe, if_neg (by omega)]
        simp [ez]
  exact go _ 0 rfl

/-! ### what a decimal must be -/
def Ok (neg : Bool) (I F : ByteArray) : Prop := ∃ li lf, Dg li ∧ Dg lf ∧ I = ofD li ∧ F = ofD lf ∧ Canon li ∧ li.length + lf.length ≤ 40 ∧ (neg = true → val li ≠ 0 ∨ val lf ≠ 0)
theorem trim_f (l : List Nat) (h : Dg l) (hs : l.length ≤ 1000000) : strings_Trim.f (ofD l) (⟨#[48]⟩ : ByteArray) = some (ofD (tt l)) := by
  unfold strings_Trim.f
  rw [if_pos ⟨rfl, by decide, by rw [size_ofD]; omega⟩]
  exact congrArg some (trim_ofD h)
theorem trimLeft_f (l : List Nat) (h : Dg l) (hs : l.length ≤ 1000000) : strings_TrimLeft.f (ofD l) (⟨#[48]⟩ : ByteArray) = some (ofD (tl l)) := by
  unfold strings_TrimLeft.f
  rw [if_pos ⟨rfl, by decide, by rw [size_ofD]; omega⟩]
  exact congrArg some (trimLeft_ofD h)
theorem repeat_f (n : Int) (h0 : 0 ≤ n) (h1 : n ≤ 1000000) : strings_Repeat.f (⟨#[48]⟩ : ByteArray) n = some (ofD (List.replicate n.toNat 0)) := by
  unfold strings_Repeat.f
  have e : (⟨#[48]⟩ : ByteArray).size = 1 := rfl
  rw [if_pos ⟨h0, by omega, by rw [e]; omega⟩]
  exact congrArg some (repeat_ofD _)
theorem toList_empty (s : ByteArray) : s.toList = [] ↔ s.size = 0 := by
  rw [ByteArray.toList_eq]
  obtain ⟨⟨l⟩⟩ := s
  simp [ByteArray.size]
theorem ok_sizes {neg : Bool} {I F : ByteArray} (h : Ok neg I F) : I.size ≠ 0 ∧ I.size + F.size ≤ 40 ∧ AllD I ∧ AllD F := by
  obtain ⟨li, lf, h1, h2, rfl, rfl, h3, h4, h5⟩ := h
  refine ⟨?_, by rw [size_ofD, size_ofD]; exact h4, allD_ofD h1, allD_ofD h2⟩
  rw [size_ofD]
  exact fun e => h3.1 (List.eq_nil_of_length_eq_zero e)
/-- Both checks say the same; where they say 'well', it is a decimal. -/
theorem check (neg : Bool) (I F : ByteArray) : ∃ c : Int, Ev (fun k => decimal_Check.f k neg I F) c ∧ Ev (fun k => idiomref02_Check.f k neg I F) c ∧ (c = 0 ∨ c = 20) ∧ (c = 0 ↔ Ok neg I F) := by
  have refBad : ∀ x : Bool, x = true → Ev (fun k => idiomref02_Check.j0 k x neg I F) 20 := fun x hx => Ev.some fun k => by simp only [idiomref02_Check.j0]; rw [if_pos hx]
  by_cases hI : I.size > 40
  · refine ⟨20, Ev.congr (fun k => ?_) (Ev.now _), Ev.congr (fun k => ?_) (refBad true rfl), .inr rfl, by simp; intro h; have := ok_sizes h; omega⟩
    · simp only [decimal_Check.f]; rw [if_pos (by omega)]
    · simp only [idiomref02_Check.f]; rw [if_neg (by omega), if_pos (by omega)]
  by_cases hF : F.size > 40 - I.size
  · refine ⟨20, Ev.congr (fun k => ?_) (Ev.now _), ?_, .inr rfl, by simp; intro h; have := ok_sizes h; omega⟩
    · simp only [decimal_Check.f]; rw [if_neg (by omega), w64 (by omega) (by omega), if_pos (by omega)]
    · by_cases h1 : I.size < 1
      · exact Ev.congr (fun k => by simp only [idiomref02_Check.f]; rw [if_pos (by omega)]) (refBad true rfl)
      · by_cases h2 : F.size > 40
        · exact Ev.congr (fun k => by simp only [idiomref02_Check.f]; rw [if_neg (by omega), if_neg (by omega), if_pos (by omega)]) (refBad true rfl)
        · exact Ev.congr (fun k => by simp only [idiomref02_Check.f]; rw [if_neg (by omega), if_neg (by omega), if_neg (by omega), w64 (by omega) (by omega)]) (refBad _ (by simp; omega))
  -- the program's form, then
  have prog : ∀ b : Bool, Ev (fun k => decimal_form.f k neg I F) b → Ev (fun k => decimal_Check.f k neg I F) (if b = true then 0 else 20) := fun b hb => by
    refine Ev.congr (g := fun k => decimal_Check.f k neg I F) (fun k => by simp only [decimal_Check.f]; rw [if_neg (by omega), w64 (by omega) (by omega), if_neg (by omega)]) ?_
    refine Ev.bind hb ?_
    cases b <;> exact Ev.now _
  have formBad : ∀ x : Bool, x = true → Ev (fun k => decimal_form.j0 k x neg I F) false := fun x hx => Ev.some fun k => by simp only [decimal_form.j0]; rw [if_pos hx]
  by_cases h0 : I.size = 0
  · refine ⟨20, prog false ?_, Ev.congr (fun k => ?_) (refBad true rfl), .inr rfl, by simp; intro h; have := ok_sizes h; omega⟩
    · exact Ev.congr (fun k => by simp only [decimal_form.f]; rw [if_pos ((toList_empty I).2 h0)]) (formBad true rfl)
    · simp only [idiomref02_Check.f]; rw [if_pos (by omega)]
  have hne : ¬ I.toList = [] := fun e => h0 ((toList_empty I).1 e)
  have ref : ∀ c : Int, Ev (fun k => idiomref02_Check.j0 k false neg I F) c → Ev (fun k => idiomref02_Check.f k neg I F) c := fun c hc => by
    refine Ev.congr (fun k => ?_) hc
    simp only [idiomref02_Check.f]
    rw [if_neg (by omega), if_neg (by omega), if_neg (by omega), w64 (by omega) (by omega), decide_eq_false (by omega)]
  by_cases dI : AllD I
  rotate_left
  · refine ⟨20, prog false ?_, ref 20 ?_, .inr rfl, by simp; intro h; exact dI (ok_sizes h).2.2.1⟩
    · refine Ev.congr (g := fun k => decimal_form.f k neg I F) (fun k => by simp only [decimal_form.f]; rw [if_neg hne]) ?_
      exact Ev.bind (all_no I (by omega) dI) (formBad true rfl)
    · refine Ev.step (g := fun k => idiomref02_Check.j0 k false neg I F) (fun k => by simp only [idiomref02_Check.j0]; rw [if_neg (by decide)]) ?_
      exact Ev.bind (digits_no I (by omega) dI) (Ev.now _)
  by_cases dF : AllD F
  rotate_left
  · refine ⟨20, prog false ?_, ref 20 ?_, .inr rfl, by simp; intro h; exact dF (ok_sizes h).2.2.2⟩
    · refine Ev.congr (g := fun k => decimal_form.f k neg I F) (fun k => by simp only [decimal_form.f]; rw [if_neg hne]) ?_
      exact Ev.bind (all_yes I (by omega) dI) (Ev.bind (all_no F (by omega) dF) (formBad true rfl))
    · refine Ev.step (g := fun k => idiomref02_Check.j0 k false neg I F) (fun k => by simp only [idiomref02_Check.j0]; rw [if_neg (by decide)]) ?_
      exact Ev.bind (digits_yes I (by omega) dI) (Ev.bind (digits_no F (by omega) dF) (Ev.now _))
  obtain ⟨li, di, rfl⟩ := of_bytes I dI
  obtain ⟨lf, df, rfl⟩ := of_bytes F dF
  rw [size_ofD] at hI hF h0
  rw [size_ofD] at hF
  have b0 : bt (ofD li) 0 = ((li.getD 0 0 + 48 : Nat) : Int) := bt_ofD di (by omega) (by omega)
  have form : ∀ (b x : Bool), x = decide (li.getD 0 0 = 0 ∧ 1 < li.length) → Ev (fun k => decimal_form.j0 k x neg (ofD li) (ofD lf)) b → Ev (fun k => decimal_form.f k neg (ofD li) (ofD lf)) b := fun b x hx hb => by
    refine Ev.congr (g := fun k => decimal_form.f k neg (ofD li) (ofD lf)) (fun k => by simp only [decimal_form.f]; rw [if_neg hne]) ?_
    refine Ev.bind (all_yes _ (by rw [size_ofD]; omega) dI) (Ev.bind (all_yes _ (by rw [size_ofD]; omega) dF) ?_)
    by_cases h1 : 1 < li.length
    · have e : ((bt (ofD li) 0) == 48) = x := by
        rw [b0, hx, Bool.eq_iff_iff]; simp [h1]; omega
      exact Ev.congr (fun k => by rw [if_pos rfl, if_pos (by rw [size_ofD]; omega), if_pos (by rw [size_ofD]; omega), e]) hb
    · have e : x = false := by rw [hx]; simp [h1]
      subst e
      exact Ev.congr (fun k => by rw [if_pos rfl, if_neg (by rw [size_ofD]; omega)]) hb
  have ref2 : ∀ c : Int, Ev (fun k => if 0 < ((ofD li).size : Int) then (if (bt (ofD li) 0) = 48 then (if ((ofD li).size : Int) > 1 then (some (20 : Int)) else (if neg = true then ((idiomref02_Nought.f k neg (ofD li) (ofD lf)).bind fun t147 => (if t147 = true then (some 20) else (some 0))) else (some 0))) else (if neg = true then ((idiomref02_Nought.f k neg (ofD li) (ofD lf)).bind fun t148 => (if t148 = true then (some 20) else (some 0))) else (some 0))) else (none)) c → Ev (fun k => idiomref02_Check.f k neg (ofD li) (ofD lf)) c := fun c hc => by
    refine ref c (Ev.step (g := fun k => idiomref02_Check.j0 k false neg (ofD li) (ofD lf)) (fun k => by simp only [idiomref02_Check.j0]; rw [if_neg (by decide)]) ?_)
    exact Ev.bind (digits_yes _ (by rw [size_ofD]; omega) dI) (Ev.bind (digits_yes _ (by rw [size_ofD]; omega) dF) hc)
  by_cases hz : li.getD 0 0 = 0 ∧ 1 < li.length
  · refine ⟨20, prog false (form false true (decide_eq_true hz).symm (formBad true rfl)), ref2 20 (Ev.congr (fun k => ?_) (Ev.now _)), .inr rfl, ?_⟩
    · rw [if_pos (by rw [size_ofD]; omega), b0, if_pos (by omega), if_pos (by rw [size_ofD]; omega)]
    · simp only [show ¬ (20 : Int) = 0 by omega, false_iff]
      rintro ⟨mi, mf, h1, h2, h3, h4, h5, h6, h7⟩
      have := ofD_inj di h1 h3
      subst this
      rcases h5.2 with h8 | h8
      · omega
      · exact h8 hz.1
  have cI : Canon li := ⟨fun e => h0 (by rw [e]; rfl), by
    by_cases h1 : li.length = 1
    · exact .inl h1
    · exact .inr fun e => hz ⟨e, by omega⟩⟩
  have okIff : Ok neg (ofD li) (ofD lf) ↔ (neg = true → val li ≠ 0 ∨ val lf ≠ 0) := by
    constructor
    · rintro ⟨mi, mf, h1, h2, h3, h4, h5, h6, h7⟩
      have e1 := ofD_inj di h1 h3
      have e2 := ofD_inj df h2 h4
      subst e1 e2
      exact h7
    · intro h
      exact ⟨li, lf, di, df, rfl, rfl, cI, by omega, h⟩
  have n1 := noughts_of li di (by omega)
  have n2 := noughts_of lf df (by omega)
  have tI := trim_f li di (by omega)
  have tF := trim_f lf df (by omega)
  have nought : Ev (fun k => idiomref02_Nought.f k neg (ofD li) (ofD lf)) (decide (val li = 0 ∧ val lf = 0)) := by
    refine Ev.bind n1 ?_
    by_cases h1 : val li = 0
    · refine Ev.congr (fun k => if_pos (by simp [h1])) ?_
      simp only [h1, true_and]
      exact Ev.bind n2 (Ev.now _)
    · refine Ev.congr (fun k => if_neg (by simp [h1])) ?_
      simp only [h1, false_and, decide_false]
      exact Ev.now _
  have fz : (decide (li.getD 0 0 = 0 ∧ 1 < li.length)) = false := decide_eq_false hz
  cases neg with
  | false =>
    refine ⟨0, ?_, ?_, .inl rfl, by simp [okIff]⟩
    · have := prog true (form true false fz.symm (Ev.some fun k => by simp only [decimal_form.j0]; rw [if_neg (by decide), if_neg (by decide)]))
      simpa using this
    · refine ref2 0 (Ev.congr (fun k => ?_) (Ev.now _))
      rw [if_pos (by rw [size_ofD]; omega)]
      by_cases h1 : bt (ofD li) 0 = 48
      · have : ¬ 1 < li.length := fun h => hz ⟨by omega, h⟩
        rw [if_pos h1, if_neg (by rw [size_ofD]; omega), if_neg (by decide)]
      · rw [if_neg h1, if_neg (by decide)]
  | true =>
    by_cases hv : val li = 0 ∧ val lf = 0
    · have e1 : (ofD (tt li)).toList = [] := toList_nil.2 (tt_nil.2 hv.1)
      have e2 : (ofD (tt lf)).toList = [] := toList_nil.2 (tt_nil.2 hv.2)
      refine ⟨20, ?_, ?_, .inr rfl, by simp [okIff, hv]⟩
      · have := prog false (form false false fz.symm (Ev.some fun k => by simp only [decimal_form.j0]; rw [if_neg (by decide), if_pos trivial, tI, Option.bind_some, if_pos e1, tF, Option.bind_some, e2]; rfl))
        simpa using this
      · refine ref2 20 ?_
        rw [show decide (val li = 0 ∧ val lf = 0) = true from decide_eq_true hv] at nought
        by_cases h1 : bt (ofD li) 0 = 48
        · have : ¬ 1 < li.length := fun h => hz ⟨by omega, h⟩
          exact Ev.congr (fun k => by rw [if_pos (by rw [size_ofD]; omega), if_pos h1, if_neg (by rw [size_ofD]; omega), if_pos rfl]) (Ev.bind nought (Ev.now _))
        · exact Ev.congr (fun k => by rw [if_pos (by rw [size_ofD]; omega), if_neg h1, if_pos rfl]) (Ev.bind nought (Ev.now _))
    · refine ⟨0, ?_, ?_, .inl rfl, by simp [okIff]; omega⟩
      · have hb : Ev (fun k => decimal_form.j0 k false true (ofD li) (ofD lf)) true := by
          refine Ev.some fun k => ?_
          simp only [decimal_form.j0]
          rw [if_neg (by decide), if_pos trivial, tI, Option.bind_some]
          by_cases h1 : val li = 0
          · have e1 : (ofD (tt li)).toList = [] := toList_nil.2 (tt_nil.2 h1)
            have e2 : (ofD (tt lf)).toList ≠ [] := fun e => hv ⟨h1, tt_nil.1 (toList_nil.1 e)⟩
            rw [if_pos e1, tF, Option.bind_some]
            simpa using e2
          · rw [if_neg (fun e => h1 (tt_nil.1 (toList_nil.1 e)))]
        have := prog true (form true false fz.symm hb)
        simpa using this
      · refine ref2 0 ?_
        rw [show decide (val li = 0 ∧ val lf = 0) = false from decide_eq_false hv] at nought
        by_cases h1 : bt (ofD li) 0 = 48
        · have : ¬ 1 < li.length := fun h => hz ⟨by omega, h⟩
          exact Ev.congr (fun k => by rw [if_pos (by rw [size_ofD]; omega), if_pos h1, if_neg (by rw [size_ofD]; omega), if_pos rfl]) (Ev.bind nought (Ev.now _))
        · exact Ev.congr (fun k => by rw [if_pos (by rw [size_ofD]; omega), if_neg h1, if_pos rfl]) (Ev.bind nought (Ev.now _))

/-! ### the program: digits cut off, one more, built -/
/-- How what is left lies: nothing, less than half, half, more. -/
def lies (r u : Nat) : Int := if r = 0 then 0 else if 2 * r < u then 1 else if 2 * r = u then 2 else 3
theorem tt_five (t : List Nat) (h : t.getD 0 0 = 5) (ht : t ≠ []) : tt t = [5] ↔ val t.tail = 0 := by
  cases t with
  | nil => exact absurd rfl ht
  | cons d u =>
    simp only [List.getD_cons_zero] at h
    subst h
    simp only [List.tail_cons, tt, List.reverse_cons]
    rw [val_eq_zero]
    constructor
    · intro e
      by_cases hz : u.reverse.dropWhile (· == 0) = []
      · intro d hd
        exact dropWhile_nil.1 hz d (by simpa using hd)
      · exfalso
        rw [List.dropWhile_append, if_neg (by simpa using hz)] at e
        simp only [List.reverse_append, List.reverse_cons, List.reverse_nil, List.nil_append, List.singleton_append, tl] at e
        rw [List.dropWhile_cons_of_neg (by decide)] at e
        simp at e
        exact hz (by simpa using e)
    · intro hz
      have e1 : u.reverse.dropWhile (· == 0) = [] := dropWhile_nil.2 (fun d hd => hz d (by simpa using hd))
      rw [List.dropWhile_append, if_pos (by simpa using e1)]
      simp [tl]
theorem cut_ev (s : List Nat) (m : Nat) (hs : Dg s) (ns : s.length ≤ 100000) (m0 : 0 < m) (hm : m ≤ s.length) :
    Ev (fun k => round_cut.f k (ofD s) (m : Int)) (ofD (s.take (s.length - m)), lies (val (s.drop (s.length - m))) (10 ^ m)) := by
  have w1 : wrap64 (((ofD s).size : Int) - m) = ((s.length - m : Nat) : Int) := by rw [size_ofD, w64 (by omega) (by omega)]; omega
  have hI : (ofD s).extract 0 (s.length - m) = ofD (s.take (s.length - m)) := by rw [ofD_extract]; simp
  have hF : (ofD s).extract (s.length - m) s.length = ofD (s.drop (s.length - m)) := by rw [ofD_extract, List.take_of_length_le (by simp)]
  have dt := hs.drop (s.length - m)
  have lt : (s.drop (s.length - m)).length = m := by rw [List.length_drop]; omega
  generalize hT : s.drop (s.length - m) = T at *
  have tf := trim_f T dt (by omega)
  have vt := val_lt dt
  rw [lt] at vt
  have b0 : bt (ofD T) 0 = ((T.getD 0 0 + 48 : Nat) : Int) := bt_ofD dt (by omega) (by omega)
  obtain ⟨t, u, rfl⟩ : ∃ t u, T = t :: u := by
    cases T with
    | nil => simp at lt; omega
    | cons t u => exact ⟨t, u, rfl⟩
  simp only [List.getD_cons_zero] at b0
  have lu : u.length + 1 = m := by simpa using lt
  have vu := val_lt dt.tail
  have pw : 10 ^ m = 10 * 10 ^ u.length := by rw [← lu, Nat.pow_succ, Nat.mul_comm]
  have hp : 0 < 10 ^ u.length := Nat.pow_pos (by omega)
  have vT : val (t :: u) = t * 10 ^ u.length + val u := rfl
  have t9 := dt.head
  have big : 5 ≤ t → 5 * 10 ^ u.length ≤ t * 10 ^ u.length := fun h => Nat.mul_le_mul_right _ h
  have small : t ≤ 4 → t * 10 ^ u.length ≤ 4 * 10 ^ u.length := fun h => Nat.mul_le_mul_right _ h
  have six : 6 ≤ t → 6 * 10 ^ u.length ≤ t * 10 ^ u.length := fun h => Nat.mul_le_mul_right _ h
  have hsz : 0 < ((ofD (t :: u)).size : Int) := by rw [size_ofD, List.length_cons]; omega
  refine Ev.congr (g := fun k => round_cut.f k (ofD s) (m : Int)) (fun k => by simp only [round_cut.f]; rw [if_neg (by rw [size_ofD]; omega)]) ?_
  have e5 : ([53] : List UInt8) = (ofD [5]).toList := by rw [toList_ofD]; rfl
  have go : ∀ x : Int, (∀ k, (if (ofD (tt (t :: u))).toList = [] then some (ofD (s.take (s.length - m)), (0 : Int)) else if 0 < ((ofD (t :: u)).size : Int) then (if bt (ofD (t :: u)) 0 = 53 then round_cut.j1 (k + 1) (ofD (s.take (s.length - m))) (ofD (t :: u)) ((ofD (tt (t :: u))).toList == [53]) else round_cut.j1 (k + 1) (ofD (s.take (s.length - m))) (ofD (t :: u)) false) else none) = some (ofD (s.take (s.length - m)), x)) → Ev (fun k => round_cut.j0 k (ofD s) (m : Int)) (ofD (s.take (s.length - m)), x) := by
    intro x hx
    refine Ev.step (f := fun k => _) (fun k => by simp only [round_cut.j0]; rw [w1, if_pos (by omega), if_pos (by rw [size_ofD]; omega), Int.toNat_natCast, size_ofD, hF, hI, tf, Option.bind_some]) ?_
    exact Ev.some fun k => hx k
  by_cases hz : val (t :: u) = 0
  · rw [show lies (val (t :: u)) (10 ^ m) = 0 by simp [lies, hz]]
    exact go 0 fun k => if_pos (toList_nil.2 (tt_nil.2 hz))
  have hz2 : ¬ (ofD (tt (t :: u))).toList = [] := fun e => hz (tt_nil.1 (toList_nil.1 e))
  by_cases h5 : t = 5
  · subst h5
    have e53 : bt (ofD (5 :: u)) 0 = 53 := by rw [b0]; rfl
    by_cases hu : val u = 0
    · have : lies (val (5 :: u)) (10 ^ m) = 2 := by unfold lies; rw [if_neg hz, if_neg (by omega), if_pos (by omega)]
      rw [this]
      have et : tt (5 :: u) = [5] := (tt_five (5 :: u) rfl (by simp)).2 hu
      exact go 2 fun k => by rw [if_neg hz2, if_pos hsz, if_pos e53, et, ← e5]; simp [round_cut.j1]
    · have : lies (val (5 :: u)) (10 ^ m) = 3 := by unfold lies; rw [if_neg hz, if_neg (by omega), if_neg (by omega)]
      rw [this]
      have et : tt (5 :: u) ≠ [5] := fun e => hu ((tt_five (5 :: u) rfl (by simp)).1 e)
      have ef : ((ofD (tt (5 :: u))).toList == [53]) = false := by
        rw [e5, beq_eq_false_iff_ne, Ne, toList_inj dt.tt (Dg.cons (by omega) Dg.nil)]; exact et
      exact go 3 fun k => by rw [if_neg hz2, if_pos hsz, if_pos e53, ef]; simp only [round_cut.j1]; rw [if_neg (by decide), if_pos hsz, if_pos (by omega)]
  · have n53 : ¬ bt (ofD (t :: u)) 0 = 53 := by omega
    by_cases h6 : 6 ≤ t
    · have : lies (val (t :: u)) (10 ^ m) = 3 := by have := six h6; unfold lies; rw [if_neg hz, if_neg (by omega), if_neg (by omega)]
      rw [this]
      exact go 3 fun k => by rw [if_neg hz2, if_pos hsz, if_neg n53]; simp only [round_cut.j1]; rw [if_neg (by decide), if_pos hsz, if_pos (by omega)]
    · have : lies (val (t :: u)) (10 ^ m) = 1 := by have := small (by omega); unfold lies; rw [if_neg hz, if_pos (by omega)]
      rw [this]
      exact go 1 fun k => by rw [if_neg hz2, if_pos hsz, if_neg n53]; simp only [round_cut.j1]; rw [if_neg (by decide), if_pos hsz, if_neg (by omega)]

theorem nums8_ofD {l : List Nat} (h : Dg l) : Aid.nums8 (ofD l) = dnums l := by
  unfold Aid.nums8 dnums
  rw [data_ofD, List.map_map]
  apply List.map_congr_left
  intro d hd
  simp only [Function.comp]
  rw [ofNat48 (h d hd)]
theorem inc_nums : ∀ (g : List Nat), Dg g → ∃ g', Dg g' ∧ RoundOne.inc (dnums g) = dnums g' ∧ val g'.reverse = val g.reverse + 1 ∧ g'.length ≤ g.length + 1 ∧ g.length ≤ g'.length
  | [], _ => ⟨[1], Dg.cons (by omega) Dg.nil, rfl, rfl, by simp, by simp⟩
  | d :: t, h => by
    by_cases h9 : d = 9
    · subst h9
      obtain ⟨t', a, b, c, e, f⟩ := inc_nums t h.tail
      refine ⟨0 :: t', Dg.cons (by omega) a, ?_, ?_, by simp; omega, by simp; omega⟩
      · have : dnums (9 :: t) = 57 :: dnums t := rfl
        rw [this]
        simp only [RoundOne.inc, if_true, b]
        rfl
      · rw [List.reverse_cons, List.reverse_cons, val_snoc, val_snoc, c]; omega
    · refine ⟨(d + 1) :: t, Dg.cons (by have := h.head; omega) h.tail, ?_, ?_, by simp, by simp⟩
      · have : dnums (d :: t) = ((d + 48 : Nat) : Int) :: dnums t := rfl
        rw [this]
        simp only [RoundOne.inc]
        rw [if_neg (by omega)]
        have := h.head
        show _ :: dnums t = ((d + 1 + 48 : Nat) : Int) :: dnums t
        congr 1
        omega
      · rw [List.reverse_cons, List.reverse_cons, val_snoc, val_snoc]; omega
theorem one_f (h : List Nat) (hd : Dg h) (hn : h.length ≤ 1000000) : ∃ h', Dg h' ∧ val h' = val h + 1 ∧ h'.length ≤ h.length + 1 ∧ h.length ≤ h'.length ∧ round_one.f (ofD h) = some (ofD h') := by
  obtain ⟨g', a, b, c, e, f⟩ := inc_nums h.reverse hd.reverse
  refine ⟨g'.reverse, a.reverse, by simpa using c, by simpa using e, by simpa using f, ?_⟩
  unfold round_one.f RoundOne.f
  rw [if_pos (by rw [size_ofD]; omega), nums8_ofD hd]
  have : (dnums h).reverse = dnums h.reverse := by simp [dnums]
  rw [this, b]
  have e2 : (dnums g').reverse = dnums g'.reverse := by simp [dnums]
  rw [e2]
  exact congrArg some (strOfNums_ofD _)

theorem away_f (mode : Int) (neg : Bool) (q r u : Nat) (h1 : 1 ≤ mode) (h8 : mode ≤ 8) : round_away.f mode neg (lies r u) (q % 2 == 1) = some (upw mode neg q r u) := by
  unfold round_away.f upw lies
  by_cases h0 : r = 0
  · simp [h0]
  rw [if_neg h0, if_neg h0]
  have c0 : ¬ (if 2 * r < u then (1 : Int) else if 2 * r = u then 2 else 3) = 0 := by split <;> (try split) <;> omega
  have c1 : ((if 2 * r < u then (1 : Int) else if 2 * r = u then 2 else 3) ≥ 2) ↔ u ≤ 2 * r := by split <;> (try split) <;> omega
  have c2 : ((if 2 * r < u then (1 : Int) else if 2 * r = u then 2 else 3) = 3) ↔ u < 2 * r := by split <;> (try split) <;> omega
  have c3 : ((if 2 * r < u then (1 : Int) else if 2 * r = u then 2 else 3) = 2) ↔ u = 2 * r := by split <;> (try split) <;> omega
  generalize (if 2 * r < u then (1 : Int) else if 2 * r = u then 2 else 3) = c at *
  rw [if_neg c0]
  by_cases m1 : mode = 1
  · rw [if_pos m1, if_pos m1]
  rw [if_neg m1, if_neg m1]
  by_cases m2 : mode = 2
  · subst m2
    rw [if_pos rfl, if_neg (by omega), if_neg (by omega), if_neg (by omega), if_neg (by omega), if_neg (by omega), if_neg (by omega)]
  rw [if_neg m2]
  by_cases m3 : mode = 3
  · rw [if_pos m3, if_pos m3]
  rw [if_neg m3, if_neg m3]
  by_cases m4 : mode = 4
  · rw [if_pos m4, if_pos m4]
  rw [if_neg m4, if_neg m4]
  by_cases m5 : mode = 5
  · rw [if_pos m5, if_pos m5, decide_eq_decide.2 c1]
  rw [if_neg m5, if_neg m5]
  by_cases m6 : mode = 6
  · rw [if_pos m6, if_pos m6]
    have : (c == 3) = decide (u < 2 * r) := by rw [Bool.eq_iff_iff]; simp [c2]
    rw [this]
  rw [if_neg m6, if_neg m6]
  by_cases m7 : mode = 7
  · rw [if_pos m7, if_pos m7]
    by_cases a : u < 2 * r
    · rw [if_pos (c2.2 a)]; simp [a]
    · rw [if_neg (fun h => a (c2.1 h))]
      by_cases b : u = 2 * r
      · rw [if_pos (c3.2 b)]; simp [b]
      · rw [if_neg (fun h => b (c3.1 h))]; simp [a, b]
  rw [if_neg m7, if_neg m7, if_pos (by omega)]

theorem val_parts {h : List Nat} (hd : Dg h) (p : Nat) : val (iOf p h ++ fOf p h) = val h := by
  rw [val_append, fOf_length, val_iOf hd, val_fOf hd]
  have := Nat.div_add_mod (val h) (10 ^ p)
  rw [Nat.mul_comm] at this
  exact this
/-- What 'build' tells. -/
def built (neg : Bool) (h : List Nat) (p : Nat) : Bool × ByteArray × ByteArray × Int :=
  if (iOf p h).length + p > 40 then (false, ⟨#[]⟩, ⟨#[]⟩, 3) else (neg && decide (val h ≠ 0), ofD (iOf p h), ofD (fOf p h), 0)
theorem build_ev (neg : Bool) (h : List Nat) (p : Nat) (hd : Dg h) (hn : h.length ≤ 10000) (hp : p ≤ 10000) : Ev (fun k => round_build.f k neg (ofD h) (p : Int)) (built neg h p) := by
  have lp := pad_length p h
  have dp := dg_pad hd p
  have eI : iOf p h = lead ((pad p h).take ((pad p h).length - p)) := rfl
  have eF : fOf p h = (pad p h).drop ((pad p h).length - p) := rfl
  have dI := dg_iOf hd p
  have dF := dg_fOf hd p
  have lF := fOf_length p h
  have lI := lead_length ((pad p h).take ((pad p h).length - p))
  rw [← eI, List.length_take] at lI
  -- behind the padding
  have main : Ev (fun k => round_build.j0 k neg (ofD (pad p h)) (p : Int)) (built neg h p) := by
    have w1 : wrap64 (((ofD (pad p h)).size : Int) - p) = (((pad p h).length - p : Nat) : Int) := by rw [size_ofD, w64 (by omega) (by omega)]; omega
    have hI : (ofD (pad p h)).extract 0 ((pad p h).length - p) = ofD ((pad p h).take ((pad p h).length - p)) := by rw [ofD_extract]; simp
    have hF : (ofD (pad p h)).extract ((pad p h).length - p) (pad p h).length = ofD (fOf p h) := by rw [ofD_extract, List.take_of_length_le (by simp), eF]
    have j1 : Ev (fun k => round_build.j1 k (p : Int) neg (ofD (iOf p h)) (ofD (fOf p h))) (built neg h p) := by
      refine Ev.some fun k => ?_
      have w2 : wrap64 (((ofD (iOf p h)).size : Int) + p) = (((iOf p h).length + p : Nat) : Int) := by rw [size_ofD, w64 (by omega) (by omega)]; omega
      simp only [round_build.j1]
      rw [if_pos (by rw [size_ofD, size_ofD]; omega), ofD_append, trim_f _ (dI.append dF) (by rw [List.length_append]; omega), Option.bind_some, w2]
      unfold built
      by_cases hz : val h = 0
      · rw [if_pos (toList_nil.2 (tt_nil.2 (by rw [val_parts hd]; exact hz)))]
        by_cases h40 : (iOf p h).length + p > 40
        · rw [if_pos (by omega), if_pos h40]
        · rw [if_neg (by omega), if_neg h40]; simp [hz]
      · rw [if_neg (fun e => hz (by rw [← val_parts hd p]; exact tt_nil.1 (toList_nil.1 e)))]
        by_cases h40 : (iOf p h).length + p > 40
        · rw [if_pos (by omega), if_pos h40]
        · rw [if_neg (by omega), if_neg h40]; simp [hz]
    refine Ev.step (fun k => ?_) j1
    simp only [round_build.j0]
    rw [w1, if_pos (by omega), if_pos (by rw [size_ofD]; omega), Int.toNat_natCast, size_ofD, hI, hF, trimLeft_f _ (dp.take _) (by rw [List.length_take]; omega), Option.bind_some]
    rw [lead_of_tl] at eI
    by_cases hz : tl ((pad p h).take ((pad p h).length - p)) = []
    · rw [if_pos (toList_nil.2 hz)]
      rw [if_pos hz] at eI
      rw [eI]
      rfl
    · rw [if_neg (fun e => hz (toList_nil.1 e))]
      rw [if_neg hz] at eI
      rw [eI]
  by_cases hle : h.length ≤ p
  · have w3 : wrap64 (wrap64 ((p : Int) + 1) - ((ofD h).size : Int)) = ((p + 1 - h.length : Nat) : Int) := by
      rw [size_ofD, w64 (x := (p : Int) + 1) (by omega) (by omega), w64 (by omega) (by omega)]; omega
    refine Ev.congr (fun k => ?_) main
    simp only [round_build.f]
    rw [if_pos (by rw [size_ofD]; omega), w3, repeat_f _ (by omega) (by omega), Option.bind_some, Int.toNat_natCast, if_pos (by rw [size_ofD, size_ofD, List.length_replicate]; omega), ofD_append]
    rfl
  · refine Ev.congr (fun k => ?_) main
    simp only [round_build.f]
    rw [if_neg (by rw [size_ofD]; omega), pad_of_lt (by omega)]

/-! ### shorten -/
theorem shorten_ev (neg : Bool) (li lf : List Nat) (mode : Int) (m : Nat) (di : Dg li) (df : Dg lf) (hn : li.length + lf.length ≤ 40) (h1 : 1 ≤ mode) (h8 : mode ≤ 8) (m0 : 0 < m) (hm : m < li.length + lf.length) :
    ∃ h, Dg h ∧ h.length ≤ 41 ∧ val h = val (li ++ lf) / 10 ^ m + (if (upw mode neg (val (li ++ lf) / 10 ^ m) (val (li ++ lf) % 10 ^ m) (10 ^ m)).1 = true then 1 else 0) ∧
      Ev (fun k => round_shorten.f k neg (ofD li) (ofD lf) mode (m : Int)) (if (upw mode neg (val (li ++ lf) / 10 ^ m) (val (li ++ lf) % 10 ^ m) (10 ^ m)).2 = 0 then
        (if m > lf.length then built neg (h ++ List.replicate (m - lf.length) 0) 0 else built neg h (lf.length - m)) else (false, ⟨#[]⟩, ⟨#[]⟩, (upw mode neg (val (li ++ lf) / 10 ^ m) (val (li ++ lf) % 10 ^ m) (10 ^ m)).2)) := by
  have hs := di.append df
  have ls : (li ++ lf).length = li.length + lf.length := List.length_append
  have cv := cut_ev (li ++ lf) m hs (by omega) m0 (by omega)
  have vq := val_take hs ((li ++ lf).length - m)
  have vr := val_drop hs ((li ++ lf).length - m)
  have e1 : (li ++ lf).length - ((li ++ lf).length - m) = m := by omega
  rw [e1] at vq vr
  have lh : ((li ++ lf).take ((li ++ lf).length - m)).length = (li ++ lf).length - m := by rw [List.length_take]; omega
  have dh := hs.take ((li ++ lf).length - m)
  rw [vr] at cv
  rw [← vq]
  generalize val (li ++ lf) % 10 ^ m = r at *
  generalize hH : (li ++ lf).take ((li ++ lf).length - m) = H at *
  have hne : H ≠ [] := fun e => by rw [e] at lh; simp at lh; omega
  have aw := away_f mode neg (val H) r (10 ^ m) h1 h8
  generalize upw mode neg (val H) r (10 ^ m) = U at *
  obtain ⟨g, dg, vg, lg⟩ : ∃ g, Dg g ∧ (val g = val H + (if U.1 = true then 1 else 0) ∧ (if U.1 = true then round_one.f (ofD H) = some (ofD g) else g = H)) ∧ g.length ≤ 41 := by
    by_cases hU : U.1 = true
    · obtain ⟨g, a, b, c, d, e⟩ := one_f H dh (by omega)
      exact ⟨g, a, ⟨by rw [if_pos hU]; exact b, by rw [if_pos hU]; exact e⟩, by omega⟩
    · exact ⟨H, dh, ⟨by rw [if_neg hU]; rfl, by rw [if_neg hU]⟩, by omega⟩
  refine ⟨g, dg, lg, vg.1, ?_⟩
  have j1 : Ev (fun k => round_shorten.j1 k (m : Int) (ofD g) neg (ofD li) (ofD lf)) (if m > lf.length then built neg (g ++ List.replicate (m - lf.length) 0) 0 else built neg g (lf.length - m)) := by
    by_cases hm2 : m > lf.length
    · rw [if_pos hm2]
      have w : wrap64 ((m : Int) - ((ofD lf).size : Int)) = ((m - lf.length : Nat) : Int) := by rw [size_ofD, w64 (by omega) (by omega)]; omega
      have bv := build_ev neg (g ++ List.replicate (m - lf.length) 0) 0 (dg.append (Dg.zeros _)) (by rw [List.length_append, List.length_replicate]; omega) (by omega)
      refine Ev.step (f := fun k => (round_build.f k neg (ofD (g ++ List.replicate (m - lf.length) 0)) 0).bind fun bt => some (bt.1, bt.2.1, bt.2.2.1, bt.2.2.2)) (fun k => ?_) (Ev.bind bv (Ev.now _))
      simp only [round_shorten.j1]
      rw [if_pos (by rw [size_ofD]; omega), w, repeat_f _ (by omega) (by omega), Option.bind_some, Int.toNat_natCast, if_pos (by rw [size_ofD, size_ofD, List.length_replicate]; omega), ofD_append]
    · rw [if_neg hm2]
      have w : wrap64 (((ofD lf).size : Int) - (m : Int)) = ((lf.length - m : Nat) : Int) := by rw [size_ofD, w64 (by omega) (by omega)]; omega
      have bv := build_ev neg g (lf.length - m) dg (by omega) (by omega)
      refine Ev.step (f := fun k => (round_build.f k neg (ofD g) ((lf.length - m : Nat) : Int)).bind fun bt => some (bt.1, bt.2.1, bt.2.2.1, bt.2.2.2)) (fun k => ?_) (Ev.bind bv (Ev.now _))
      simp only [round_shorten.j1]
      rw [if_neg (by rw [size_ofD]; omega), w]
  have lH : 0 < H.length := by cases H with
    | nil => exact absurd rfl hne
    | cons a b => simp
  have wl : wrap64 (((ofD H).size : Int) - 1) = ((H.length - 1 : Nat) : Int) := by rw [size_ofD, w64 (by omega) (by omega)]; omega
  have odd : (((((bt (ofD H) ((H.length - 1 : Nat) : Int)) - 48) % 256) % 2) == 1) = (val H % 2 == 1) := by
    have a := dh.get (H.length - 1)
    have b := val_odd H hne
    rw [bt_ofD dh (by omega) (by omega), Int.toNat_natCast, digit_of _ a, Bool.eq_iff_iff]
    simp only [beq_iff_eq]
    omega
  refine Ev.congr (g := fun k => round_shorten.f k neg (ofD li) (ofD lf) mode (m : Int)) (fun k => by simp only [round_shorten.f]; rw [if_pos (by rw [size_ofD, size_ofD]; omega), ofD_append]) ?_
  refine Ev.bind cv ?_
  refine Ev.congr (fun k => by rw [if_neg (fun e => hne (toList_nil.1 e)), wl, if_pos (by omega), if_pos (by rw [size_ofD]; omega), odd]) ?_
  refine Ev.step (g := fun k => round_shorten.j0 k mode (m : Int) (ofD H) (lies r (10 ^ m)) (val H % 2 == 1) neg (ofD li) (ofD lf)) (fun k => by simp only [round_shorten.j0]; rw [aw, Option.bind_some]) ?_
  by_cases hE : U.2 = 0
  · rw [if_pos hE]
    refine Ev.congr (fun k => if_pos hE) ?_
    by_cases hU : U.1 = true
    · have vg2 := vg.2
      rw [if_pos hU] at vg2
      refine Ev.congr (fun k => by rw [if_pos hU, vg2, Option.bind_some]) j1
    · have vg2 := vg.2
      rw [if_neg hU] at vg2
      subst vg2
      exact Ev.congr (fun k => if_neg hU) j1
  · rw [if_neg hE]
    exact Ev.congr (fun k => if_neg hE) (Ev.now _)
end Go.Proofs.YtpmhebdaphjinaaDoor.RoundProg
