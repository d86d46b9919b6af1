/- What layer 3's reference reckons with texts of digits: its sums, differences, quotients are those of numbers. -/
import Derived.Test.YtpmhebdaphjinaaDoorDig
import Derived.Test.YtpmhebdaphjinaaDoorF11
import Derived.Test.YtpmhebdaphjinaaDoorF12
import Derived.Test.YtpmhebdaphjinaaDoorF13
import Derived.Test.YtpmhebdaphjinaaDoorF14
import Derived.Test.YtpmhebdaphjinaaDoorF15
import Derived.Test.YtpmhebdaphjinaaDoorF16
set_option linter.unusedVariables false
set_option linter.unusedSimpArgs false
namespace Go.Proofs.YtpmhebdaphjinaaDoor.RoundRef
open Go.RowKit Go.Proofs.YtpmhebdaphjinaaDoorW.PrintWords Go.Proofs.YtpmhebdaphjinaaDoorW.PrintLast Go.Proofs.YtpmhebdaphjinaaDoor.F Go.Proofs.YtpmhebdaphjinaaDoor.Dig

theorem Ev.some {α : Type} {g : Nat → Option α} {r : α} (h : ∀ k, g (k + 1) = some r) : Ev g r := Ev.step (f := fun _ => Option.some r) h (Ev.now r)
theorem Ev.let {α β : Type} {g : Nat → Option α} {f : Nat → α → Option β} {G : Nat → Option β} {a : α} {r : β} (h : Ev g a) (k : Ev (fun n => f n a) r) (e : ∀ n, G n = (g n).bind (f n)) : Ev G r := Ev.congr e (Ev.bind h k)

theorem lead_ev (l : List Nat) (hl : Dg l) (hn : l.length ≤ 1000000) : Ev (fun k => idiomref03_Lead.f k (ofD l)) (ofD (lead l)) := by
  show Ev (fun k => idiomref03_Lead.l0 k (ofD l)) _
  fun_induction lead l with
  | case1 =>
    refine Ev.some fun k => ?_
    simp only [idiomref03_Lead.l0]
    rw [if_neg (by rw [size_ofD]; simp), if_pos (by rw [toList_ofD]; rfl)]
    rfl
  | case2 d =>
    refine Ev.some fun k => ?_
    simp only [idiomref03_Lead.l0]
    rw [if_neg (by rw [size_ofD]; simp), if_neg (by rw [toList_ofD]; simp)]
  | case3 e t ih =>
    refine Ev.step (fun k => ?_) (ih hl.tail (by simp at hn ⊢; omega))
    simp only [idiomref03_Lead.l0]
    rw [if_pos (by rw [size_ofD]; simp; omega), if_pos (by rw [size_ofD]; simp; omega), bt_ofD hl (by omega) (by simp; omega), if_pos (by simp), if_pos (by rw [size_ofD]; simp; omega), ofD_extract, size_ofD]
    simp
  | case4 d e t h =>
    refine Ev.some fun k => ?_
    simp only [idiomref03_Lead.l0]
    rw [if_pos (by rw [size_ofD]; simp; omega), if_pos (by rw [size_ofD]; simp; omega), bt_ofD hl (by omega) (by simp; omega), if_neg (by simp; omega), if_neg (by rw [toList_ofD]; simp)]

theorem noughts_ev (n : Int) (hn : n ≤ 1000000) : Ev (fun k => idiomref03_Noughts.f k n) (ofD (List.replicate n.toNat 0)) := by
  have aux : ∀ (m i : Nat), (n.toNat - i = m) → i ≤ n.toNat → Ev (fun k => idiomref03_Noughts.l0 k n (List.replicate i 48) i) (ofD (List.replicate n.toNat 0)) := by
    intro m
    induction m with
    | zero =>
      intro i h1 h2
      refine Ev.some fun k => ?_
      simp only [idiomref03_Noughts.l0]
      rw [if_neg (by omega)]
      have : i = n.toNat := by omega
      rw [this, ← strOfNums_ofD]
      simp
    | succ m ih =>
      intro i h1 h2
      refine Ev.step (fun k => ?_) (ih (i + 1) (by omega) (by omega))
      simp only [idiomref03_Noughts.l0]
      rw [if_pos (by omega), if_pos (by simp; omega)]
      congr 1
      · rw [List.replicate_succ']
      · unfold wrap64; omega
  have := aux n.toNat 0 (by omega) (by omega)
  simpa [idiomref03_Noughts.f] using this

theorem cmp_ev (a b : List Nat) (ha : Dg a) (hb : Dg b) (na : a.length ≤ 1000000) (nb : b.length ≤ 1000000) :
    Ev (fun k => idiomref03_cmp.f k (ofD a) (ofD b)) (if val a < val b then -1 else if val a = val b then 0 else 1) := by
  have la := canon_lead a
  have lb := canon_lead b
  have da := ha.lead
  have db := hb.lead
  have va := val_lead a
  have vb := val_lead b
  refine Ev.let (lead_ev a ha na) (Ev.let (lead_ev b hb nb) ?_ (fun n => rfl)) (fun n => rfl)
  simp only [size_ofD]
  have same : ∀ x, (lead a).length = (lead b).length → x = decide (val (lead a) < val (lead b)) → Ev (fun k => idiomref03_cmp.j0 k (ofD (lead a)) (ofD (lead b)) x) (if val a < val b then -1 else if val a = val b then 0 else 1) := by
    intro x hx e
    refine Ev.some fun k => ?_
    simp only [idiomref03_cmp.j0]
    subst e
    rw [va, vb]
    by_cases h1 : val a < val b
    · simp [h1]
    · simp only [h1, decide_false, if_false, Bool.false_eq_true]
      by_cases h2 : val a = val b
      · have e := canon_unique da db la lb (by omega)
        rw [e]; simp [h2]
      · have : lead a ≠ lead b := fun e => h2 (by rw [← va, ← vb, e])
        simp only [toList_inj da db, this, h2, if_false]
  by_cases h : (lead a).length = (lead b).length
  · have e := bytesLess_ofD da db h
    simpa [h, e] using same _ h rfl
  · by_cases h2 : (lead a).length < (lead b).length
    · have hv : val a < val b := by
        rcases Nat.lt_or_ge (val a) (val b) with h3 | h3
        · exact h3
        · exact absurd (canon_length_le da lb (by omega) la.1) (by omega)
      have e1 : ¬ ((lead a).length : Int) = (lead b).length := by omega
      have e2 : ((lead a).length : Int) < (lead b).length := by omega
      simp only [e1, e2, if_false, if_true]
      refine Ev.some fun k => ?_
      simp [idiomref03_cmp.j0, hv]
    · have hv : val b < val a := by
        rcases Nat.lt_or_ge (val b) (val a) with h3 | h3
        · exact h3
        · exact absurd (canon_length_le db la (by omega) lb.1) (by omega)
      have e1 : ¬ ((lead a).length : Int) = (lead b).length := by omega
      have e2 : ¬ ((lead a).length : Int) < (lead b).length := by omega
      simp only [e1, e2, if_false]
      refine Ev.some fun k => ?_
      have e3 : lead a ≠ lead b := fun e => h (by rw [e])
      have e4 : ¬ val a < val b := by omega
      have e5 : ¬ val a = val b := by omega
      simp only [idiomref03_cmp.j0, toList_inj da db, e3, e4, e5, if_false, Bool.false_eq_true]

theorem w64 {x : Int} (h0 : -9223372036854775808 ≤ x) (h1 : x ≤ 9223372036854775807) : wrap64 x = x := by unfold wrap64; omega
theorem digit_of (x : Nat) (h : x ≤ 9) : (((x + 48 : Nat) : Int) - 48) % 256 = x := by omega
theorem add_digit {x y o : Nat} (hx : x ≤ 9) (hy : y ≤ 9) (ho : o ≤ 1) :
    (wrap64 (48 + Int.tmod (wrap64 (((((x + 48 : Nat) : Int) - 48) % 256 + (((y + 48 : Nat) : Int) - 48) % 256) + o)) 10)) % 256 = (((x + y + o) % 10 + 48 : Nat) : Int) := by
  rw [digit_of x hx, digit_of y hy, w64 (x := (x : Int) + y + o) (by omega) (by omega), Int.tmod_eq_emod_of_nonneg (by omega), w64 (by omega) (by omega)]
  omega
theorem add_over {x y o : Nat} (hx : x ≤ 9) (hy : y ≤ 9) (ho : o ≤ 1) :
    wrap64 (Int.tdiv (wrap64 (((((x + 48 : Nat) : Int) - 48) % 256 + (((y + 48 : Nat) : Int) - 48) % 256) + o)) 10) = (((x + y + o) / 10 : Nat) : Int) := by
  rw [digit_of x hx, digit_of y hy, w64 (x := (x : Int) + y + o) (by omega) (by omega), Int.tdiv_eq_ediv_of_nonneg (by omega), w64 (by omega) (by omega)]
  omega
theorem sub_diff {x y o : Nat} (hx : x ≤ 9) (hy : y ≤ 9) (ho : o ≤ 1) :
    wrap64 (wrap64 (wrap64 ((x + 48 : Nat) : Int) - wrap64 ((y + 48 : Nat) : Int)) - (o : Int)) = (x : Int) - y - o := by
  rw [w64 (x := ((x + 48 : Nat) : Int)) (by omega) (by omega), w64 (x := ((y + 48 : Nat) : Int)) (by omega) (by omega), w64 (x := ((x + 48 : Nat) : Int) - ((y + 48 : Nat) : Int)) (by omega) (by omega), w64 (by omega) (by omega)]
  omega
theorem sub_neg {x y o : Nat} (hx : x ≤ 9) (hy : y ≤ 9) (ho : o ≤ 1) (h : x < y + o) :
    (wrap64 (48 + wrap64 (wrap64 (wrap64 (wrap64 ((x + 48 : Nat) : Int) - wrap64 ((y + 48 : Nat) : Int)) - (o : Int)) + 10))) % 256 = ((x + 10 - y - o + 48 : Nat) : Int) := by
  rw [sub_diff hx hy ho, w64 (x := (x : Int) - y - o + 10) (by omega) (by omega), w64 (by omega) (by omega)]
  omega
theorem sub_pos {x y o : Nat} (hx : x ≤ 9) (hy : y ≤ 9) (ho : o ≤ 1) (h : ¬ x < y + o) :
    (wrap64 (48 + wrap64 (wrap64 (wrap64 ((x + 48 : Nat) : Int) - wrap64 ((y + 48 : Nat) : Int)) - (o : Int)))) % 256 = ((x - y - o + 48 : Nat) : Int) := by
  rw [sub_diff hx hy ho, w64 (by omega) (by omega)]
  omega

/-! ### the sum -/
def dnums (l : List Nat) : List Int := l.map fun d => ((d + 48 : Nat) : Int)
theorem set_mid (j : Nat) (X : List Int) (v : Int) : (List.replicate (j + 1) (0 : Int) ++ X).set j v = List.replicate j 0 ++ v :: X := by
  rw [List.replicate_succ', List.append_assoc, List.set_append]
  simp
theorem getD_drop (l : List Nat) (j : Nat) (h : j < l.length) : l.drop j = l.getD j 0 :: l.drop (j + 1) := by
  rw [List.drop_eq_getElem_cons h, List.getD_eq_getElem?_getD, List.getElem?_eq_getElem h, Option.getD_some]

theorem add_loop (a b : List Nat) (ha : Dg a) (hb : Dg b) (hab : a.length = b.length) (na : a.length ≤ 1000000) :
    ∀ (j : Nat) (c : List Nat) (o : Nat), j ≤ a.length → Dg c → c.length = a.length - j → o ≤ 1 → val (a.drop j) + val (b.drop j) = o * 10 ^ c.length + val c →
    ∃ r, Dg r ∧ Canon r ∧ val r = val a + val b ∧ r.length ≤ a.length + 1 ∧ Ev (fun k => idiomref03_add.l2 k (ofD a) (ofD b) (List.replicate j 0 ++ dnums c) o ((j : Int) - 1)) (ofD r) := by
  intro j
  induction j with
  | zero =>
    intro c o hj hc hcl ho hv
    simp only [List.drop_zero, Nat.sub_zero] at hv hcl
    by_cases h : o = 0
    · subst h
      refine ⟨lead c, hc.lead, canon_lead c, by rw [val_lead]; omega, ?_, ?_⟩
      · have := lead_length c; by_cases h0 : a.length = 0 <;> omega
      · have hE := Ev.let (f := fun _ t => some t) (lead_ev c hc (by omega)) (Ev.now _) (fun n => rfl)
        refine Ev.step (fun k => ?_) hE
        simp only [idiomref03_add.l2, List.replicate_zero, List.nil_append]
        rw [if_neg (by omega), if_neg (by omega)]
        simp only [dnums, strOfNums_ofD]
    · have : o = 1 := by omega
      subst this
      refine ⟨1 :: c, Dg.cons (by omega) hc, ⟨by simp, .inr (by simp)⟩, by simp only [val]; omega, by simp; omega, ?_⟩
      refine Ev.some fun k => ?_
      simp only [idiomref03_add.l2, List.replicate_zero, List.nil_append]
      rw [if_neg (by omega), if_pos (by omega)]
      simp only [dnums, strOfNums_ofD]
      rw [if_pos (by rw [size_ofD]; omega), ofD_one, ofD_append]
      rfl
  | succ j ih =>
    intro c o hj hc hcl ho hv
    have hja : j < a.length := by omega
    have hjb : j < b.length := by omega
    have xa := ha.get j
    have xb := hb.get j
    have e1 := getD_drop a j hja
    have e2 := getD_drop b j hjb
    generalize hx : a.getD j 0 = x at *
    generalize hy : b.getD j 0 = y at *
    obtain ⟨r, h1, h2, h3, h4, h5⟩ := ih ((x + y + o) % 10 :: c) ((x + y + o) / 10) (by omega) (Dg.cons (by omega) hc) (by simp; omega) (by omega) (by
      rw [e1, e2]
      simp only [val, List.length_cons, List.length_drop]
      have p1 : a.length - (j + 1) = c.length := by omega
      have p2 : b.length - (j + 1) = c.length := by omega
      simp only [p1, p2, Nat.pow_succ]
      have hv := hv
      have q : (x + y + o) / 10 * (10 ^ c.length * 10) + (x + y + o) % 10 * 10 ^ c.length = (x + y + o) * 10 ^ c.length := by
        rw [Nat.mul_comm (10 ^ c.length) 10, ← Nat.mul_assoc, ← Nat.add_mul]
        congr 1
        omega
      have q2 : (x + y + o) * 10 ^ c.length = x * 10 ^ c.length + y * 10 ^ c.length + o * 10 ^ c.length := by rw [Nat.add_mul, Nat.add_mul]
      omega)
    refine ⟨r, h1, h2, h3, h4, Ev.step (fun k => ?_) h5⟩
    simp only [idiomref03_add.l2]
    have ej : ((j + 1 : Nat) : Int) - 1 = j := by omega
    rw [ej, if_pos (by omega), if_pos (by omega), if_pos (by rw [size_ofD]; omega), if_pos (by rw [size_ofD]; omega), if_pos (by simp [dnums]; omega)]
    rw [bt_ofD ha (by omega) (by omega), bt_ofD hb (by omega) (by omega), Int.toNat_natCast, hx, hy, set_mid]
    rw [add_digit xa xb ho, add_over xa xb ho, w64 (x := (j : Int) - 1) (by omega) (by omega)]
    simp [dnums]

theorem add_ev (a b : List Nat) (ha : Dg a) (hb : Dg b) (na : a.length ≤ 100000) (nb : b.length ≤ 100000) :
    ∃ r, Dg r ∧ Canon r ∧ val r = val a + val b ∧ r.length ≤ max a.length b.length + 1 ∧ Ev (fun k => idiomref03_add.f k (ofD a) (ofD b)) (ofD r) := by
  have l2 : ∀ (a b : List Nat), Dg a → Dg b → a.length = b.length → a.length ≤ 100000 → ∃ r, Dg r ∧ Canon r ∧ val r = val a + val b ∧ r.length ≤ a.length + 1 ∧ Ev (fun k => idiomref03_add.l1 k (ofD a) (ofD b)) (ofD r) := by
    intro a b ha hb h n
    obtain ⟨r, h1, h2, h3, h4, h5⟩ := add_loop a b ha hb h (by omega) a.length [] 0 (Nat.le_refl _) Dg.nil (by simp) (by omega) (by rw [List.drop_length, h, List.drop_length]; simp [val])
    refine ⟨r, h1, h2, h3, h4, Ev.step (fun k => ?_) h5⟩
    simp only [idiomref03_add.l1, size_ofD]
    rw [if_neg (by omega), if_pos (by omega), if_pos (by omega)]
    congr 1
    · simp [dnums]
    · unfold wrap64; omega
  have l1 : ∀ (d : Nat) (a b : List Nat), Dg a → Dg b → a.length - b.length = d → b.length ≤ a.length → a.length ≤ 100000 → ∃ r, Dg r ∧ Canon r ∧ val r = val a + val b ∧ r.length ≤ a.length + 1 ∧ Ev (fun k => idiomref03_add.l1 k (ofD a) (ofD b)) (ofD r) := by
    intro d
    induction d with
    | zero => intro a b ha hb h h2 n; exact l2 a b ha hb (by omega) n
    | succ d ih =>
      intro a b ha hb h h2 n
      obtain ⟨r, h1, h2, h3, h4, h5⟩ := ih a (0 :: b) ha (Dg.cons (by omega) hb) (by simp; omega) (by simp; omega) n
      refine ⟨r, h1, h2, by simpa [val] using h3, h4, Ev.step (fun k => ?_) h5⟩
      simp only [idiomref03_add.l1]
      rw [if_pos (by rw [size_ofD, size_ofD]; omega), if_pos (by rw [size_ofD]; omega), ofD_zero, ofD_append]
      rfl
  have l0 : ∀ (d : Nat) (a b : List Nat), Dg a → Dg b → b.length - a.length = d → a.length ≤ 100000 → b.length ≤ 100000 → ∃ r, Dg r ∧ Canon r ∧ val r = val a + val b ∧ r.length ≤ max a.length b.length + 1 ∧ Ev (fun k => idiomref03_add.l0 k (ofD a) (ofD b)) (ofD r) := by
    intro d
    induction d with
    | zero =>
      intro a b ha hb h n m
      obtain ⟨r, h1, h2, h3, h4, h5⟩ := l1 _ a b ha hb rfl (by omega) n
      refine ⟨r, h1, h2, h3, by omega, Ev.step (fun k => ?_) h5⟩
      simp only [idiomref03_add.l0]
      rw [if_neg (by rw [size_ofD, size_ofD]; omega)]
    | succ d ih =>
      intro a b ha hb h n m
      obtain ⟨r, h1, h2, h3, h4, h5⟩ := ih (0 :: a) b (Dg.cons (by omega) ha) hb (by simp; omega) (by simp; omega) m
      refine ⟨r, h1, h2, by simpa [val] using h3, by simp at h4; omega, Ev.step (fun k => ?_) h5⟩
      simp only [idiomref03_add.l0]
      rw [if_pos (by rw [size_ofD, size_ofD]; omega), if_pos (by rw [size_ofD]; omega), ofD_zero, ofD_append]
      rfl
  exact l0 _ a b ha hb rfl na nb

/-! ### the difference -/
theorem sub_loop (a b : List Nat) (ha : Dg a) (hb : Dg b) (hab : a.length = b.length) (na : a.length ≤ 1000000) (hle : val b ≤ val a) :
    ∀ (j : Nat) (c : List Nat) (o : Nat), j ≤ a.length → Dg c → c.length = a.length - j → o ≤ 1 → val (a.drop j) + o * 10 ^ c.length = val (b.drop j) + val c →
    ∃ r, Dg r ∧ Canon r ∧ val r = val a - val b ∧ r.length ≤ max 1 a.length ∧ Ev (fun k => idiomref03_sub.l1 k (ofD a) (ofD b) (List.replicate j 0 ++ dnums c) o ((j : Int) - 1)) (ofD r) := by
  intro j
  induction j with
  | zero =>
    intro c o hj hc hcl ho hv
    simp only [List.drop_zero, Nat.sub_zero] at hv hcl
    have hlt := val_lt hc
    have h : o = 0 := by
      by_cases h1 : o = 1
      · subst h1; omega
      · omega
    subst h
    refine ⟨lead c, hc.lead, canon_lead c, by rw [val_lead]; omega, by rw [← hcl]; exact lead_length c, ?_⟩
    have hE := Ev.let (f := fun _ t => some t) (lead_ev c hc (by omega)) (Ev.now _) (fun n => rfl)
    refine Ev.step (fun k => ?_) hE
    simp only [idiomref03_sub.l1, List.replicate_zero, List.nil_append]
    rw [if_neg (by omega)]
    simp only [dnums, strOfNums_ofD]
  | succ j ih =>
    intro c o hj hc hcl ho hv
    have hja : j < a.length := by omega
    have hjb : j < b.length := by omega
    have xa := ha.get j
    have xb := hb.get j
    have e1 := getD_drop a j hja
    have e2 := getD_drop b j hjb
    generalize hx : a.getD j 0 = x at *
    generalize hy : b.getD j 0 = y at *
    have p1 : a.length - (j + 1) = c.length := by omega
    have p2 : b.length - (j + 1) = c.length := by omega
    have ej : ((j + 1 : Nat) : Int) - 1 = j := by omega
    by_cases hneg : x < y + o
    · obtain ⟨r, h1, h2, h3, h4, h5⟩ := ih ((x + 10 - y - o) :: c) 1 (by omega) (Dg.cons (by omega) hc) (by simp; omega) (by omega) (by
        rw [e1, e2]
        simp only [val, List.length_cons, List.length_drop, p1, p2, Nat.pow_succ]
        have q2 : (x + 10 - y - o) * 10 ^ c.length + y * 10 ^ c.length + o * 10 ^ c.length = x * 10 ^ c.length + 10 * 10 ^ c.length := by
          rw [← Nat.add_mul, ← Nat.add_mul, ← Nat.add_mul]; congr 1; omega
        omega)
      refine ⟨r, h1, h2, h3, h4, Ev.step (fun k => ?_) h5⟩
      simp only [idiomref03_sub.l1]
      rw [ej, if_pos (by omega), if_pos (by omega), if_pos (by rw [size_ofD]; omega), if_pos (by rw [size_ofD]; omega)]
      rw [bt_ofD ha (by omega) (by omega), bt_ofD hb (by omega) (by omega), Int.toNat_natCast, hx, hy]
      rw [if_pos (by rw [sub_diff xa xb ho]; omega), if_pos (by simp [dnums]; omega), set_mid, sub_neg xa xb ho hneg, w64 (x := (j : Int) - 1) (by omega) (by omega)]
      simp [dnums]
    · obtain ⟨r, h1, h2, h3, h4, h5⟩ := ih ((x - y - o) :: c) 0 (by omega) (Dg.cons (by omega) hc) (by simp; omega) (by omega) (by
        rw [e1, e2]
        simp only [val, List.length_cons, List.length_drop, p1, p2, Nat.pow_succ]
        have q2 : (x - y - o) * 10 ^ c.length + y * 10 ^ c.length + o * 10 ^ c.length = x * 10 ^ c.length := by
          rw [← Nat.add_mul, ← Nat.add_mul]; congr 1; omega
        omega)
      refine ⟨r, h1, h2, h3, h4, Ev.step (fun k => ?_) h5⟩
      simp only [idiomref03_sub.l1]
      rw [ej, if_pos (by omega), if_pos (by omega), if_pos (by rw [size_ofD]; omega), if_pos (by rw [size_ofD]; omega)]
      rw [bt_ofD ha (by omega) (by omega), bt_ofD hb (by omega) (by omega), Int.toNat_natCast, hx, hy]
      rw [if_neg (by rw [sub_diff xa xb ho]; omega), if_pos (by simp [dnums]; omega), set_mid, sub_pos xa xb ho hneg, w64 (x := (j : Int) - 1) (by omega) (by omega)]
      simp [dnums]

theorem sub_ev (a b : List Nat) (ha : Dg a) (hb : Dg b) (na : a.length ≤ 100000) (hl : b.length ≤ a.length) (hle : val b ≤ val a) :
    ∃ r, Dg r ∧ Canon r ∧ val r = val a - val b ∧ r.length ≤ max 1 a.length ∧ Ev (fun k => idiomref03_sub.f k (ofD a) (ofD b)) (ofD r) := by
  have l0 : ∀ (d : Nat) (b : List Nat), Dg b → a.length - b.length = d → b.length ≤ a.length → val b ≤ val a → ∃ r, Dg r ∧ Canon r ∧ val r = val a - val b ∧ r.length ≤ max 1 a.length ∧ Ev (fun k => idiomref03_sub.l0 k (ofD a) (ofD b)) (ofD r) := by
    intro d
    induction d with
    | zero =>
      intro b hb h h2 hle
      obtain ⟨r, h1, h2, h3, h4, h5⟩ := sub_loop a b ha hb (by omega) (by omega) hle a.length [] 0 (Nat.le_refl _) Dg.nil (by simp) (by omega) (by rw [List.drop_length, show a.length = b.length by omega, List.drop_length]; simp [val])
      refine ⟨r, h1, h2, h3, h4, Ev.step (fun k => ?_) h5⟩
      simp only [idiomref03_sub.l0, size_ofD]
      rw [if_neg (by omega), if_pos (by omega), if_pos (by omega)]
      congr 1
      · simp [dnums]
      · unfold wrap64; omega
    | succ d ih =>
      intro b hb h h2 hle
      obtain ⟨r, h1, h2, h3, h4, h5⟩ := ih (0 :: b) (Dg.cons (by omega) hb) (by simp; omega) (by simp; omega) (by simpa [val] using hle)
      refine ⟨r, h1, h2, by simpa [val] using h3, h4, Ev.step (fun k => ?_) h5⟩
      simp only [idiomref03_sub.l0]
      rw [if_pos (by rw [size_ofD, size_ofD]; omega), if_pos (by rw [size_ofD]; omega), ofD_zero, ofD_append]
      rfl
  exact l0 _ b hb rfl hl hle

/-! ### the quotient -/
theorem nums_snoc (q : List Nat) (d : Nat) : dnums (q ++ [d]) = dnums q ++ [((d + 48 : Nat) : Int)] := by simp [dnums]
theorem quo_inner (a b q : List Nat) (i : Int) (R : Nat) (hb : Dg b) (cb : Canon b) (nb : b.length ≤ 1000) (hq : q.length ≤ 100000) (hR : R < 10 * val b) (i0 : 0 ≤ i) (i1 : i ≤ 1000000) :
    ∀ (m k : Nat) (r : List Nat), k + m = 9 → Dg r → Canon r → r.length ≤ b.length + 1 → val r + k * val b = R →
    ∃ (d : Nat) (r' : List Nat), d ≤ 9 ∧ Dg r' ∧ Canon r' ∧ val r' < val b ∧ val r' + d * val b = R ∧
      ∀ P, Ev (fun n => idiomref03_quo.l0 n (ofD a) (ofD b) (dnums (q ++ [d])) (ofD r') (i + 1)) P → Ev (fun n => idiomref03_quo.l1 n (ofD a) (ofD b) (dnums q) (ofD r) i ((k + 48 : Nat) : Int)) P := by
  have stop : ∀ (k : Nat) (r : List Nat), k ≤ 9 → Dg r → Canon r → r.length ≤ b.length + 1 → val r + k * val b = R → val r < val b → ∃ (d : Nat) (r' : List Nat), d ≤ 9 ∧ Dg r' ∧ Canon r' ∧ val r' < val b ∧ val r' + d * val b = R ∧
      ∀ P, Ev (fun n => idiomref03_quo.l0 n (ofD a) (ofD b) (dnums (q ++ [d])) (ofD r') (i + 1)) P → Ev (fun n => idiomref03_quo.l1 n (ofD a) (ofD b) (dnums q) (ofD r) i ((k + 48 : Nat) : Int)) P := by
    intro k r hk hr cr nr e h
    refine ⟨k, r, hk, hr, cr, h, e, fun P hP => ?_⟩
    refine Ev.step (f := fun n => (idiomref03_cmp.f n (ofD r) (ofD b)).bind _) (fun n => by simp only [idiomref03_quo.l1]; rfl) ?_
    refine Ev.bind (cmp_ev r b hr hb (by omega) (by omega)) ?_
    rw [if_pos h]
    refine Ev.congr (fun n => ?_) hP
    rw [if_neg (by omega), if_pos (by simp [dnums]; omega), w64 (by omega) (by omega), nums_snoc]
  intro m
  induction m with
  | zero =>
    intro k r hk hr cr nr e
    have hk9 : k = 9 := by omega
    subst hk9
    exact stop 9 r (by omega) hr cr nr e (by omega)
  | succ m ih =>
    intro k r hk hr cr nr e
    by_cases h : val r < val b
    · exact stop k r (by omega) hr cr nr e h
    · obtain ⟨s, s1, s2, s3, s4, s5⟩ := sub_ev r b hr hb (by omega) (canon_length_le hr cb (by omega) cr.1) (by omega)
      have hb0 : b.length ≠ 0 := fun e => cb.1 (List.eq_nil_of_length_eq_zero e)
      obtain ⟨d, r', h1, h2, h3, h4, h5, h6⟩ := ih (k + 1) s (by omega) s1 s2 (by omega) (by rw [s3, Nat.add_mul]; omega)
      refine ⟨d, r', h1, h2, h3, h4, h5, fun P hP => ?_⟩
      refine Ev.step (f := fun n => (idiomref03_cmp.f n (ofD r) (ofD b)).bind _) (fun n => by simp only [idiomref03_quo.l1]; rfl) ?_
      refine Ev.bind (cmp_ev r b hr hb (by omega) (by omega)) ?_
      have hge : (if val r < val b then (-1 : Int) else if val r = val b then 0 else 1) ≥ 0 := by rw [if_neg h]; split <;> omega
      refine Ev.congr (fun n => if_pos hge) ?_
      refine Ev.bind s5 ?_
      refine Ev.congr (fun n => ?_) (h6 P hP)
      congr 1
      omega

theorem quo_loop (a b : List Nat) (ha : Dg a) (hb : Dg b) (cb : Canon b) (hbp : 0 < val b) (na : a.length ≤ 1000) (nb : b.length ≤ 1000) :
    ∀ (m i : Nat) (q r : List Nat), a.length - i = m → i ≤ a.length → Dg q → Dg r → Canon r → q.length = i → val r < val b → val q * val b + val r = val (a.take i) →
    ∃ Q R, Dg Q ∧ Canon Q ∧ Dg R ∧ Canon R ∧ val R < val b ∧ val Q * val b + val R = val a ∧ Q.length ≤ max 1 a.length ∧ Ev (fun n => idiomref03_quo.l0 n (ofD a) (ofD b) (dnums q) (ofD r) (i : Int)) (ofD Q, ofD R) := by
  intro m
  induction m with
  | zero =>
    intro i q r hm hi hq hr cr ql hlt hv
    have : i = a.length := by omega
    subst this
    rw [List.take_length] at hv
    refine ⟨lead q, r, hq.lead, canon_lead q, hr, cr, hlt, by rw [val_lead]; exact hv, by rw [← ql]; exact lead_length q, ?_⟩
    have hE := Ev.let (f := fun _ t => some (t, ofD r)) (lead_ev q hq (by omega)) (Ev.now _) (fun n => rfl)
    refine Ev.step (fun k => ?_) hE
    simp only [idiomref03_quo.l0]
    rw [if_neg (by rw [size_ofD]; omega)]
    simp only [dnums, strOfNums_ofD]
  | succ m ih =>
    intro i q r hm hi hq hr cr ql hlt hv
    have hia : i < a.length := by omega
    have hx := ha.get i
    have i0 : (0 : Int) ≤ i := Int.natCast_nonneg i
    have i1 : (i : Int) ≤ 1000000 := by clear hlt hv; omega
    have w1 : wrap64 ((i : Int) + 1) = (i : Int) + 1 := by clear hlt hv; exact w64 (by omega) (by omega)
    have s1 : ((i : Int) < ((ofD a).size : Int)) := by clear hlt hv; rw [size_ofD]; omega
    have s2 : (i : Int) + 1 ≤ ((ofD a).size : Int) := by clear hlt hv; rw [size_ofD]; omega
    have s4 : (i : Int) ≤ (i : Int) + 1 := by clear hlt hv; omega
    have rl : r.length ≤ b.length := canon_length_le hb cr (by omega) cb.1
    have e1 : (a.drop i).take 1 = [a.getD i 0] := by rw [getD_drop a i hia]; rfl
    have e2 : a.take (i + 1) = a.take i ++ [a.getD i 0] := by
      rw [List.take_succ_eq_append_getElem hia, List.getD_eq_getElem?_getD, List.getElem?_eq_getElem hia, Option.getD_some]
    generalize a.getD i 0 = x at *
    have s3 : (ofD r).size + (ofD [x]).size ≤ 9223372036854775807 := by clear hlt hv; rw [size_ofD, size_ofD, List.length_singleton]; omega
    have s6 : (r ++ [x]).length ≤ 1000000 := by clear hlt hv; rw [List.length_append, List.length_singleton]; omega
    have ex : (ofD a).extract (i : Int).toNat ((i : Int) + 1).toNat = ofD [x] := by
      clear hlt hv
      rw [ofD_extract, ← e1, Int.toNat_natCast, show ((i : Int) + 1).toNat - i = 1 by omega]
    have hr' : Dg (r ++ [x]) := hr.append (Dg.cons hx Dg.nil)
    have hval : val (r ++ [x]) = val r * 10 + x := val_snoc r x
    have ll := lead_length (r ++ [x])
    rw [List.length_append, List.length_singleton] at ll
    obtain ⟨d, r', h1, h2, h3, h4, h5, h6⟩ := quo_inner a b q i (val r * 10 + x) hb cb nb (by clear hlt hv; omega) (by clear hv; omega) i0 i1 9 0 (lead (r ++ [x])) (by omega) hr'.lead (canon_lead _) (by omega) (by rw [val_lead, hval]; omega)
    have key : val (q ++ [d]) * val b + val r' = val (a.take (i + 1)) := by
      have e3 : (val q * 10 + d) * val b = 10 * (val q * val b) + d * val b := by rw [Nat.add_mul, Nat.mul_comm (val q) 10, Nat.mul_assoc]
      rw [e2, val_snoc, val_snoc, e3]
      clear e3 e2 e1 ll hval h6
      generalize val q * val b = A at *
      generalize d * val b = B at *
      omega
    have l1 : a.length - (i + 1) = m := by clear hlt hv key h5 h4; omega
    have l3 : (q ++ [d]).length = i + 1 := by rw [List.length_append, List.length_singleton, ql]
    obtain ⟨Q, R, g1, g2, g3, g4, g5, g6, g8, g7⟩ := ih (i + 1) (q ++ [d]) r' l1 hia (hq.append (Dg.cons h1 Dg.nil)) h2 h3 l3 h4 key
    refine ⟨Q, R, g1, g2, g3, g4, g5, g6, g8, ?_⟩
    have g9 : Ev (fun n => idiomref03_quo.l0 n (ofD a) (ofD b) (dnums (q ++ [d])) (ofD r') ((i : Int) + 1)) (ofD Q, ofD R) := by
      rw [show ((i : Int) + 1) = ((i + 1 : Nat) : Int) from rfl]; exact g7
    have hE := Ev.bind (f := fun n t => idiomref03_quo.l1 n (ofD a) (ofD b) (dnums q) t i ((0 + 48 : Nat) : Int)) (lead_ev (r ++ [x]) hr' s6) (h6 _ g9)
    refine Ev.step (fun k => ?_) hE
    simp only [idiomref03_quo.l0]
    rw [w1, if_pos s1, if_pos i0, if_pos s4, if_pos s2, ex, if_pos s3, ofD_append]
    rfl

theorem quo_ev (a b : List Nat) (ha : Dg a) (hb : Dg b) (cb : Canon b) (hbp : 0 < val b) (na : a.length ≤ 1000) (nb : b.length ≤ 1000) :
    ∃ Q R, Dg Q ∧ Canon Q ∧ Dg R ∧ Canon R ∧ val Q = val a / val b ∧ val R = val a % val b ∧ Q.length ≤ max 1 a.length ∧ Ev (fun n => idiomref03_quo.f n (ofD a) (ofD b)) (ofD Q, ofD R) := by
  obtain ⟨Q, R, g1, g2, g3, g4, g5, g6, g8, g7⟩ := quo_loop a b ha hb cb hbp na nb a.length 0 [] [0] (by omega) (by omega) Dg.nil (Dg.cons (by omega) Dg.nil) ⟨by simp, .inl rfl⟩ rfl (by simpa [val] using hbp) (by simp [val])
  refine ⟨Q, R, g1, g2, g3, g4, ?_, ?_, g8, g7⟩
  · rw [← g6, Nat.add_comm, Nat.add_mul_div_right _ _ hbp, Nat.div_eq_of_lt g5, Nat.zero_add]
  · rw [← g6, Nat.add_comm, Nat.add_mul_mod_self_right, Nat.mod_eq_of_lt g5]

/-! ### which way -/
/-- Does one go away from 0? What is refused? -/
def upw (mode : Int) (neg : Bool) (q r u : Nat) : Bool × Int :=
  if r = 0 then (false, 0) else if mode = 1 then (true, 0) else if mode = 2 then (false, 0) else if mode = 3 then (!neg, 0) else if mode = 4 then (neg, 0)
  else if mode = 5 then (decide (u ≤ 2 * r), 0) else if mode = 6 then (decide (u < 2 * r), 0) else if mode = 7 then (decide (u < 2 * r) || (decide (u = 2 * r) && q % 2 == 1), 0) else (false, 31)
theorem val_odd (l : List Nat) (h : l ≠ []) : l.getD (l.length - 1) 0 % 2 = val l % 2 := by
  obtain ⟨m, d, rfl⟩ : ∃ m d, l = m ++ [d] := ⟨l.dropLast, l.getLast h, (List.dropLast_concat_getLast h).symm⟩
  rw [val_snoc]
  simp only [List.length_append, List.length_singleton, Nat.add_sub_cancel, List.getD_eq_getElem?_getD]
  simp
  omega
theorem away_ev (mode : Int) (neg : Bool) (q r u : List Nat) (hq : Dg q) (cq : Canon q) (nq : q.length ≤ 100000) (hr : Dg r) (cr : Canon r) (nr : r.length ≤ 10000) (hu : Dg u) (nu : u.length ≤ 10000) :
    Ev (fun n => idiomref03_away.f n mode neg (ofD q) (ofD r) (ofD u)) (upw mode neg (val q) (val r) (val u)) := by
  have hr0 : (ofD r).toList = ([48] : List UInt8) ↔ val r = 0 := by
    have : ([48] : List UInt8) = (ofD [0]).toList := by rw [toList_ofD]; rfl
    rw [this, toList_inj hr (Dg.cons (by omega) Dg.nil)]
    constructor
    · rintro rfl; rfl
    · exact canon_zero hr cr
  by_cases h0 : val r = 0
  · refine Ev.congr (fun n => ?_) (Ev.now _)
    simp only [idiomref03_away.f]
    rw [if_pos (hr0.2 h0)]
    simp [upw, h0]
  · obtain ⟨t, t1, t2, t3, t4, t5⟩ := add_ev r r hr hr (by omega) (by omega)
    refine Ev.congr (g := fun n => idiomref03_away.f n mode neg (ofD q) (ofD r) (ofD u)) (fun n => by simp only [idiomref03_away.f]; rw [if_neg (fun e => h0 (hr0.1 e))]) ?_
    refine Ev.bind t5 ?_
    refine Ev.bind (cmp_ev t u t1 hu (by omega) (by omega)) ?_
    refine Ev.congr (fun n => ?_) (Ev.now _)
    have ql : q.length ≠ 0 := fun e => cq.1 (List.eq_nil_of_length_eq_zero e)
    have w1 : wrap64 (((ofD q).size : Int) - 1) = (q.length : Int) - 1 := by rw [size_ofD]; exact w64 (by omega) (by omega)
    rw [w1, if_pos (by omega), if_pos (by rw [size_ofD]; omega), bt_ofD hq (by omega) (by omega)]
    have e1 : ((q.length : Int) - 1).toNat = q.length - 1 := by omega
    have odd : ((((((q.getD (q.length - 1) 0 + 48 : Nat) : Int) - 48) % 256) % 2) == 1) = (val q % 2 == 1) := by
      have a := hq.get (q.length - 1)
      have b := val_odd q cq.1
      rw [digit_of _ a, Bool.eq_iff_iff]
      simp only [beq_iff_eq]
      omega
    rw [e1, odd]
    have e3 : val t = 2 * val r := by omega
    rw [e3]
    unfold upw
    rw [if_neg h0]
    have c1 : ((if 2 * val r < val u then (-1 : Int) else if 2 * val r = val u then 0 else 1) ≥ 0) ↔ val u ≤ 2 * val r := by split <;> (try split) <;> omega
    have c2 : ((if 2 * val r < val u then (-1 : Int) else if 2 * val r = val u then 0 else 1) > 0) ↔ val u < 2 * val r := by split <;> (try split) <;> omega
    have c3 : ((if 2 * val r < val u then (-1 : Int) else if 2 * val r = val u then 0 else 1) = 0) ↔ val u = 2 * val r := by split <;> (try split) <;> omega
    generalize (if 2 * val r < val u then (-1 : Int) else if 2 * val r = val u then 0 else 1) = c at *
    by_cases m1 : mode = 1
    · rw [if_pos m1, if_pos m1]
    rw [if_neg m1, if_neg m1]
    by_cases m2 : mode = 2
    · rw [if_pos m2, if_pos m2]
    rw [if_neg m2, if_neg m2]
    by_cases m3 : mode = 3
    · rw [if_pos m3, if_pos m3]
    rw [if_neg m3, if_neg m3]
    by_cases m4 : mode = 4
    · rw [if_pos m4, if_pos m4]
    rw [if_neg m4, if_neg m4]
    by_cases m5 : mode = 5
    · rw [if_pos m5, if_pos m5, decide_eq_decide.2 c1]
    rw [if_neg m5, if_neg m5]
    by_cases m6 : mode = 6
    · rw [if_pos m6, if_pos m6, decide_eq_decide.2 c2]
    rw [if_neg m6, if_neg m6]
    by_cases m7 : mode = 7
    · rw [if_pos m7, if_pos m7]
      by_cases h1 : val u < 2 * val r
      · rw [if_pos (c2.2 h1)]; simp [h1]
      · rw [if_neg (fun h => h1 (c2.1 h))]
        by_cases h2 : val u = 2 * val r
        · rw [if_pos (c3.2 h2)]; simp [h2]
        · rw [if_neg (fun h => h2 (c3.1 h))]; simp [h1, h2]
    rw [if_neg m7, if_neg m7]

theorem up_none (mode : Int) (neg : Bool) (q r u : Nat) (h1 : 1 ≤ mode) (h7 : mode ≤ 7) : (upw mode neg q r u).2 = 0 := by
  unfold upw
  repeat' split
  all_goals first | rfl | omega
theorem turned_ev (mode : Int) (neg : Bool) (s u : List Nat) (hs : Dg s) (hu : Dg u) (cu : Canon u) (up0 : 0 < val u) (ns : s.length ≤ 1000) (nu : u.length ≤ 1000) :
    ∃ q, Dg q ∧ Canon q ∧ val q = val s / val u + (if (upw mode neg (val s / val u) (val s % val u) (val u)).1 = true then 1 else 0) ∧ q.length ≤ s.length + 2 ∧
      Ev (fun n => idiomref03_turned.f n mode neg (ofD s) (ofD u)) (ofD q, (upw mode neg (val s / val u) (val s % val u) (val u)).2) := by
  obtain ⟨Q, R, g1, g2, g3, g4, g5, g6, g8, g7⟩ := quo_ev s u hs hu cu up0 ns nu
  have hR : R.length ≤ u.length := canon_length_le hu g4 (by rw [g6]; exact Nat.le_of_lt (Nat.mod_lt _ up0)) cu.1
  have aw := away_ev mode neg Q R u g1 g2 (by omega) g3 g4 (by omega) hu (by omega)
  rw [g5, g6] at aw
  generalize upw mode neg (val s / val u) (val s % val u) (val u) = x at *
  by_cases hx : x.1 = true
  · obtain ⟨t, t1, t2, t3, t4, t5⟩ := add_ev Q [1] g1 (Dg.cons (by omega) Dg.nil) (by omega) (by simp)
    refine ⟨t, t1, t2, by rw [t3, g5, if_pos hx]; simp [val], by simp at t4; omega, ?_⟩
    refine Ev.bind g7 (Ev.bind aw ?_)
    refine Ev.congr (fun n => if_pos hx) ?_
    exact Ev.bind t5 (Ev.now _)
  · refine ⟨Q, g1, g2, by rw [g5, if_neg hx]; rfl, by omega, ?_⟩
    refine Ev.bind g7 (Ev.bind aw ?_)
    exact Ev.congr (fun n => if_neg hx) (Ev.now _)

/-! ### so many places -/
def pad (p : Nat) (l : List Nat) : List Nat := List.replicate (p + 1 - l.length) 0 ++ l
def iOf (p : Nat) (l : List Nat) : List Nat := lead ((pad p l).take ((pad p l).length - p))
def fOf (p : Nat) (l : List Nat) : List Nat := (pad p l).drop ((pad p l).length - p)
theorem pad_length (p : Nat) (l : List Nat) : (pad p l).length = max (p + 1) l.length := by simp [pad]; omega
theorem dg_pad {l : List Nat} (h : Dg l) (p : Nat) : Dg (pad p l) := (Dg.zeros _).append h
theorem val_pad (p : Nat) (l : List Nat) : val (pad p l) = val l := val_zeros_append _ _
theorem pad_of_lt {p : Nat} {l : List Nat} (h : p < l.length) : pad p l = l := by
  rw [pad, show p + 1 - l.length = 0 by omega]; rfl
theorem pad_cons {p : Nat} {l : List Nat} (h : l.length ≤ p) : pad p (0 :: l) = pad p l := by
  simp only [pad, List.length_cons]
  rw [show p + 1 - l.length = (p + 1 - (l.length + 1)) + 1 by omega, List.replicate_succ']
  simp
theorem fOf_length (p : Nat) (l : List Nat) : (fOf p l).length = p := by simp [fOf, pad_length]; omega
theorem dg_fOf {l : List Nat} (h : Dg l) (p : Nat) : Dg (fOf p l) := (dg_pad h p).drop _
theorem dg_iOf {l : List Nat} (h : Dg l) (p : Nat) : Dg (iOf p l) := ((dg_pad h p).take _).lead
theorem val_fOf {l : List Nat} (h : Dg l) (p : Nat) : val (fOf p l) = val l % 10 ^ p := by
  have e : (pad p l).length - ((pad p l).length - p) = p := by rw [pad_length]; omega
  rw [fOf, val_drop (dg_pad h p), val_pad, e]
theorem val_iOf {l : List Nat} (h : Dg l) (p : Nat) : val (iOf p l) = val l / 10 ^ p := by
  have e : (pad p l).length - ((pad p l).length - p) = p := by rw [pad_length]; omega
  rw [iOf, val_lead, val_take (dg_pad h p), val_pad, e]
/-- Whole part and places are told by the worth alone. -/
theorem parts_eq {l m : List Nat} (hl : Dg l) (hm : Dg m) (h : val l = val m) (p : Nat) : iOf p l = iOf p m ∧ fOf p l = fOf p m :=
  ⟨canon_unique (dg_iOf hl p) (dg_iOf hm p) (canon_lead _) (canon_lead _) (by rw [val_iOf hl, val_iOf hm, h]), eq_of_val (dg_fOf hl p) (dg_fOf hm p) (by rw [fOf_length, fOf_length]) (by rw [val_fOf hl, val_fOf hm, h])⟩

theorem made_ev (neg : Bool) (s : List Nat) (p : Nat) (hs : Dg s) (ns : s.length ≤ 10000) (np : p ≤ 10000) :
    Ev (fun n => idiomref03_Made.f n neg (ofD s) (p : Int)) (neg && decide (val s ≠ 0), ofD (iOf p s), ofD (fOf p s)) := by
  have base : ∀ s : List Nat, Dg s → s.length ≤ 10001 → p < s.length → Ev (fun n => idiomref03_Made.l0 n neg (ofD s) (p : Int)) (neg && decide (val s ≠ 0), ofD (iOf p s), ofD (fOf p s)) := by
    intro s hs ns h
    have w1 : wrap64 (((ofD s).size : Int) - p) = ((s.length - p : Nat) : Int) := by rw [size_ofD, w64 (by omega) (by omega)]; omega
    have hI : (ofD s).extract 0 (s.length - p) = ofD (s.take (s.length - p)) := by rw [ofD_extract]; simp
    have hF : (ofD s).extract (s.length - p) s.length = ofD (s.drop (s.length - p)) := by
      rw [ofD_extract, List.take_of_length_le (by simp)]
    have eI : iOf p s = lead (s.take (s.length - p)) := by simp only [iOf, pad_of_lt h]
    have eF : fOf p s = s.drop (s.length - p) := by simp only [fOf, pad_of_lt h]
    have lI := lead_length (s.take (s.length - p))
    rw [List.length_take] at lI
    refine Ev.step (f := fun n => (idiomref03_Lead.f n (ofD (s.take (s.length - p)))).bind fun t => if neg = true then (if t.size + (ofD (s.drop (s.length - p))).size ≤ 9223372036854775807 then ((idiomref03_Lead.f n (t ++ ofD (s.drop (s.length - p)))).bind fun t190 => some ((t190.toList != ([48] : List UInt8)), t, ofD (s.drop (s.length - p)))) else none) else some (false, t, ofD (s.drop (s.length - p)))) (fun n => ?_) ?_
    · simp only [idiomref03_Made.l0]
      rw [if_neg (by rw [size_ofD]; omega), w1, if_pos (by omega), if_pos (by rw [size_ofD]; omega), Int.toNat_natCast, size_ofD, hI, hF]
    · refine Ev.bind (lead_ev _ (hs.take _) (by simp; omega)) ?_
      rw [← eI, ← eF]
      cases neg with
      | false => exact Ev.congr (fun n => by simp) (Ev.now _)
      | true =>
        have hv : val (iOf p s ++ fOf p s) = val s := by
          rw [val_append, fOf_length, val_iOf hs, val_fOf hs]
          have := Nat.div_add_mod (val s) (10 ^ p)
          rw [Nat.mul_comm] at this
          exact this
        have hd : Dg (iOf p s ++ fOf p s) := (dg_iOf hs p).append (dg_fOf hs p)
        refine Ev.congr (fun n => by rw [if_pos rfl, if_pos (by rw [size_ofD, size_ofD, fOf_length, eI]; omega), ofD_append]) ?_
        refine Ev.let (f := fun _ t190 => some ((t190.toList != ([48] : List UInt8)), ofD (iOf p s), ofD (fOf p s))) (lead_ev _ hd (by rw [List.length_append, fOf_length, eI]; omega)) ?_ (fun n => rfl)
        have e : ((ofD (lead (iOf p s ++ fOf p s))).toList != ([48] : List UInt8)) = (true && decide (val s ≠ 0)) := by
          have : ([48] : List UInt8) = (ofD [0]).toList := by rw [toList_ofD]; rfl
          rw [this, Bool.eq_iff_iff, bne_iff_ne, Ne, toList_inj hd.lead (Dg.cons (by omega) Dg.nil)]
          simp only [Bool.true_and, decide_eq_true_eq, Ne]
          constructor
          · intro h1 h2
            exact h1 (canon_zero hd.lead (canon_lead _) (by rw [val_lead, hv, h2]))
          · intro h1 h2
            apply h1
            rw [← hv, ← val_lead, h2]; rfl
        rw [e]
        exact Ev.now _
  have go : ∀ (m : Nat) (s : List Nat), p + 1 - s.length = m → Dg s → s.length ≤ 10001 → Ev (fun n => idiomref03_Made.l0 n neg (ofD s) (p : Int)) (neg && decide (val s ≠ 0), ofD (iOf p s), ofD (fOf p s)) := by
    intro m
    induction m with
    | zero => intro s hm hs ns; exact base s hs ns (by omega)
    | succ m ih =>
      intro s hm hs ns
      have := ih (0 :: s) (by simp; omega) (Dg.cons (by omega) hs) (by simp; omega)
      have e0 : val (0 :: s) = val s := by simp [val]
      have e1 : pad p (0 :: s) = pad p s := pad_cons (by omega)
      rw [e0, iOf, fOf, e1] at this
      refine Ev.step (fun n => ?_) this
      simp only [idiomref03_Made.l0]
      rw [if_pos (by rw [size_ofD]; omega), if_pos (by rw [size_ofD]; omega), ofD_zero, ofD_append]
      rfl
  exact go _ s rfl hs (by omega)
end Go.Proofs.YtpmhebdaphjinaaDoor.RoundRef
