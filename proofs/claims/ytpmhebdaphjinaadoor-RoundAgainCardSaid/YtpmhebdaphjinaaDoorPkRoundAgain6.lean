/- Part 7 of 8 of the proof of the law RoundAgain: it is true at every input. Conditions: those of the given row, no others. -/
import Derived.Test.YtpmhebdaphjinaaDoorPkRoundAgain5
import Derived.Test.YtpmhebdaphjinaaDoorPkRoundAgain1
import Derived.Test.YtpmhebdaphjinaaDoorPkRoundAgain2
import Derived.Test.YtpmhebdaphjinaaDoorPkRoundAgain0
import Derived.Test.YtpmhebdaphjinaaDoorPkRoundAgain3
import Derived.Test.YtpmhebdaphjinaaDoorPkRoundAgain4
set_option linter.unusedVariables false
set_option linter.unusedSimpArgs false
namespace Go.Proofs.YtpmhebdaphjinaaDoor.RoundRef
open Go.RowKit Go.Proofs.YtpmhebdaphjinaaDoorW.PrintWords Go.Proofs.YtpmhebdaphjinaaDoorW.PrintLast Go.Proofs.YtpmhebdaphjinaaDoor.F Go.Proofs.YtpmhebdaphjinaaDoor.Dig

theorem Ev.some {α : Type} {g : Nat → Option α} {r : α} (h : ∀ k, g (k + 1) = some r) : Ev g r := Ev.step (f := fun _ => Option.some r) h (Ev.now r)
theorem Ev.let {α β : Type} {g : Nat → Option α} {f : Nat → α → Option β} {G : Nat → Option β} {a : α} {r : β} (h : Ev g a) (k : Ev (fun n => f n a) r) (e : ∀ n, G n = (g n).bind (f n)) : Ev G r := Ev.congr e (Ev.bind h k)

theorem lead_ev (l : List Nat) (hl : Dg l) (hn : l.length ≤ 1000000) : Ev (fun k => idiomref03_Lead.f k (ofD l)) (ofD (lead l)) := by
  show Ev (fun k => idiomref03_Lead.l0 k (ofD l)) _
  fun_induction lead l with
  | case1 =>
    refine Ev.some fun k => ?_
    simp only [idiomref03_Lead.l0]
    rw [if_neg (by rw [size_ofD]; simp), if_pos (by rw [toList_ofD]; rfl)]
    rfl
  | case2 d =>
    refine Ev.some fun k => ?_
    simp only [idiomref03_Lead.l0]
    rw [if_neg (by rw [size_ofD]; simp), if_neg (by rw [toList_ofD]; simp)]
  | case3 e t ih =>
    refine Ev.step (fun k => ?_) (ih hl.tail (by simp at hn ⊢; omega))
    simp only [idiomref03_Lead.l0]
    rw [if_pos (by rw [size_ofD]; simp; omega), if_pos (by rw [size_ofD]; simp; omega), bt_ofD hl (by omega) (by simp; omega), if_pos (by simp), if_pos (by rw [size_ofD]; simp; omega), ofD_extract, size_ofD]
    simp
  | case4 d e t h =>
    refine Ev.some fun k => ?_
    simp only [idiomref03_Lead.l0]
    rw [if_pos (by rw [size_ofD]; simp; omega), if_pos (by rw [size_ofD]; simp; omega), bt_ofD hl (by omega) (by simp; omega), if_neg (by simp; omega), if_neg (by rw [toList_ofD]; simp)]

theorem noughts_ev (n : Int) (hn : n ≤ 1000000) : Ev (fun k => idiomref03_Noughts.f k n) (ofD (List.replicate n.toNat 0)) := by
  have aux : ∀ (m i : Nat), (n.toNat - i = m) → i ≤ n.toNat → Ev (fun k => idiomref03_Noughts.l0 k n (List.replicate i 48) i) (ofD (List.replicate n.toNat 0)) := by
    intro m
    induction m with
    | zero =>
      intro i h1 h2
      refine Ev.some fun k => ?_
      simp only [idiomref03_Noughts.l0]
      rw [if_neg (by omega)]
      have : i = n.toNat := by omega
      rw [this, ← strOfNums_ofD]
      simp
    | succ m ih =>
      intro i h1 h2
      refine Ev.step (fun k => ?_) (ih (i + 1) (by omega) (by omega))
      simp only [idiomref03_Noughts.l0]
      rw [if_pos (by omega), if_pos (by simp; omega)]
      congr 1
      · rw [List.replicate_succ']
      · unfold wrap64; omega
  have := aux n.toNat 0 (by omega) (by omega)
  simpa [idiomref03_Noughts.f] using this

theorem cmp_ev (a b : List Nat) (ha : Dg a) (hb : Dg b) (na : a.length ≤ 1000000) (nb : b.length ≤ 1000000) :
    Ev (fun k => idiomref03_cmp.f k (ofD a) (ofD b)) (if val a < val b then -1 else if val a = val b then 0 else 1) := by
  have la := canon_lead a
  have lb := canon_lead b
  have da := ha.lead
  have db := hb.lead
  have va := val_lead a
  have vb := val_lead b
  refine Ev.let (lead_ev a ha na) (Ev.let (lead_ev b hb nb) ?_ (fun n => rfl)) (fun n => rfl)
  simp only [size_ofD]
  have same : ∀ x, (lead a).length = (lead b).length → x = decide (val (lead a) < val (lead b)) → Ev (fun k => idiomref03_cmp.j0 k (ofD (lead a)) (ofD (lead b)) x) (if val a < val b then -1 else if val a = val b then 0 else 1) := by
    intro x hx e
    refine Ev.some fun k => ?_
    simp only [idiomref03_cmp.j0]
    subst e
    rw [va, vb]
    by_cases h1 : val a < val b
    · simp [h1]
    · simp only [h1, decide_false, if_false, Bool.false_eq_true]
      by_cases h2 : val a = val b
      · have e := canon_unique da db la lb (by omega)
        rw [e]; simp [h2]
      · have : lead a ≠ lead b := fun e => h2 (by rw [← va, ← vb, e])
        simp only [toList_inj da db, this, h2, if_false]
  by_cases h : (lead a).length = (lead b).length
  · have e := bytesLess_ofD da db h
    simpa [h, e] using same _ h rfl
  · by_cases h2 : (lead a).length < (lead b).length
    · have hv : val a < val b := by
        rcases Nat.lt_or_ge (val a) (val b) with h3 | h3
        · exact h3
        · exact absurd (canon_length_le da lb (by omega) la.1) (by omega)
      have e1 : ¬ ((lead a).length : Int) = (lead b).length := by omega
      have e2 : ((lead a).length : Int) < (lead b).length := by omega
      simp only [e1, e2, if_false, if_true]
      refine Ev.some fun k => ?_
      simp [idiomref03_cmp.j0, hv]
    · have hv : val b < val a := by
        rcases Nat.lt_or_ge (val b) (val a) with h3 | h3
        · exact h3
        · exact absurd (canon_length_le db la (by omega) lb.1) (by omega)
      have e1 : ¬ ((lead a).length : Int) = (lead b).length := by omega
      have e2 : ¬ ((lead a).length : Int) < (lead b).length := by omega
      simp only [e1, e2, if_false]
      refine Ev.some fun k => ?_
      have e3 : lead a ≠ lead b := fun e => h (by rw [e])
      have e4 : ¬ val a < val b := by omega
      have e5 : ¬ val a = val b := by omega
      simp only [idiomref03_cmp.j0, toList_inj da db, e3, e4, e5, if_false, Bool.false_eq_true]

theorem w64 {x : Int} (h0 : -9223372036854775808 ≤ x) (h1 : x ≤ 9223372036854775807) : wrap64 x = x := by unfold wrap64; omega
theorem digit_of (x : Nat) (h : x ≤ 9) : (((x + 48 : Nat) : Int) - 48) % 256 = x := by omega
theorem add_digit {x y o : Nat} (hx : x ≤ 9) (hy : y ≤ 9) (ho : o ≤ 1) :
    (wrap64 (48 + Int.tmod (wrap64 (((((x + 48 : Nat) : Int) - 48) % 256 + (((y + 48 : Nat) : Int) - 48) % 256) + o)) 10)) % 256 = (((x + y + o) % 10 + 48 : Nat) : Int) := by
  rw [digit_of x hx, digit_of y hy, w64 (x := (x : Int) + y + o) (by omega) (by omega), Int.tmod_eq_emod_of_nonneg (by omega), w64 (by omega) (by omega)]
  omega
theorem add_over {x y o : Nat} (hx : x ≤ 9) (hy : y ≤ 9) (ho : o ≤ 1) :
    wrap64 (Int.tdiv (wrap64 (((((x + 48 : Nat) : Int) - 48) % 256 + (((y + 48 : Nat) : Int) - 48) % 256) + o)) 10) = (((x + y + o) / 10 : Nat) : Int) := by
  rw [digit_of x hx, digit_of y hy, w64 (x := (x : Int) + y + o) (by omega) (by omega), Int.tdiv_eq_ediv_of_nonneg (by omega), w64 (by omega) (by omega)]
  omega
theorem sub_diff {x y o : Nat} (hx : x ≤ 9) (hy : y ≤ 9) (ho : o ≤ 1) :
    wrap64 (wrap64 (wrap64 ((x + 48 : Nat) : Int) - wrap64 ((y + 48 : Nat) : Int)) - (o : Int)) = (x : Int) - y - o := by
  rw [w64 (x := ((x + 48 : Nat) : Int)) (by omega) (by omega), w64 (x := ((y + 48 : Nat) : Int)) (by omega) (by omega), w64 (x := ((x + 48 : Nat) : Int) - ((y + 48 : Nat) : Int)) (by omega) (by omega), w64 (by omega) (by omega)]
  omega
theorem sub_neg {x y o : Nat} (hx : x ≤ 9) (hy : y ≤ 9) (ho : o ≤ 1) (h : x < y + o) :
    (wrap64 (48 + wrap64 (wrap64 (wrap64 (wrap64 ((x + 48 : Nat) : Int) - wrap64 ((y + 48 : Nat) : Int)) - (o : Int)) + 10))) % 256 = ((x + 10 - y - o + 48 : Nat) : Int) := by
  rw [sub_diff hx hy ho, w64 (x := (x : Int) - y - o + 10) (by omega) (by omega), w64 (by omega) (by omega)]
  omega
theorem sub_pos {x y o : Nat} (hx : x ≤ 9) (hy : y ≤ 9) (ho : o ≤ 1) (h : ¬ x < y + o) :
    (wrap64 (48 + wrap64 (wrap64 (wrap64 ((x + 48 : Nat) : Int) - wrap64 ((y + 48 : Nat) : Int)) - (o : Int)))) % 256 = ((x - y - o + 48 : Nat) : Int) := by
  rw [sub_diff hx hy ho, w64 (by omega) (by omega)]
  omega

def dnums (l : List Nat) : List Int := l.map fun d => ((d + 48 : Nat) : Int)
theorem set_mid (j : Nat) (X : List Int) (v : Int) : (List.replicate (j + 1) (0 : Int) ++ X).set j v = List.replicate j 0 ++ v :: X := by
  rw [List.replicate_succ', List.append_assoc, List.set_append]
  simp
theorem getD_drop (l : List Nat) (j : Nat) (h : j < l.length) : l.drop j = l.getD j 0 :: l.drop (j + 1) := by
  rw [List.drop_eq_getElem_cons h, List.getD_eq_getElem?_getD, List.getElem?_eq_getElem h, Option.getD_some]

theorem add_loop (a b : List Nat) (ha : Dg a) (hb : Dg b) (hab : a.length = b.length) (na : a.length ≤ 1000000) :
    ∀ (j : Nat) (c : List Nat) (o : Nat), j ≤ a.length → Dg c → c.length = a.length - j → o ≤ 1 → val (a.drop j) + val (b.drop j) = o * 10 ^ c.length + val c →
    ∃ r, Dg r ∧ Canon r ∧ val r = val a + val b ∧ r.length ≤ a.length + 1 ∧ Ev (fun k => idiomref03_add.l2 k (ofD a) (ofD b) (List.replicate j 0 ++ dnums c) o ((j : Int) - 1)) (ofD r) := by
  intro j
  induction j with
  | zero =>
    intro c o hj hc hcl ho hv
    simp only [List.drop_zero, Nat.sub_zero] at hv hcl
    by_cases h : o = 0
    · subst h
      refine ⟨lead c, hc.lead, canon_lead c, by rw [val_lead]; omega, ?_, ?_⟩
      · have := lead_length c; by_cases h0 : a.length = 0 <;> omega
      · have hE := Ev.let (f := fun _ t => some t) (lead_ev c hc (by omega)) (Ev.now _) (fun n => rfl)
        refine Ev.step (fun k => ?_) hE
        simp only [idiomref03_add.l2, List.replicate_zero, List.nil_append]
        rw [if_neg (by omega), if_neg (by omega)]
        simp only [dnums, strOfNums_ofD]
    · have : o = 1 := by omega
      subst this
      refine ⟨1 :: c, Dg.cons (by omega) hc, ⟨by simp, .inr (by simp)⟩, by simp only [val]; omega, by simp; omega, ?_⟩
      refine Ev.some fun k => ?_
      simp only [idiomref03_add.l2, List.replicate_zero, List.nil_append]
      rw [if_neg (by omega), if_pos (by omega)]
      simp only [dnums, strOfNums_ofD]
      rw [if_pos (by rw [size_ofD]; omega), ofD_one, ofD_append]
      rfl
  | succ j ih =>
    intro c o hj hc hcl ho hv
    have hja : j < a.length := by omega
    have hjb : j < b.length := by omega
    have xa := ha.get j
    have xb := hb.get j
    have e1 := getD_drop a j hja
    have e2 := getD_drop b j hjb
    generalize hx : a.getD j 0 = x at *
    generalize hy : b.getD j 0 = y at *
    obtain ⟨r, h1, h2, h3, h4, h5⟩ := ih ((x + y + o) % 10 :: c) ((x + y + o) / 10) (by omega) (Dg.cons (by omega) hc) (by simp; omega) (by omega) (by
      rw [e1, e2]
      simp only [val, List.length_cons, List.length_drop]
      have p1 : a.length - (j + 1) = c.length := by omega
      have p2 : b.length - (j + 1) = c.length := by omega
      simp only [p1, p2, Nat.pow_succ]
      have hv := hv
      have q : (x + y + o) / 10 * (10 ^ c.length * 10) + (x + y + o) % 10 * 10 ^ c.length = (x + y + o) * 10 ^ c.length := by
        rw [Nat.mul_comm (10 ^ c.length) 10, ← Nat.mul_assoc, ← Nat.add_mul]
        congr 1
        omega
      have q2 : (x + y + o) * 10 ^ c.length = x * 10 ^ c.length + y * 10 ^ c.length + o * 10 ^ c.length := by rw [Nat.add_mul, Nat.add_mul]
      omega)
    refine ⟨r, h1, h2, h3, h4, Ev.step (fun k => ?_) h5⟩
    simp only [idiomref03_add.l2]
    have ej : ((j + 1 : Nat) : Int) - 1 = j := by omega
    rw [ej, if_pos (by omega), if_pos (by omega), if_pos (by rw [size_ofD]; omega), if_pos (by rw [size_ofD]; omega), if_pos (by simp [dnums]; omega)]
    rw [bt_ofD ha (by omega) (by omega), bt_ofD hb (by omega) (by omega), Int.toNat_natCast, hx, hy, set_mid]
    rw [add_digit xa xb ho, add_over xa xb ho, w64 (x := (j : Int) - 1) (by omega) (by omega)]
    simp [dnums]

theorem add_ev (a b : List Nat) (ha : Dg a) (hb : Dg b) (na : a.length ≤ 100000) (nb : b.length ≤ 100000) :
    ∃ r, Dg r ∧ Canon r ∧ val r = val a + val b ∧ r.length ≤ max a.length b.length + 1 ∧ Ev (fun k => idiomref03_add.f k (ofD a) (ofD b)) (ofD r) := by
  have l2 : ∀ (a b : List Nat), Dg a → Dg b → a.length = b.length → a.length ≤ 100000 → ∃ r, Dg r ∧ Canon r ∧ val r = val a + val b ∧ r.length ≤ a.length + 1 ∧ Ev (fun k => idiomref03_add.l1 k (ofD a) (ofD b)) (ofD r) := by
    intro a b ha hb h n
    obtain ⟨r, h1, h2, h3, h4, h5⟩ := add_loop a b ha hb h (by omega) a.length [] 0 (Nat.le_refl _) Dg.nil (by simp) (by omega) (by rw [List.drop_length, h, List.drop_length]; simp [val])
    refine ⟨r, h1, h2, h3, h4, Ev.step (fun k => ?_) h5⟩
    simp only [idiomref03_add.l1, size_ofD]
    rw [if_neg (by omega), if_pos (by omega), if_pos (by omega)]
    congr 1
    · simp [dnums]
    · unfold wrap64; omega
  have l1 : ∀ (d : Nat) (a b : List Nat), Dg a → Dg b → a.length - b.length = d → b.length ≤ a.length → a.length ≤ 100000 → ∃ r, Dg r ∧ Canon r ∧ val r = val a + val b ∧ r.length ≤ a.length + 1 ∧ Ev (fun k => idiomref03_add.l1 k (ofD a) (ofD b)) (ofD r) := by
    intro d
    induction d with
    | zero => intro a b ha hb h h2 n; exact l2 a b ha hb (by omega) n
    | succ d ih =>
      intro a b ha hb h h2 n
      obtain ⟨r, h1, h2, h3, h4, h5⟩ := ih a (0 :: b) ha (Dg.cons (by omega) hb) (by simp; omega) (by simp; omega) n
      refine ⟨r, h1, h2, by simpa [val] using h3, h4, Ev.step (fun k => ?_) h5⟩
      simp only [idiomref03_add.l1]
      rw [if_pos (by rw [size_ofD, size_ofD]; omega), if_pos (by rw [size_ofD]; omega), ofD_zero, ofD_append]
      rfl
  have l0 : ∀ (d : Nat) (a b : List Nat), Dg a → Dg b → b.length - a.length = d → a.length ≤ 100000 → b.length ≤ 100000 → ∃ r, Dg r ∧ Canon r ∧ val r = val a + val b ∧ r.length ≤ max a.length b.length + 1 ∧ Ev (fun k => idiomref03_add.l0 k (ofD a) (ofD b)) (ofD r) := by
    intro d
    induction d with
    | zero =>
      intro a b ha hb h n m
      obtain ⟨r, h1, h2, h3, h4, h5⟩ := l1 _ a b ha hb rfl (by omega) n
      refine ⟨r, h1, h2, h3, by omega, Ev.step (fun k => ?_) h5⟩
      simp only [idiomref03_add.l0]
      rw [if_neg (by rw [size_ofD, size_ofD]; omega)]
    | succ d ih =>
      intro a b ha hb h n m
      obtain ⟨r, h1, h2, h3, h4, h5⟩ := ih (0 :: a) b (Dg.cons (by omega) ha) hb (by simp; omega) (by simp; omega) m
      refine ⟨r, h1, h2, by simpa [val] using h3, by simp at h4; omega, Ev.step (fun k => ?_) h5⟩
      simp only [idiomref03_add.l0]
      rw [if_pos (by rw [size_ofD, size_ofD]; omega), if_pos (by rw [size_ofD]; omega), ofD_zero, ofD_append]
      rfl
  exact l0 _ a b ha hb rfl na nb

theorem sub_loop (a b : List Nat) (ha : Dg a) (hb : Dg b) (hab : a.length = b.length) (na : a.length ≤ 1000000) (hle : val b ≤ val a) :
    ∀ (j : Nat) (c : List Nat) (o : Nat), j ≤ a.length → Dg c → c.length = a.length - j → o ≤ 1 → val (a.drop j) + o * 10 ^ c.length = val (b.drop j) + val c →
    ∃ r, Dg r ∧ Canon r ∧ val r = val a - val b ∧ r.length ≤ max 1 a.length ∧ Ev (fun k => idiomref03_sub.l1 k (ofD a) (ofD b) (List.replicate j 0 ++ dnums c) o ((j : Int) - 1)) (ofD r) := by
  intro j
  induction j with
  | zero =>
    intro c o hj hc hcl ho hv
    simp only [List.drop_zero, Nat.sub_zero] at hv hcl
    have hlt := val_lt hc
    have h : o = 0 := by
      by_cases h1 : o = 1
      · subst h1; omega
      · omega
    subst h
    refine ⟨lead c, hc.lead, canon_lead c, by rw [val_lead]; omega, by rw [← hcl]; exact lead_length c, ?_⟩
    have hE := Ev.let (f := fun _ t => some t) (lead_ev c hc (by omega)) (Ev.now _) (fun n => rfl)
    refine Ev.step (fun k => ?_) hE
    simp only [idiomref03_sub.l1, List.replicate_zero, List.nil_append]
    rw [if_neg (by omega)]
    simp only [dnums, strOfNums_ofD]
  | succ j ih =>
    intro c o hj hc hcl ho hv
    have hja : j < a.length := by omega
    have hjb : j < b.length := by omega
    have xa := ha.get j
    have xb := hb.get j
    have e1 := getD_drop a j hja
    have e2 := getD_drop b j hjb
    generalize hx : a.getD j 0 = x at *
    generalize hy : b.getD j 0 = y at *
    have p1 : a.length - (j + 1) = c.length := by omega
    have p2 : b.length - (j + 1) = c.length := by omega
    have ej : ((j + 1 : Nat) : Int) - 1 = j := by omega
    by_cases hneg : x < y + o
    · obtain ⟨r, h1, h2, h3, h4, h5⟩ := ih ((x + 10 - y - o) :: c) 1 (by omega) (Dg.cons (by omega) hc) (by simp; omega) (by omega) (by
        rw [e1, e2]
        simp only [val, List.length_cons, List.length_drop, p1, p2, Nat.pow_succ]
        have q2 : (x + 10 - y - o) * 10 ^ c.length + y * 10 ^ c.length + o * 10 ^ c.length = x * 10 ^ c.length + 10 * 10 ^ c.length := by
          rw [← Nat.add_mul, ← Nat.add_mul, ← Nat.add_mul]; congr 1; omega
        omega)
      refine ⟨r, h1, h2, h3, h4, Ev.step (fun k => ?_) h5⟩
      simp only [idiomref03_sub.l1]
      rw [ej, if_pos (by omega), if_pos (by omega), if_pos (by rw [size_ofD]; omega), if_pos (by rw [size_ofD]; omega)]
      rw [bt_ofD ha (by omega) (by omega), bt_ofD hb (by omega) (by omega), Int.toNat_natCast, hx, hy]
      rw [if_pos (by rw [sub_diff xa xb ho]; omega), if_pos (by simp [dnums]; omega), set_mid, sub_neg xa xb ho hneg, w64 (x := (j : Int) - 1) (by omega) (by omega)]
      simp [dnums]
    · obtain ⟨r, h1, h2, h3, h4, h5⟩ := ih ((x - y - o) :: c) 0 (by omega) (Dg.cons (by omega) hc) (by simp; omega) (by omega) (by
        rw [e1, e2]
        simp only [val, List.length_cons, List.length_drop, p1, p2, Nat.pow_succ]
        have q2 : (x - y - o) * 10 ^ c.length + y * 10 ^ c.length + o * 10 ^ c.length = x * 10 ^ c.length := by
          rw [← Nat.add_mul, ← Nat.add_mul]; congr 1; omega
        omega)
      refine ⟨r, h1, h2, h3, h4, Ev.step (fun k => ?_) h5⟩
      simp only [idiomref03_sub.l1]
      rw [ej, if_pos (by omega), if_pos (by omega), if_pos (by rw [size_ofD]; omega), if_pos (by rw [size_ofD]; omega)]
      rw [bt_ofD ha (by omega) (by omega), bt_ofD hb (by omega) (by omega), Int.toNat_natCast, hx, hy]
      rw [if_neg (by rw [sub_diff xa xb ho]; omega), if_pos (by simp [dnums]; omega), set_mid, sub_pos xa xb ho hneg, w64 (x := (j : Int) - 1) (by omega) (by omega)]
      simp [dnums]

theorem sub_ev (a b : List Nat) (ha : Dg a) (hb : Dg b) (na : a.length ≤ 100000) (hl : b.length ≤ a.length) (hle : val b ≤ val a) :
    ∃ r, Dg r ∧ Canon r ∧ val r = val a - val b ∧ r.length ≤ max 1 a.length ∧ Ev (fun k => idiomref03_sub.f k (ofD a) (ofD b)) (ofD r) := by
  have l0 : ∀ (d : Nat) (b : List Nat), Dg b → a.length - b.length = d → b.length ≤ a.length → val b ≤ val a → ∃ r, Dg r ∧ Canon r ∧ val r = val a - val b ∧ r.length ≤ max 1 a.length ∧ Ev (fun k => idiomref03_sub.l0 k (ofD a) (ofD b)) (ofD r) := by
    intro d
    induction d with
    | zero =>
      intro b hb h h2 hle
      obtain ⟨r, h1, h2, h3, h4, h5⟩ := sub_loop a b ha hb (by omega) (by omega) hle a.length [] 0 (Nat.le_refl _) Dg.nil (by simp) (by omega) (by rw [List.drop_length, show a.length = b.length by omega, List.drop_length]; simp [val])
      refine ⟨r, h1, h2, h3, h4, Ev.step (fun k => ?_) h5⟩
      simp only [idiomref03_sub.l0, size_ofD]
      rw [if_neg (by omega), if_pos (by omega), if_pos (by omega)]
      congr 1
      · simp [dnums]
      · unfold wrap64; omega
    | succ d ih =>
      intro b hb h h2 hle
      obtain ⟨r, h1, h2, h3, h4, h5⟩ := ih (0 :: b) (Dg.cons (by omega) hb) (by simp; omega) (by simp; omega) (by simpa [val] using hle)
      refine ⟨r, h1, h2, by simpa [val] using h3, h4, Ev.step (fun k => ?_) h5⟩
      simp only [idiomref03_sub.l0]
      rw [if_pos (by rw [size_ofD, size_ofD]; omega), if_pos (by rw [size_ofD]; omega), ofD_zero, ofD_append]
      rfl
  exact l0 _ b hb rfl hl hle

theorem nums_snoc (q : List Nat) (d : Nat) : dnums (q ++ [d]) = dnums q ++ [((d + 48 : Nat) : Int)] := by simp [dnums]
theorem quo_inner (a b q : List Nat) (i : Int) (R : Nat) (hb : Dg b) (cb : Canon b) (nb : b.length ≤ 1000) (hq : q.length ≤ 100000) (hR : R < 10 * val b) (i0 : 0 ≤ i) (i1 : i ≤ 1000000) :
    ∀ (m k : Nat) (r : List Nat), k + m = 9 → Dg r → Canon r → r.length ≤ b.length + 1 → val r + k * val b = R →
    ∃ (d : Nat) (r' : List Nat), d ≤ 9 ∧ Dg r' ∧ Canon r' ∧ val r' < val b ∧ val r' + d * val b = R ∧
      ∀ P, Ev (fun n => idiomref03_quo.l0 n (ofD a) (ofD b) (dnums (q ++ [d])) (ofD r') (i + 1)) P → Ev (fun n => idiomref03_quo.l1 n (ofD a) (ofD b) (dnums q) (ofD r) i ((k + 48 : Nat) : Int)) P := by
  have stop : ∀ (k : Nat) (r : List Nat), k ≤ 9 → Dg r → Canon r → r.length ≤ b.length + 1 → val r + k * val b = R → val r < val b → ∃ (d : Nat) (r' : List Nat), d ≤ 9 ∧ Dg r' ∧ Canon r' ∧ val r' < val b ∧ val r' + d * val b = R ∧
      ∀ P, Ev (fun n => idiomref03_quo.l0 n (ofD a) (ofD b) (dnums (q ++ [d])) (ofD r') (i + 1)) P → Ev (fun n => idiomref03_quo.l1 n (ofD a) (ofD b) (dnums q) (ofD r) i ((k + 48 : Nat) : Int)) P := by
    intro k r hk hr cr nr e h
    refine ⟨k, r, hk, hr, cr, h, e, fun P hP => ?_⟩
    refine Ev.step (f := fun n => (idiomref03_cmp.f n (ofD r) (ofD b)).bind _) (fun n => by simp only [idiomref03_quo.l1]; rfl) ?_
    refine Ev.bind (cmp_ev r b hr hb (by omega) (by omega)) ?_
    rw [if_pos h]
    refine Ev.congr (fun n => ?_) hP
    rw [if_neg (by omega), if_pos (by simp [dnums]; omega), w64 (by omega) (by omega), nums_snoc]
  intro m
  induction m with
  | zero =>
    intro k r hk hr cr nr e
    have hk9 : k = 9 := by omega
    subst hk9
    exact stop 9 r (by omega) hr cr nr e (by omega)
  | succ m ih =>
    intro k r hk hr cr nr e
    by_cases h : val r < val b
    · exact stop k r (by omega) hr cr nr e h
    · obtain ⟨s, s1, s2, s3, s4, s5⟩ := sub_ev r b hr hb (by omega) (canon_length_le hr cb (by omega) cr.1) (by omega)
      have hb0 : b.length ≠ 0 := fun e => cb.1 (List.eq_nil_of_length_eq_zero e)
      obtain ⟨d, r', h1, h2, h3, h4, h5, h6⟩ := ih (k + 1) s (by omega) s1 s2 (by omega) (by rw [s3, Nat.add_mul]; omega)
      refine ⟨d, r', h1, h2, h3, h4, h5, fun P hP => ?_⟩
      refine Ev.step (f := fun n => (idiomref03_cmp.f n (ofD r) (ofD b)).bind _) (fun n => by simp only [idiomref03_quo.l1]; rfl) ?_
      refine Ev.bind (cmp_ev r b hr hb (by omega) (by omega)) ?_
      have hge : (if val r < val b then (-1 : Int) else if val r = val b then 0 else 1) ≥ 0 := by rw [if_neg h]; split <;> omega
      refine Ev.congr (fun n => if_pos hge) ?_
      refine Ev.bind s5 ?_
      refine Ev.congr (fun n => ?_) (h6 P hP)
      congr 1
      omega

theorem quo_loop (a b : List Nat) (ha : Dg a) (hb : Dg b) (cb : Canon b) (hbp : 0 < val b) (na : a.length ≤ 1000) (nb : b.length ≤ 1000) :
    ∀ (m i : Nat) (q r : List Nat), a.length - i = m → i ≤ a.length → Dg q → Dg r → Canon r → q.length = i → val r < val b → val q * val b + val r = val (a.take i) →
    ∃ Q R, Dg Q ∧ Canon Q ∧ Dg R ∧ Canon R ∧ val R < val b ∧ val Q * val b + val R = val a ∧ Q.length ≤ max 1 a.length ∧ Ev (fun n => idiomref03_quo.l0 n (ofD a) (ofD b) (dnums q) (ofD r) (i : Int)) (ofD Q, ofD R) := by
  intro m
  induction m with
  | zero =>
    intro i q r hm hi hq hr cr ql hlt hv
    have : i = a.length := by omega
    subst this
    rw [List.take_length] at hv
    refine ⟨lead q, r, hq.lead, canon_lead q, hr, cr, hlt, by rw [val_lead]; exact hv, by rw [← ql]; exact lead_length q, ?_⟩
    have hE := Ev.let (f := fun _ t => some (t, ofD r)) (lead_ev q hq (by omega)) (Ev.now _) (fun n => rfl)
    refine Ev.step (fun k => ?_) hE
    simp only [idiomref03_quo.l0]
    rw [if_neg (by rw [size_ofD]; omega)]
    simp only [dnums, strOfNums_ofD]
  | succ m ih =>
    intro i q r hm hi hq hr cr ql hlt hv
    have hia : i < a.length := by omega
    have hx := ha.get i
    have i0 : (0 : Int) ≤ i := Int.natCast_nonneg i
    have i1 : (i : Int) ≤ 1000000 := by clear hlt hv; omega
    have w1 : wrap64 ((i : Int) + 1) = (i : Int) + 1 := by clear hlt hv; exact w64 (by omega) (by omega)
    have s1 : ((i : Int) < ((ofD a).size : Int)) := by clear hlt hv; rw [size_ofD]; omega
    have s2 : (i : Int) + 1 ≤ ((ofD a).size : Int) := by clear hlt hv; rw [size_ofD]; omega
    have s4 : (i : Int) ≤ (i : Int) + 1 := by clear hlt hv; omega
    have rl : r.length ≤ b.length := canon_length_le hb cr (by omega) cb.1
    have e1 : (a.drop i).take 1 = [a.getD i 0] := by rw [getD_drop a i hia]; rfl
    have e2 : a.take (i + 1) = a.take i ++ [a.getD i 0] := by
      rw [List.take_succ_eq_append_getElem hia, List.getD_eq_getElem?_getD, List.getElem?_eq_getElem hia, Option.getD_some]
    generalize a.getD i 0 = x at *
    have s3 : (ofD r).size + (ofD [x]).size ≤ 9223372036854775807 := by clear hlt hv; rw [size_ofD, size_ofD, List.length_singleton]; omega
    have s6 : (r ++ [x]).length ≤ 1000000 := by clear hlt hv; rw [List.length_append, List.length_singleton]; omega
    have ex : (ofD a).extract (i : Int).toNat ((i : Int) + 1).toNat = ofD [x] := by
      clear hlt hv
      rw [ofD_extract, ← e1, Int.toNat_natCast, show ((i : Int) + 1).toNat - i = 1 by omega]
    have hr' : Dg (r ++ [x]) := hr.append (Dg.cons hx Dg.nil)
    have hval : val (r ++ [x]) = val r * 10 + x := val_snoc r x
    have ll := lead_length (r ++ [x])
    rw [List.length_append, List.length_singleton] at ll
    obtain ⟨d, r', h1, h2, h3, h4, h5, h6⟩ := quo_inner a b q i (val r * 10 + x) hb cb nb (by clear hlt hv; omega) (by clear hv; omega) i0 i1 9 0 (lead (r ++ [x])) (by omega) hr'.lead (canon_lead _) (by omega) (by rw [val_lead, hval]; omega)
    have key : val (q ++ [d]) * val b + val r' = val (a.take (i + 1)) := by
      have e3 : (val q * 10 + d) * val b = 10 * (val q * val b) + d * val b := by rw [Nat.add_mul, Nat.mul_comm (val q) 10, Nat.mul_assoc]
      rw [e2, val_snoc, val_snoc, e3]
      clear e3 e2 e1 ll hval h6
      generalize val q * val b = A at *
      generalize d * val b = B at *
      omega
    have l1 : a.length - (i + 1) = m := by clear hlt hv key h5 h4; omega
    have l3 : (q ++ [d]).length = i + 1 := by rw [List.length_append, List.length_singleton, ql]
    obtain ⟨Q, R, g1, g2, g3, g4, g5, g6, g8, g7⟩ := ih (i + 1) (q ++ [d]) r' l1 hia (hq.append (Dg.cons h1 Dg.nil)) h2 h3 l3 h4 key
    refine ⟨Q, R, g1, g2, g3, g4, g5, g6, g8, ?_⟩
    have g9 : Ev (fun n => idiomref03_quo.l0 n (ofD a) (ofD b) (dnums (q ++ [d])) (ofD r') ((i : Int) + 1)) (ofD Q, ofD R) := by
      rw [show ((i : Int) + 1) = ((i + 1 : Nat) : Int) from rfl]; exact g7
    have hE := Ev.bind (f := fun n t => idiomref03_quo.l1 n (ofD a) (ofD b) (dnums q) t i ((0 + 48 : Nat) : Int)) (lead_ev (r ++ [x]) hr' s6) (h6 _ g9)
    refine Ev.step (fun k => ?_) hE
    simp only [idiomref03_quo.l0]
    rw [w1, if_pos s1, if_pos i0, if_pos s4, if_pos s2, ex, if_pos s3, ofD_append]
    rfl

theorem quo_ev (a b : List Nat) (ha : Dg a) (hb : Dg b) (cb : Canon b) (hbp : 0 < val b) (na : a.length ≤ 1000) (nb : b.length ≤ 1000) :
    ∃ Q R, Dg Q ∧ Canon Q ∧ Dg R ∧ Canon R ∧ val Q = val a / val b ∧ val R = val a % val b ∧ Q.length ≤ max 1 a.length ∧ Ev (fun n => idiomref03_quo.f n (ofD a) (ofD b)) (ofD Q, ofD R) := by
  obtain ⟨Q, R, g1, g2, g3, g4, g5, g6, g8, g7⟩ := quo_loop a b ha hb cb hbp na nb a.length 0 [] [0] (by omega) (by omega) Dg.nil (Dg.cons (by omega) Dg.nil) ⟨by simp, .inl rfl⟩ rfl (by simpa [val] using hbp) (by simp [val])
  refine ⟨Q, R, g1, g2, g3, g4, ?_, ?_, g8, g7⟩
  · rw [← g6, Nat.add_comm, Nat.add_mul_div_right _ _ hbp, Nat.div_eq_of_lt g5, Nat.zero_add]
  · rw [← g6, Nat.add_comm, Nat.add_mul_mod_self_right, Nat.mod_eq_of_lt g5]

/-- Does one go away from 0? What is refused? -/
def upw (mode : Int) (neg : Bool) (q r u : Nat) : Bool × Int :=
  if r = 0 then (false, 0) else if mode = 1 then (true, 0) else if mode = 2 then (false, 0) else if mode = 3 then (!neg, 0) else if mode = 4 then (neg, 0)
  else if mode = 5 then (decide (u ≤ 2 * r), 0) else if mode = 6 then (decide (u < 2 * r), 0) else if mode = 7 then (decide (u < 2 * r) || (decide (u = 2 * r) && q % 2 == 1), 0) else (false, 31)
theorem val_odd (l : List Nat) (h : l ≠ []) : l.getD (l.length - 1) 0 % 2 = val l % 2 := by
  obtain ⟨m, d, rfl⟩ : ∃ m d, l = m ++ [d] := ⟨l.dropLast, l.getLast h, (List.dropLast_concat_getLast h).symm⟩
  rw [val_snoc]
  simp only [List.length_append, List.length_singleton, Nat.add_sub_cancel, List.getD_eq_getElem?_getD]
  simp
  omega
theorem away_ev (mode : Int) (neg : Bool) (q r u : List Nat) (hq : Dg q) (cq : Canon q) (nq : q.length ≤ 100000) (hr : Dg r) (cr : Canon r) (nr : r.length ≤ 10000) (hu : Dg u) (nu : u.length ≤ 10000) :
    Ev (fun n => idiomref03_away.f n mode neg (ofD q) (ofD r) (ofD u)) (upw mode neg (val q) (val r) (val u)) := by
  have hr0 : (ofD r).toList = ([48] : List UInt8) ↔ val r = 0 := by
    have : ([48] : List UInt8) = (ofD [0]).toList := by rw [toList_ofD]; rfl
    rw [this, toList_inj hr (Dg.cons (by omega) Dg.nil)]
    constructor
    · rintro rfl; rfl
    · exact canon_zero hr cr
  by_cases h0 : val r = 0
  · refine Ev.congr (fun n => ?_) (Ev.now _)
    simp only [idiomref03_away.f]
    rw [if_pos (hr0.2 h0)]
    simp [upw, h0]
  · obtain ⟨t, t1, t2, t3, t4, t5⟩ := add_ev r r hr hr (by omega) (by omega)
    refine Ev.congr (g := fun n => idiomref03_away.f n mode neg (ofD q) (ofD r) (ofD u)) (fun n => by simp only [idiomref03_away.f]; rw [if_neg (fun e => h0 (hr0.1 e))]) ?_
    refine Ev.bind t5 ?_
    refine Ev.bind (cmp_ev t u t1 hu (by omega) (by omega)) ?_
    refine Ev.congr (fun n => ?_) (Ev.now _)
    have ql : q.length ≠ 0 := fun e => cq.1 (List.eq_nil_of_length_eq_zero e)
    have w1 : wrap64 (((ofD q).size : Int) - 1) = (q.length : Int) - 1 := by rw [size_ofD]; exact w64 (by omega) (by omega)
    rw [w1, if_pos (by omega), if_pos (by rw [size_ofD]; omega), bt_ofD hq (by omega) (by omega)]
    have e1 : ((q.length : Int) - 1).toNat = q.length - 1 := by omega
    have odd : ((((((q.getD (q.length - 1) 0 + 48 : Nat) : Int) - 48) % 256) % 2) == 1) = (val q % 2 == 1) := by
      have a := hq.get (q.length - 1)
      have b := val_odd q cq.1
      rw [digit_of _ a, Bool.eq_iff_iff]
      simp only [beq_iff_eq]
      omega
    rw [e1, odd]
    have e3 : val t = 2 * val r := by omega
    rw [e3]
    unfold upw
    rw [if_neg h0]
    have c1 : ((if 2 * val r < val u then (-1 : Int) else if 2 * val r = val u then 0 else 1) ≥ 0) ↔ val u ≤ 2 * val r := by split <;> (try split) <;> omega
    have c2 : ((if 2 * val r < val u then (-1 : Int) else if 2 * val r = val u then 0 else 1) > 0) ↔ val u < 2 * val r := by split <;> (try split) <;> omega
    have c3 : ((if 2 * val r < val u then (-1 : Int) else if 2 * val r = val u then 0 else 1) = 0) ↔ val u = 2 * val r := by split <;> (try split) <;> omega
    generalize (if 2 * val r < val u then (-1 : Int) else if 2 * val r = val u then 0 else 1) = c at *
    by_cases m1 : mode = 1
    · rw [if_pos m1, if_pos m1]
    rw [if_neg m1, if_neg m1]
    by_cases m2 : mode = 2
    · rw [if_pos m2, if_pos m2]
    rw [if_neg m2, if_neg m2]
    by_cases m3 : mode = 3
    · rw [if_pos m3, if_pos m3]
    rw [if_neg m3, if_neg m3]
    by_cases m4 : mode = 4
    · rw [if_pos m4, if_pos m4]
    rw [if_neg m4, if_neg m4]
    by_cases m5 : mode = 5
    · rw [if_pos m5, if_pos m5, decide_eq_decide.2 c1]
    rw [if_neg m5, if_neg m5]
    by_cases m6 : mode = 6
    · rw [if_pos m6, if_pos m6, decide_eq_decide.2 c2]
    rw [if_neg m6, if_neg m6]
    by_cases m7 : mode = 7
    · rw [if_pos m7, if_pos m7]
      by_cases h1 : val u < 2 * val r
      · rw [if_pos (c2.2 h1)]; simp [h1]
      · rw [if_neg (fun h => h1 (c2.1 h))]
        by_cases h2 : val u = 2 * val r
        · rw [if_pos (c3.2 h2)]; simp [h2]
        · rw [if_neg (fun h => h2 (c3.1 h))]; simp [h1, h2]
    rw [if_neg m7, if_neg m7]

theorem turned_ev (mode : Int) (neg : Bool) (s u : List Nat) (hs : Dg s) (hu : Dg u) (cu : Canon u) (up0 : 0 < val u) (ns : s.length ≤ 1000) (nu : u.length ≤ 1000) :
    ∃ q, Dg q ∧ Canon q ∧ val q = val s / val u + (if (upw mode neg (val s / val u) (val s % val u) (val u)).1 = true then 1 else 0) ∧ q.length ≤ s.length + 2 ∧
      Ev (fun n => idiomref03_turned.f n mode neg (ofD s) (ofD u)) (ofD q, (upw mode neg (val s / val u) (val s % val u) (val u)).2) := by
  obtain ⟨Q, R, g1, g2, g3, g4, g5, g6, g8, g7⟩ := quo_ev s u hs hu cu up0 ns nu
  have hR : R.length ≤ u.length := canon_length_le hu g4 (by rw [g6]; exact Nat.le_of_lt (Nat.mod_lt _ up0)) cu.1
  have aw := away_ev mode neg Q R u g1 g2 (by omega) g3 g4 (by omega) hu (by omega)
  rw [g5, g6] at aw
  generalize upw mode neg (val s / val u) (val s % val u) (val u) = x at *
  by_cases hx : x.1 = true
  · obtain ⟨t, t1, t2, t3, t4, t5⟩ := add_ev Q [1] g1 (Dg.cons (by omega) Dg.nil) (by omega) (by simp)
    refine ⟨t, t1, t2, by rw [t3, g5, if_pos hx]; simp [val], by simp at t4; omega, ?_⟩
    refine Ev.bind g7 (Ev.bind aw ?_)
    refine Ev.congr (fun n => if_pos hx) ?_
    exact Ev.bind t5 (Ev.now _)
  · refine ⟨Q, g1, g2, by rw [g5, if_neg hx]; rfl, by omega, ?_⟩
    refine Ev.bind g7 (Ev.bind aw ?_)
    exact Ev.congr (fun n => if_neg hx) (Ev.now _)

def pad (p : Nat) (l : List Nat) : List Nat := List.replicate (p + 1 - l.length) 0 ++ l
def iOf (p : Nat) (l : List Nat) : List Nat := lead ((pad p l).take ((pad p l).length - p))
def fOf (p : Nat) (l : List Nat) : List Nat := (pad p l).drop ((pad p l).length - p)
theorem pad_length (p : Nat) (l : List Nat) : (pad p l).length = max (p + 1) l.length := by simp [pad]; omega
theorem dg_pad {l : List Nat} (h : Dg l) (p : Nat) : Dg (pad p l) := (Dg.zeros _).append h
theorem val_pad (p : Nat) (l : List Nat) : val (pad p l) = val l := val_zeros_append _ _
theorem pad_of_lt {p : Nat} {l : List Nat} (h : p < l.length) : pad p l = l := by
  rw [pad, show p + 1 - l.length = 0 by omega]; rfl
theorem pad_cons {p : Nat} {l : List Nat} (h : l.length ≤ p) : pad p (0 :: l) = pad p l := by
  simp only [pad, List.length_cons]
  rw [show p + 1 - l.length = (p + 1 - (l.length + 1)) + 1 by omega, List.replicate_succ']
  simp
theorem fOf_length (p : Nat) (l : List Nat) : (fOf p l).length = p := by simp [fOf, pad_length]; omega
theorem dg_fOf {l : List Nat} (h : Dg l) (p : Nat) : Dg (fOf p l) := (dg_pad h p).drop _
theorem dg_iOf {l : List Nat} (h : Dg l) (p : Nat) : Dg (iOf p l) := ((dg_pad h p).take _).lead
theorem val_fOf {l : List Nat} (h : Dg l) (p : Nat) : val (fOf p l) = val l % 10 ^ p := by
  have e : (pad p l).length - ((pad p l).length - p) = p := by rw [pad_length]; omega
  rw [fOf, val_drop (dg_pad h p), val_pad, e]
theorem val_iOf {l : List Nat} (h : Dg l) (p : Nat) : val (iOf p l) = val l / 10 ^ p := by
  have e : (pad p l).length - ((pad p l).length - p) = p := by rw [pad_length]; omega
  rw [iOf, val_lead, val_take (dg_pad h p), val_pad, e]
/-- Whole part and places are told by the worth alone. -/
theorem parts_eq {l m : List Nat} (hl : Dg l) (hm : Dg m) (h : val l = val m) (p : Nat) : iOf p l = iOf p m ∧ fOf p l = fOf p m :=
  ⟨canon_unique (dg_iOf hl p) (dg_iOf hm p) (canon_lead _) (canon_lead _) (by rw [val_iOf hl, val_iOf hm, h]), eq_of_val (dg_fOf hl p) (dg_fOf hm p) (by rw [fOf_length, fOf_length]) (by rw [val_fOf hl, val_fOf hm, h])⟩

theorem made_ev (neg : Bool) (s : List Nat) (p : Nat) (hs : Dg s) (ns : s.length ≤ 10000) (np : p ≤ 10000) :
    Ev (fun n => idiomref03_Made.f n neg (ofD s) (p : Int)) (neg && decide (val s ≠ 0), ofD (iOf p s), ofD (fOf p s)) := by
  have base : ∀ s : List Nat, Dg s → s.length ≤ 10001 → p < s.length → Ev (fun n => idiomref03_Made.l0 n neg (ofD s) (p : Int)) (neg && decide (val s ≠ 0), ofD (iOf p s), ofD (fOf p s)) := by
    intro s hs ns h
    have w1 : wrap64 (((ofD s).size : Int) - p) = ((s.length - p : Nat) : Int) := by rw [size_ofD, w64 (by omega) (by omega)]; omega
    have hI : (ofD s).extract 0 (s.length - p) = ofD (s.take (s.length - p)) := by rw [ofD_extract]; simp
    have hF : (ofD s).extract (s.length - p) s.length = ofD (s.drop (s.length - p)) := by
      rw [ofD_extract, List.take_of_length_le (by simp)]
    have eI : iOf p s = lead (s.take (s.length - p)) := by simp only [iOf, pad_of_lt h]
    have eF : fOf p s = s.drop (s.length - p) := by simp only [fOf, pad_of_lt h]
    have lI := lead_length (s.take (s.length - p))
    rw [List.length_take] at lI
    refine Ev.step (f := fun n => (idiomref03_Lead.f n (ofD (s.take (s.length - p)))).bind fun t => if neg = true then (if t.size + (ofD (s.drop (s.length - p))).size ≤ 9223372036854775807 then ((idiomref03_Lead.f n (t ++ ofD (s.drop (s.length - p)))).bind fun t190 => some ((t190.toList != ([48] : List UInt8)), t, ofD (s.drop (s.length - p)))) else none) else some (false, t, ofD (s.drop (s.length - p)))) (fun n => ?_) ?_
    · simp only [idiomref03_Made.l0]
      rw [if_neg (by rw [size_ofD]; omega), w1, if_pos (by omega), if_pos (by rw [size_ofD]; omega), Int.toNat_natCast, size_ofD, hI, hF]
    · refine Ev.bind (lead_ev _ (hs.take _) (by simp; omega)) ?_
      rw [← eI, ← eF]
      cases neg with
      | false => exact Ev.congr (fun n => by simp) (Ev.now _)
      | true =>
        have hv : val (iOf p s ++ fOf p s) = val s := by
          rw [val_append, fOf_length, val_iOf hs, val_fOf hs]
          have := Nat.div_add_mod (val s) (10 ^ p)
          rw [Nat.mul_comm] at this
          exact this
        have hd : Dg (iOf p s ++ fOf p s) := (dg_iOf hs p).append (dg_fOf hs p)
        refine Ev.congr (fun n => by rw [if_pos rfl, if_pos (by rw [size_ofD, size_ofD, fOf_length, eI]; omega), ofD_append]) ?_
        refine Ev.let (f := fun _ t190 => some ((t190.toList != ([48] : List UInt8)), ofD (iOf p s), ofD (fOf p s))) (lead_ev _ hd (by rw [List.length_append, fOf_length, eI]; omega)) ?_ (fun n => rfl)
        have e : ((ofD (lead (iOf p s ++ fOf p s))).toList != ([48] : List UInt8)) = (true && decide (val s ≠ 0)) := by
          have : ([48] : List UInt8) = (ofD [0]).toList := by rw [toList_ofD]; rfl
          rw [this, Bool.eq_iff_iff, bne_iff_ne, Ne, toList_inj hd.lead (Dg.cons (by omega) Dg.nil)]
          simp only [Bool.true_and, decide_eq_true_eq, Ne]
          constructor
          · intro h1 h2
            exact h1 (canon_zero hd.lead (canon_lead _) (by rw [val_lead, hv, h2]))
          · intro h1 h2
            apply h1
            rw [← hv, ← val_lead, h2]; rfl
        rw [e]
        exact Ev.now _
  have go : ∀ (m : Nat) (s : List Nat), p + 1 - s.length = m → Dg s → s.length ≤ 10001 → Ev (fun n => idiomref03_Made.l0 n neg (ofD s) (p : Int)) (neg && decide (val s ≠ 0), ofD (iOf p s), ofD (fOf p s)) := by
    intro m
    induction m with
    | zero => intro s hm hs ns; exact base s hs ns (by omega)
    | succ m ih =>
      intro s hm hs ns
      have := ih (0 :: s) (by simp; omega) (Dg.cons (by omega) hs) (by simp; omega)
      have e0 : val (0 :: s) = val s := by simp [val]
      have e1 : pad p (0 :: s) = pad p s := pad_cons (by omega)
      rw [e0, iOf, fOf, e1] at this
      refine Ev.step (fun n => ?_) this
      simp only [idiomref03_Made.l0]
      rw [if_pos (by rw [size_ofD]; omega), if_pos (by rw [size_ofD]; omega), ofD_zero, ofD_append]
      rfl
  exact go _ s rfl hs (by omega)
end Go.Proofs.YtpmhebdaphjinaaDoor.RoundRef
set_option linter.unusedVariables false
set_option linter.unusedSimpArgs false
namespace Go.Proofs.YtpmhebdaphjinaaDoor.RoundProg
open Go.RowKit Go.Proofs.YtpmhebdaphjinaaDoorW.PrintWords Go.Proofs.YtpmhebdaphjinaaDoorW.PrintLast Go.Proofs.YtpmhebdaphjinaaDoor.F Go.Proofs.YtpmhebdaphjinaaDoor.Dig Go.Proofs.YtpmhebdaphjinaaDoor.RoundRef

def AllD (s : ByteArray) : Prop := ∀ i : Nat, i < s.size → 48 ≤ bt s i ∧ bt s i ≤ 57
theorem allD_ofD {l : List Nat} (h : Dg l) : AllD (ofD l) := fun i hi => by
  rw [size_ofD] at hi
  rw [bt_ofD h (by omega) (by omega)]
  have := h.get (i : Int).toNat
  omega
theorem all_yes (s : ByteArray) (hs : s.size ≤ 1000000) (h : AllD s) : Ev (fun k => decimal_all.f k s) true := by
  have go : ∀ (m i : Nat), s.size - i = m → Ev (fun k => decimal_all.l0 k s (s.size : Int) (i : Int)) true := by
    intro m
    induction m with
    | zero =>
      intro i hi
      refine Ev.some fun k => ?_
      simp only [decimal_all.l0]
      rw [if_neg (by omega)]
    | succ m ih =>
      intro i hi
      obtain ⟨a, b⟩ := h i (by omega)
      refine Ev.step (fun k => ?_) (ih (i + 1) (by omega))
      simp only [decimal_all.l0]
      rw [if_pos (by omega), if_pos (by omega), if_pos (by omega), if_neg (by omega), if_neg (by omega), w64 (by omega) (by omega)]
      rfl
  exact go _ 0 rfl
theorem all_no (s : ByteArray) (hs : s.size ≤ 1000000) (h : ¬ AllD s) : Ev (fun k => decimal_all.f k s) false := by
  have go : ∀ (m i : Nat), s.size - i = m → (∃ j, i ≤ j ∧ j < s.size ∧ ¬ (48 ≤ bt s j ∧ bt s j ≤ 57)) → Ev (fun k => decimal_all.l0 k s (s.size : Int) (i : Int)) false := by
    intro m
    induction m with
    | zero => rintro i hi ⟨j, h1, h2, _⟩; omega
    | succ m ih =>
      rintro i hi ⟨j, h1, h2, h3⟩
      by_cases hd : 48 ≤ bt s i ∧ bt s i ≤ 57
      · have hj : i ≠ j := fun e => h3 (e ▸ hd)
        refine Ev.step (fun k => ?_) (ih (i + 1) (by omega) ⟨j, by omega, h2, h3⟩)
        simp only [decimal_all.l0]
        rw [if_pos (by omega), if_pos (by omega), if_pos (by omega), if_neg (by omega), if_neg (by omega), w64 (by omega) (by omega)]
        rfl
      · refine Ev.some fun k => ?_
        simp only [decimal_all.l0]
        rw [if_pos (by omega), if_pos (by omega), if_pos (by omega)]
        by_cases h4 : bt s i < 48
        · rw [if_pos h4]
        · rw [if_neg h4, if_pos (by omega)]
  refine go _ 0 rfl ?_
  apply Classical.byContradiction
  intro hn
  exact h fun i hi => Classical.byContradiction fun hh => hn ⟨i, Nat.zero_le _, hi, hh⟩
theorem digits_yes (s : ByteArray) (hs : s.size ≤ 1000000) (h : AllD s) : Ev (fun k => idiomref02_Digits.f k s) true := by
  have go : ∀ (m i : Nat), s.size - i = m → Ev (fun k => idiomref02_Digits.l0 k s (i : Int)) true := by
    intro m
    induction m with
    | zero =>
      intro i hi
      refine Ev.some fun k => ?_
      simp only [idiomref02_Digits.l0]
      rw [if_neg (by omega)]
    | succ m ih =>
      intro i hi
      obtain ⟨a, b⟩ := h i (by omega)
      refine Ev.step (fun k => ?_) (ih (i + 1) (by omega))
      simp only [idiomref02_Digits.l0, idiomref02_Digit.f]
      rw [if_pos (by omega), if_pos (by omega), if_pos (by omega), w64 (by omega) (by omega)]
      simp [b]
  exact go _ 0 rfl
theorem digits_no (s : ByteArray) (hs : s.size ≤ 1000000) (h : ¬ AllD s) : Ev (fun k => idiomref02_Digits.f k s) false := by
  have go : ∀ (m i : Nat), s.size - i = m → (∃ j, i ≤ j ∧ j < s.size ∧ ¬ (48 ≤ bt s j ∧ bt s j ≤ 57)) → Ev (fun k => idiomref02_Digits.l0 k s (i : Int)) false := by
    intro m
    induction m with
    | zero => rintro i hi ⟨j, h1, h2, _⟩; omega
    | succ m ih =>
      rintro i hi ⟨j, h1, h2, h3⟩
      by_cases hd : 48 ≤ bt s i ∧ bt s i ≤ 57
      · have hj : i ≠ j := fun e => h3 (e ▸ hd)
        refine Ev.step (fun k => ?_) (ih (i + 1) (by omega) ⟨j, by omega, h2, h3⟩)
        simp only [idiomref02_Digits.l0, idiomref02_Digit.f]
        rw [if_pos (by omega), if_pos (by omega), if_pos (by omega), w64 (by omega) (by omega)]
        simp [hd.2]
      · refine Ev.some fun k => ?_
        simp only [idiomref02_Digits.l0, idiomref02_Digit.f]
        rw [if_pos (by omega), if_pos (by omega)]
        by_cases h4 : bt s i ≥ 48
        · rw [if_pos h4]
          have h5 : ¬ bt s i ≤ 57 := by omega
          simp [h5]
        · rw [if_neg h4]; simp
  refine go _ 0 rfl ?_
  apply Classical.byContradiction
  intro hn
  exact h fun i hi => Classical.byContradiction fun hh => hn ⟨i, Nat.zero_le _, hi, hh⟩
theorem noughts_of (l : List Nat) (hl : Dg l) (hs : l.length ≤ 1000000) : Ev (fun k => idiomref02_noughts.f k (ofD l)) (decide (val l = 0)) := by
  have go : ∀ (m i : Nat), l.length - i = m → Ev (fun k => idiomref02_noughts.l0 k (ofD l) (i : Int)) (decide (val (l.drop i) = 0)) := by
    intro m
    induction m with
    | zero =>
      intro i hi
      rw [List.drop_eq_nil_of_le (by omega)]
      refine Ev.some fun k => ?_
      simp only [idiomref02_noughts.l0]
      rw [if_neg (by rw [size_ofD]; omega)]
      simp [val]
    | succ m ih =>
      intro i hi
      have e := getD_drop l i (by omega)
      have hx := hl.get i
      generalize hxe : l.getD i 0 = x at *
      by_cases h0 : x = 0
      · have ez : (val (l.drop i) = 0) = (val (l.drop (i + 1)) = 0) := by rw [e, h0]; simp [val]
        simp only [ez]
        refine Ev.step (fun k => ?_) (ih (i + 1) (by omega))
        simp only [idiomref02_noughts.l0]
        rw [if_pos (by rw [size_ofD]; omega), if_pos (by omega), bt_ofD hl (by omega) (by omega), Int.toNat_natCast, hxe, h0, if_pos (by omega), w64 (by omega) (by omega)]
        rfl
      · have ez : ¬ val (l.drop i) = 0 := by
          rw [e, val_eq_zero]
          intro hh
          exact h0 (hh x (by simp))
        refine Ev.some fun k => ?_
        simp only [idiomref02_noughts.l0]
        rw [if_pos (by rw [size_ofD]; omega), if_pos (by omega), bt_ofD hl (by omega) (by omega), Int.toNat_natCast, hxe, if_neg (by omega)]
        simp [ez]
  exact go _ 0 rfl

def Ok (neg : Bool) (I F : ByteArray) : Prop := ∃ li lf, Dg li ∧ Dg lf ∧ I = ofD li ∧ F = ofD lf ∧ Canon li ∧ li.length + lf.length ≤ 40 ∧ (neg = true → val li ≠ 0 ∨ val lf ≠ 0)
theorem trim_f (l : List Nat) (h : Dg l) (hs : l.length ≤ 1000000) : strings_Trim.f (ofD l) (⟨#[48]⟩ : ByteArray) = some (ofD (tt l)) := by
  unfold strings_Trim.f
  rw [if_pos ⟨rfl, by decide, by rw [size_ofD]; omega⟩]
  exact congrArg some (trim_ofD h)
theorem trimLeft_f (l : List Nat) (h : Dg l) (hs : l.length ≤ 1000000) : strings_TrimLeft.f (ofD l) (⟨#[48]⟩ : ByteArray) = some (ofD (tl l)) := by
  unfold strings_TrimLeft.f
  rw [if_pos ⟨rfl, by decide, by rw [size_ofD]; omega⟩]
  exact congrArg some (trimLeft_ofD h)
theorem repeat_f (n : Int) (h0 : 0 ≤ n) (h1 : n ≤ 1000000) : strings_Repeat.f (⟨#[48]⟩ : ByteArray) n = some (ofD (List.replicate n.toNat 0)) := by
  unfold strings_Repeat.f
  have e : (⟨#[48]⟩ : ByteArray).size = 1 := rfl
  rw [if_pos ⟨h0, by omega, by rw [e]; omega⟩]
  exact congrArg some (repeat_ofD _)
theorem toList_empty (s : ByteArray) : s.toList = [] ↔ s.size = 0 := by
  rw [ByteArray.toList_eq]
  obtain ⟨⟨l⟩⟩ := s
  simp [ByteArray.size]
theorem ok_sizes {neg : Bool} {I F : ByteArray} (h : Ok neg I F) : I.size ≠ 0 ∧ I.size + F.size ≤ 40 ∧ AllD I ∧ AllD F := by
  obtain ⟨li, lf, h1, h2, rfl, rfl, h3, h4, h5⟩ := h
  refine ⟨?_, by rw [size_ofD, size_ofD]; exact h4, allD_ofD h1, allD_ofD h2⟩
  rw [size_ofD]
  exact fun e => h3.1 (List.eq_nil_of_length_eq_zero e)
/-- Both checks say the same; where they say 'well', it is a decimal. -/
theorem check (neg : Bool) (I F : ByteArray) : ∃ c : Int, Ev (fun k => decimal_Check.f k neg I F) c ∧ Ev (fun k => idiomref02_Check.f k neg I F) c ∧ (c = 0 ∨ c = 20) ∧ (c = 0 ↔ Ok neg I F) := by
  have refBad : ∀ x : Bool, x = true → Ev (fun k => idiomref02_Check.j0 k x neg I F) 20 := fun x hx => Ev.some fun k => by simp only [idiomref02_Check.j0]; rw [if_pos hx]
  by_cases hI : I.size > 40
  · refine ⟨20, Ev.congr (fun k => ?_) (Ev.now _), Ev.congr (fun k => ?_) (refBad true rfl), .inr rfl, by simp; intro h; have := ok_sizes h; omega⟩
    · simp only [decimal_Check.f]; rw [if_pos (by omega)]
    · simp only [idiomref02_Check.f]; rw [if_neg (by omega), if_pos (by omega)]
  by_cases hF : F.size > 40 - I.size
  · refine ⟨20, Ev.congr (fun k => ?_) (Ev.now _), ?_, .inr rfl, by simp; intro h; have := ok_sizes h; omega⟩
    · simp only [decimal_Check.f]; rw [if_neg (by omega), w64 (by omega) (by omega), if_pos (by omega)]
    · by_cases h1 : I.size < 1
      · exact Ev.congr (fun k => by simp only [idiomref02_Check.f]; rw [if_pos (by omega)]) (refBad true rfl)
      · by_cases h2 : F.size > 40
        · exact Ev.congr (fun k => by simp only [idiomref02_Check.f]; rw [if_neg (by omega), if_neg (by omega), if_pos (by omega)]) (refBad true rfl)
        · exact Ev.congr (fun k => by simp only [idiomref02_Check.f]; rw [if_neg (by omega), if_neg (by omega), if_neg (by omega), w64 (by omega) (by omega)]) (refBad _ (by simp; omega))
  -- the program's form, then
  have prog : ∀ b : Bool, Ev (fun k => decimal_form.f k neg I F) b → Ev (fun k => decimal_Check.f k neg I F) (if b = true then 0 else 20) := fun b hb => by
    refine Ev.congr (g := fun k => decimal_Check.f k neg I F) (fun k => by simp only [decimal_Check.f]; rw [if_neg (by omega), w64 (by omega) (by omega), if_neg (by omega)]) ?_
    refine Ev.bind hb ?_
    cases b <;> exact Ev.now _
  have formBad : ∀ x : Bool, x = true → Ev (fun k => decimal_form.j0 k x neg I F) false := fun x hx => Ev.some fun k => by simp only [decimal_form.j0]; rw [if_pos hx]
  by_cases h0 : I.size = 0
  · refine ⟨20, prog false ?_, Ev.congr (fun k => ?_) (refBad true rfl), .inr rfl, by simp; intro h; have := ok_sizes h; omega⟩
    · exact Ev.congr (fun k => by simp only [decimal_form.f]; rw [if_pos ((toList_empty I).2 h0)]) (formBad true rfl)
    · simp only [idiomref02_Check.f]; rw [if_pos (by omega)]
  have hne : ¬ I.toList = [] := fun e => h0 ((toList_empty I).1 e)
  have ref : ∀ c : Int, Ev (fun k => idiomref02_Check.j0 k false neg I F) c → Ev (fun k => idiomref02_Check.f k neg I F) c := fun c hc => by
    refine Ev.congr (fun k => ?_) hc
    simp only [idiomref02_Check.f]
    rw [if_neg (by omega), if_neg (by omega), if_neg (by omega), w64 (by omega) (by omega), decide_eq_false (by omega)]
  by_cases dI : AllD I
  rotate_left
  · refine ⟨20, prog false ?_, ref 20 ?_, .inr rfl, by simp; intro h; exact dI (ok_sizes h).2.2.1⟩
    · refine Ev.congr (g := fun k => decimal_form.f k neg I F) (fun k => by simp only [decimal_form.f]; rw [if_neg hne]) ?_
      exact Ev.bind (all_no I (by omega) dI) (formBad true rfl)
    · refine Ev.step (g := fun k => idiomref02_Check.j0 k false neg I F) (fun k => by simp only [idiomref02_Check.j0]; rw [if_neg (by decide)]) ?_
      exact Ev.bind (digits_no I (by omega) dI) (Ev.now _)
  by_cases dF : AllD F
  rotate_left
  · refine ⟨20, prog false ?_, ref 20 ?_, .inr rfl, by simp; intro h; exact dF (ok_sizes h).2.2.2⟩
    · refine Ev.congr (g := fun k => decimal_form.f k neg I F) (fun k => by simp only [decimal_form.f]; rw [if_neg hne]) ?_
      exact Ev.bind (all_yes I (by omega) dI) (Ev.bind (all_no F (by omega) dF) (formBad true rfl))
    · refine Ev.step (g := fun k => idiomref02_Check.j0 k false neg I F) (fun k => by simp only [idiomref02_Check.j0]; rw [if_neg (by decide)]) ?_
      exact Ev.bind (digits_yes I (by omega) dI) (Ev.bind (digits_no F (by omega) dF) (Ev.now _))
  obtain ⟨li, di, rfl⟩ := of_bytes I dI
  obtain ⟨lf, df, rfl⟩ := of_bytes F dF
  rw [size_ofD] at hI hF h0
  rw [size_ofD] at hF
  have b0 : bt (ofD li) 0 = ((li.getD 0 0 + 48 : Nat) : Int) := bt_ofD di (by omega) (by omega)
  have form : ∀ (b x : Bool), x = decide (li.getD 0 0 = 0 ∧ 1 < li.length) → Ev (fun k => decimal_form.j0 k x neg (ofD li) (ofD lf)) b → Ev (fun k => decimal_form.f k neg (ofD li) (ofD lf)) b := fun b x hx hb => by
    refine Ev.congr (g := fun k => decimal_form.f k neg (ofD li) (ofD lf)) (fun k => by simp only [decimal_form.f]; rw [if_neg hne]) ?_
    refine Ev.bind (all_yes _ (by rw [size_ofD]; omega) dI) (Ev.bind (all_yes _ (by rw [size_ofD]; omega) dF) ?_)
    by_cases h1 : 1 < li.length
    · have e : ((bt (ofD li) 0) == 48) = x := by
        rw [b0, hx, Bool.eq_iff_iff]; simp [h1]; omega
      exact Ev.congr (fun k => by rw [if_pos rfl, if_pos (by rw [size_ofD]; omega), if_pos (by rw [size_ofD]; omega), e]) hb
    · have e : x = false := by rw [hx]; simp [h1]
      subst e
      exact Ev.congr (fun k => by rw [if_pos rfl, if_neg (by rw [size_ofD]; omega)]) hb
  have ref2 : ∀ c : Int, Ev (fun k => if 0 < ((ofD li).size : Int) then (if (bt (ofD li) 0) = 48 then (if ((ofD li).size : Int) > 1 then (some (20 : Int)) else (if neg = true then ((idiomref02_Nought.f k neg (ofD li) (ofD lf)).bind fun t147 => (if t147 = true then (some 20) else (some 0))) else (some 0))) else (if neg = true then ((idiomref02_Nought.f k neg (ofD li) (ofD lf)).bind fun t148 => (if t148 = true then (some 20) else (some 0))) else (some 0))) else (none)) c → Ev (fun k => idiomref02_Check.f k neg (ofD li) (ofD lf)) c := fun c hc => by
    refine ref c (Ev.step (g := fun k => idiomref02_Check.j0 k false neg (ofD li) (ofD lf)) (fun k => by simp only [idiomref02_Check.j0]; rw [if_neg (by decide)]) ?_)
    exact Ev.bind (digits_yes _ (by rw [size_ofD]; omega) dI) (Ev.bind (digits_yes _ (by rw [size_ofD]; omega) dF) hc)
  by_cases hz : li.getD 0 0 = 0 ∧ 1 < li.length
  · refine ⟨20, prog false (form false true (decide_eq_true hz).symm (formBad true rfl)), ref2 20 (Ev.congr (fun k => ?_) (Ev.now _)), .inr rfl, ?_⟩
    · rw [if_pos (by rw [size_ofD]; omega), b0, if_pos (by omega), if_pos (by rw [size_ofD]; omega)]
    · simp only [show ¬ (20 : Int) = 0 by omega, false_iff]
      rintro ⟨mi, mf, h1, h2, h3, h4, h5, h6, h7⟩
      have := ofD_inj di h1 h3
      subst this
      rcases h5.2 with h8 | h8
      · omega
      · exact h8 hz.1
  have cI : Canon li := ⟨fun e => h0 (by rw [e]; rfl), by
    by_cases h1 : li.length = 1
    · exact .inl h1
    · exact .inr fun e => hz ⟨e, by omega⟩⟩
  have okIff : Ok neg (ofD li) (ofD lf) ↔ (neg = true → val li ≠ 0 ∨ val lf ≠ 0) := by
    constructor
    · rintro ⟨mi, mf, h1, h2, h3, h4, h5, h6, h7⟩
      have e1 := ofD_inj di h1 h3
      have e2 := ofD_inj df h2 h4
      subst e1 e2
      exact h7
    · intro h
      exact ⟨li, lf, di, df, rfl, rfl, cI, by omega, h⟩
  have n1 := noughts_of li di (by omega)
  have n2 := noughts_of lf df (by omega)
  have tI := trim_f li di (by omega)
  have tF := trim_f lf df (by omega)
  have nought : Ev (fun k => idiomref02_Nought.f k neg (ofD li) (ofD lf)) (decide (val li = 0 ∧ val lf = 0)) := by
    refine Ev.bind n1 ?_
    by_cases h1 : val li = 0
    · refine Ev.congr (fun k => if_pos (by simp [h1])) ?_
      simp only [h1, true_and]
      exact Ev.bind n2 (Ev.now _)
    · refine Ev.congr (fun k => if_neg (by simp [h1])) ?_
      simp only [h1, false_and, decide_false]
      exact Ev.now _
  have fz : (decide (li.getD 0 0 = 0 ∧ 1 < li.length)) = false := decide_eq_false hz
  cases neg with
  | false =>
    refine ⟨0, ?_, ?_, .inl rfl, by simp [okIff]⟩
    · have := prog true (form true false fz.symm (Ev.some fun k => by simp only [decimal_form.j0]; rw [if_neg (by decide), if_neg (by decide)]))
      simpa using this
    · refine ref2 0 (Ev.congr (fun k => ?_) (Ev.now _))
      rw [if_pos (by rw [size_ofD]; omega)]
      by_cases h1 : bt (ofD li) 0 = 48
      · have : ¬ 1 < li.length := fun h => hz ⟨by omega, h⟩
        rw [if_pos h1, if_neg (by rw [size_ofD]; omega), if_neg (by decide)]
      · rw [if_neg h1, if_neg (by decide)]
  | true =>
    by_cases hv : val li = 0 ∧ val lf = 0
    · have e1 : (ofD (tt li)).toList = [] := toList_nil.2 (tt_nil.2 hv.1)
      have e2 : (ofD (tt lf)).toList = [] := toList_nil.2 (tt_nil.2 hv.2)
      refine ⟨20, ?_, ?_, .inr rfl, by simp [okIff, hv]⟩
      · have := prog false (form false false fz.symm (Ev.some fun k => by simp only [decimal_form.j0]; rw [if_neg (by decide), if_pos trivial, tI, Option.bind_some, if_pos e1, tF, Option.bind_some, e2]; rfl))
        simpa using this
      · refine ref2 20 ?_
        rw [show decide (val li = 0 ∧ val lf = 0) = true from decide_eq_true hv] at nought
        by_cases h1 : bt (ofD li) 0 = 48
        · have : ¬ 1 < li.length := fun h => hz ⟨by omega, h⟩
          exact Ev.congr (fun k => by rw [if_pos (by rw [size_ofD]; omega), if_pos h1, if_neg (by rw [size_ofD]; omega), if_pos rfl]) (Ev.bind nought (Ev.now _))
        · exact Ev.congr (fun k => by rw [if_pos (by rw [size_ofD]; omega), if_neg h1, if_pos rfl]) (Ev.bind nought (Ev.now _))
    · refine ⟨0, ?_, ?_, .inl rfl, by simp [okIff]; omega⟩
      · have hb : Ev (fun k => decimal_form.j0 k false true (ofD li) (ofD lf)) true := by
          refine Ev.some fun k => ?_
          simp only [decimal_form.j0]
          rw [if_neg (by decide), if_pos trivial, tI, Option.bind_some]
          by_cases h1 : val li = 0
          · have e1 : (ofD (tt li)).toList = [] := toList_nil.2 (tt_nil.2 h1)
            have e2 : (ofD (tt lf)).toList ≠ [] := fun e => hv ⟨h1, tt_nil.1 (toList_nil.1 e)⟩
            rw [if_pos e1, tF, Option.bind_some]
            simpa using e2
          · rw [if_neg (fun e => h1 (tt_nil.1 (toList_nil.1 e)))]
        have := prog true (form true false fz.symm hb)
        simpa using this
      · refine ref2 0 ?_
        rw [show decide (val li = 0 ∧ val lf = 0) = false from decide_eq_false hv] at nought
        by_cases h1 : bt (ofD li) 0 = 48
        · have : ¬ 1 < li.length := fun h => hz ⟨by omega, h⟩
          exact Ev.congr (fun k => by rw [if_pos (by rw [size_ofD]; omega), if_pos h1, if_neg (by rw [size_ofD]; omega), if_pos rfl]) (Ev.bind nought (Ev.now _))
        · exact Ev.congr (fun k => by rw [if_pos (by rw [size_ofD]; omega), if_neg h1, if_pos rfl]) (Ev.bind nought (Ev.now _))

/-- How what is left lies: nothing, less than half, half, more. -/
def lies (r u : Nat) : Int := if r = 0 then 0 else if 2 * r < u then 1 else if 2 * r = u then 2 else 3
theorem tt_five (t : List Nat) (h : t.getD 0 0 = 5) (ht : t ≠ []) : tt t = [5] ↔ val t.tail = 0 := by
  cases t with
  | nil => exact absurd rfl ht
  | cons d u =>
    simp only [List.getD_cons_zero] at h
    subst h
    simp only [List.tail_cons, tt, List.reverse_cons]
    rw [val_eq_zero]
    constructor
    · intro e
      by_cases hz : u.reverse.dropWhile (· == 0) = []
      · intro d hd
        exact dropWhile_nil.1 hz d (by simpa using hd)
      · exfalso
        rw [List.dropWhile_append, if_neg (by simpa using hz)] at e
        simp only [List.reverse_append, List.reverse_cons, List.reverse_nil, List.nil_append, List.singleton_append, tl] at e
        rw [List.dropWhile_cons_of_neg (by decide)] at e
        simp at e
        exact hz (by simpa using e)
    · intro hz
      have e1 : u.reverse.dropWhile (· == 0) = [] := dropWhile_nil.2 (fun d hd => hz d (by simpa using hd))
      rw [List.dropWhile_append, if_pos (by simpa using e1)]
      simp [tl]
theorem cut_ev (s : List Nat) (m : Nat) (hs : Dg s) (ns : s.length ≤ 100000) (m0 : 0 < m) (hm : m ≤ s.length) :
    Ev (fun k => round_cut.f k (ofD s) (m : Int)) (ofD (s.take (s.length - m)), lies (val (s.drop (s.length - m))) (10 ^ m)) := by
  have w1 : wrap64 (((ofD s).size : Int) - m) = ((s.length - m : Nat) : Int) := by rw [size_ofD, w64 (by omega) (by omega)]; omega
  have hI : (ofD s).extract 0 (s.length - m) = ofD (s.take (s.length - m)) := by rw [ofD_extract]; simp
  have hF : (ofD s).extract (s.length - m) s.length = ofD (s.drop (s.length - m)) := by rw [ofD_extract, List.take_of_length_le (by simp)]
  have dt := hs.drop (s.length - m)
  have lt : (s.drop (s.length - m)).length = m := by rw [List.length_drop]; omega
  generalize hT : s.drop (s.length - m) = T at *
  have tf := trim_f T dt (by omega)
  have vt := val_lt dt
  rw [lt] at vt
  have b0 : bt (ofD T) 0 = ((T.getD 0 0 + 48 : Nat) : Int) := bt_ofD dt (by omega) (by omega)
  obtain ⟨t, u, rfl⟩ : ∃ t u, T = t :: u := by
    cases T with
    | nil => simp at lt; omega
    | cons t u => exact ⟨t, u, rfl⟩
  simp only [List.getD_cons_zero] at b0
  have lu : u.length + 1 = m := by simpa using lt
  have vu := val_lt dt.tail
  have pw : 10 ^ m = 10 * 10 ^ u.length := by rw [← lu, Nat.pow_succ, Nat.mul_comm]
  have hp : 0 < 10 ^ u.length := Nat.pow_pos (by omega)
  have vT : val (t :: u) = t * 10 ^ u.length + val u := rfl
  have t9 := dt.head
  have big : 5 ≤ t → 5 * 10 ^ u.length ≤ t * 10 ^ u.length := fun h => Nat.mul_le_mul_right _ h
  have small : t ≤ 4 → t * 10 ^ u.length ≤ 4 * 10 ^ u.length := fun h => Nat.mul_le_mul_right _ h
  have six : 6 ≤ t → 6 * 10 ^ u.length ≤ t * 10 ^ u.length := fun h => Nat.mul_le_mul_right _ h
  have hsz : 0 < ((ofD (t :: u)).size : Int) := by rw [size_ofD, List.length_cons]; omega
  refine Ev.congr (g := fun k => round_cut.f k (ofD s) (m : Int)) (fun k => by simp only [round_cut.f]; rw [if_neg (by rw [size_ofD]; omega)]) ?_
  have e5 : ([53] : List UInt8) = (ofD [5]).toList := by rw [toList_ofD]; rfl
  have go : ∀ x : Int, (∀ k, (if (ofD (tt (t :: u))).toList = [] then some (ofD (s.take (s.length - m)), (0 : Int)) else if 0 < ((ofD (t :: u)).size : Int) then (if bt (ofD (t :: u)) 0 = 53 then round_cut.j1 (k + 1) (ofD (s.take (s.length - m))) (ofD (t :: u)) ((ofD (tt (t :: u))).toList == [53]) else round_cut.j1 (k + 1) (ofD (s.take (s.length - m))) (ofD (t :: u)) false) else none) = some (ofD (s.take (s.length - m)), x)) → Ev (fun k => round_cut.j0 k (ofD s) (m : Int)) (ofD (s.take (s.length - m)), x) := by
    intro x hx
    refine Ev.step (f := fun k => _) (fun k => by simp only [round_cut.j0]; rw [w1, if_pos (by omega), if_pos (by rw [size_ofD]; omega), Int.toNat_natCast, size_ofD, hF, hI, tf, Option.bind_some]) ?_
    exact Ev.some fun k => hx k
  by_cases hz : val (t :: u) = 0
  · rw [show lies (val (t :: u)) (10 ^ m) = 0 by simp [lies, hz]]
    exact go 0 fun k => if_pos (toList_nil.2 (tt_nil.2 hz))
  have hz2 : ¬ (ofD (tt (t :: u))).toList = [] := fun e => hz (tt_nil.1 (toList_nil.1 e))
  by_cases h5 : t = 5
  · subst h5
    have e53 : bt (ofD (5 :: u)) 0 = 53 := by rw [b0]; rfl
    by_cases hu : val u = 0
    · have : lies (val (5 :: u)) (10 ^ m) = 2 := by unfold lies; rw [if_neg hz, if_neg (by omega), if_pos (by omega)]
      rw [this]
      have et : tt (5 :: u) = [5] := (tt_five (5 :: u) rfl (by simp)).2 hu
      exact go 2 fun k => by rw [if_neg hz2, if_pos hsz, if_pos e53, et, ← e5]; simp [round_cut.j1]
    · have : lies (val (5 :: u)) (10 ^ m) = 3 := by unfold lies; rw [if_neg hz, if_neg (by omega), if_neg (by omega)]
      rw [this]
      have et : tt (5 :: u) ≠ [5] := fun e => hu ((tt_five (5 :: u) rfl (by simp)).1 e)
      have ef : ((ofD (tt (5 :: u))).toList == [53]) = false := by
        rw [e5, beq_eq_false_iff_ne, Ne, toList_inj dt.tt (Dg.cons (by omega) Dg.nil)]; exact et
      exact go 3 fun k => by rw [if_neg hz2, if_pos hsz, if_pos e53, ef]; simp only [round_cut.j1]; rw [if_neg (by decide), if_pos hsz, if_pos (by omega)]
  · have n53 : ¬ bt (ofD (t :: u)) 0 = 53 := by omega
    by_cases h6 : 6 ≤ t
    · have : lies (val (t :: u)) (10 ^ m) = 3 := by have := six h6; unfold lies; rw [if_neg hz, if_neg (by omega), if_neg (by omega)]
      rw [this]
      exact go 3 fun k => by rw [if_neg hz2, if_pos hsz, if_neg n53]; simp only [round_cut.j1]; rw [if_neg (by decide), if_pos hsz, if_pos (by omega)]
    · have : lies (val (t :: u)) (10 ^ m) = 1 := by have := small (by omega); unfold lies; rw [if_neg hz, if_pos (by omega)]
      rw [this]
      exact go 1 fun k => by rw [if_neg hz2, if_pos hsz, if_neg n53]; simp only [round_cut.j1]; rw [if_neg (by decide), if_pos hsz, if_neg (by omega)]

theorem nums8_ofD {l : List Nat} (h : Dg l) : Aid.nums8 (ofD l) = dnums l := by
  unfold Aid.nums8 dnums
  rw [data_ofD, List.map_map]
  apply List.map_congr_left
  intro d hd
  simp only [Function.comp]
  rw [ofNat48 (h d hd)]
theorem inc_nums : ∀ (g : List Nat), Dg g → ∃ g', Dg g' ∧ RoundOne.inc (dnums g) = dnums g' ∧ val g'.reverse = val g.reverse + 1 ∧ g'.length ≤ g.length + 1 ∧ g.length ≤ g'.length
  | [], _ => ⟨[1], Dg.cons (by omega) Dg.nil, rfl, rfl, by simp, by simp⟩
  | d :: t, h => by
    by_cases h9 : d = 9
    · subst h9
      obtain ⟨t', a, b, c, e, f⟩ := inc_nums t h.tail
      refine ⟨0 :: t', Dg.cons (by omega) a, ?_, ?_, by simp; omega, by simp; omega⟩
      · have : dnums (9 :: t) = 57 :: dnums t := rfl
        rw [this]
        simp only [RoundOne.inc, if_true, b]
        rfl
      · rw [List.reverse_cons, List.reverse_cons, val_snoc, val_snoc, c]; omega
    · refine ⟨(d + 1) :: t, Dg.cons (by have := h.head; omega) h.tail, ?_, ?_, by simp, by simp⟩
      · have : dnums (d :: t) = ((d + 48 : Nat) : Int) :: dnums t := rfl
        rw [this]
        simp only [RoundOne.inc]
        rw [if_neg (by omega)]
        have := h.head
        show _ :: dnums t = ((d + 1 + 48 : Nat) : Int) :: dnums t
        congr 1
        omega
      · rw [List.reverse_cons, List.reverse_cons, val_snoc, val_snoc]; omega
theorem one_f (h : List Nat) (hd : Dg h) (hn : h.length ≤ 1000000) : ∃ h', Dg h' ∧ val h' = val h + 1 ∧ h'.length ≤ h.length + 1 ∧ h.length ≤ h'.length ∧ round_one.f (ofD h) = some (ofD h') := by
  obtain ⟨g', a, b, c, e, f⟩ := inc_nums h.reverse hd.reverse
  refine ⟨g'.reverse, a.reverse, by simpa using c, by simpa using e, by simpa using f, ?_⟩
  unfold round_one.f RoundOne.f
  rw [if_pos (by rw [size_ofD]; omega), nums8_ofD hd]
  have : (dnums h).reverse = dnums h.reverse := by simp [dnums]
  rw [this, b]
  have e2 : (dnums g').reverse = dnums g'.reverse := by simp [dnums]
  rw [e2]
  exact congrArg some (strOfNums_ofD _)

theorem away_f (mode : Int) (neg : Bool) (q r u : Nat) (h1 : 1 ≤ mode) (h8 : mode ≤ 8) : round_away.f mode neg (lies r u) (q % 2 == 1) = some (upw mode neg q r u) := by
  unfold round_away.f upw lies
  by_cases h0 : r = 0
  · simp [h0]
  rw [if_neg h0, if_neg h0]
  have c0 : ¬ (if 2 * r < u then (1 : Int) else if 2 * r = u then 2 else 3) = 0 := by split <;> (try split) <;> omega
  have c1 : ((if 2 * r < u then (1 : Int) else if 2 * r = u then 2 else 3) ≥ 2) ↔ u ≤ 2 * r := by split <;> (try split) <;> omega
  have c2 : ((if 2 * r < u then (1 : Int) else if 2 * r = u then 2 else 3) = 3) ↔ u < 2 * r := by split <;> (try split) <;> omega
  have c3 : ((if 2 * r < u then (1 : Int) else if 2 * r = u then 2 else 3) = 2) ↔ u = 2 * r := by split <;> (try split) <;> omega
  generalize (if 2 * r < u then (1 : Int) else if 2 * r = u then 2 else 3) = c at *
  rw [if_neg c0]
  by_cases m1 : mode = 1
  · rw [if_pos m1, if_pos m1]
  rw [if_neg m1, if_neg m1]
  by_cases m2 : mode = 2
  · subst m2
    rw [if_pos rfl, if_neg (by omega), if_neg (by omega), if_neg (by omega), if_neg (by omega), if_neg (by omega), if_neg (by omega)]
  rw [if_neg m2]
  by_cases m3 : mode = 3
  · rw [if_pos m3, if_pos m3]
  rw [if_neg m3, if_neg m3]
  by_cases m4 : mode = 4
  · rw [if_pos m4, if_pos m4]
  rw [if_neg m4, if_neg m4]
  by_cases m5 : mode = 5
  · rw [if_pos m5, if_pos m5, decide_eq_decide.2 c1]
  rw [if_neg m5, if_neg m5]
  by_cases m6 : mode = 6
  · rw [if_pos m6, if_pos m6]
    have : (c == 3) = decide (u < 2 * r) := by rw [Bool.eq_iff_iff]; simp [c2]
    rw [this]
  rw [if_neg m6, if_neg m6]
  by_cases m7 : mode = 7
  · rw [if_pos m7, if_pos m7]
    by_cases a : u < 2 * r
    · rw [if_pos (c2.2 a)]; simp [a]
    · rw [if_neg (fun h => a (c2.1 h))]
      by_cases b : u = 2 * r
      · rw [if_pos (c3.2 b)]; simp [b]
      · rw [if_neg (fun h => b (c3.1 h))]; simp [a, b]
  rw [if_neg m7, if_neg m7, if_pos (by omega)]

theorem val_parts {h : List Nat} (hd : Dg h) (p : Nat) : val (iOf p h ++ fOf p h) = val h := by
  rw [val_append, fOf_length, val_iOf hd, val_fOf hd]
  have := Nat.div_add_mod (val h) (10 ^ p)
  rw [Nat.mul_comm] at this
  exact this
/-- What 'build' tells. -/
def built (neg : Bool) (h : List Nat) (p : Nat) : Bool × ByteArray × ByteArray × Int :=
  if (iOf p h).length + p > 40 then (false, ⟨#[]⟩, ⟨#[]⟩, 3) else (neg && decide (val h ≠ 0), ofD (iOf p h), ofD (fOf p h), 0)
theorem build_ev (neg : Bool) (h : List Nat) (p : Nat) (hd : Dg h) (hn : h.length ≤ 10000) (hp : p ≤ 10000) : Ev (fun k => round_build.f k neg (ofD h) (p : Int)) (built neg h p) := by
  have lp := pad_length p h
  have dp := dg_pad hd p
  have eI : iOf p h = lead ((pad p h).take ((pad p h).length - p)) := rfl
  have eF : fOf p h = (pad p h).drop ((pad p h).length - p) := rfl
  have dI := dg_iOf hd p
  have dF := dg_fOf hd p
  have lF := fOf_length p h
  have lI := lead_length ((pad p h).take ((pad p h).length - p))
  rw [← eI, List.length_take] at lI
  -- behind the padding
  have main : Ev (fun k => round_build.j0 k neg (ofD (pad p h)) (p : Int)) (built neg h p) := by
    have w1 : wrap64 (((ofD (pad p h)).size : Int) - p) = (((pad p h).length - p : Nat) : Int) := by rw [size_ofD, w64 (by omega) (by omega)]; omega
    have hI : (ofD (pad p h)).extract 0 ((pad p h).length - p) = ofD ((pad p h).take ((pad p h).length - p)) := by rw [ofD_extract]; simp
    have hF : (ofD (pad p h)).extract ((pad p h).length - p) (pad p h).length = ofD (fOf p h) := by rw [ofD_extract, List.take_of_length_le (by simp), eF]
    have j1 : Ev (fun k => round_build.j1 k (p : Int) neg (ofD (iOf p h)) (ofD (fOf p h))) (built neg h p) := by
      refine Ev.some fun k => ?_
      have w2 : wrap64 (((ofD (iOf p h)).size : Int) + p) = (((iOf p h).length + p : Nat) : Int) := by rw [size_ofD, w64 (by omega) (by omega)]; omega
      simp only [round_build.j1]
      rw [if_pos (by rw [size_ofD, size_ofD]; omega), ofD_append, trim_f _ (dI.append dF) (by rw [List.length_append]; omega), Option.bind_some, w2]
      unfold built
      by_cases hz : val h = 0
      · rw [if_pos (toList_nil.2 (tt_nil.2 (by rw [val_parts hd]; exact hz)))]
        by_cases h40 : (iOf p h).length + p > 40
        · rw [if_pos (by omega), if_pos h40]
        · rw [if_neg (by omega), if_neg h40]; simp [hz]
      · rw [if_neg (fun e => hz (by rw [← val_parts hd p]; exact tt_nil.1 (toList_nil.1 e)))]
        by_cases h40 : (iOf p h).length + p > 40
        · rw [if_pos (by omega), if_pos h40]
        · rw [if_neg (by omega), if_neg h40]; simp [hz]
    refine Ev.step (fun k => ?_) j1
    simp only [round_build.j0]
    rw [w1, if_pos (by omega), if_pos (by rw [size_ofD]; omega), Int.toNat_natCast, size_ofD, hI, hF, trimLeft_f _ (dp.take _) (by rw [List.length_take]; omega), Option.bind_some]
    rw [lead_of_tl] at eI
    by_cases hz : tl ((pad p h).take ((pad p h).length - p)) = []
    · rw [if_pos (toList_nil.2 hz)]
      rw [if_pos hz] at eI
      rw [eI]
      rfl
    · rw [if_neg (fun e => hz (toList_nil.1 e))]
      rw [if_neg hz] at eI
      rw [eI]
  by_cases hle : h.length ≤ p
  · have w3 : wrap64 (wrap64 ((p : Int) + 1) - ((ofD h).size : Int)) = ((p + 1 - h.length : Nat) : Int) := by
      rw [size_ofD, w64 (x := (p : Int) + 1) (by omega) (by omega), w64 (by omega) (by omega)]; omega
    refine Ev.congr (fun k => ?_) main
    simp only [round_build.f]
    rw [if_pos (by rw [size_ofD]; omega), w3, repeat_f _ (by omega) (by omega), Option.bind_some, Int.toNat_natCast, if_pos (by rw [size_ofD, size_ofD, List.length_replicate]; omega), ofD_append]
    rfl
  · refine Ev.congr (fun k => ?_) main
    simp only [round_build.f]
    rw [if_neg (by rw [size_ofD]; omega), pad_of_lt (by omega)]

theorem shorten_ev (neg : Bool) (li lf : List Nat) (mode : Int) (m : Nat) (di : Dg li) (df : Dg lf) (hn : li.length + lf.length ≤ 40) (h1 : 1 ≤ mode) (h8 : mode ≤ 8) (m0 : 0 < m) (hm : m < li.length + lf.length) :
    ∃ h, Dg h ∧ h.length ≤ 41 ∧ val h = val (li ++ lf) / 10 ^ m + (if (upw mode neg (val (li ++ lf) / 10 ^ m) (val (li ++ lf) % 10 ^ m) (10 ^ m)).1 = true then 1 else 0) ∧
      Ev (fun k => round_shorten.f k neg (ofD li) (ofD lf) mode (m : Int)) (if (upw mode neg (val (li ++ lf) / 10 ^ m) (val (li ++ lf) % 10 ^ m) (10 ^ m)).2 = 0 then
        (if m > lf.length then built neg (h ++ List.replicate (m - lf.length) 0) 0 else built neg h (lf.length - m)) else (false, ⟨#[]⟩, ⟨#[]⟩, (upw mode neg (val (li ++ lf) / 10 ^ m) (val (li ++ lf) % 10 ^ m) (10 ^ m)).2)) := by
  have hs := di.append df
  have ls : (li ++ lf).length = li.length + lf.length := List.length_append
  have cv := cut_ev (li ++ lf) m hs (by omega) m0 (by omega)
  have vq := val_take hs ((li ++ lf).length - m)
  have vr := val_drop hs ((li ++ lf).length - m)
  have e1 : (li ++ lf).length - ((li ++ lf).length - m) = m := by omega
  rw [e1] at vq vr
  have lh : ((li ++ lf).take ((li ++ lf).length - m)).length = (li ++ lf).length - m := by rw [List.length_take]; omega
  have dh := hs.take ((li ++ lf).length - m)
  rw [vr] at cv
  rw [← vq]
  generalize val (li ++ lf) % 10 ^ m = r at *
  generalize hH : (li ++ lf).take ((li ++ lf).length - m) = H at *
  have hne : H ≠ [] := fun e => by rw [e] at lh; simp at lh; omega
  have aw := away_f mode neg (val H) r (10 ^ m) h1 h8
  generalize upw mode neg (val H) r (10 ^ m) = U at *
  obtain ⟨g, dg, vg, lg⟩ : ∃ g, Dg g ∧ (val g = val H + (if U.1 = true then 1 else 0) ∧ (if U.1 = true then round_one.f (ofD H) = some (ofD g) else g = H)) ∧ g.length ≤ 41 := by
    by_cases hU : U.1 = true
    · obtain ⟨g, a, b, c, d, e⟩ := one_f H dh (by omega)
      exact ⟨g, a, ⟨by rw [if_pos hU]; exact b, by rw [if_pos hU]; exact e⟩, by omega⟩
    · exact ⟨H, dh, ⟨by rw [if_neg hU]; rfl, by rw [if_neg hU]⟩, by omega⟩
  refine ⟨g, dg, lg, vg.1, ?_⟩
  have j1 : Ev (fun k => round_shorten.j1 k (m : Int) (ofD g) neg (ofD li) (ofD lf)) (if m > lf.length then built neg (g ++ List.replicate (m - lf.length) 0) 0 else built neg g (lf.length - m)) := by
    by_cases hm2 : m > lf.length
    · rw [if_pos hm2]
      have w : wrap64 ((m : Int) - ((ofD lf).size : Int)) = ((m - lf.length : Nat) : Int) := by rw [size_ofD, w64 (by omega) (by omega)]; omega
      have bv := build_ev neg (g ++ List.replicate (m - lf.length) 0) 0 (dg.append (Dg.zeros _)) (by rw [List.length_append, List.length_replicate]; omega) (by omega)
      refine Ev.step (f := fun k => (round_build.f k neg (ofD (g ++ List.replicate (m - lf.length) 0)) 0).bind fun bt => some (bt.1, bt.2.1, bt.2.2.1, bt.2.2.2)) (fun k => ?_) (Ev.bind bv (Ev.now _))
      simp only [round_shorten.j1]
      rw [if_pos (by rw [size_ofD]; omega), w, repeat_f _ (by omega) (by omega), Option.bind_some, Int.toNat_natCast, if_pos (by rw [size_ofD, size_ofD, List.length_replicate]; omega), ofD_append]
    · rw [if_neg hm2]
      have w : wrap64 (((ofD lf).size : Int) - (m : Int)) = ((lf.length - m : Nat) : Int) := by rw [size_ofD, w64 (by omega) (by omega)]; omega
      have bv := build_ev neg g (lf.length - m) dg (by omega) (by omega)
      refine Ev.step (f := fun k => (round_build.f k neg (ofD g) ((lf.length - m : Nat) : Int)).bind fun bt => some (bt.1, bt.2.1, bt.2.2.1, bt.2.2.2)) (fun k => ?_) (Ev.bind bv (Ev.now _))
      simp only [round_shorten.j1]
      rw [if_neg (by rw [size_ofD]; omega), w]
  have lH : 0 < H.length := by cases H with
    | nil => exact absurd rfl hne
    | cons a b => simp
  have wl : wrap64 (((ofD H).size : Int) - 1) = ((H.length - 1 : Nat) : Int) := by rw [size_ofD, w64 (by omega) (by omega)]; omega
  have odd : (((((bt (ofD H) ((H.length - 1 : Nat) : Int)) - 48) % 256) % 2) == 1) = (val H % 2 == 1) := by
    have a := dh.get (H.length - 1)
    have b := val_odd H hne
    rw [bt_ofD dh (by omega) (by omega), Int.toNat_natCast, digit_of _ a, Bool.eq_iff_iff]
    simp only [beq_iff_eq]
    omega
  refine Ev.congr (g := fun k => round_shorten.f k neg (ofD li) (ofD lf) mode (m : Int)) (fun k => by simp only [round_shorten.f]; rw [if_pos (by rw [size_ofD, size_ofD]; omega), ofD_append]) ?_
  refine Ev.bind cv ?_
  refine Ev.congr (fun k => by rw [if_neg (fun e => hne (toList_nil.1 e)), wl, if_pos (by omega), if_pos (by rw [size_ofD]; omega), odd]) ?_
  refine Ev.step (g := fun k => round_shorten.j0 k mode (m : Int) (ofD H) (lies r (10 ^ m)) (val H % 2 == 1) neg (ofD li) (ofD lf)) (fun k => by simp only [round_shorten.j0]; rw [aw, Option.bind_some]) ?_
  by_cases hE : U.2 = 0
  · rw [if_pos hE]
    refine Ev.congr (fun k => if_pos hE) ?_
    by_cases hU : U.1 = true
    · have vg2 := vg.2
      rw [if_pos hU] at vg2
      refine Ev.congr (fun k => by rw [if_pos hU, vg2, Option.bind_some]) j1
    · have vg2 := vg.2
      rw [if_neg hU] at vg2
      subst vg2
      exact Ev.congr (fun k => if_neg hU) j1
  · rw [if_neg hE]
    exact Ev.congr (fun k => if_neg hE) (Ev.now _)
end Go.Proofs.YtpmhebdaphjinaaDoor.RoundProg
set_option linter.unusedVariables false
set_option linter.unusedSimpArgs false
namespace Go.Proofs.YtpmhebdaphjinaaDoor.RoundPlaces
open Go.RowKit Go.Proofs.YtpmhebdaphjinaaDoorW.PrintWords Go.Proofs.YtpmhebdaphjinaaDoorW.PrintLast Go.Proofs.YtpmhebdaphjinaaDoor.F Go.Proofs.YtpmhebdaphjinaaDoor.Dig Go.Proofs.YtpmhebdaphjinaaDoor.RoundRef Go.Proofs.YtpmhebdaphjinaaDoor.RoundProg

/-- A number's digits. -/
def cdig (n : Nat) : List Nat := if h : n < 10 then [n] else cdig (n / 10) ++ [n % 10]
termination_by n
theorem val_cdig (n : Nat) : val (cdig n) = n := by
  induction n using Nat.strongRecOn with
  | _ n ih =>
    unfold cdig
    split
    · simp [val]
    · rw [val_snoc, ih (n / 10) (by omega)]; omega
theorem dg_cdig (n : Nat) : Dg (cdig n) := by
  induction n using Nat.strongRecOn with
  | _ n ih =>
    unfold cdig
    split
    · exact Dg.cons (by omega) Dg.nil
    · exact (ih (n / 10) (by omega)).append (Dg.cons (by omega) Dg.nil)

/-- What a decimal is, rounded to places: its sign, whole part, places; the error. -/
def worth (neg : Bool) (li lf : List Nat) (mode : Int) (most : Nat) : Nat :=
  val (li ++ lf) / 10 ^ (lf.length - most) + (if (upw mode neg (val (li ++ lf) / 10 ^ (lf.length - most)) (val (li ++ lf) % 10 ^ (lf.length - most)) (10 ^ (lf.length - most))).1 = true then 1 else 0)
def plRes (neg : Bool) (li lf : List Nat) (mode : Int) (most : Nat) : Bool × ByteArray × ByteArray × Int :=
  if lf.length ≤ most then (neg, ofD li, ofD lf, 0)
  else if (upw mode neg (val (li ++ lf) / 10 ^ (lf.length - most)) (val (li ++ lf) % 10 ^ (lf.length - most)) (10 ^ (lf.length - most))).2 = 0 then
    (neg && decide (worth neg li lf mode most ≠ 0), ofD (iOf most (cdig (worth neg li lf mode most))), ofD (fOf most (cdig (worth neg li lf mode most))), 0)
  else (false, ⟨#[]⟩, ⟨#[]⟩, (upw mode neg (val (li ++ lf) / 10 ^ (lf.length - most)) (val (li ++ lf) % 10 ^ (lf.length - most)) (10 ^ (lf.length - most))).2)

theorem unit_val (m : Nat) : val (1 :: List.replicate m 0) = 10 ^ m := by simp [val, val_zeros]
theorem dg_unit (m : Nat) : Dg (1 :: List.replicate m 0) := Dg.cons (by omega) (Dg.zeros m)
theorem canon_unit (m : Nat) : Canon (1 :: List.replicate m 0) := ⟨by simp, .inr (by simp)⟩
theorem int_le (neg : Bool) (li lf : List Nat) (mode : Int) (most : Nat) (di : Dg li) (df : Dg lf) (h : most < lf.length) (x : List Nat) (dx : Dg x) (hx : val x = worth neg li lf mode most) : (iOf most x).length ≤ li.length + 1 := by
  have e : val (1 :: List.replicate li.length 0) = 10 ^ li.length := unit_val _
  have hv : val (iOf most x) ≤ val (1 :: List.replicate li.length 0) := by
    rw [val_iOf dx, e, hx]
    have h1 := val_lt di
    have h2 := val_lt df
    have p1 : 10 ^ lf.length = 10 ^ (lf.length - most) * 10 ^ most := by rw [← Nat.pow_add]; congr 1; omega
    have hp : 0 < 10 ^ lf.length := Nat.pow_pos (by omega)
    have hp2 : 0 < 10 ^ most := Nat.pow_pos (by omega)
    have e2 : val (li ++ lf) / 10 ^ (lf.length - most) / 10 ^ most = val li := by
      rw [Nat.div_div_eq_div_mul, ← p1, val_append, Nat.add_comm, Nat.add_mul_div_right _ _ hp, Nat.div_eq_of_lt h2, Nat.zero_add]
    have e3 : worth neg li lf mode most ≤ val (li ++ lf) / 10 ^ (lf.length - most) + 1 := by unfold worth; split <;> omega
    have e4 : worth neg li lf mode most / 10 ^ most ≤ (val (li ++ lf) / 10 ^ (lf.length - most) + 10 ^ most) / 10 ^ most := Nat.div_le_div_right (by omega)
    rw [Nat.add_div_right _ hp2, e2] at e4
    omega
  have := canon_length_le (dg_unit li.length) (canon_lead _ : Canon (iOf most x)) hv (by simp)
  rw [List.length_cons, List.length_replicate] at this
  exact this

theorem places_ev (neg : Bool) (li lf : List Nat) (mode : Int) (most : Nat) (di : Dg li) (df : Dg lf) (cl : Canon li) (hn : li.length + lf.length ≤ 40) (h1 : 1 ≤ mode) (h8 : mode ≤ 8) (h40 : most ≤ 40) :
    Ev (fun k => round_Places.j0 k mode (most : Int) false neg (ofD li) (ofD lf)) (plRes neg li lf mode most) ∧
    Ev (fun k => idiomref03_Places.j0 k mode (most : Int) false neg (ofD li) (ofD lf)) (plRes neg li lf mode most) := by
  have l0 : 0 < li.length := by
    cases li with
    | nil => exact absurd rfl cl.1
    | cons a b => simp
  by_cases h : lf.length ≤ most
  · have e : plRes neg li lf mode most = (neg, ofD li, ofD lf, 0) := by unfold plRes; rw [if_pos h]
    rw [e]
    constructor
    · refine Ev.some fun k => ?_
      simp only [round_Places.j0]
      rw [if_neg (by decide), if_pos (by rw [size_ofD]; omega)]
    · refine Ev.some fun k => ?_
      simp only [idiomref03_Places.j0]
      rw [if_neg (by decide), if_pos (by rw [size_ofD]; omega)]
  have w : wrap64 (((ofD lf).size : Int) - (most : Int)) = ((lf.length - most : Nat) : Int) := by rw [size_ofD, w64 (by omega) (by omega)]; omega
  have hs := di.append df
  have ls : (li ++ lf).length = li.length + lf.length := List.length_append
  obtain ⟨x, dx, lx, vx, sx⟩ := shorten_ev neg li lf mode (lf.length - most) di df hn h1 h8 (by omega) (by omega)
  have hp : 0 < val (1 :: List.replicate (lf.length - most) 0) := by rw [unit_val]; exact Nat.pow_pos (by omega)
  obtain ⟨q, dq, cq, vq, lq, tq⟩ := turned_ev mode neg (li ++ lf) (1 :: List.replicate (lf.length - most) 0) hs (dg_unit _) (canon_unit _) hp (by omega) (by simp; omega)
  rw [unit_val] at vq tq
  have wx : val x = worth neg li lf mode most := vx
  have wq : val q = worth neg li lf mode most := vq
  have il := int_le neg li lf mode most di df (by omega) x dx wx
  have px := parts_eq dx (dg_cdig (worth neg li lf mode most)) (by rw [wx, val_cdig]) most
  have pq := parts_eq dq (dg_cdig (worth neg li lf mode most)) (by rw [wq, val_cdig]) most
  have eb : lf.length - (lf.length - most) = most := by omega
  constructor
  · refine Ev.step (f := fun k => (round_shorten.f k neg (ofD li) (ofD lf) mode ((lf.length - most : Nat) : Int)).bind fun bt136 => some (bt136.1, bt136.2.1, bt136.2.2.1, bt136.2.2.2)) (fun k => ?_) ?_
    · simp only [round_Places.j0]
      rw [if_neg (by decide), if_neg (by rw [size_ofD]; omega), w]
    · refine Ev.bind sx ?_
      rw [if_neg (show ¬ lf.length - most > lf.length by omega), eb]
      unfold plRes
      rw [if_neg h]
      by_cases hU : (upw mode neg (val (li ++ lf) / 10 ^ (lf.length - most)) (val (li ++ lf) % 10 ^ (lf.length - most)) (10 ^ (lf.length - most))).2 = 0
      · rw [if_pos hU, if_pos hU]
        unfold built
        rw [if_neg (by omega), px.1, px.2, wx]
        exact Ev.now _
      · rw [if_neg hU, if_neg hU]
        exact Ev.now _
  · have nv := noughts_ev ((lf.length - most : Nat) : Int) (by omega)
    rw [Int.toNat_natCast] at nv
    have mv := made_ev neg q most dq (by omega) (by omega)
    refine Ev.step (f := fun k => (idiomref03_Noughts.f k ((lf.length - most : Nat) : Int)).bind fun t194 => (if 1 + t194.size ≤ 9223372036854775807 then ((idiomref03_turned.f k mode neg (ofD (li ++ lf)) ((⟨#[49]⟩ : ByteArray) ++ t194)).bind fun bt195 => (if bt195.2 = 0 then ((idiomref03_Made.f k neg bt195.1 (most : Int)).bind fun bt197 => (some (bt197.1, bt197.2.1, bt197.2.2, 0))) else (some (false, (⟨#[]⟩ : ByteArray), (⟨#[]⟩ : ByteArray), bt195.2)))) else (none))) (fun k => ?_) ?_
    · simp only [idiomref03_Places.j0]
      rw [if_neg (by decide), if_neg (by rw [size_ofD]; omega), if_pos (by rw [size_ofD, size_ofD]; omega), w, ofD_append]
    · refine Ev.bind nv ?_
      have eu : (⟨#[49]⟩ : ByteArray) ++ ofD (List.replicate (lf.length - most) 0) = ofD (1 :: List.replicate (lf.length - most) 0) := by rw [ofD_one, ofD_append]; rfl
      refine Ev.congr (fun k => by rw [if_pos (by rw [size_ofD, List.length_replicate]; omega), eu]) ?_
      refine Ev.bind tq ?_
      unfold plRes
      rw [if_neg h]
      by_cases hU : (upw mode neg (val (li ++ lf) / 10 ^ (lf.length - most)) (val (li ++ lf) % 10 ^ (lf.length - most)) (10 ^ (lf.length - most))).2 = 0
      · rw [if_pos hU]
        refine Ev.congr (fun k => if_pos hU) ?_
        refine Ev.bind mv ?_
        rw [pq.1, pq.2, wq]
        exact Ev.now _
      · rw [if_neg hU]
        exact Ev.congr (fun k => if_neg hU) (Ev.now _)

/-- Whatever is asked: both tell one thing. -/
theorem places (neg : Bool) (I F : ByteArray) (mode most : Int) : ∃ r, Ev (fun k => round_Places.f k neg I F mode most) r ∧ Ev (fun k => idiomref03_Places.f k neg I F mode most) r ∧
    (r = (false, ⟨#[]⟩, ⟨#[]⟩, r.2.2.2) ∧ r.2.2.2 ≠ 0 ∨ r.2.2.2 = 0 ∧ ∃ li lf, ∃ m : Nat, Dg li ∧ Dg lf ∧ Canon li ∧ li.length + lf.length ≤ 40 ∧ I = ofD li ∧ F = ofD lf ∧ (neg = true → val li ≠ 0 ∨ val lf ≠ 0) ∧ 1 ≤ mode ∧ mode ≤ 8 ∧ most = m ∧ m ≤ 40 ∧ r = plRes neg li lf mode m) ∧
    (Ok neg I F → 1 ≤ mode → mode ≤ 8 → 0 ≤ most → most ≤ 40 → ∃ li lf, Dg li ∧ Dg lf ∧ I = ofD li ∧ F = ofD lf ∧ Canon li ∧ li.length + lf.length ≤ 40 ∧ (neg = true → val li ≠ 0 ∨ val lf ≠ 0) ∧ r = plRes neg li lf mode most.toNat) := by
  obtain ⟨c, pc, rc, hc, okc⟩ := check neg I F
  have asked : ∀ x : Int, (∀ y : Int, True) → (if c = 0 then (if mode ≤ 0 then (30 : Int) else if mode ≥ 9 then 30 else 0) else c) = x → Ev (fun k => round_asked.f k neg I F mode) x ∧ Ev (fun k => idiomref03_asked.f k neg I F mode) x := by
    intro x _ hx
    subst hx
    have e1 : (mode < 1) = (mode ≤ 0) := by rw [eq_iff_iff]; omega
    have e2 : (mode > 8) = (mode ≥ 9) := by rw [eq_iff_iff]; omega
    refine ⟨Ev.bind pc (Ev.congr (fun k => ?_) (Ev.now _)), Ev.bind rc (Ev.congr (fun k => ?_) (Ev.now _))⟩
    · by_cases h0 : c = 0 <;> by_cases h1 : mode ≤ 0 <;> by_cases h2 : mode ≥ 9 <;> simp only [h0, h1, h2, if_true, if_false]
    · simp only [e1, e2]
      by_cases h0 : c = 0 <;> by_cases h1 : mode ≤ 0 <;> by_cases h2 : mode ≥ 9 <;> simp only [h0, h1, h2, if_true, if_false]
  obtain ⟨pa, ra⟩ := asked _ (fun _ => trivial) rfl
  by_cases hbad : (if c = 0 then (if mode ≤ 0 then (30 : Int) else if mode ≥ 9 then 30 else 0) else c) = 0
  rotate_left
  · refine ⟨(false, ⟨#[]⟩, ⟨#[]⟩, (if c = 0 then (if mode ≤ 0 then (30 : Int) else if mode ≥ 9 then 30 else 0) else c)), ?_, ?_, .inl ⟨rfl, hbad⟩, fun ok a b _ _ => ?_⟩
    · exact Ev.bind pa (Ev.congr (fun k => if_neg hbad) (Ev.now _))
    · exact Ev.bind ra (Ev.congr (fun k => if_neg hbad) (Ev.now _))
    · exact absurd (by rw [if_pos (okc.2 ok), if_neg (by omega), if_neg (by omega)]) hbad
  have h0 : c = 0 := by
    apply Classical.byContradiction
    intro h; rw [if_neg h] at hbad; exact h hbad
  rw [if_pos h0] at hbad
  have hm1 : 1 ≤ mode := by
    apply Classical.byContradiction
    intro h; rw [if_pos (by omega)] at hbad; omega
  have hm8 : mode ≤ 8 := by
    apply Classical.byContradiction
    intro h; rw [if_neg (by omega), if_pos (by omega)] at hbad; omega
  rw [if_pos h0, if_neg (by omega), if_neg (by omega)] at pa ra
  obtain ⟨li, lf, di, df, eI, eF, cl, hn, hsg⟩ := okc.1 h0
  have red : ∀ x r, ((x = true ↔ most < 0 ∨ 40 < most)) → Ev (fun k => round_Places.j0 k mode most x neg I F) r → Ev (fun k => round_Places.f k neg I F mode most) r := by
    intro x r hx h
    refine Ev.bind pa (Ev.congr (fun k => ?_) h)
    by_cases h1 : most < 0
    · rw [if_pos rfl, if_pos h1, hx.2 (.inl h1)]
    · rw [if_pos rfl, if_neg h1]
      have : decide (most > 40) = x := by rw [Bool.eq_iff_iff, hx]; simp; omega
      rw [this]
  have red2 : ∀ x r, ((x = true ↔ most < 0 ∨ 40 < most)) → Ev (fun k => idiomref03_Places.j0 k mode most x neg I F) r → Ev (fun k => idiomref03_Places.f k neg I F mode most) r := by
    intro x r hx h
    refine Ev.bind ra (Ev.congr (fun k => ?_) h)
    by_cases h1 : most < 0
    · rw [if_pos rfl, if_pos h1, hx.2 (.inl h1)]
    · rw [if_pos rfl, if_neg h1]
      have : decide (most > 40) = x := by rw [Bool.eq_iff_iff, hx]; simp; omega
      rw [this]
  by_cases ho : most < 0 ∨ 40 < most
  · refine ⟨(false, ⟨#[]⟩, ⟨#[]⟩, 1), red true _ (by simp [ho]) (Ev.some fun k => by simp only [round_Places.j0]; rw [if_pos trivial]), red2 true _ (by simp [ho]) (Ev.some fun k => by simp only [idiomref03_Places.j0]; rw [if_pos trivial]), .inl ⟨rfl, by simp⟩, fun _ _ _ _ _ => by omega⟩
  · obtain ⟨m, rfl⟩ := Int.eq_ofNat_of_zero_le (show 0 ≤ most by omega)
    obtain ⟨a, b⟩ := places_ev neg li lf mode m di df cl hn hm1 hm8 (by omega)
    refine ⟨plRes neg li lf mode m, red false _ (by simp; omega) (by rw [eI, eF]; exact a), red2 false _ (by simp; omega) (by rw [eI, eF]; exact b), ?_, fun _ _ _ _ _ => ⟨li, lf, di, df, eI, eF, cl, hn, hsg, rfl⟩⟩
    by_cases hr : (plRes neg li lf mode m).2.2.2 = 0
    · exact .inr ⟨hr, li, lf, m, di, df, cl, hn, eI, eF, hsg, hm1, hm8, rfl, by omega, rfl⟩
    · refine .inl ⟨?_, hr⟩
      unfold plRes at hr ⊢
      split at hr
      · exact absurd rfl hr
      · split at hr
        · exact absurd rfl hr
        · rename_i h1 h2
          rw [if_neg h1, if_neg h2]

theorem awake_ev : Ev (fun k => idiomlaw03_awake.f k) true := by
  obtain ⟨r, pr, _, _, hr⟩ := places false (⟨#[50]⟩ : ByteArray) (⟨#[53]⟩ : ByteArray) 7 0
  have d2 : Dg [2] := Dg.cons (by omega) Dg.nil
  have d5 : Dg [5] := Dg.cons (by omega) Dg.nil
  obtain ⟨li, lf, di, df, eI, eF, cl, hn, hsg, er⟩ := hr ⟨[2], [5], d2, d5, rfl, rfl, ⟨by simp, .inl rfl⟩, by simp, by simp⟩ (by omega) (by omega) (by omega) (by omega)
  have e1 : li = [2] := (ofD_inj d2 di eI).symm
  have e2 : lf = [5] := (ofD_inj d5 df eF).symm
  subst e1 e2
  refine Ev.bind pr ?_
  have : r = (false, ofD [2], ofD [], 0) := by
    rw [er]
    have c2 : cdig 2 = [2] := by unfold cdig; rfl
    have hw : worth false [2] [5] 7 0 = 2 := by decide
    unfold plRes
    simp only [show (0 : Int).toNat = 0 from rfl, hw, c2]
    rfl
  subst this
  exact Ev.congr (fun k => by rw [if_pos rfl]; simp only [toList_ofD]; rfl) (Ev.now _)

end Go.Proofs.YtpmhebdaphjinaaDoor.RoundPlaces
set_option linter.unusedVariables false
set_option linter.unusedSimpArgs false
namespace Go.Proofs.YtpmhebdaphjinaaDoor.RoundFixes
open Go.RowKit Go.Proofs.YtpmhebdaphjinaaDoorW.PrintWords Go.Proofs.YtpmhebdaphjinaaDoorW.PrintLast Go.Proofs.YtpmhebdaphjinaaDoor.F Go.Proofs.YtpmhebdaphjinaaDoor.Dig Go.Proofs.YtpmhebdaphjinaaDoor.RoundRef Go.Proofs.YtpmhebdaphjinaaDoor.RoundProg Go.Proofs.YtpmhebdaphjinaaDoor.RoundPlaces

/-- Both ask the same of a number and a mode. -/
theorem asked (neg : Bool) (I F : ByteArray) (mode : Int) : ∃ x : Int, Ev (fun k => round_asked.f k neg I F mode) x ∧ Ev (fun k => idiomref03_asked.f k neg I F mode) x ∧ (x = 0 ↔ Ok neg I F ∧ 1 ≤ mode ∧ mode ≤ 8) := by
  obtain ⟨c, pc, rc, hc, okc⟩ := check neg I F
  have e1 : (mode < 1) = (mode ≤ 0) := by rw [eq_iff_iff]; omega
  have e2 : (mode > 8) = (mode ≥ 9) := by rw [eq_iff_iff]; omega
  refine ⟨if c = 0 then (if mode ≤ 0 then (30 : Int) else if mode ≥ 9 then 30 else 0) else c, Ev.bind pc (Ev.congr (fun k => ?_) (Ev.now _)), Ev.bind rc (Ev.congr (fun k => ?_) (Ev.now _)), ?_⟩
  · by_cases h0 : c = 0 <;> by_cases h1 : mode ≤ 0 <;> by_cases h2 : mode ≥ 9 <;> simp only [h0, h1, h2, if_true, if_false]
  · simp only [e1, e2]
    by_cases h0 : c = 0 <;> by_cases h1 : mode ≤ 0 <;> by_cases h2 : mode ≥ 9 <;> simp only [h0, h1, h2, if_true, if_false]
  · rw [← okc]
    by_cases h0 : c = 0
    · rw [if_pos h0]
      by_cases h1 : mode ≤ 0
      · rw [if_pos h1]; simp; omega
      · rw [if_neg h1]
        by_cases h2 : mode ≥ 9
        · rw [if_pos h2]; simp; omega
        · rw [if_neg h2]; simp [h0]; omega
    · rw [if_neg h0]; simp [h0]

/-- What is rounded well is a decimal. -/
theorem plRes_ok (neg : Bool) (li lf : List Nat) (mode : Int) (m : Nat) (di : Dg li) (df : Dg lf) (cl : Canon li) (hn : li.length + lf.length ≤ 40) (hs : neg = true → val li ≠ 0 ∨ val lf ≠ 0) (h : (plRes neg li lf mode m).2.2.2 = 0) :
    ∃ neg' li' lf', Dg li' ∧ Dg lf' ∧ Canon li' ∧ li'.length + lf'.length ≤ 40 ∧ (neg' = true → val li' ≠ 0 ∨ val lf' ≠ 0) ∧ lf'.length ≤ m ∧ plRes neg li lf mode m = (neg', ofD li', ofD lf', 0) := by
  unfold plRes at h ⊢
  split at h
  · rename_i h1
    exact ⟨neg, li, lf, di, df, cl, hn, hs, h1, by rw [if_pos h1]⟩
  · rename_i h1
    split at h
    · rename_i h2
      rw [if_neg h1, if_pos h2]
      generalize hx : cdig (worth neg li lf mode m) = x
      have dx : Dg x := hx ▸ dg_cdig _
      have vx : val x = worth neg li lf mode m := hx ▸ val_cdig _
      have hl := int_le neg li lf mode m di df (by omega) x dx vx
      refine ⟨_, _, _, dg_iOf dx m, dg_fOf dx m, canon_lead _, by rw [fOf_length]; omega, ?_, by rw [fOf_length]; omega, rfl⟩
      intro hb
      simp only [Bool.and_eq_true, decide_eq_true_eq] at hb
      have hv := val_parts dx m
      rw [val_append] at hv
      apply Classical.byContradiction
      intro hz
      have h3 : val (iOf m x) = 0 := by omega
      have h4 : val (fOf m x) = 0 := by omega
      rw [h3, h4, vx] at hv
      omega
    · exact absurd h (by assumption)

/-- Noughts at the end go, down to so many digits. -/
def strip (least : Nat) : Nat → List Nat → List Nat
  | 0, l => l
  | n + 1, l => if least < l.length then (if l.getD (l.length - 1) 0 = 0 then strip least n (l.take (l.length - 1)) else l) else l
theorem strip_facts (least : Nat) : ∀ (n : Nat) (l : List Nat), Dg l → l.length ≤ n → Dg (strip least n l) ∧ (strip least n l).length ≤ l.length ∧ (val (strip least n l) = 0 → val l = 0) ∧ min l.length least ≤ (strip least n l).length ∧ ((strip least n l).length ≤ least ∨ (strip least n l).getD ((strip least n l).length - 1) 0 ≠ 0)
  | 0, l, h, hn => ⟨h, Nat.le_refl _, id, Nat.min_le_left _ _, by left; simp only [strip]; omega⟩
  | n + 1, l, h, hn => by
    unfold strip
    split
    · rename_i h1
      split
      · rename_i h2
        obtain ⟨a, b, c, d, e⟩ := strip_facts least n (l.take (l.length - 1)) (h.take _) (by simp; omega)
        have hl : (l.take (l.length - 1)).length = l.length - 1 := by simp
        rw [hl] at b d
        refine ⟨a, by omega, fun hz => ?_, by omega, e⟩
        have h3 := c hz
        have h4 := val_take_drop l (l.length - 1)
        rw [h3] at h4
        have h5 : l.drop (l.length - 1) = [l.getD (l.length - 1) 0] := by
          rw [getD_drop l (l.length - 1) (by omega), List.drop_eq_nil_of_le (by omega)]
        rw [h5, h2] at h4
        simpa [val] using h4
      · rename_i h2
        exact ⟨h, Nat.le_refl _, id, Nat.min_le_left _ _, .inr h2⟩
    · rename_i h1
      exact ⟨h, Nat.le_refl _, id, Nat.min_le_left _ _, .inl (by omega)⟩
theorem strip_stay (least n : Nat) (l : List Nat) (h : l.length ≤ least ∨ l.getD (l.length - 1) 0 ≠ 0) : strip least n l = l := by
  cases n with
  | zero => rfl
  | succ n =>
    unfold strip
    split
    · rename_i h1
      rw [if_neg (by rcases h with h | h; omega; exact h)]
    · rfl
/-- What 'Fix' tells of what is rounded. -/
def fixRes (neg : Bool) (li lf : List Nat) (least : Nat) : Bool × ByteArray × ByteArray × Int :=
  if lf.length < least ∧ li.length + least > 40 then (false, ⟨#[]⟩, ⟨#[]⟩, 3) else (neg, ofD li, ofD (lf ++ List.replicate (least - lf.length) 0), 0)

theorem pad_ev (neg : Bool) (li lf : List Nat) (least : Nat) (di : Dg li) (df : Dg lf) (cl : Canon li) (hn : li.length + lf.length ≤ 40) (hs : neg = true → val li ≠ 0 ∨ val lf ≠ 0) (h40 : least ≤ 40) :
    Ev (fun k => decimal_Pad.f k neg (ofD li) (ofD lf) (least : Int)) (fixRes neg li lf least) := by
  obtain ⟨c, pc, _, _, okc⟩ := check neg (ofD li) (ofD lf)
  have h0 : c = 0 := okc.2 ⟨li, lf, di, df, rfl, rfl, cl, hn, hs⟩
  subst h0
  refine Ev.bind pc (Ev.congr (fun k => ?_) (g := fun k => _) (f := fun k => decimal_Pad.j0 k (least : Int) false neg (ofD li) (ofD lf)) ?_)
  · rw [if_pos rfl, if_neg (by omega)]
    have : decide ((least : Int) > 40) = false := by simp; omega
    rw [this]
  refine Ev.some fun k => ?_
  simp only [decimal_Pad.j0, size_ofD]
  rw [if_neg (by decide), w64 (by omega) (by omega), w64 (by omega) (by omega)]
  unfold fixRes
  by_cases h1 : lf.length < least
  · rw [if_pos (by omega)]
    by_cases h2 : li.length + least > 40
    · rw [if_pos (by omega), if_pos ⟨h1, h2⟩]
    · rw [if_neg (by omega), if_neg (by omega), repeat_f _ (by omega) (by omega)]
      have e : ((least : Int) - lf.length).toNat = least - lf.length := by omega
      rw [e]
      simp only [Option.bind_some, size_ofD, List.length_replicate]
      rw [if_pos (by omega), ofD_append]
  · rw [if_neg (by omega), if_neg (by omega)]
    have e : least - lf.length = 0 := by omega
    rw [e, List.replicate_zero, List.append_nil]
theorem ref_ev (neg : Bool) (li lf : List Nat) (least : Nat) (di : Dg li) (df : Dg lf) (hn : li.length + lf.length ≤ 40) (h40 : least ≤ 40) :
    Ev (fun k => idiomref03_Fix.j2 k (least : Int) neg (ofD li) (ofD lf)) (fixRes neg li lf least) := by
  refine Ev.step (f := fun k => if ((ofD lf).size : Int) < least then ((idiomref03_Noughts.f k (wrap64 ((least : Int) - ((ofD lf).size : Int)))).bind fun t431 => (if (ofD lf).size + t431.size ≤ 9223372036854775807 then ((idiomref03_bound.f neg (ofD li) ((ofD lf) ++ t431)).bind fun bt432 => (some (bt432.1, bt432.2.1, bt432.2.2.1, bt432.2.2.2))) else (none))) else ((idiomref03_bound.f neg (ofD li) (ofD lf)).bind fun bt436 => (some (bt436.1, bt436.2.1, bt436.2.2.1, bt436.2.2.2)))) (fun k => rfl) ?_
  have e : ((least : Int) - (lf.length : Int)).toNat = least - lf.length := by omega
  simp only [size_ofD]
  rw [w64 (by omega) (by omega)]
  unfold fixRes
  by_cases h1 : lf.length < least
  · refine Ev.congr (fun k => if_pos (by omega)) (Ev.bind (noughts_ev _ (by omega)) ?_)
    rw [e]
    refine Ev.congr (fun k => ?_) (Ev.now _)
    simp only [size_ofD, List.length_replicate, ofD_append]
    rw [if_pos (by omega)]
    unfold idiomref03_bound.f
    simp only [size_ofD, List.length_append, List.length_replicate]
    rw [w64 (by omega) (by omega)]
    by_cases h2 : li.length + least > 40
    · rw [if_pos (by omega), if_pos ⟨h1, h2⟩]; rfl
    · rw [if_neg (by omega), if_neg (by omega)]; rfl
  · refine Ev.congr (fun k => if_neg (by omega)) (Ev.congr (fun k => ?_) (Ev.now _))
    unfold idiomref03_bound.f
    simp only [size_ofD]
    rw [w64 (by omega) (by omega), if_neg (by omega), if_neg (by omega)]
    have e : least - lf.length = 0 := by omega
    rw [e, List.replicate_zero, List.append_nil]
    rfl

theorem last_ofD {lf : List Nat} (df : Dg lf) (h : 0 < lf.length) : bt (ofD lf) ((lf.length : Int) - 1) = ((lf.getD (lf.length - 1) 0 + 48 : Nat) : Int) := by
  rw [bt_ofD df (by omega) (by omega)]
  have : ((lf.length : Int) - 1).toNat = lf.length - 1 := by omega
  rw [this]
theorem cut_ofD (lf : List Nat) (h : 0 < lf.length) : (ofD lf).extract 0 ((lf.length : Int) - 1).toNat = ofD (lf.take (lf.length - 1)) := by
  have : ((lf.length : Int) - 1).toNat = lf.length - 1 := by omega
  rw [this, ofD_extract]
  simp
/-- Both go over the noughts in one way. -/
theorem loops (neg : Bool) (li : List Nat) (least : Nat) (di : Dg li) (cl : Canon li) (h40 : least ≤ 40) : ∀ (n : Nat) (lf : List Nat), Dg lf → lf.length ≤ n → li.length + lf.length ≤ 40 → (neg = true → val li ≠ 0 ∨ val lf ≠ 0) →
    Ev (fun k => round_Fix.l0 k (least : Int) neg (ofD li) (ofD lf)) (fixRes neg li (strip least n lf) least) ∧
    Ev (fun k => idiomref03_Fix.l0 k (least : Int) neg (ofD li) (ofD lf)) (fixRes neg li (strip least n lf) least) := by
  intro n
  induction n with
  | zero =>
    intro lf df hn hl hs
    have p := pad_ev neg li lf least di df cl hl hs h40
    have r := ref_ev neg li lf least di df hl h40
    refine ⟨Ev.step (f := fun k => (decimal_Pad.f k neg (ofD li) (ofD lf) (least : Int)).bind fun bt418 => (some (bt418.1, bt418.2.1, bt418.2.2.1, bt418.2.2.2))) (fun k => ?_) (Ev.bind p (Ev.now _)), Ev.step (fun k => ?_) r⟩
    · simp only [round_Fix.l0, size_ofD]; rw [if_neg (by omega)]
    · simp only [idiomref03_Fix.l0, size_ofD]; rw [if_neg (by omega)]
  | succ n ih =>
    intro lf df hn hl hs
    have p := pad_ev neg li lf least di df cl hl hs h40
    have r := ref_ev neg li lf least di df hl h40
    unfold strip
    by_cases h1 : least < lf.length
    · rw [if_pos h1]
      have hlast := last_ofD df (by omega)
      by_cases h2 : lf.getD (lf.length - 1) 0 = 0
      · rw [if_pos h2]
        rw [h2] at hlast
        have hv : val (lf.take (lf.length - 1)) = 0 → val lf = 0 := by
          intro hz
          have h4 := val_take_drop lf (lf.length - 1)
          have h5 : lf.drop (lf.length - 1) = [lf.getD (lf.length - 1) 0] := by
            rw [getD_drop lf (lf.length - 1) (by omega), List.drop_eq_nil_of_le (by omega)]
          rw [hz, h5, h2] at h4
          simpa [val] using h4
        obtain ⟨a, b⟩ := ih (lf.take (lf.length - 1)) (df.take _) (by simp; omega) (by simp; omega) (fun hb => (hs hb).imp id fun hz h0 => hz (hv h0))
        refine ⟨Ev.step (fun k => ?_) a, Ev.step (fun k => ?_) b⟩
        · simp only [round_Fix.l0, size_ofD]
          rw [if_pos (by omega), w64 (by omega) (by omega), if_pos (by omega), if_pos (by omega), hlast, if_pos (by omega), if_pos (by omega), cut_ofD lf (by omega)]
        · simp only [idiomref03_Fix.l0, size_ofD]
          rw [if_pos (by omega), w64 (by omega) (by omega), if_pos (by omega), if_pos (by omega), hlast, if_pos (by omega), if_pos (by omega), cut_ofD lf (by omega)]
      · rw [if_neg h2]
        refine ⟨Ev.step (f := fun k => (decimal_Pad.f k neg (ofD li) (ofD lf) (least : Int)).bind fun bt418 => (some (bt418.1, bt418.2.1, bt418.2.2.1, bt418.2.2.2))) (fun k => ?_) (Ev.bind p (Ev.now _)), Ev.step (fun k => ?_) r⟩
        · simp only [round_Fix.l0, size_ofD]
          rw [if_pos (by omega), w64 (by omega) (by omega), if_pos (by omega), if_pos (by omega), hlast, if_neg (by omega)]
        · simp only [idiomref03_Fix.l0, size_ofD]
          rw [if_pos (by omega), w64 (by omega) (by omega), if_pos (by omega), if_pos (by omega), hlast, if_neg (by omega)]
    · rw [if_neg h1]
      refine ⟨Ev.step (f := fun k => (decimal_Pad.f k neg (ofD li) (ofD lf) (least : Int)).bind fun bt418 => (some (bt418.1, bt418.2.1, bt418.2.2.1, bt418.2.2.2))) (fun k => ?_) (Ev.bind p (Ev.now _)), Ev.step (fun k => ?_) r⟩
      · simp only [round_Fix.l0, size_ofD]; rw [if_neg (by omega)]
      · simp only [idiomref03_Fix.l0, size_ofD]; rw [if_neg (by omega)]

/-- What is asked of both numbers. -/
def inB (least most : Int) : Prop := 0 ≤ least ∧ least ≤ most ∧ most ≤ 40
instance inBDec (a b : Int) : Decidable (inB a b) := by unfold inB; infer_instance

/-- Whatever is asked: both tell one thing; where that is a decimal, so it is one. -/
theorem fix (neg : Bool) (I F : ByteArray) (mode least most : Int) : ∃ r, Ev (fun k => round_Fix.f k neg I F mode least most) r ∧ Ev (fun k => idiomref03_Fix.f k neg I F mode least most) r ∧
    (r.2.2.2 = 0 → ∃ neg' li' lf', Dg li' ∧ Dg lf' ∧ Canon li' ∧ li'.length + lf'.length ≤ 40 ∧ (neg' = true → val li' ≠ 0 ∨ val lf' ≠ 0) ∧ least.toNat ≤ lf'.length ∧ lf'.length ≤ most.toNat ∧ (lf'.length = least.toNat ∨ lf'.getD (lf'.length - 1) 0 ≠ 0) ∧ inB least most ∧ Ok neg I F ∧ 1 ≤ mode ∧ mode ≤ 8 ∧ r = (neg', ofD li', ofD lf', 0)) ∧
    (∀ li lf, Dg li → Dg lf → I = ofD li → F = ofD lf → Canon li → li.length + lf.length ≤ 40 → (neg = true → val li ≠ 0 ∨ val lf ≠ 0) → 1 ≤ mode → mode ≤ 8 → inB least most → least.toNat ≤ lf.length → lf.length ≤ most.toNat → (lf.length = least.toNat ∨ lf.getD (lf.length - 1) 0 ≠ 0) → r = (neg, I, F, 0)) := by
  obtain ⟨x, pa, ra, hx⟩ := asked neg I F mode
  by_cases h0 : x = 0
  rotate_left
  · refine ⟨(false, ⟨#[]⟩, ⟨#[]⟩, x), Ev.bind pa (Ev.congr (fun k => if_neg h0) (Ev.now _)), Ev.bind ra (Ev.congr (fun k => if_neg h0) (Ev.now _)), fun h => absurd h h0, ?_⟩
    intro li lf di df eI eF cl hn hs h1 h8 _ _ _ _
    exact absurd (hx.2 ⟨⟨li, lf, di, df, eI, eF, cl, hn, hs⟩, h1, h8⟩) h0
  subst h0
  obtain ⟨hok, h1, h8⟩ := hx.1 rfl
  have pb : round_bounds.f 0 least most = some (decide (inB least most)) := by
    unfold round_bounds.f
    by_cases a : least ≥ 0
    · rw [if_pos a]
      by_cases b : most ≥ 0
      · rw [if_pos b]
        by_cases c : least ≤ 40
        · rw [if_pos c]
          by_cases d : most ≤ 40
          · rw [if_pos d]; congr 1; rw [decide_eq_decide]; exact ⟨fun h => ⟨by omega, h, by omega⟩, fun h => h.2.1⟩
          · rw [if_neg d]; congr 1; exact (decide_eq_false (fun h => by have h1 := h.1; have h2 := h.2.1; have h3 := h.2.2; omega)).symm
        · rw [if_neg c]; congr 1; exact (decide_eq_false (fun h => by have h1 := h.1; have h2 := h.2.1; have h3 := h.2.2; omega)).symm
      · rw [if_neg b]; congr 1; exact (decide_eq_false (fun h => by have h1 := h.1; have h2 := h.2.1; have h3 := h.2.2; omega)).symm
    · rw [if_neg a]; congr 1; exact (decide_eq_false (fun h => by have h1 := h.1; have h2 := h.2.1; have h3 := h.2.2; omega)).symm
  have rb : ∀ r, Ev (fun k => idiomref03_Fix.j0 k mode least most (!decide (inB least most)) neg I F) r → Ev (fun k => idiomref03_Fix.f k neg I F mode least most) r := by
    intro r h
    refine Ev.bind ra (Ev.congr (fun k => ?_) h)
    rw [if_pos rfl]
    by_cases a : least < 0
    · rw [if_pos a, decide_eq_false (fun h : inB least most => by have h1 := h.1; have h2 := h.2.1; have h3 := h.2.2; omega)]; rfl
    · rw [if_neg a]
      by_cases b : least > 40
      · rw [if_pos b, decide_eq_false (fun h : inB least most => by have h1 := h.1; have h2 := h.2.1; have h3 := h.2.2; omega)]; rfl
      · rw [if_neg b]
        by_cases c : most < least
        · rw [if_pos c, decide_eq_false (fun h : inB least most => by have h1 := h.1; have h2 := h.2.1; have h3 := h.2.2; omega)]; rfl
        · rw [if_neg c]
          have : decide (most > 40) = !decide (inB least most) := by
            by_cases d : most > 40
            · rw [decide_eq_true d, decide_eq_false (fun h : inB least most => by have h3 := h.2.2; omega)]; rfl
            · rw [decide_eq_false d, decide_eq_true (show inB least most from ⟨by omega, by omega, by omega⟩)]; rfl
          rw [this]
  by_cases hB : inB least most
  rotate_left
  · refine ⟨(false, ⟨#[]⟩, ⟨#[]⟩, 1), ?_, rb _ ?_, fun h => absurd h (by simp), fun li lf _ _ _ _ _ _ _ _ _ h _ _ _ => absurd h hB⟩
    · refine Ev.bind pa (Ev.congr (fun k => ?_) (Ev.now _))
      rw [if_pos rfl, pb, decide_eq_false hB]; rfl
    · refine Ev.some fun k => ?_
      rw [decide_eq_false hB]
      simp only [idiomref03_Fix.j0]; exact if_pos rfl
  obtain ⟨b0, b1, b2⟩ := hB
  have hB : inB least most := ⟨b0, b1, b2⟩
  obtain ⟨r, pr, rr, hr, hr2⟩ := places neg I F mode most
  have go : ∀ q, (r.2.2.2 = 0 → Ev (fun k => round_Fix.l0 k least r.1 r.2.1 r.2.2.1) q ∧ Ev (fun k => idiomref03_Fix.l0 k least r.1 r.2.1 r.2.2.1) q) → (r.2.2.2 ≠ 0 → q = (false, ⟨#[]⟩, ⟨#[]⟩, r.2.2.2)) →
      Ev (fun k => round_Fix.f k neg I F mode least most) q ∧ Ev (fun k => idiomref03_Fix.f k neg I F mode least most) q := by
    intro q y n
    have k1 : Ev (fun k => (round_Places.f k neg I F mode most).bind fun b => (if b.2.2.2 = 0 then (round_Fix.l0 k least b.1 b.2.1 b.2.2.1) else (some (false, (⟨#[]⟩ : ByteArray), (⟨#[]⟩ : ByteArray), b.2.2.2)))) q := by
      refine Ev.bind pr ?_
      by_cases hz : r.2.2.2 = 0
      · exact Ev.congr (fun k => if_pos hz) (y hz).1
      · rw [n hz]; exact Ev.congr (fun k => if_neg hz) (Ev.now _)
    have k2 : Ev (fun k => (idiomref03_Places.f k neg I F mode most).bind fun b => (if b.2.2.2 = 0 then (idiomref03_Fix.l0 k least b.1 b.2.1 b.2.2.1) else (some (false, (⟨#[]⟩ : ByteArray), (⟨#[]⟩ : ByteArray), b.2.2.2)))) q := by
      refine Ev.bind rr ?_
      by_cases hz : r.2.2.2 = 0
      · exact Ev.congr (fun k => if_pos hz) (y hz).2
      · rw [n hz]; exact Ev.congr (fun k => if_neg hz) (Ev.now _)
    refine ⟨?_, rb _ ?_⟩
    · refine Ev.bind pa (Ev.congr (fun k => ?_) k1)
      rw [if_pos rfl, pb, decide_eq_true hB]; rfl
    · refine Ev.step (fun k => ?_) k2
      rw [decide_eq_true hB]; rfl
  obtain ⟨n, rfl⟩ := Int.eq_ofNat_of_zero_le b0
  have e : ((n : Nat) : Int).toNat = n := by omega
  obtain ⟨li, lf, di, df, eI, eF, cl, hn, hs, er⟩ := hr2 hok h1 h8 (by omega) b2
  by_cases hz : r.2.2.2 = 0
  · obtain ⟨neg', li', lf', di', df', cl', hn', hs', hm', er'⟩ := plRes_ok neg li lf mode most.toNat di df cl hn hs (by rw [← er]; exact hz)
    rw [er'] at er
    obtain ⟨a, b⟩ := loops neg' li' n di' cl' (by omega) lf'.length lf' df' (Nat.le_refl _) hn' hs'
    obtain ⟨s1, s2, s3, s4, s5⟩ := strip_facts n lf'.length lf' df' (Nat.le_refl _)
    obtain ⟨g1, g2⟩ := go _ (fun _ => by rw [er]; exact ⟨a, b⟩) (fun h => absurd hz h)
    refine ⟨_, g1, g2, fun hq => ?_, ?_⟩
    · unfold fixRes at hq ⊢
      split at hq
      · exact absurd hq (by simp)
      · rename_i hc
        rw [if_neg hc]
        refine ⟨neg', li', _, di', s1.append (Dg.zeros _), cl', ?_, ?_, ?_, ?_, ?_, hB, hok, h1, h8, rfl⟩
        · rw [List.length_append, List.length_replicate]; omega
        · intro hb
          rcases hs' hb with h | h
          · exact .inl h
          · right
            rw [val_append_zeros]
            intro h0
            rcases Nat.mul_eq_zero.1 h0 with h0 | h0
            · exact h (s3 h0)
            · have := Nat.pow_pos (n := n - (strip n lf'.length lf').length) (show 0 < 10 by omega); omega
        · rw [List.length_append, List.length_replicate]; omega
        · rw [List.length_append, List.length_replicate]; omega
        · rw [List.length_append, List.length_replicate, e]
          rcases s5 with h | h
          · left; omega
          · by_cases hle : (strip n lf'.length lf').length ≤ n
            · left; omega
            · right
              have e0 : n - (strip n lf'.length lf').length = 0 := by omega
              rw [e0, List.replicate_zero, List.append_nil, Nat.add_zero]
              exact h
    · intro li2 lf2 di2 df2 eI2 eF2 cl2 hn2 hs2 _ _ _ hl2 hm2 hlast2
      have q1 : li2 = li := ofD_inj di2 di (eI2.symm.trans eI)
      have q2 : lf2 = lf := ofD_inj df2 df (eF2.symm.trans eF)
      subst q1 q2
      have hp : plRes neg li2 lf2 mode most.toNat = (neg, ofD li2, ofD lf2, 0) := by unfold plRes; rw [if_pos hm2]
      rw [hp] at er'
      injection er' with t1 t2
      injection t2 with t2 t3
      injection t3 with t3 _
      have t2 := ofD_inj di2 di' t2
      have t3 := ofD_inj df2 df' t3
      subst t1 t2 t3
      rw [e] at hl2 hlast2
      rw [strip_stay n _ _ (by rcases hlast2 with h | h; left; omega; right; exact h)]
      unfold fixRes
      rw [if_neg (by omega)]
      have e0 : n - lf2.length = 0 := by omega
      rw [e0, List.replicate_zero, List.append_nil, eI, eF]
  · obtain ⟨g1, g2⟩ := go _ (fun h => absurd h hz) (fun _ => rfl)
    refine ⟨_, g1, g2, fun h => absurd h hz, ?_⟩
    intro li2 lf2 di2 df2 eI2 eF2 cl2 hn2 hs2 _ _ _ hl2 hm2 hlast2
    have q1 : li2 = li := ofD_inj di2 di (eI2.symm.trans eI)
    have q2 : lf2 = lf := ofD_inj df2 df (eF2.symm.trans eF)
    subst q1 q2
    exact absurd (by rw [er]; unfold plRes; rw [if_pos hm2]) hz

end Go.Proofs.YtpmhebdaphjinaaDoor.RoundFixes
set_option linter.unusedVariables false
set_option linter.unusedSimpArgs false
namespace Go.Proofs.YtpmhebdaphjinaaDoor.RoundDigits
open Go.RowKit Go.Proofs.YtpmhebdaphjinaaDoorW.PrintWords Go.Proofs.YtpmhebdaphjinaaDoorW.PrintLast Go.Proofs.YtpmhebdaphjinaaDoor.F Go.Proofs.YtpmhebdaphjinaaDoor.Dig Go.Proofs.YtpmhebdaphjinaaDoor.RoundRef Go.Proofs.YtpmhebdaphjinaaDoor.RoundProg Go.Proofs.YtpmhebdaphjinaaDoor.RoundPlaces Go.Proofs.YtpmhebdaphjinaaDoor.RoundFixes

/-- How many significant digits there are. -/
def cnt (li lf : List Nat) : Nat := if val (li ++ lf) = 0 then li.length + lf.length else (tl (li ++ lf)).length
theorem tl_le (l : List Nat) : (tl l).length ≤ l.length := (List.dropWhile_sublist _).length_le
theorem cnt_le (li lf : List Nat) : cnt li lf ≤ li.length + lf.length := by
  unfold cnt
  split
  · exact Nat.le_refl _
  · have := tl_le (li ++ lf); rw [List.length_append] at this; exact this
theorem tl_snoc (l : List Nat) (h : tl l ≠ []) : tl (l ++ [0]) = tl l ++ [0] := by
  unfold tl at h ⊢
  rw [List.dropWhile_append]
  rw [if_neg (by simpa using h)]
theorem cnt_snoc (li lf : List Nat) : cnt li (lf ++ [0]) = cnt li lf + 1 := by
  unfold cnt
  rw [← List.append_assoc, val_snoc]
  by_cases h : val (li ++ lf) = 0
  · rw [if_pos (by omega), if_pos h, List.length_append]; simp; omega
  · rw [if_neg (by omega), if_neg h, tl_snoc _ (fun e => h (tl_nil.1 e))]; simp
theorem pcount (neg : Bool) (li lf : List Nat) (di : Dg li) (df : Dg lf) (hn : li.length + lf.length ≤ 1000) : round_count.f neg (ofD li) (ofD lf) = some ((cnt li lf : Nat) : Int) := by
  unfold round_count.f
  rw [if_pos (by rw [size_ofD, size_ofD]; omega), ofD_append, trimLeft_f _ (di.append df) (by rw [List.length_append]; omega), Option.bind_some]
  unfold cnt
  by_cases h : val (li ++ lf) = 0
  · rw [if_pos h, if_pos (toList_nil.2 (tl_nil.2 h)), size_ofD, List.length_append]
  · rw [if_neg h, if_neg (fun e => h (tl_nil.1 (toList_nil.1 e))), size_ofD]
theorem rcount (neg : Bool) (li lf : List Nat) (di : Dg li) (df : Dg lf) (hn : li.length + lf.length ≤ 1000) : Ev (fun k => idiomref03_count.f k neg (ofD li) (ofD lf)) ((cnt li lf : Nat) : Int) := by
  have ls : (li ++ lf).length = li.length + lf.length := List.length_append
  have hd := di.append df
  have lv := lead_ev (li ++ lf) hd (by omega)
  have hl0 : (ofD (lead (li ++ lf))).toList = ([48] : List UInt8) ↔ val (li ++ lf) = 0 := by
    have e : ([48] : List UInt8) = (ofD [0]).toList := by rw [toList_ofD]; rfl
    rw [e, toList_inj hd.lead (Dg.cons (by omega) Dg.nil)]
    constructor
    · intro h; rw [← val_lead, h]; rfl
    · intro h; exact canon_zero hd.lead (canon_lead _) (by rw [val_lead]; exact h)
  refine Ev.congr (fun k => if_pos (by rw [size_ofD, size_ofD]; omega)) ?_
  rw [ofD_append]
  refine Ev.bind lv ?_
  unfold cnt
  by_cases h : val (li ++ lf) = 0
  · rw [if_pos h]
    refine Ev.congr (fun k => if_pos (hl0.2 h)) ?_
    rw [size_ofD, ls]; exact Ev.now _
  · rw [if_neg h]
    refine Ev.congr (fun k => if_neg (fun e => h (hl0.1 e))) (Ev.bind lv ?_)
    rw [size_ofD, lead_of_tl, if_neg (fun e => h (tl_nil.1 e))]
    exact Ev.now _

/-- Noughts at the end go, down to so many significant digits. -/
def strip2 (li : List Nat) (least : Nat) : Nat → List Nat → List Nat
  | 0, l => l
  | n + 1, l => if l ≠ [] ∧ l.getD (l.length - 1) 0 = 0 ∧ least < cnt li l then strip2 li least n (l.take (l.length - 1)) else l
/-- What is told of what is left. -/
def sigRes (neg : Bool) (li lf : List Nat) (least : Nat) : Bool × ByteArray × ByteArray × Int :=
  if li.length + (lf.length + (least - cnt li lf)) > 40 then (false, ⟨#[]⟩, ⟨#[]⟩, 3) else (neg, ofD li, ofD (lf ++ List.replicate (least - cnt li lf) 0), 0)
theorem ptail (neg : Bool) (li lf : List Nat) (least : Nat) (di : Dg li) (df : Dg lf) (hn : li.length + lf.length ≤ 200) (h40 : least ≤ 40) :
    Ev (fun k => round_Significant.j2 k (least : Int) neg (ofD li) (ofD lf)) (sigRes neg li lf least) := by
  have pc := pcount neg li lf di df (by omega)
  have hc := cnt_le li lf
  refine Ev.some fun k => ?_
  simp only [round_Significant.j2, pc, Option.bind_some]
  unfold sigRes
  generalize cnt li lf = c at *
  by_cases h1 : c < least
  · rw [if_pos (by omega), w64 (by omega) (by omega), repeat_f _ (by omega) (by omega)]
    have e : ((least : Int) - (c : Int)).toNat = least - c := by omega
    rw [e]
    simp only [Option.bind_some, size_ofD, List.length_replicate, ofD_append, List.length_append]
    rw [if_pos (by omega), w64 (by omega) (by omega)]
    by_cases h2 : li.length + (lf.length + (least - c)) > 40
    · rw [if_pos (by omega), if_pos h2]
    · rw [if_neg (by omega), if_neg h2]
  · rw [if_neg (by omega)]
    have e : least - c = 0 := by omega
    simp only [size_ofD, e, List.replicate_zero, List.append_nil, Nat.add_zero]
    rw [w64 (by omega) (by omega)]
    by_cases h2 : li.length + lf.length > 40
    · rw [if_pos (by omega), if_pos h2]
    · rw [if_neg (by omega), if_neg h2]
theorem rtail (neg : Bool) (li : List Nat) (least : Nat) (di : Dg li) (h40 : least ≤ 40) : ∀ (n : Nat) (lf : List Nat), Dg lf → least - cnt li lf = n → li.length + lf.length ≤ 200 - n →
    Ev (fun k => idiomref03_Significant.l1 k (least : Int) neg (ofD li) (ofD lf)) (sigRes neg li lf least) := by
  intro n
  induction n with
  | zero =>
    intro lf df hz hn
    refine Ev.step (f := fun k => (idiomref03_count.f k neg (ofD li) (ofD lf)).bind fun t487 => (if t487 < (least : Int) then (if (ofD lf).size + 1 ≤ 9223372036854775807 then (idiomref03_Significant.l1 k (least : Int) neg (ofD li) ((ofD lf) ++ (⟨#[48]⟩ : ByteArray))) else (none)) else ((idiomref03_bound.f neg (ofD li) (ofD lf)).bind fun bt488 => (some (bt488.1, bt488.2.1, bt488.2.2.1, bt488.2.2.2))))) (fun k => rfl) ?_
    refine Ev.bind (rcount neg li lf di df (by omega)) (Ev.congr (fun k => if_neg (by omega)) (Ev.congr (fun k => ?_) (Ev.now _)))
    unfold idiomref03_bound.f sigRes
    simp only [size_ofD, hz, List.replicate_zero, List.append_nil, Nat.add_zero]
    rw [w64 (by omega) (by omega)]
    by_cases h2 : li.length + lf.length > 40
    · rw [if_pos (by omega), if_pos h2]; rfl
    · rw [if_neg (by omega), if_neg h2]; rfl
  | succ n ih =>
    intro lf df hz hn
    have hl : (lf ++ [0]).length = lf.length + 1 := by simp
    have hs := cnt_snoc li lf
    have h := ih (lf ++ [0]) (df.append (Dg.cons (by omega) Dg.nil)) (by omega) (by omega)
    have e : sigRes neg li (lf ++ [0]) least = sigRes neg li lf least := by
      unfold sigRes
      rw [hl, hs]
      have e1 : least - cnt li lf = (least - (cnt li lf + 1)) + 1 := by omega
      have e2 : lf.length + 1 + (least - (cnt li lf + 1)) = lf.length + (least - cnt li lf) := by omega
      rw [e2, e1, List.append_assoc, List.singleton_append, ← List.replicate_succ]
    rw [e] at h
    refine Ev.step (f := fun k => (idiomref03_count.f k neg (ofD li) (ofD lf)).bind fun t487 => (if t487 < (least : Int) then (if (ofD lf).size + 1 ≤ 9223372036854775807 then (idiomref03_Significant.l1 k (least : Int) neg (ofD li) ((ofD lf) ++ (⟨#[48]⟩ : ByteArray))) else (none)) else ((idiomref03_bound.f neg (ofD li) (ofD lf)).bind fun bt488 => (some (bt488.1, bt488.2.1, bt488.2.2.1, bt488.2.2.2))))) (fun k => rfl) ?_
    refine Ev.bind (rcount neg li lf di df (by omega)) (Ev.congr (fun k => ?_) h)
    rw [if_pos (by omega), if_pos (by rw [size_ofD]; omega), ofD_zero, ofD_append]
theorem take_last {lf : List Nat} (h : lf ≠ []) (h2 : lf.getD (lf.length - 1) 0 = 0) : lf = lf.take (lf.length - 1) ++ [0] := by
  have hl : 0 < lf.length := by cases lf with
    | nil => exact absurd rfl h
    | cons a b => simp
  have h5 : lf.drop (lf.length - 1) = [lf.getD (lf.length - 1) 0] := by
    rw [getD_drop lf (lf.length - 1) (by omega), List.drop_eq_nil_of_le (by omega)]
  rw [h2] at h5
  rw [← h5, List.take_append_drop]
/-- Both go over the noughts in one way. -/
theorem loops2 (neg : Bool) (li : List Nat) (least : Nat) (di : Dg li) (h40 : least ≤ 40) : ∀ (n : Nat) (lf : List Nat), Dg lf → lf.length ≤ n → li.length + lf.length ≤ 100 →
    Ev (fun k => round_Significant.l0 k (least : Int) neg (ofD li) (ofD lf)) (sigRes neg li (strip2 li least n lf) least) ∧
    Ev (fun k => idiomref03_Significant.l0 k (least : Int) neg (ofD li) (ofD lf)) (sigRes neg li (strip2 li least n lf) least) := by
  intro n
  induction n with
  | zero =>
    intro lf df hn hl
    have hnil : lf = [] := List.eq_nil_of_length_eq_zero (by omega)
    have p := ptail neg li lf least di df (by omega) h40
    have r := rtail neg li least di h40 _ lf df rfl (by omega)
    have c := rcount neg li lf di df (by omega)
    refine ⟨Ev.step (fun k => ?_) p, Ev.step (fun k => rfl) (Ev.bind c (Ev.congr (fun k => ?_) (Ev.step (g := fun k => idiomref03_Significant.j4 k (least : Int) neg (ofD li) (ofD lf)) (fun k => rfl) r)))⟩
    · simp only [round_Significant.l0]; rw [if_pos (toList_nil.2 hnil)]
    · rw [if_neg (show ¬ ((ofD lf).size : Int) > 0 by rw [size_ofD]; omega)]
      split <;> rfl
  | succ n ih =>
    intro lf df hn hl
    have p := ptail neg li lf least di df (by omega) h40
    have r := rtail neg li least di h40 _ lf df rfl (by omega)
    have c := rcount neg li lf di df (by omega)
    have pc := pcount neg li lf di df (by omega)
    have j4 : Ev (fun k => idiomref03_Significant.j4 k (least : Int) neg (ofD li) (ofD lf)) (sigRes neg li lf least) := Ev.step (fun k => rfl) r
    unfold strip2
    by_cases hnil : lf = []
    · rw [if_neg (fun h => h.1 hnil)]
      refine ⟨Ev.step (fun k => ?_) p, Ev.step (fun k => rfl) (Ev.bind c (Ev.congr (fun k => ?_) j4))⟩
      · simp only [round_Significant.l0]; rw [if_pos (toList_nil.2 hnil)]
      · rw [if_neg (show ¬ ((ofD lf).size : Int) > 0 by rw [size_ofD, hnil]; simp)]
        split <;> rfl
    · have hpos : 0 < lf.length := by cases lf with
        | nil => exact absurd rfl hnil
        | cons a b => simp
      have hlast := last_ofD df hpos
      have tn : ¬ (ofD lf).toList = [] := fun e => hnil (toList_nil.1 e)
      by_cases h2 : lf.getD (lf.length - 1) 0 = 0
      · rw [h2] at hlast
        by_cases h3 : least < cnt li lf
        · rw [if_pos ⟨hnil, h2, h3⟩]
          obtain ⟨a, b⟩ := ih (lf.take (lf.length - 1)) (df.take _) (by simp; omega) (by simp; omega)
          refine ⟨Ev.step (fun k => ?_) a, Ev.step (fun k => rfl) (Ev.bind c (Ev.congr (fun k => ?_) b))⟩
          · simp only [round_Significant.l0, size_ofD, pc, Option.bind_some]
            rw [if_neg tn, w64 (by omega) (by omega), if_pos (by omega), if_pos (by omega), hlast, if_pos (by omega), if_pos (by omega), if_pos (by omega), cut_ofD lf (by omega)]
          · simp only [size_ofD]
            rw [if_pos (by omega), if_pos (by omega), w64 (by omega) (by omega), if_pos (by omega), if_pos (by omega), hlast, if_pos (by omega), if_pos (by omega), cut_ofD lf (by omega)]
        · rw [if_neg (fun h => h3 h.2.2)]
          refine ⟨Ev.step (fun k => ?_) p, Ev.step (fun k => rfl) (Ev.bind c (Ev.congr (fun k => ?_) j4))⟩
          · simp only [round_Significant.l0, size_ofD, pc, Option.bind_some]
            rw [if_neg tn, w64 (by omega) (by omega), if_pos (by omega), if_pos (by omega), hlast, if_pos (by omega), if_neg (by omega)]
          · rw [if_neg (by omega)]
      · rw [if_neg (fun h => h2 h.2.1)]
        refine ⟨Ev.step (fun k => ?_) p, Ev.step (fun k => rfl) (Ev.bind c (Ev.congr (fun k => ?_) j4))⟩
        · simp only [round_Significant.l0, size_ofD]
          rw [if_neg tn, w64 (by omega) (by omega), if_pos (by omega), if_pos (by omega), hlast, if_neg (by omega)]
        · simp only [size_ofD]
          by_cases h3 : least < cnt li lf
          · rw [if_pos (by omega), if_pos (by omega), w64 (by omega) (by omega), if_pos (by omega), if_pos (by omega), hlast, if_neg (by omega)]
          · rw [if_neg (by omega)]

/-- What is told of a number that is rounded. -/
def fin (neg : Bool) (li lf : List Nat) (least : Nat) : Bool × ByteArray × ByteArray × Int := sigRes neg li (strip2 li least lf.length lf) least
theorem fin_ev (neg : Bool) (li lf : List Nat) (least : Nat) (di : Dg li) (df : Dg lf) (hn : li.length + lf.length ≤ 100) (h40 : least ≤ 40) :
    Ev (fun k => round_Significant.j0 k (least : Int) neg (ofD li) (ofD lf)) (fin neg li lf least) ∧ Ev (fun k => idiomref03_Significant.j2 k (least : Int) neg (ofD li) (ofD lf)) (fin neg li lf least) := by
  obtain ⟨a, b⟩ := loops2 neg li least di h40 lf.length lf df (Nat.le_refl _) hn
  exact ⟨Ev.step (fun k => rfl) a, Ev.step (fun k => rfl) b⟩
theorem strip2_zeros (least : Nat) (h : 1 ≤ least) : ∀ (n k : Nat), k ≤ n → strip2 [0] least n (List.replicate k 0) = List.replicate (min k (least - 1)) 0
  | 0, k, hk => by
    have : k = 0 := by omega
    subst this
    simp [strip2]
  | n + 1, 0, hk => by simp [strip2]
  | n + 1, k + 1, hk => by
    have hc : cnt [0] (List.replicate (k + 1) 0) = k + 2 := by
      unfold cnt
      rw [if_pos (by rw [val_append, val_zeros]; simp [val])]
      simp; omega
    unfold strip2
    rw [hc]
    by_cases h1 : least < k + 2
    · rw [if_pos ⟨by simp, by simp [List.getD_eq_getElem?_getD], h1⟩]
      have : (List.replicate (k + 1) 0).take ((List.replicate (k + 1) 0).length - 1) = List.replicate k 0 := by simp
      rw [this, strip2_zeros least h n k (by omega)]
      congr 1; omega
    · rw [if_neg (fun h => h1 h.2.2)]
      congr 1; omega
theorem fin_zeros (least k : Nat) (h : 1 ≤ least) (hk : least ≤ k + 1) : fin false [0] (List.replicate k 0) least = fin false [0] (List.replicate (least - 1) 0) least := by
  unfold fin
  rw [List.length_replicate, List.length_replicate, strip2_zeros least h k k (Nat.le_refl _), strip2_zeros least h _ _ (Nat.le_refl _)]
  have e1 : min k (least - 1) = least - 1 := by omega
  rw [e1, Nat.min_self]

/-- What is left of a number of too many digits: both tell one thing. -/
theorem shorter (neg : Bool) (li lf : List Nat) (mode : Int) (least most : Nat) (di : Dg li) (df : Dg lf) (cl : Canon li) (hn : li.length + lf.length ≤ 40) (hs : neg = true → val li ≠ 0 ∨ val lf ≠ 0) (h1 : 1 ≤ mode) (h8 : mode ≤ 8)
    (hl : 1 ≤ least) (hlm : least ≤ most) (h40 : most ≤ 40) (hc : most < cnt li lf) :
    ∃ r, Ev (fun k => (round_shorten.f k neg (ofD li) (ofD lf) mode ((cnt li lf - most : Nat) : Int)).bind fun b => (if b.2.2.2 = 0 then (round_Significant.j0 k (least : Int) b.1 b.2.1 b.2.2.1) else (some (false, (⟨#[]⟩ : ByteArray), (⟨#[]⟩ : ByteArray), b.2.2.2)))) r ∧
      (val (li ++ lf) = 0 → Ev (fun k => idiomref03_Significant.j2 k (least : Int) neg (ofD li) (ofD lf)) r) ∧
      (val (li ++ lf) ≠ 0 → Ev (fun k => idiomref03_Significant.j1 k mode (least : Int) ((cnt li lf - most : Nat) : Int) true neg (ofD li) (ofD lf)) r) := by
  have hcl := cnt_le li lf
  obtain ⟨m, hm⟩ : ∃ m, m = cnt li lf - most := ⟨_, rfl⟩
  rw [← hm]
  have m0 : 0 < m := by omega
  have m1 : m < li.length + lf.length := by omega
  obtain ⟨x, dx, lx, vx, sx⟩ := shorten_ev neg li lf mode m di df hn h1 h8 m0 m1
  have ls : (li ++ lf).length = li.length + lf.length := List.length_append
  by_cases hz : val (li ++ lf) = 0
  · -- nought
    have hv := val_append li lf
    have hp : 0 < 10 ^ lf.length := Nat.pow_pos (by omega)
    have vl : val li = 0 := by
      apply Classical.byContradiction
      intro h
      have : 0 < val li * 10 ^ lf.length := Nat.mul_pos (by omega) hp
      omega
    have vf : val lf = 0 := by rw [hz, vl] at hv; omega
    have el : li = [0] := canon_zero di cl vl
    have ef : lf = List.replicate lf.length 0 := eq_of_val df (Dg.zeros _) (by simp) (by rw [vf, val_zeros])
    have hneg : neg = false := by
      cases neg with
      | false => rfl
      | true => rcases hs rfl with h | h <;> omega
    have hcc : cnt li lf = 1 + lf.length := by unfold cnt; rw [if_pos hz, el]; rfl
    have hml : m ≤ lf.length := by omega
    rw [hz] at vx sx
    have hU : ∀ u, upw mode neg 0 0 u = (false, 0) := fun u => by unfold upw; simp
    rw [Nat.zero_div, Nat.zero_mod, hU] at vx sx
    simp only [if_true] at sx
    rw [if_neg (by omega)] at sx
    have vx0 : val x = 0 := by simpa using vx
    have b1 : built neg x (lf.length - m) = (false, ofD [0], ofD (List.replicate (lf.length - m) 0), 0) := by
      have i1 : iOf (lf.length - m) x = [0] := canon_zero (dg_iOf dx _) (canon_lead _) (by rw [val_iOf dx, vx0, Nat.zero_div])
      have i2 : fOf (lf.length - m) x = List.replicate (lf.length - m) 0 := eq_of_val (dg_fOf dx _) (Dg.zeros _) (by rw [fOf_length]; simp) (by rw [val_fOf dx, vx0, val_zeros, Nat.zero_mod])
      unfold built
      rw [i1, i2, if_neg (by simp; omega), vx0]
      simp
    rw [b1] at sx
    have d0 : Dg [0] := Dg.cons (by omega) Dg.nil
    obtain ⟨a, _⟩ := fin_ev false [0] (List.replicate (lf.length - m) 0) least d0 (Dg.zeros _) (by simp; omega) (by omega)
    obtain ⟨_, b⟩ := fin_ev false [0] (List.replicate lf.length 0) least d0 (Dg.zeros _) (by simp; omega) (by omega)
    rw [fin_zeros least _ hl (by omega)] at a b
    refine ⟨fin false [0] (List.replicate (least - 1) 0) least, Ev.bind sx (Ev.congr (fun k => if_pos rfl) a), fun _ => ?_, fun h => absurd hz h⟩
    rw [hneg, el, ef]
    exact b
  -- other numbers
  have hp : 0 < val (1 :: List.replicate m 0) := by rw [unit_val]; exact Nat.pow_pos (by omega)
  obtain ⟨q, dq, cq, vq, lq, tq⟩ := turned_ev mode neg (li ++ lf) (1 :: List.replicate m 0) (di.append df) (dg_unit _) (canon_unit _) hp (by omega) (by simp; omega)
  rw [unit_val] at vq tq
  have hvx : val x = val q := by rw [vx, vq]
  -- the digits, and how many of them are places
  obtain ⟨z, p, sP, sR, hz1, hz2, eP, eR, hpl, hpp⟩ : ∃ (z p : Nat) (sP sR : List Nat), sP = x ++ List.replicate z 0 ∧ sR = q ++ List.replicate z 0 ∧
      (if m > lf.length then built neg (x ++ List.replicate (m - lf.length) 0) 0 else built neg x (lf.length - m)) = built neg sP p ∧ z = m - lf.length ∧ p = lf.length - m ∧ (p = 0 ∨ z = 0) := by
    refine ⟨m - lf.length, lf.length - m, _, _, rfl, rfl, ?_, rfl, rfl, by omega⟩
    by_cases h : m > lf.length
    · rw [if_pos h]
      have : lf.length - m = 0 := by omega
      rw [this]
    · rw [if_neg h]
      have : m - lf.length = 0 := by omega
      rw [this, List.replicate_zero, List.append_nil]
  rw [eP] at sx
  have dP : Dg sP := hz1 ▸ dx.append (Dg.zeros _)
  have dR : Dg sR := hz2 ▸ dq.append (Dg.zeros _)
  have hv : val sP = val sR := by rw [hz1, hz2, val_append_zeros, val_append_zeros, hvx]
  obtain ⟨pe1, pe2⟩ := parts_eq dP dR hv p
  have lP : sP.length ≤ 81 := by rw [hz1, List.length_append, List.length_replicate]; omega
  have lI : (iOf p sP).length + p ≤ 82 := by
    have a := lead_length ((pad p sP).take ((pad p sP).length - p))
    have b := pad_length p sP
    rw [List.length_take] at a
    have : iOf p sP = lead ((pad p sP).take ((pad p sP).length - p)) := rfl
    rw [← this] at a
    omega
  have big : (iOf p sP).length + p > 40 → p = 0 := by
    intro hb
    rcases hpp with h | h
    · exact h
    · exfalso
      have e1 : lf.length - (lf.length - m) = m := by omega
      have wx : val x = worth neg li lf mode (lf.length - m) := by unfold worth; rw [e1]; exact vx
      have il := int_le neg li lf mode (lf.length - m) di df (by omega) x dx wx
      rw [hz1, h, List.replicate_zero, List.append_nil, hpl] at hb
      omega
  obtain ⟨fP, fR⟩ := fin_ev (neg && decide (val sP ≠ 0)) (iOf p sP) (fOf p sP) least (dg_iOf dP p) (dg_fOf dP p) (by rw [fOf_length]; omega) (by omega)
  generalize hUU : upw mode neg (val (li ++ lf) / 10 ^ m) (val (li ++ lf) % 10 ^ m) (10 ^ m) = U at *
  have rest : ∀ r, (U.2 = 0 → Ev (fun k => idiomref03_Significant.j2 k (least : Int) (neg && decide (val sP ≠ 0)) (ofD (iOf p sP)) (ofD (fOf p sP))) r) → (U.2 ≠ 0 → r = (false, ⟨#[]⟩, ⟨#[]⟩, U.2)) →
      Ev (fun k => idiomref03_Significant.j1 k mode (least : Int) (m : Int) true neg (ofD li) (ofD lf)) r := by
    intro r h0 h1
    have nv := noughts_ev (m : Int) (by omega)
    rw [Int.toNat_natCast] at nv
    refine Ev.step (f := fun k => (idiomref03_Noughts.f k (m : Int)).bind fun t476 => (if 1 + t476.size ≤ 9223372036854775807 then ((idiomref03_turned.f k mode neg (ofD (li ++ lf)) ((⟨#[49]⟩ : ByteArray) ++ t476)).bind fun bt477 => (if bt477.2 = 0 then (if (m : Int) ≥ ((ofD lf).size : Int) then ((idiomref03_Noughts.f k (wrap64 ((m : Int) - ((ofD lf).size : Int)))).bind fun t479 => (if bt477.1.size + t479.size ≤ 9223372036854775807 then ((idiomref03_Made.f k neg (bt477.1 ++ t479) 0).bind fun bt480 => (idiomref03_Significant.j2 k (least : Int) bt480.1 bt480.2.1 bt480.2.2)) else (none))) else ((idiomref03_Made.f k neg bt477.1 (wrap64 (((ofD lf).size : Int) - (m : Int)))).bind fun bt483 => (idiomref03_Significant.j2 k (least : Int) bt483.1 bt483.2.1 bt483.2.2))) else (some (false, (⟨#[]⟩ : ByteArray), (⟨#[]⟩ : ByteArray), bt477.2)))) else (none))) (fun k => ?_) ?_
    · simp only [idiomref03_Significant.j1]
      rw [if_pos trivial, if_pos (by rw [size_ofD, size_ofD]; omega), ofD_append]
    · refine Ev.bind nv ?_
      have eu : (⟨#[49]⟩ : ByteArray) ++ ofD (List.replicate m 0) = ofD (1 :: List.replicate m 0) := by rw [ofD_one, ofD_append]; rfl
      refine Ev.congr (fun k => by rw [if_pos (by rw [size_ofD, List.length_replicate]; omega), eu]) ?_
      refine Ev.bind tq ?_
      by_cases hU : U.2 = 0
      · refine Ev.congr (fun k => if_pos hU) ?_
        have g := h0 hU
        rw [pe1, pe2, hv] at g
        have mv := made_ev neg sR p dR (by rw [hz2, List.length_append, List.length_replicate]; omega) (by omega)
        rw [size_ofD]
        by_cases hml : m ≥ lf.length
        · refine Ev.congr (fun k => if_pos (by omega)) ?_
          rw [w64 (by omega) (by omega)]
          have nv2 := noughts_ev ((m : Int) - lf.length) (by omega)
          have e2 : ((m : Int) - lf.length).toNat = z := by omega
          rw [e2] at nv2
          have e3 : p = 0 := by omega
          refine Ev.bind nv2 (Ev.congr (fun k => if_pos (by rw [size_ofD, size_ofD, List.length_replicate]; omega)) ?_)
          rw [ofD_append, ← hz2]
          rw [e3] at mv g
          exact Ev.bind mv g
        · refine Ev.congr (fun k => if_neg (by omega)) ?_
          rw [w64 (by omega) (by omega)]
          have e2 : ((lf.length : Int) - m) = ((p : Nat) : Int) := by omega
          have e3 : z = 0 := by omega
          have e4 : sR = q := by rw [hz2, e3, List.replicate_zero, List.append_nil]
          rw [e2, ← e4]
          exact Ev.bind mv g
      · rw [h1 hU]
        exact Ev.congr (fun k => if_neg hU) (Ev.now _)
  by_cases hU : U.2 = 0
  · rw [if_pos hU] at sx
    by_cases hb : (iOf p sP).length + p > 40
    · have p0 := big hb
      have eF : fOf p sP = [] := List.eq_nil_of_length_eq_zero (by rw [fOf_length]; exact p0)
      have e : fin (neg && decide (val sP ≠ 0)) (iOf p sP) (fOf p sP) least = (false, ⟨#[]⟩, ⟨#[]⟩, 3) := by
        rw [eF]
        unfold fin sigRes
        rw [if_pos (by simp only [List.length_nil, strip2]; omega)]
      have b1 : built neg sP p = (false, ⟨#[]⟩, ⟨#[]⟩, 3) := by unfold built; rw [if_pos hb]
      rw [b1] at sx
      rw [e] at fR
      exact ⟨_, Ev.bind sx (Ev.congr (fun k => if_neg (by decide)) (Ev.now _)), fun h => absurd h hz, fun _ => rest _ (fun _ => fR) (fun h => absurd hU h)⟩
    · have b1 : built neg sP p = (neg && decide (val sP ≠ 0), ofD (iOf p sP), ofD (fOf p sP), 0) := by unfold built; rw [if_neg hb]
      rw [b1] at sx
      exact ⟨_, Ev.bind sx (Ev.congr (fun k => if_pos rfl) fP), fun h => absurd h hz, fun _ => rest _ (fun _ => fR) (fun h => absurd hU h)⟩
  · rw [if_neg hU] at sx
    exact ⟨_, Ev.bind sx (Ev.congr (fun k => if_neg hU) (Ev.now _)), fun h => absurd h hz, fun _ => rest _ (fun h => absurd h hU) (fun _ => rfl)⟩

/-- What is asked of both numbers. -/
def inS (least most : Int) : Prop := 1 ≤ least ∧ least ≤ most ∧ most ≤ 40
instance (a b : Int) : Decidable (inS a b) := by unfold inS; infer_instance
/-- Whatever is asked: both tell one thing. -/
theorem sig (neg : Bool) (I F : ByteArray) (mode least most : Int) : ∃ r, Ev (fun k => round_Significant.f k neg I F mode least most) r ∧ Ev (fun k => idiomref03_Significant.f k neg I F mode least most) r ∧
    (∀ li lf, Dg li → Dg lf → I = ofD li → F = ofD lf → Canon li → li.length + lf.length ≤ 40 → (neg = true → val li ≠ 0 ∨ val lf ≠ 0) → 1 ≤ mode → mode ≤ 8 → inS least most → (cnt li lf : Int) ≤ most → r = fin neg li lf least.toNat) := by
  obtain ⟨x, pa, ra, hx⟩ := asked neg I F mode
  by_cases h0 : x = 0
  rotate_left
  · refine ⟨(false, ⟨#[]⟩, ⟨#[]⟩, x), Ev.bind pa (Ev.congr (fun k => if_neg h0) (Ev.now _)), Ev.bind ra (Ev.congr (fun k => if_neg h0) (Ev.now _)), ?_⟩
    intro li lf di df eI eF cl hn hs h1 h8 _ _
    exact absurd (hx.2 ⟨⟨li, lf, di, df, eI, eF, cl, hn, hs⟩, h1, h8⟩) h0
  subst h0
  obtain ⟨⟨li, lf, di, df, eI, eF, cl, hn, hs⟩, h1, h8⟩ := hx.1 rfl
  have pb : round_bounds.f 1 least most = some (decide (inS least most)) := by
    unfold round_bounds.f
    by_cases a : least ≥ 1
    · rw [if_pos a]
      by_cases b : most ≥ 1
      · rw [if_pos b]
        by_cases c : least ≤ 40
        · rw [if_pos c]
          by_cases d : most ≤ 40
          · rw [if_pos d]; congr 1; rw [decide_eq_decide]; exact ⟨fun h => ⟨by omega, h, by omega⟩, fun h => h.2.1⟩
          · rw [if_neg d]; congr 1; exact (decide_eq_false (fun h => by have h1 := h.1; have h2 := h.2.1; have h3 := h.2.2; omega)).symm
        · rw [if_neg c]; congr 1; exact (decide_eq_false (fun h => by have h1 := h.1; have h2 := h.2.1; have h3 := h.2.2; omega)).symm
      · rw [if_neg b]; congr 1; exact (decide_eq_false (fun h => by have h1 := h.1; have h2 := h.2.1; have h3 := h.2.2; omega)).symm
    · rw [if_neg a]; congr 1; exact (decide_eq_false (fun h => by have h1 := h.1; have h2 := h.2.1; have h3 := h.2.2; omega)).symm
  have rb : ∀ r, Ev (fun k => idiomref03_Significant.j0 k mode least most (!decide (inS least most)) neg I F) r → Ev (fun k => idiomref03_Significant.f k neg I F mode least most) r := by
    intro r h
    refine Ev.bind ra (Ev.congr (fun k => ?_) h)
    rw [if_pos rfl]
    by_cases a : least < 1
    · rw [if_pos a, decide_eq_false (fun h : inS least most => by have h1 := h.1; have h2 := h.2.1; have h3 := h.2.2; omega)]; rfl
    · rw [if_neg a]
      by_cases b : least > 40
      · rw [if_pos b, decide_eq_false (fun h : inS least most => by have h1 := h.1; have h2 := h.2.1; have h3 := h.2.2; omega)]; rfl
      · rw [if_neg b]
        by_cases c : most < least
        · rw [if_pos c, decide_eq_false (fun h : inS least most => by have h1 := h.1; have h2 := h.2.1; have h3 := h.2.2; omega)]; rfl
        · rw [if_neg c]
          have : decide (most > 40) = !decide (inS least most) := by
            by_cases d : most > 40
            · rw [decide_eq_true d, decide_eq_false (fun h : inS least most => by have h3 := h.2.2; omega)]; rfl
            · rw [decide_eq_false d, decide_eq_true (show inS least most from ⟨by omega, by omega, by omega⟩)]; rfl
          rw [this]
  by_cases hB : inS least most
  rotate_left
  · refine ⟨(false, ⟨#[]⟩, ⟨#[]⟩, 1), ?_, rb _ ?_, fun li lf _ _ _ _ _ _ _ _ _ h _ => absurd h hB⟩
    · refine Ev.bind pa (Ev.congr (fun k => ?_) (Ev.now _))
      rw [if_pos rfl, pb, decide_eq_false hB]; rfl
    · refine Ev.some fun k => ?_
      rw [decide_eq_false hB]
      simp only [idiomref03_Significant.j0]; exact if_pos rfl
  have ⟨b0, b1, b2⟩ := hB
  obtain ⟨l, hl⟩ := Int.eq_ofNat_of_zero_le (show 0 ≤ least by omega)
  obtain ⟨s, hss⟩ := Int.eq_ofNat_of_zero_le (show 0 ≤ most by omega)
  subst hl hss
  have pc := pcount neg li lf di df (by omega)
  have rc := rcount neg li lf di df (by omega)
  have hcl := cnt_le li lf
  subst eI eF
  -- the two roads behind what is asked
  have P : ∀ r, Ev (fun k => if ((cnt li lf : Nat) : Int) > (s : Int) then ((round_shorten.f k neg (ofD li) (ofD lf) mode (wrap64 (((cnt li lf : Nat) : Int) - (s : Int)))).bind fun b => (if b.2.2.2 = 0 then (round_Significant.j0 k (l : Int) b.1 b.2.1 b.2.2.1) else (some (false, (⟨#[]⟩ : ByteArray), (⟨#[]⟩ : ByteArray), b.2.2.2)))) else (round_Significant.j0 k (l : Int) neg (ofD li) (ofD lf))) r → Ev (fun k => round_Significant.f k neg (ofD li) (ofD lf) mode (l : Int) (s : Int)) r := by
    intro r h
    refine Ev.bind pa (Ev.congr (fun k => ?_) h)
    rw [if_pos rfl, pb, decide_eq_true hB, Option.bind_some, if_pos rfl, pc, Option.bind_some]
  have R : ∀ r, Ev (fun k => if (wrap64 (((cnt li lf : Nat) : Int) - (s : Int))) > 0 then (if (ofD li).size + (ofD lf).size ≤ 9223372036854775807 then ((idiomref03_Lead.f k ((ofD li) ++ (ofD lf))).bind fun t475 => (idiomref03_Significant.j1 k mode (l : Int) (wrap64 (((cnt li lf : Nat) : Int) - (s : Int))) (t475.toList != ([48] : List UInt8)) neg (ofD li) (ofD lf))) else (none)) else (idiomref03_Significant.j1 k mode (l : Int) (wrap64 (((cnt li lf : Nat) : Int) - (s : Int))) false neg (ofD li) (ofD lf))) r → Ev (fun k => idiomref03_Significant.f k neg (ofD li) (ofD lf) mode (l : Int) (s : Int)) r := by
    intro r h
    have h' : Ev (fun k => (idiomref03_count.f k neg (ofD li) (ofD lf)).bind fun t474 => (if (wrap64 (t474 - (s : Int))) > 0 then (if (ofD li).size + (ofD lf).size ≤ 9223372036854775807 then ((idiomref03_Lead.f k ((ofD li) ++ (ofD lf))).bind fun t475 => (idiomref03_Significant.j1 k mode (l : Int) (wrap64 (t474 - (s : Int))) (t475.toList != ([48] : List UInt8)) neg (ofD li) (ofD lf))) else (none)) else (idiomref03_Significant.j1 k mode (l : Int) (wrap64 (t474 - (s : Int))) false neg (ofD li) (ofD lf)))) r := Ev.bind rc h
    refine rb _ (Ev.step (fun k => ?_) h')
    rw [decide_eq_true hB]
    simp only [idiomref03_Significant.j0]
    exact if_neg (by decide)
  have j12 : ∀ d r, Ev (fun k => idiomref03_Significant.j2 k (l : Int) neg (ofD li) (ofD lf)) r → Ev (fun k => idiomref03_Significant.j1 k mode (l : Int) d false neg (ofD li) (ofD lf)) r := by
    intro d r h
    refine Ev.step (fun k => ?_) h
    simp only [idiomref03_Significant.j1]; exact if_neg (by decide)
  rw [w64 (by omega) (by omega)] at P R
  by_cases hm : s < cnt li lf
  · have ed : ((cnt li lf : Nat) : Int) - (s : Int) = ((cnt li lf - s : Nat) : Int) := by omega
    rw [ed] at P R
    obtain ⟨r, a, b, c⟩ := shorter neg li lf mode l s di df cl hn hs h1 h8 (by omega) (by omega) (by omega) hm
    refine ⟨r, P r (Ev.congr (fun k => if_pos (by omega)) a), R r (Ev.congr (fun k => if_pos (by omega)) (Ev.congr (fun k => if_pos (by rw [size_ofD, size_ofD]; omega)) ?_)), ?_⟩
    · rw [ofD_append]
      have hd := di.append df
      refine Ev.bind (lead_ev (li ++ lf) hd (by rw [List.length_append]; omega)) ?_
      have hl0 : (ofD (lead (li ++ lf))).toList = ([48] : List UInt8) ↔ val (li ++ lf) = 0 := by
        have e : ([48] : List UInt8) = (ofD [0]).toList := by rw [toList_ofD]; rfl
        rw [e, toList_inj hd.lead (Dg.cons (by omega) Dg.nil)]
        constructor
        · intro h; rw [← val_lead, h]; rfl
        · intro h; exact canon_zero hd.lead (canon_lead _) (by rw [val_lead]; exact h)
      by_cases hz : val (li ++ lf) = 0
      · have e : ((ofD (lead (li ++ lf))).toList != ([48] : List UInt8)) = false := by rw [hl0.2 hz]; rfl
        rw [e]
        exact j12 _ _ (b hz)
      · have e : ((ofD (lead (li ++ lf))).toList != ([48] : List UInt8)) = true := by
          rw [bne_iff_ne]; exact fun h => hz (hl0.1 h)
        rw [e]
        exact c hz
    · intro li2 lf2 di2 df2 eI2 eF2 _ _ _ _ _ _ hc2
      have q1 : li2 = li := ofD_inj di2 di eI2.symm
      have q2 : lf2 = lf := ofD_inj df2 df eF2.symm
      subst q1 q2
      omega
  · obtain ⟨a, b⟩ := fin_ev neg li lf l di df (by omega) (by omega)
    refine ⟨fin neg li lf l, P _ (Ev.congr (fun k => if_neg (by omega)) a), R _ (Ev.congr (fun k => if_neg (by omega)) (j12 _ _ b)), ?_⟩
    intro li2 lf2 di2 df2 eI2 eF2 _ _ _ _ _ _ hc2
    have q1 : li2 = li := ofD_inj di2 di eI2.symm
    have q2 : lf2 = lf := ofD_inj df2 df eF2.symm
    subst q1 q2
    rfl

end Go.Proofs.YtpmhebdaphjinaaDoor.RoundDigits
