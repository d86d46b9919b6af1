/- Part 7 of 7 of the proof of the law RoundNear: it is true at every input. Conditions: those of the given row, no others. -/
import Derived.Test.YtpmhebdaphjinaaDoorPkRoundNear5
import Derived.Test.YtpmhebdaphjinaaDoorPkRoundNear1
import Derived.Test.YtpmhebdaphjinaaDoorPkRoundNear2
import Derived.Test.YtpmhebdaphjinaaDoorPkRoundNear0
import Derived.Test.YtpmhebdaphjinaaDoorPkRoundNear3
import Derived.Test.YtpmhebdaphjinaaDoorPkRoundNear4
import Derived.Test.YtpmhebdaphjinaaDoorCards
import Derived.Test.YtpmhebdaphjinaaDoorTie
import Derived.WalkKit
import Derived.ProofKit
import Derived.OpenShut
import Derived.ShutString
import Derived.ChangeOld
import Derived.Below
import Derived.SizedLaws
import Derived.Carry
import Derived.Lib.SmallJoins
import Derived.PinnedBridge
import Derived.Lay
import Derived.LaidOnce
import Derived.SevenTiedAt
set_option linter.unusedVariables false
set_option linter.unusedSimpArgs false
namespace Go.Proofs.YtpmhebdaphjinaaDoor.RoundRef
open Go.RowKit Go.Proofs.YtpmhebdaphjinaaDoorW.PrintWords Go.Proofs.YtpmhebdaphjinaaDoorW.PrintLast Go.Proofs.YtpmhebdaphjinaaDoor.F Go.Proofs.YtpmhebdaphjinaaDoor.Dig

theorem Ev.some {α : Type} {g : Nat → Option α} {r : α} (h : ∀ k, g (k + 1) = some r) : Ev g r := Ev.step (f := fun _ => Option.some r) h (Ev.now r)
theorem Ev.let {α β : Type} {g : Nat → Option α} {f : Nat → α → Option β} {G : Nat → Option β} {a : α} {r : β} (h : Ev g a) (k : Ev (fun n => f n a) r) (e : ∀ n, G n = (g n).bind (f n)) : Ev G r := Ev.congr e (Ev.bind h k)

theorem lead_ev (l : List Nat) (hl : Dg l) (hn : l.length ≤ 1000000) : Ev (fun k => idiomref03_Lead.f k (ofD l)) (ofD (lead l)) := by
  show Ev (fun k => idiomref03_Lead.l0 k (ofD l)) _
  fun_induction lead l with
  | case1 =>
    refine Ev.some fun k => ?_
    simp only [idiomref03_Lead.l0]
    rw [if_neg (by rw [size_ofD]; simp), if_pos (by rw [toList_ofD]; rfl)]
    rfl
  | case2 d =>
    refine Ev.some fun k => ?_
    simp only [idiomref03_Lead.l0]
    rw [if_neg (by rw [size_ofD]; simp), if_neg (by rw [toList_ofD]; simp)]
  | case3 e t ih =>
    refine Ev.step (fun k => ?_) (ih hl.tail (by simp at hn ⊢; omega))
    simp only [idiomref03_Lead.l0]
    rw [if_pos (by rw [size_ofD]; simp; omega), if_pos (by rw [size_ofD]; simp; omega), bt_ofD hl (by omega) (by simp; omega), if_pos (by simp), if_pos (by rw [size_ofD]; simp; omega), ofD_extract, size_ofD]
    simp
  | case4 d e t h =>
    refine Ev.some fun k => ?_
    simp only [idiomref03_Lead.l0]
    rw [if_pos (by rw [size_ofD]; simp; omega), if_pos (by rw [size_ofD]; simp; omega), bt_ofD hl (by omega) (by simp; omega), if_neg (by simp; omega), if_neg (by rw [toList_ofD]; simp)]

theorem noughts_ev (n : Int) (hn : n ≤ 1000000) : Ev (fun k => idiomref03_Noughts.f k n) (ofD (List.replicate n.toNat 0)) := by
  have aux : ∀ (m i : Nat), (n.toNat - i = m) → i ≤ n.toNat → Ev (fun k => idiomref03_Noughts.l0 k n (List.replicate i 48) i) (ofD (List.replicate n.toNat 0)) := by
    intro m
    induction m with
    | zero =>
      intro i h1 h2
      refine Ev.some fun k => ?_
      simp only [idiomref03_Noughts.l0]
      rw [if_neg (by omega)]
      have : i = n.toNat := by omega
      rw [this, ← strOfNums_ofD]
      simp
    | succ m ih =>
      intro i h1 h2
      refine Ev.step (fun k => ?_) (ih (i + 1) (by omega) (by omega))
      simp only [idiomref03_Noughts.l0]
      rw [if_pos (by omega), if_pos (by simp; omega)]
      congr 1
      · rw [List.replicate_succ']
      · unfold wrap64; omega
  have := aux n.toNat 0 (by omega) (by omega)
  simpa [idiomref03_Noughts.f] using this

theorem cmp_ev (a b : List Nat) (ha : Dg a) (hb : Dg b) (na : a.length ≤ 1000000) (nb : b.length ≤ 1000000) :
    Ev (fun k => idiomref03_cmp.f k (ofD a) (ofD b)) (if val a < val b then -1 else if val a = val b then 0 else 1) := by
  have la := canon_lead a
  have lb := canon_lead b
  have da := ha.lead
  have db := hb.lead
  have va := val_lead a
  have vb := val_lead b
  refine Ev.let (lead_ev a ha na) (Ev.let (lead_ev b hb nb) ?_ (fun n => rfl)) (fun n => rfl)
  simp only [size_ofD]
  have same : ∀ x, (lead a).length = (lead b).length → x = decide (val (lead a) < val (lead b)) → Ev (fun k => idiomref03_cmp.j0 k (ofD (lead a)) (ofD (lead b)) x) (if val a < val b then -1 else if val a = val b then 0 else 1) := by
    intro x hx e
    refine Ev.some fun k => ?_
    simp only [idiomref03_cmp.j0]
    subst e
    rw [va, vb]
    by_cases h1 : val a < val b
    · simp [h1]
    · simp only [h1, decide_false, if_false, Bool.false_eq_true]
      by_cases h2 : val a = val b
      · have e := canon_unique da db la lb (by omega)
        rw [e]; simp [h2]
      · have : lead a ≠ lead b := fun e => h2 (by rw [← va, ← vb, e])
        simp only [toList_inj da db, this, h2, if_false]
  by_cases h : (lead a).length = (lead b).length
  · have e := bytesLess_ofD da db h
    simpa [h, e] using same _ h rfl
  · by_cases h2 : (lead a).length < (lead b).length
    · have hv : val a < val b := by
        rcases Nat.lt_or_ge (val a) (val b) with h3 | h3
        · exact h3
        · exact absurd (canon_length_le da lb (by omega) la.1) (by omega)
      have e1 : ¬ ((lead a).length : Int) = (lead b).length := by omega
      have e2 : ((lead a).length : Int) < (lead b).length := by omega
      simp only [e1, e2, if_false, if_true]
      refine Ev.some fun k => ?_
      simp [idiomref03_cmp.j0, hv]
    · have hv : val b < val a := by
        rcases Nat.lt_or_ge (val b) (val a) with h3 | h3
        · exact h3
        · exact absurd (canon_length_le db la (by omega) lb.1) (by omega)
      have e1 : ¬ ((lead a).length : Int) = (lead b).length := by omega
      have e2 : ¬ ((lead a).length : Int) < (lead b).length := by omega
      simp only [e1, e2, if_false]
      refine Ev.some fun k => ?_
      have e3 : lead a ≠ lead b := fun e => h (by rw [e])
      have e4 : ¬ val a < val b := by omega
      have e5 : ¬ val a = val b := by omega
      simp only [idiomref03_cmp.j0, toList_inj da db, e3, e4, e5, if_false, Bool.false_eq_true]

theorem w64 {x : Int} (h0 : -9223372036854775808 ≤ x) (h1 : x ≤ 9223372036854775807) : wrap64 x = x := by unfold wrap64; omega
theorem digit_of (x : Nat) (h : x ≤ 9) : (((x + 48 : Nat) : Int) - 48) % 256 = x := by omega
theorem add_digit {x y o : Nat} (hx : x ≤ 9) (hy : y ≤ 9) (ho : o ≤ 1) :
    (wrap64 (48 + Int.tmod (wrap64 (((((x + 48 : Nat) : Int) - 48) % 256 + (((y + 48 : Nat) : Int) - 48) % 256) + o)) 10)) % 256 = (((x + y + o) % 10 + 48 : Nat) : Int) := by
  rw [digit_of x hx, digit_of y hy, w64 (x := (x : Int) + y + o) (by omega) (by omega), Int.tmod_eq_emod_of_nonneg (by omega), w64 (by omega) (by omega)]
  omega
theorem add_over {x y o : Nat} (hx : x ≤ 9) (hy : y ≤ 9) (ho : o ≤ 1) :
    wrap64 (Int.tdiv (wrap64 (((((x + 48 : Nat) : Int) - 48) % 256 + (((y + 48 : Nat) : Int) - 48) % 256) + o)) 10) = (((x + y + o) / 10 : Nat) : Int) := by
  rw [digit_of x hx, digit_of y hy, w64 (x := (x : Int) + y + o) (by omega) (by omega), Int.tdiv_eq_ediv_of_nonneg (by omega), w64 (by omega) (by omega)]
  omega
theorem sub_diff {x y o : Nat} (hx : x ≤ 9) (hy : y ≤ 9) (ho : o ≤ 1) :
    wrap64 (wrap64 (wrap64 ((x + 48 : Nat) : Int) - wrap64 ((y + 48 : Nat) : Int)) - (o : Int)) = (x : Int) - y - o := by
  rw [w64 (x := ((x + 48 : Nat) : Int)) (by omega) (by omega), w64 (x := ((y + 48 : Nat) : Int)) (by omega) (by omega), w64 (x := ((x + 48 : Nat) : Int) - ((y + 48 : Nat) : Int)) (by omega) (by omega), w64 (by omega) (by omega)]
  omega
theorem sub_neg {x y o : Nat} (hx : x ≤ 9) (hy : y ≤ 9) (ho : o ≤ 1) (h : x < y + o) :
    (wrap64 (48 + wrap64 (wrap64 (wrap64 (wrap64 ((x + 48 : Nat) : Int) - wrap64 ((y + 48 : Nat) : Int)) - (o : Int)) + 10))) % 256 = ((x + 10 - y - o + 48 : Nat) : Int) := by
  rw [sub_diff hx hy ho, w64 (x := (x : Int) - y - o + 10) (by omega) (by omega), w64 (by omega) (by omega)]
  omega
theorem sub_pos {x y o : Nat} (hx : x ≤ 9) (hy : y ≤ 9) (ho : o ≤ 1) (h : ¬ x < y + o) :
    (wrap64 (48 + wrap64 (wrap64 (wrap64 ((x + 48 : Nat) : Int) - wrap64 ((y + 48 : Nat) : Int)) - (o : Int)))) % 256 = ((x - y - o + 48 : Nat) : Int) := by
  rw [sub_diff hx hy ho, w64 (by omega) (by omega)]
  omega

def dnums (l : List Nat) : List Int := l.map fun d => ((d + 48 : Nat) : Int)
theorem set_mid (j : Nat) (X : List Int) (v : Int) : (List.replicate (j + 1) (0 : Int) ++ X).set j v = List.replicate j 0 ++ v :: X := by
  rw [List.replicate_succ', List.append_assoc, List.set_append]
  simp
theorem getD_drop (l : List Nat) (j : Nat) (h : j < l.length) : l.drop j = l.getD j 0 :: l.drop (j + 1) := by
  rw [List.drop_eq_getElem_cons h, List.getD_eq_getElem?_getD, List.getElem?_eq_getElem h, Option.getD_some]

theorem add_loop (a b : List Nat) (ha : Dg a) (hb : Dg b) (hab : a.length = b.length) (na : a.length ≤ 1000000) :
    ∀ (j : Nat) (c : List Nat) (o : Nat), j ≤ a.length → Dg c → c.length = a.length - j → o ≤ 1 → val (a.drop j) + val (b.drop j) = o * 10 ^ c.length + val c →
    ∃ r, Dg r ∧ Canon r ∧ val r = val a + val b ∧ r.length ≤ a.length + 1 ∧ Ev (fun k => idiomref03_add.l2 k (ofD a) (ofD b) (List.replicate j 0 ++ dnums c) o ((j : Int) - 1)) (ofD r) := by
  intro j
  induction j with
  | zero =>
    intro c o hj hc hcl ho hv
    simp only [List.drop_zero, Nat.sub_zero] at hv hcl
    by_cases h : o = 0
    · subst h
      refine ⟨lead c, hc.lead, canon_lead c, by rw [val_lead]; omega, ?_, ?_⟩
      · have := lead_length c; by_cases h0 : a.length = 0 <;> omega
      · have hE := Ev.let (f := fun _ t => some t) (lead_ev c hc (by omega)) (Ev.now _) (fun n => rfl)
        refine Ev.step (fun k => ?_) hE
        simp only [idiomref03_add.l2, List.replicate_zero, List.nil_append]
        rw [if_neg (by omega), if_neg (by omega)]
        simp only [dnums, strOfNums_ofD]
    · have : o = 1 := by omega
      subst this
      refine ⟨1 :: c, Dg.cons (by omega) hc, ⟨by simp, .inr (by simp)⟩, by simp only [val]; omega, by simp; omega, ?_⟩
      refine Ev.some fun k => ?_
      simp only [idiomref03_add.l2, List.replicate_zero, List.nil_append]
      rw [if_neg (by omega), if_pos (by omega)]
      simp only [dnums, strOfNums_ofD]
      rw [if_pos (by rw [size_ofD]; omega), ofD_one, ofD_append]
      rfl
  | succ j ih =>
    intro c o hj hc hcl ho hv
    have hja : j < a.length := by omega
    have hjb : j < b.length := by omega
    have xa := ha.get j
    have xb := hb.get j
    have e1 := getD_drop a j hja
    have e2 := getD_drop b j hjb
    generalize hx : a.getD j 0 = x at *
    generalize hy : b.getD j 0 = y at *
    obtain ⟨r, h1, h2, h3, h4, h5⟩ := ih ((x + y + o) % 10 :: c) ((x + y + o) / 10) (by omega) (Dg.cons (by omega) hc) (by simp; omega) (by omega) (by
      rw [e1, e2]
      simp only [val, List.length_cons, List.length_drop]
      have p1 : a.length - (j + 1) = c.length := by omega
      have p2 : b.length - (j + 1) = c.length := by omega
      simp only [p1, p2, Nat.pow_succ]
      have hv := hv
      have q : (x + y + o) / 10 * (10 ^ c.length * 10) + (x + y + o) % 10 * 10 ^ c.length = (x + y + o) * 10 ^ c.length := by
        rw [Nat.mul_comm (10 ^ c.length) 10, ← Nat.mul_assoc, ← Nat.add_mul]
        congr 1
        omega
      have q2 : (x + y + o) * 10 ^ c.length = x * 10 ^ c.length + y * 10 ^ c.length + o * 10 ^ c.length := by rw [Nat.add_mul, Nat.add_mul]
      omega)
    refine ⟨r, h1, h2, h3, h4, Ev.step (fun k => ?_) h5⟩
    simp only [idiomref03_add.l2]
    have ej : ((j + 1 : Nat) : Int) - 1 = j := by omega
    rw [ej, if_pos (by omega), if_pos (by omega), if_pos (by rw [size_ofD]; omega), if_pos (by rw [size_ofD]; omega), if_pos (by simp [dnums]; omega)]
    rw [bt_ofD ha (by omega) (by omega), bt_ofD hb (by omega) (by omega), Int.toNat_natCast, hx, hy, set_mid]
    rw [add_digit xa xb ho, add_over xa xb ho, w64 (x := (j : Int) - 1) (by omega) (by omega)]
    simp [dnums]

theorem add_ev (a b : List Nat) (ha : Dg a) (hb : Dg b) (na : a.length ≤ 100000) (nb : b.length ≤ 100000) :
    ∃ r, Dg r ∧ Canon r ∧ val r = val a + val b ∧ r.length ≤ max a.length b.length + 1 ∧ Ev (fun k => idiomref03_add.f k (ofD a) (ofD b)) (ofD r) := by
  have l2 : ∀ (a b : List Nat), Dg a → Dg b → a.length = b.length → a.length ≤ 100000 → ∃ r, Dg r ∧ Canon r ∧ val r = val a + val b ∧ r.length ≤ a.length + 1 ∧ Ev (fun k => idiomref03_add.l1 k (ofD a) (ofD b)) (ofD r) := by
    intro a b ha hb h n
    obtain ⟨r, h1, h2, h3, h4, h5⟩ := add_loop a b ha hb h (by omega) a.length [] 0 (Nat.le_refl _) Dg.nil (by simp) (by omega) (by rw [List.drop_length, h, List.drop_length]; simp [val])
    refine ⟨r, h1, h2, h3, h4, Ev.step (fun k => ?_) h5⟩
    simp only [idiomref03_add.l1, size_ofD]
    rw [if_neg (by omega), if_pos (by omega), if_pos (by omega)]
    congr 1
    · simp [dnums]
    · unfold wrap64; omega
  have l1 : ∀ (d : Nat) (a b : List Nat), Dg a → Dg b → a.length - b.length = d → b.length ≤ a.length → a.length ≤ 100000 → ∃ r, Dg r ∧ Canon r ∧ val r = val a + val b ∧ r.length ≤ a.length + 1 ∧ Ev (fun k => idiomref03_add.l1 k (ofD a) (ofD b)) (ofD r) := by
    intro d
    induction d with
    | zero => intro a b ha hb h h2 n; exact l2 a b ha hb (by omega) n
    | succ d ih =>
      intro a b ha hb h h2 n
      obtain ⟨r, h1, h2, h3, h4, h5⟩ := ih a (0 :: b) ha (Dg.cons (by omega) hb) (by simp; omega) (by simp; omega) n
      refine ⟨r, h1, h2, by simpa [val] using h3, h4, Ev.step (fun k => ?_) h5⟩
      simp only [idiomref03_add.l1]
      rw [if_pos (by rw [size_ofD, size_ofD]; omega), if_pos (by rw [size_ofD]; omega), ofD_zero, ofD_append]
      rfl
  have l0 : ∀ (d : Nat) (a b : List Nat), Dg a → Dg b → b.length - a.length = d → a.length ≤ 100000 → b.length ≤ 100000 → ∃ r, Dg r ∧ Canon r ∧ val r = val a + val b ∧ r.length ≤ max a.length b.length + 1 ∧ Ev (fun k => idiomref03_add.l0 k (ofD a) (ofD b)) (ofD r) := by
    intro d
    induction d with
    | zero =>
      intro a b ha hb h n m
      obtain ⟨r, h1, h2, h3, h4, h5⟩ := l1 _ a b ha hb rfl (by omega) n
      refine ⟨r, h1, h2, h3, by omega, Ev.step (fun k => ?_) h5⟩
      simp only [idiomref03_add.l0]
      rw [if_neg (by rw [size_ofD, size_ofD]; omega)]
    | succ d ih =>
      intro a b ha hb h n m
      obtain ⟨r, h1, h2, h3, h4, h5⟩ := ih (0 :: a) b (Dg.cons (by omega) ha) hb (by simp; omega) (by simp; omega) m
      refine ⟨r, h1, h2, by simpa [val] using h3, by simp at h4; omega, Ev.step (fun k => ?_) h5⟩
      simp only [idiomref03_add.l0]
      rw [if_pos (by rw [size_ofD, size_ofD]; omega), if_pos (by rw [size_ofD]; omega), ofD_zero, ofD_append]
      rfl
  exact l0 _ a b ha hb rfl na nb

theorem sub_loop (a b : List Nat) (ha : Dg a) (hb : Dg b) (hab : a.length = b.length) (na : a.length ≤ 1000000) (hle : val b ≤ val a) :
    ∀ (j : Nat) (c : List Nat) (o : Nat), j ≤ a.length → Dg c → c.length = a.length - j → o ≤ 1 → val (a.drop j) + o * 10 ^ c.length = val (b.drop j) + val c →
    ∃ r, Dg r ∧ Canon r ∧ val r = val a - val b ∧ r.length ≤ max 1 a.length ∧ Ev (fun k => idiomref03_sub.l1 k (ofD a) (ofD b) (List.replicate j 0 ++ dnums c) o ((j : Int) - 1)) (ofD r) := by
  intro j
  induction j with
  | zero =>
    intro c o hj hc hcl ho hv
    simp only [List.drop_zero, Nat.sub_zero] at hv hcl
    have hlt := val_lt hc
    have h : o = 0 := by
      by_cases h1 : o = 1
      · subst h1; omega
      · omega
    subst h
    refine ⟨lead c, hc.lead, canon_lead c, by rw [val_lead]; omega, by rw [← hcl]; exact lead_length c, ?_⟩
    have hE := Ev.let (f := fun _ t => some t) (lead_ev c hc (by omega)) (Ev.now _) (fun n => rfl)
    refine Ev.step (fun k => ?_) hE
    simp only [idiomref03_sub.l1, List.replicate_zero, List.nil_append]
    rw [if_neg (by omega)]
    simp only [dnums, strOfNums_ofD]
  | succ j ih =>
    intro c o hj hc hcl ho hv
    have hja : j < a.length := by omega
    have hjb : j < b.length := by omega
    have xa := ha.get j
    have xb := hb.get j
    have e1 := getD_drop a j hja
    have e2 := getD_drop b j hjb
    generalize hx : a.getD j 0 = x at *
    generalize hy : b.getD j 0 = y at *
    have p1 : a.length - (j + 1) = c.length := by omega
    have p2 : b.length - (j + 1) = c.length := by omega
    have ej : ((j + 1 : Nat) : Int) - 1 = j := by omega
    by_cases hneg : x < y + o
    · obtain ⟨r, h1, h2, h3, h4, h5⟩ := ih ((x + 10 - y - o) :: c) 1 (by omega) (Dg.cons (by omega) hc) (by simp; omega) (by omega) (by
        rw [e1, e2]
        simp only [val, List.length_cons, List.length_drop, p1, p2, Nat.pow_succ]
        have q2 : (x + 10 - y - o) * 10 ^ c.length + y * 10 ^ c.length + o * 10 ^ c.length = x * 10 ^ c.length + 10 * 10 ^ c.length := by
          rw [← Nat.add_mul, ← Nat.add_mul, ← Nat.add_mul]; congr 1; omega
        omega)
      refine ⟨r, h1, h2, h3, h4, Ev.step (fun k => ?_) h5⟩
      simp only [idiomref03_sub.l1]
      rw [ej, if_pos (by omega), if_pos (by omega), if_pos (by rw [size_ofD]; omega), if_pos (by rw [size_ofD]; omega)]
      rw [bt_ofD ha (by omega) (by omega), bt_ofD hb (by omega) (by omega), Int.toNat_natCast, hx, hy]
      rw [if_pos (by rw [sub_diff xa xb ho]; omega), if_pos (by simp [dnums]; omega), set_mid, sub_neg xa xb ho hneg, w64 (x := (j : Int) - 1) (by omega) (by omega)]
      simp [dnums]
    · obtain ⟨r, h1, h2, h3, h4, h5⟩ := ih ((x - y - o) :: c) 0 (by omega) (Dg.cons (by omega) hc) (by simp; omega) (by omega) (by
        rw [e1, e2]
        simp only [val, List.length_cons, List.length_drop, p1, p2, Nat.pow_succ]
        have q2 : (x - y - o) * 10 ^ c.length + y * 10 ^ c.length + o * 10 ^ c.length = x * 10 ^ c.length := by
          rw [← Nat.add_mul, ← Nat.add_mul]; congr 1; omega
        omega)
      refine ⟨r, h1, h2, h3, h4, Ev.step (fun k => ?_) h5⟩
      simp only [idiomref03_sub.l1]
      rw [ej, if_pos (by omega), if_pos (by omega), if_pos (by rw [size_ofD]; omega), if_pos (by rw [size_ofD]; omega)]
      rw [bt_ofD ha (by omega) (by omega), bt_ofD hb (by omega) (by omega), Int.toNat_natCast, hx, hy]
      rw [if_neg (by rw [sub_diff xa xb ho]; omega), if_pos (by simp [dnums]; omega), set_mid, sub_pos xa xb ho hneg, w64 (x := (j : Int) - 1) (by omega) (by omega)]
      simp [dnums]

theorem sub_ev (a b : List Nat) (ha : Dg a) (hb : Dg b) (na : a.length ≤ 100000) (hl : b.length ≤ a.length) (hle : val b ≤ val a) :
    ∃ r, Dg r ∧ Canon r ∧ val r = val a - val b ∧ r.length ≤ max 1 a.length ∧ Ev (fun k => idiomref03_sub.f k (ofD a) (ofD b)) (ofD r) := by
  have l0 : ∀ (d : Nat) (b : List Nat), Dg b → a.length - b.length = d → b.length ≤ a.length → val b ≤ val a → ∃ r, Dg r ∧ Canon r ∧ val r = val a - val b ∧ r.length ≤ max 1 a.length ∧ Ev (fun k => idiomref03_sub.l0 k (ofD a) (ofD b)) (ofD r) := by
    intro d
    induction d with
    | zero =>
      intro b hb h h2 hle
      obtain ⟨r, h1, h2, h3, h4, h5⟩ := sub_loop a b ha hb (by omega) (by omega) hle a.length [] 0 (Nat.le_refl _) Dg.nil (by simp) (by omega) (by rw [List.drop_length, show a.length = b.length by omega, List.drop_length]; simp [val])
      refine ⟨r, h1, h2, h3, h4, Ev.step (fun k => ?_) h5⟩
      simp only [idiomref03_sub.l0, size_ofD]
      rw [if_neg (by omega), if_pos (by omega), if_pos (by omega)]
      congr 1
      · simp [dnums]
      · unfold wrap64; omega
    | succ d ih =>
      intro b hb h h2 hle
      obtain ⟨r, h1, h2, h3, h4, h5⟩ := ih (0 :: b) (Dg.cons (by omega) hb) (by simp; omega) (by simp; omega) (by simpa [val] using hle)
      refine ⟨r, h1, h2, by simpa [val] using h3, h4, Ev.step (fun k => ?_) h5⟩
      simp only [idiomref03_sub.l0]
      rw [if_pos (by rw [size_ofD, size_ofD]; omega), if_pos (by rw [size_ofD]; omega), ofD_zero, ofD_append]
      rfl
  exact l0 _ b hb rfl hl hle

theorem nums_snoc (q : List Nat) (d : Nat) : dnums (q ++ [d]) = dnums q ++ [((d + 48 : Nat) : Int)] := by simp [dnums]
theorem quo_inner (a b q : List Nat) (i : Int) (R : Nat) (hb : Dg b) (cb : Canon b) (nb : b.length ≤ 1000) (hq : q.length ≤ 100000) (hR : R < 10 * val b) (i0 : 0 ≤ i) (i1 : i ≤ 1000000) :
    ∀ (m k : Nat) (r : List Nat), k + m = 9 → Dg r → Canon r → r.length ≤ b.length + 1 → val r + k * val b = R →
    ∃ (d : Nat) (r' : List Nat), d ≤ 9 ∧ Dg r' ∧ Canon r' ∧ val r' < val b ∧ val r' + d * val b = R ∧
      ∀ P, Ev (fun n => idiomref03_quo.l0 n (ofD a) (ofD b) (dnums (q ++ [d])) (ofD r') (i + 1)) P → Ev (fun n => idiomref03_quo.l1 n (ofD a) (ofD b) (dnums q) (ofD r) i ((k + 48 : Nat) : Int)) P := by
  have stop : ∀ (k : Nat) (r : List Nat), k ≤ 9 → Dg r → Canon r → r.length ≤ b.length + 1 → val r + k * val b = R → val r < val b → ∃ (d : Nat) (r' : List Nat), d ≤ 9 ∧ Dg r' ∧ Canon r' ∧ val r' < val b ∧ val r' + d * val b = R ∧
      ∀ P, Ev (fun n => idiomref03_quo.l0 n (ofD a) (ofD b) (dnums (q ++ [d])) (ofD r') (i + 1)) P → Ev (fun n => idiomref03_quo.l1 n (ofD a) (ofD b) (dnums q) (ofD r) i ((k + 48 : Nat) : Int)) P := by
    intro k r hk hr cr nr e h
    refine ⟨k, r, hk, hr, cr, h, e, fun P hP => ?_⟩
    refine Ev.step (f := fun n => (idiomref03_cmp.f n (ofD r) (ofD b)).bind _) (fun n => by simp only [idiomref03_quo.l1]; rfl) ?_
    refine Ev.bind (cmp_ev r b hr hb (by omega) (by omega)) ?_
    rw [if_pos h]
    refine Ev.congr (fun n => ?_) hP
    rw [if_neg (by omega), if_pos (by simp [dnums]; omega), w64 (by omega) (by omega), nums_snoc]
  intro m
  induction m with
  | zero =>
    intro k r hk hr cr nr e
    have hk9 : k = 9 := by omega
    subst hk9
    exact stop 9 r (by omega) hr cr nr e (by omega)
  | succ m ih =>
    intro k r hk hr cr nr e
    by_cases h : val r < val b
    · exact stop k r (by omega) hr cr nr e h
    · obtain ⟨s, s1, s2, s3, s4, s5⟩ := sub_ev r b hr hb (by omega) (canon_length_le hr cb (by omega) cr.1) (by omega)
      have hb0 : b.length ≠ 0 := fun e => cb.1 (List.eq_nil_of_length_eq_zero e)
      obtain ⟨d, r', h1, h2, h3, h4, h5, h6⟩ := ih (k + 1) s (by omega) s1 s2 (by omega) (by rw [s3, Nat.add_mul]; omega)
      refine ⟨d, r', h1, h2, h3, h4, h5, fun P hP => ?_⟩
      refine Ev.step (f := fun n => (idiomref03_cmp.f n (ofD r) (ofD b)).bind _) (fun n => by simp only [idiomref03_quo.l1]; rfl) ?_
      refine Ev.bind (cmp_ev r b hr hb (by omega) (by omega)) ?_
      have hge : (if val r < val b then (-1 : Int) else if val r = val b then 0 else 1) ≥ 0 := by rw [if_neg h]; split <;> omega
      refine Ev.congr (fun n => if_pos hge) ?_
      refine Ev.bind s5 ?_
      refine Ev.congr (fun n => ?_) (h6 P hP)
      congr 1
      omega

theorem quo_loop (a b : List Nat) (ha : Dg a) (hb : Dg b) (cb : Canon b) (hbp : 0 < val b) (na : a.length ≤ 1000) (nb : b.length ≤ 1000) :
    ∀ (m i : Nat) (q r : List Nat), a.length - i = m → i ≤ a.length → Dg q → Dg r → Canon r → q.length = i → val r < val b → val q * val b + val r = val (a.take i) →
    ∃ Q R, Dg Q ∧ Canon Q ∧ Dg R ∧ Canon R ∧ val R < val b ∧ val Q * val b + val R = val a ∧ Q.length ≤ max 1 a.length ∧ Ev (fun n => idiomref03_quo.l0 n (ofD a) (ofD b) (dnums q) (ofD r) (i : Int)) (ofD Q, ofD R) := by
  intro m
  induction m with
  | zero =>
    intro i q r hm hi hq hr cr ql hlt hv
    have : i = a.length := by omega
    subst this
    rw [List.take_length] at hv
    refine ⟨lead q, r, hq.lead, canon_lead q, hr, cr, hlt, by rw [val_lead]; exact hv, by rw [← ql]; exact lead_length q, ?_⟩
    have hE := Ev.let (f := fun _ t => some (t, ofD r)) (lead_ev q hq (by omega)) (Ev.now _) (fun n => rfl)
    refine Ev.step (fun k => ?_) hE
    simp only [idiomref03_quo.l0]
    rw [if_neg (by rw [size_ofD]; omega)]
    simp only [dnums, strOfNums_ofD]
  | succ m ih =>
    intro i q r hm hi hq hr cr ql hlt hv
    have hia : i < a.length := by omega
    have hx := ha.get i
    have i0 : (0 : Int) ≤ i := Int.natCast_nonneg i
    have i1 : (i : Int) ≤ 1000000 := by clear hlt hv; omega
    have w1 : wrap64 ((i : Int) + 1) = (i : Int) + 1 := by clear hlt hv; exact w64 (by omega) (by omega)
    have s1 : ((i : Int) < ((ofD a).size : Int)) := by clear hlt hv; rw [size_ofD]; omega
    have s2 : (i : Int) + 1 ≤ ((ofD a).size : Int) := by clear hlt hv; rw [size_ofD]; omega
    have s4 : (i : Int) ≤ (i : Int) + 1 := by clear hlt hv; omega
    have rl : r.length ≤ b.length := canon_length_le hb cr (by omega) cb.1
    have e1 : (a.drop i).take 1 = [a.getD i 0] := by rw [getD_drop a i hia]; rfl
    have e2 : a.take (i + 1) = a.take i ++ [a.getD i 0] := by
      rw [List.take_succ_eq_append_getElem hia, List.getD_eq_getElem?_getD, List.getElem?_eq_getElem hia, Option.getD_some]
    generalize a.getD i 0 = x at *
    have s3 : (ofD r).size + (ofD [x]).size ≤ 9223372036854775807 := by clear hlt hv; rw [size_ofD, size_ofD, List.length_singleton]; omega
    have s6 : (r ++ [x]).length ≤ 1000000 := by clear hlt hv; rw [List.length_append, List.length_singleton]; omega
    have ex : (ofD a).extract (i : Int).toNat ((i : Int) + 1).toNat = ofD [x] := by
      clear hlt hv
      rw [ofD_extract, ← e1, Int.toNat_natCast, show ((i : Int) + 1).toNat - i = 1 by omega]
    have hr' : Dg (r ++ [x]) := hr.append (Dg.cons hx Dg.nil)
    have hval : val (r ++ [x]) = val r * 10 + x := val_snoc r x
    have ll := lead_length (r ++ [x])
    rw [List.length_append, List.length_singleton] at ll
    obtain ⟨d, r', h1, h2, h3, h4, h5, h6⟩ := quo_inner a b q i (val r * 10 + x) hb cb nb (by clear hlt hv; omega) (by clear hv; omega) i0 i1 9 0 (lead (r ++ [x])) (by omega) hr'.lead (canon_lead _) (by omega) (by rw [val_lead, hval]; omega)
    have key : val (q ++ [d]) * val b + val r' = val (a.take (i + 1)) := by
      have e3 : (val q * 10 + d) * val b = 10 * (val q * val b) + d * val b := by rw [Nat.add_mul, Nat.mul_comm (val q) 10, Nat.mul_assoc]
      rw [e2, val_snoc, val_snoc, e3]
      clear e3 e2 e1 ll hval h6
      generalize val q * val b = A at *
      generalize d * val b = B at *
      omega
    have l1 : a.length - (i + 1) = m := by clear hlt hv key h5 h4; omega
    have l3 : (q ++ [d]).length = i + 1 := by rw [List.length_append, List.length_singleton, ql]
    obtain ⟨Q, R, g1, g2, g3, g4, g5, g6, g8, g7⟩ := ih (i + 1) (q ++ [d]) r' l1 hia (hq.append (Dg.cons h1 Dg.nil)) h2 h3 l3 h4 key
    refine ⟨Q, R, g1, g2, g3, g4, g5, g6, g8, ?_⟩
    have g9 : Ev (fun n => idiomref03_quo.l0 n (ofD a) (ofD b) (dnums (q ++ [d])) (ofD r') ((i : Int) + 1)) (ofD Q, ofD R) := by
      rw [show ((i : Int) + 1) = ((i + 1 : Nat) : Int) from rfl]; exact g7
    have hE := Ev.bind (f := fun n t => idiomref03_quo.l1 n (ofD a) (ofD b) (dnums q) t i ((0 + 48 : Nat) : Int)) (lead_ev (r ++ [x]) hr' s6) (h6 _ g9)
    refine Ev.step (fun k => ?_) hE
    simp only [idiomref03_quo.l0]
    rw [w1, if_pos s1, if_pos i0, if_pos s4, if_pos s2, ex, if_pos s3, ofD_append]
    rfl

theorem quo_ev (a b : List Nat) (ha : Dg a) (hb : Dg b) (cb : Canon b) (hbp : 0 < val b) (na : a.length ≤ 1000) (nb : b.length ≤ 1000) :
    ∃ Q R, Dg Q ∧ Canon Q ∧ Dg R ∧ Canon R ∧ val Q = val a / val b ∧ val R = val a % val b ∧ Q.length ≤ max 1 a.length ∧ Ev (fun n => idiomref03_quo.f n (ofD a) (ofD b)) (ofD Q, ofD R) := by
  obtain ⟨Q, R, g1, g2, g3, g4, g5, g6, g8, g7⟩ := quo_loop a b ha hb cb hbp na nb a.length 0 [] [0] (by omega) (by omega) Dg.nil (Dg.cons (by omega) Dg.nil) ⟨by simp, .inl rfl⟩ rfl (by simpa [val] using hbp) (by simp [val])
  refine ⟨Q, R, g1, g2, g3, g4, ?_, ?_, g8, g7⟩
  · rw [← g6, Nat.add_comm, Nat.add_mul_div_right _ _ hbp, Nat.div_eq_of_lt g5, Nat.zero_add]
  · rw [← g6, Nat.add_comm, Nat.add_mul_mod_self_right, Nat.mod_eq_of_lt g5]

/-- Does one go away from 0? What is refused? -/
def upw (mode : Int) (neg : Bool) (q r u : Nat) : Bool × Int :=
  if r = 0 then (false, 0) else if mode = 1 then (true, 0) else if mode = 2 then (false, 0) else if mode = 3 then (!neg, 0) else if mode = 4 then (neg, 0)
  else if mode = 5 then (decide (u ≤ 2 * r), 0) else if mode = 6 then (decide (u < 2 * r), 0) else if mode = 7 then (decide (u < 2 * r) || (decide (u = 2 * r) && q % 2 == 1), 0) else (false, 31)
theorem val_odd (l : List Nat) (h : l ≠ []) : l.getD (l.length - 1) 0 % 2 = val l % 2 := by
  obtain ⟨m, d, rfl⟩ : ∃ m d, l = m ++ [d] := ⟨l.dropLast, l.getLast h, (List.dropLast_concat_getLast h).symm⟩
  rw [val_snoc]
  simp only [List.length_append, List.length_singleton, Nat.add_sub_cancel, List.getD_eq_getElem?_getD]
  simp
  omega
theorem away_ev (mode : Int) (neg : Bool) (q r u : List Nat) (hq : Dg q) (cq : Canon q) (nq : q.length ≤ 100000) (hr : Dg r) (cr : Canon r) (nr : r.length ≤ 10000) (hu : Dg u) (nu : u.length ≤ 10000) :
    Ev (fun n => idiomref03_away.f n mode neg (ofD q) (ofD r) (ofD u)) (upw mode neg (val q) (val r) (val u)) := by
  have hr0 : (ofD r).toList = ([48] : List UInt8) ↔ val r = 0 := by
    have : ([48] : List UInt8) = (ofD [0]).toList := by rw [toList_ofD]; rfl
    rw [this, toList_inj hr (Dg.cons (by omega) Dg.nil)]
    constructor
    · rintro rfl; rfl
    · exact canon_zero hr cr
  by_cases h0 : val r = 0
  · refine Ev.congr (fun n => ?_) (Ev.now _)
    simp only [idiomref03_away.f]
    rw [if_pos (hr0.2 h0)]
    simp [upw, h0]
  · obtain ⟨t, t1, t2, t3, t4, t5⟩ := add_ev r r hr hr (by omega) (by omega)
    refine Ev.congr (g := fun n => idiomref03_away.f n mode neg (ofD q) (ofD r) (ofD u)) (fun n => by simp only [idiomref03_away.f]; rw [if_neg (fun e => h0 (hr0.1 e))]) ?_
    refine Ev.bind t5 ?_
    refine Ev.bind (cmp_ev t u t1 hu (by omega) (by omega)) ?_
    refine Ev.congr (fun n => ?_) (Ev.now _)
    have ql : q.length ≠ 0 := fun e => cq.1 (List.eq_nil_of_length_eq_zero e)
    have w1 : wrap64 (((ofD q).size : Int) - 1) = (q.length : Int) - 1 := by rw [size_ofD]; exact w64 (by omega) (by omega)
    rw [w1, if_pos (by omega), if_pos (by rw [size_ofD]; omega), bt_ofD hq (by omega) (by omega)]
    have e1 : ((q.length : Int) - 1).toNat = q.length - 1 := by omega
    have odd : ((((((q.getD (q.length - 1) 0 + 48 : Nat) : Int) - 48) % 256) % 2) == 1) = (val q % 2 == 1) := by
      have a := hq.get (q.length - 1)
      have b := val_odd q cq.1
      rw [digit_of _ a, Bool.eq_iff_iff]
      simp only [beq_iff_eq]
      omega
    rw [e1, odd]
    have e3 : val t = 2 * val r := by omega
    rw [e3]
    unfold upw
    rw [if_neg h0]
    have c1 : ((if 2 * val r < val u then (-1 : Int) else if 2 * val r = val u then 0 else 1) ≥ 0) ↔ val u ≤ 2 * val r := by split <;> (try split) <;> omega
    have c2 : ((if 2 * val r < val u then (-1 : Int) else if 2 * val r = val u then 0 else 1) > 0) ↔ val u < 2 * val r := by split <;> (try split) <;> omega
    have c3 : ((if 2 * val r < val u then (-1 : Int) else if 2 * val r = val u then 0 else 1) = 0) ↔ val u = 2 * val r := by split <;> (try split) <;> omega
    generalize (if 2 * val r < val u then (-1 : Int) else if 2 * val r = val u then 0 else 1) = c at *
    by_cases m1 : mode = 1
    · rw [if_pos m1, if_pos m1]
    rw [if_neg m1, if_neg m1]
    by_cases m2 : mode = 2
    · rw [if_pos m2, if_pos m2]
    rw [if_neg m2, if_neg m2]
    by_cases m3 : mode = 3
    · rw [if_pos m3, if_pos m3]
    rw [if_neg m3, if_neg m3]
    by_cases m4 : mode = 4
    · rw [if_pos m4, if_pos m4]
    rw [if_neg m4, if_neg m4]
    by_cases m5 : mode = 5
    · rw [if_pos m5, if_pos m5, decide_eq_decide.2 c1]
    rw [if_neg m5, if_neg m5]
    by_cases m6 : mode = 6
    · rw [if_pos m6, if_pos m6, decide_eq_decide.2 c2]
    rw [if_neg m6, if_neg m6]
    by_cases m7 : mode = 7
    · rw [if_pos m7, if_pos m7]
      by_cases h1 : val u < 2 * val r
      · rw [if_pos (c2.2 h1)]; simp [h1]
      · rw [if_neg (fun h => h1 (c2.1 h))]
        by_cases h2 : val u = 2 * val r
        · rw [if_pos (c3.2 h2)]; simp [h2]
        · rw [if_neg (fun h => h2 (c3.1 h))]; simp [h1, h2]
    rw [if_neg m7, if_neg m7]

theorem turned_ev (mode : Int) (neg : Bool) (s u : List Nat) (hs : Dg s) (hu : Dg u) (cu : Canon u) (up0 : 0 < val u) (ns : s.length ≤ 1000) (nu : u.length ≤ 1000) :
    ∃ q, Dg q ∧ Canon q ∧ val q = val s / val u + (if (upw mode neg (val s / val u) (val s % val u) (val u)).1 = true then 1 else 0) ∧ q.length ≤ s.length + 2 ∧
      Ev (fun n => idiomref03_turned.f n mode neg (ofD s) (ofD u)) (ofD q, (upw mode neg (val s / val u) (val s % val u) (val u)).2) := by
  obtain ⟨Q, R, g1, g2, g3, g4, g5, g6, g8, g7⟩ := quo_ev s u hs hu cu up0 ns nu
  have hR : R.length ≤ u.length := canon_length_le hu g4 (by rw [g6]; exact Nat.le_of_lt (Nat.mod_lt _ up0)) cu.1
  have aw := away_ev mode neg Q R u g1 g2 (by omega) g3 g4 (by omega) hu (by omega)
  rw [g5, g6] at aw
  generalize upw mode neg (val s / val u) (val s % val u) (val u) = x at *
  by_cases hx : x.1 = true
  · obtain ⟨t, t1, t2, t3, t4, t5⟩ := add_ev Q [1] g1 (Dg.cons (by omega) Dg.nil) (by omega) (by simp)
    refine ⟨t, t1, t2, by rw [t3, g5, if_pos hx]; simp [val], by simp at t4; omega, ?_⟩
    refine Ev.bind g7 (Ev.bind aw ?_)
    refine Ev.congr (fun n => if_pos hx) ?_
    exact Ev.bind t5 (Ev.now _)
  · refine ⟨Q, g1, g2, by rw [g5, if_neg hx]; rfl, by omega, ?_⟩
    refine Ev.bind g7 (Ev.bind aw ?_)
    exact Ev.congr (fun n => if_neg hx) (Ev.now _)

def pad (p : Nat) (l : List Nat) : List Nat := List.replicate (p + 1 - l.length) 0 ++ l
def iOf (p : Nat) (l : List Nat) : List Nat := lead ((pad p l).take ((pad p l).length - p))
def fOf (p : Nat) (l : List Nat) : List Nat := (pad p l).drop ((pad p l).length - p)
theorem pad_length (p : Nat) (l : List Nat) : (pad p l).length = max (p + 1) l.length := by simp [pad]; omega
theorem dg_pad {l : List Nat} (h : Dg l) (p : Nat) : Dg (pad p l) := (Dg.zeros _).append h
theorem val_pad (p : Nat) (l : List Nat) : val (pad p l) = val l := val_zeros_append _ _
theorem pad_of_lt {p : Nat} {l : List Nat} (h : p < l.length) : pad p l = l := by
  rw [pad, show p + 1 - l.length = 0 by omega]; rfl
theorem pad_cons {p : Nat} {l : List Nat} (h : l.length ≤ p) : pad p (0 :: l) = pad p l := by
  simp only [pad, List.length_cons]
  rw [show p + 1 - l.length = (p + 1 - (l.length + 1)) + 1 by omega, List.replicate_succ']
  simp
theorem fOf_length (p : Nat) (l : List Nat) : (fOf p l).length = p := by simp [fOf, pad_length]; omega
theorem dg_fOf {l : List Nat} (h : Dg l) (p : Nat) : Dg (fOf p l) := (dg_pad h p).drop _
theorem dg_iOf {l : List Nat} (h : Dg l) (p : Nat) : Dg (iOf p l) := ((dg_pad h p).take _).lead
theorem val_fOf {l : List Nat} (h : Dg l) (p : Nat) : val (fOf p l) = val l % 10 ^ p := by
  have e : (pad p l).length - ((pad p l).length - p) = p := by rw [pad_length]; omega
  rw [fOf, val_drop (dg_pad h p), val_pad, e]
theorem val_iOf {l : List Nat} (h : Dg l) (p : Nat) : val (iOf p l) = val l / 10 ^ p := by
  have e : (pad p l).length - ((pad p l).length - p) = p := by rw [pad_length]; omega
  rw [iOf, val_lead, val_take (dg_pad h p), val_pad, e]
/-- Whole part and places are told by the worth alone. -/
theorem parts_eq {l m : List Nat} (hl : Dg l) (hm : Dg m) (h : val l = val m) (p : Nat) : iOf p l = iOf p m ∧ fOf p l = fOf p m :=
  ⟨canon_unique (dg_iOf hl p) (dg_iOf hm p) (canon_lead _) (canon_lead _) (by rw [val_iOf hl, val_iOf hm, h]), eq_of_val (dg_fOf hl p) (dg_fOf hm p) (by rw [fOf_length, fOf_length]) (by rw [val_fOf hl, val_fOf hm, h])⟩

theorem made_ev (neg : Bool) (s : List Nat) (p : Nat) (hs : Dg s) (ns : s.length ≤ 10000) (np : p ≤ 10000) :
    Ev (fun n => idiomref03_Made.f n neg (ofD s) (p : Int)) (neg && decide (val s ≠ 0), ofD (iOf p s), ofD (fOf p s)) := by
  have base : ∀ s : List Nat, Dg s → s.length ≤ 10001 → p < s.length → Ev (fun n => idiomref03_Made.l0 n neg (ofD s) (p : Int)) (neg && decide (val s ≠ 0), ofD (iOf p s), ofD (fOf p s)) := by
    intro s hs ns h
    have w1 : wrap64 (((ofD s).size : Int) - p) = ((s.length - p : Nat) : Int) := by rw [size_ofD, w64 (by omega) (by omega)]; omega
    have hI : (ofD s).extract 0 (s.length - p) = ofD (s.take (s.length - p)) := by rw [ofD_extract]; simp
    have hF : (ofD s).extract (s.length - p) s.length = ofD (s.drop (s.length - p)) := by
      rw [ofD_extract, List.take_of_length_le (by simp)]
    have eI : iOf p s = lead (s.take (s.length - p)) := by simp only [iOf, pad_of_lt h]
    have eF : fOf p s = s.drop (s.length - p) := by simp only [fOf, pad_of_lt h]
    have lI := lead_length (s.take (s.length - p))
    rw [List.length_take] at lI
    refine Ev.step (f := fun n => (idiomref03_Lead.f n (ofD (s.take (s.length - p)))).bind fun t => if neg = true then (if t.size + (ofD (s.drop (s.length - p))).size ≤ 9223372036854775807 then ((idiomref03_Lead.f n (t ++ ofD (s.drop (s.length - p)))).bind fun t190 => some ((t190.toList != ([48] : List UInt8)), t, ofD (s.drop (s.length - p)))) else none) else some (false, t, ofD (s.drop (s.length - p)))) (fun n => ?_) ?_
    · simp only [idiomref03_Made.l0]
      rw [if_neg (by rw [size_ofD]; omega), w1, if_pos (by omega), if_pos (by rw [size_ofD]; omega), Int.toNat_natCast, size_ofD, hI, hF]
    · refine Ev.bind (lead_ev _ (hs.take _) (by simp; omega)) ?_
      rw [← eI, ← eF]
      cases neg with
      | false => exact Ev.congr (fun n => by simp) (Ev.now _)
      | true =>
        have hv : val (iOf p s ++ fOf p s) = val s := by
          rw [val_append, fOf_length, val_iOf hs, val_fOf hs]
          have := Nat.div_add_mod (val s) (10 ^ p)
          rw [Nat.mul_comm] at this
          exact this
        have hd : Dg (iOf p s ++ fOf p s) := (dg_iOf hs p).append (dg_fOf hs p)
        refine Ev.congr (fun n => by rw [if_pos rfl, if_pos (by rw [size_ofD, size_ofD, fOf_length, eI]; omega), ofD_append]) ?_
        refine Ev.let (f := fun _ t190 => some ((t190.toList != ([48] : List UInt8)), ofD (iOf p s), ofD (fOf p s))) (lead_ev _ hd (by rw [List.length_append, fOf_length, eI]; omega)) ?_ (fun n => rfl)
        have e : ((ofD (lead (iOf p s ++ fOf p s))).toList != ([48] : List UInt8)) = (true && decide (val s ≠ 0)) := by
          have : ([48] : List UInt8) = (ofD [0]).toList := by rw [toList_ofD]; rfl
          rw [this, Bool.eq_iff_iff, bne_iff_ne, Ne, toList_inj hd.lead (Dg.cons (by omega) Dg.nil)]
          simp only [Bool.true_and, decide_eq_true_eq, Ne]
          constructor
          · intro h1 h2
            exact h1 (canon_zero hd.lead (canon_lead _) (by rw [val_lead, hv, h2]))
          · intro h1 h2
            apply h1
            rw [← hv, ← val_lead, h2]; rfl
        rw [e]
        exact Ev.now _
  have go : ∀ (m : Nat) (s : List Nat), p + 1 - s.length = m → Dg s → s.length ≤ 10001 → Ev (fun n => idiomref03_Made.l0 n neg (ofD s) (p : Int)) (neg && decide (val s ≠ 0), ofD (iOf p s), ofD (fOf p s)) := by
    intro m
    induction m with
    | zero => intro s hm hs ns; exact base s hs ns (by omega)
    | succ m ih =>
      intro s hm hs ns
      have := ih (0 :: s) (by simp; omega) (Dg.cons (by omega) hs) (by simp; omega)
      have e0 : val (0 :: s) = val s := by simp [val]
      have e1 : pad p (0 :: s) = pad p s := pad_cons (by omega)
      rw [e0, iOf, fOf, e1] at this
      refine Ev.step (fun n => ?_) this
      simp only [idiomref03_Made.l0]
      rw [if_pos (by rw [size_ofD]; omega), if_pos (by rw [size_ofD]; omega), ofD_zero, ofD_append]
      rfl
  exact go _ s rfl hs (by omega)
end Go.Proofs.YtpmhebdaphjinaaDoor.RoundRef
set_option linter.unusedVariables false
set_option linter.unusedSimpArgs false
namespace Go.Proofs.YtpmhebdaphjinaaDoor.RoundProg
open Go.RowKit Go.Proofs.YtpmhebdaphjinaaDoorW.PrintWords Go.Proofs.YtpmhebdaphjinaaDoorW.PrintLast Go.Proofs.YtpmhebdaphjinaaDoor.F Go.Proofs.YtpmhebdaphjinaaDoor.Dig Go.Proofs.YtpmhebdaphjinaaDoor.RoundRef

def AllD (s : ByteArray) : Prop := ∀ i : Nat, i < s.size → 48 ≤ bt s i ∧ bt s i ≤ 57
theorem allD_ofD {l : List Nat} (h : Dg l) : AllD (ofD l) := fun i hi => by
  rw [size_ofD] at hi
  rw [bt_ofD h (by omega) (by omega)]
  have := h.get (i : Int).toNat
  omega
theorem all_yes (s : ByteArray) (hs : s.size ≤ 1000000) (h : AllD s) : Ev (fun k => decimal_all.f k s) true := by
  have go : ∀ (m i : Nat), s.size - i = m → Ev (fun k => decimal_all.l0 k s (s.size : Int) (i : Int)) true := by
    intro m
    induction m with
    | zero =>
      intro i hi
      refine Ev.some fun k => ?_
      simp only [decimal_all.l0]
      rw [if_neg (by omega)]
    | succ m ih =>
      intro i hi
      obtain ⟨a, b⟩ := h i (by omega)
      refine Ev.step (fun k => ?_) (ih (i + 1) (by omega))
      simp only [decimal_all.l0]
      rw [if_pos (by omega), if_pos (by omega), if_pos (by omega), if_neg (by omega), if_neg (by omega), w64 (by omega) (by omega)]
      rfl
  exact go _ 0 rfl
theorem all_no (s : ByteArray) (hs : s.size ≤ 1000000) (h : ¬ AllD s) : Ev (fun k => decimal_all.f k s) false := by
  have go : ∀ (m i : Nat), s.size - i = m → (∃ j, i ≤ j ∧ j < s.size ∧ ¬ (48 ≤ bt s j ∧ bt s j ≤ 57)) → Ev (fun k => decimal_all.l0 k s (s.size : Int) (i : Int)) false := by
    intro m
    induction m with
    | zero => rintro i hi ⟨j, h1, h2, _⟩; omega
    | succ m ih =>
      rintro i hi ⟨j, h1, h2, h3⟩
      by_cases hd : 48 ≤ bt s i ∧ bt s i ≤ 57
      · have hj : i ≠ j := fun e => h3 (e ▸ hd)
        refine Ev.step (fun k => ?_) (ih (i + 1) (by omega) ⟨j, by omega, h2, h3⟩)
        simp only [decimal_all.l0]
        rw [if_pos (by omega), if_pos (by omega), if_pos (by omega), if_neg (by omega), if_neg (by omega), w64 (by omega) (by omega)]
        rfl
      · refine Ev.some fun k => ?_
        simp only [decimal_all.l0]
        rw [if_pos (by omega), if_pos (by omega), if_pos (by omega)]
        by_cases h4 : bt s i < 48
        · rw [if_pos h4]
        · rw [if_neg h4, if_pos (by omega)]
  refine go _ 0 rfl ?_
  apply Classical.byContradiction
  intro hn
  exact h fun i hi => Classical.byContradiction fun hh => hn ⟨i, Nat.zero_le _, hi, hh⟩
theorem digits_yes (s : ByteArray) (hs : s.size ≤ 1000000) (h : AllD s) : Ev (fun k => idiomref02_Digits.f k s) true := by
  have go : ∀ (m i : Nat), s.size - i = m → Ev (fun k => idiomref02_Digits.l0 k s (i : Int)) true := by
    intro m
    induction m with
    | zero =>
      intro i hi
      refine Ev.some fun k => ?_
      simp only [idiomref02_Digits.l0]
      rw [if_neg (by omega)]
    | succ m ih =>
      intro i hi
      obtain ⟨a, b⟩ := h i (by omega)
      refine Ev.step (fun k => ?_) (ih (i + 1) (by omega))
      simp only [idiomref02_Digits.l0, idiomref02_Digit.f]
      rw [if_pos (by omega), if_pos (by omega), if_pos (by omega), w64 (by omega) (by omega)]
      simp [b]
  exact go _ 0 rfl
theorem digits_no (s : ByteArray) (hs : s.size ≤ 1000000) (h : ¬ AllD s) : Ev (fun k => idiomref02_Digits.f k s) false := by
  have go : ∀ (m i : Nat), s.size - i = m → (∃ j, i ≤ j ∧ j < s.size ∧ ¬ (48 ≤ bt s j ∧ bt s j ≤ 57)) → Ev (fun k => idiomref02_Digits.l0 k s (i : Int)) false := by
    intro m
    induction m with
    | zero => rintro i hi ⟨j, h1, h2, _⟩; omega
    | succ m ih =>
      rintro i hi ⟨j, h1, h2, h3⟩
      by_cases hd : 48 ≤ bt s i ∧ bt s i ≤ 57
      · have hj : i ≠ j := fun e => h3 (e ▸ hd)
        refine Ev.step (fun k => ?_) (ih (i + 1) (by omega) ⟨j, by omega, h2, h3⟩)
        simp only [idiomref02_Digits.l0, idiomref02_Digit.f]
        rw [if_pos (by omega), if_pos (by omega), if_pos (by omega), w64 (by omega) (by omega)]
        simp [hd.2]
      · refine Ev.some fun k => ?_
        simp only [idiomref02_Digits.l0, idiomref02_Digit.f]
        rw [if_pos (by omega), if_pos (by omega)]
        by_cases h4 : bt s i ≥ 48
        · rw [if_pos h4]
          have h5 : ¬ bt s i ≤ 57 := by omega
          simp [h5]
        · rw [if_neg h4]; simp
  refine go _ 0 rfl ?_
  apply Classical.byContradiction
  intro hn
  exact h fun i hi => Classical.byContradiction fun hh => hn ⟨i, Nat.zero_le _, hi, hh⟩
theorem noughts_of (l : List Nat) (hl : Dg l) (hs : l.length ≤ 1000000) : Ev (fun k => idiomref02_noughts.f k (ofD l)) (decide (val l = 0)) := by
  have go : ∀ (m i : Nat), l.length - i = m → Ev (fun k => idiomref02_noughts.l0 k (ofD l) (i : Int)) (decide (val (l.drop i) = 0)) := by
    intro m
    induction m with
    | zero =>
      intro i hi
      rw [List.drop_eq_nil_of_le (by omega)]
      refine Ev.some fun k => ?_
      simp only [idiomref02_noughts.l0]
      rw [if_neg (by rw [size_ofD]; omega)]
      simp [val]
    | succ m ih =>
      intro i hi
      have e := getD_drop l i (by omega)
      have hx := hl.get i
      generalize hxe : l.getD i 0 = x at *
      by_cases h0 : x = 0
      · have ez : (val (l.drop i) = 0) = (val (l.drop (i + 1)) = 0) := by rw [e, h0]; simp [val]
        simp only [ez]
        refine Ev.step (fun k => ?_) (ih (i + 1) (by omega))
        simp only [idiomref02_noughts.l0]
        rw [if_pos (by rw [size_ofD]; omega), if_pos (by omega), bt_ofD hl (by omega) (by omega), Int.toNat_natCast, hxe, h0, if_pos (by omega), w64 (by omega) (by omega)]
        rfl
      · have ez : ¬ val (l.drop i) = 0 := by
          rw [e, val_eq_zero]
          intro hh
          exact h0 (hh x (by simp))
        refine Ev.some fun k => ?_
        simp only [idiomref02_noughts.l0]
        rw [if_pos (by rw [size_ofD]; omega), if_pos (by omega), bt_ofD hl (by omega) (by omega), Int.toNat_natCast, hxe, if_neg (by omega)]
        simp [ez]
  exact go _ 0 rfl

def Ok (neg : Bool) (I F : ByteArray) : Prop := ∃ li lf, Dg li ∧ Dg lf ∧ I = ofD li ∧ F = ofD lf ∧ Canon li ∧ li.length + lf.length ≤ 40 ∧ (neg = true → val li ≠ 0 ∨ val lf ≠ 0)
theorem trim_f (l : List Nat) (h : Dg l) (hs : l.length ≤ 1000000) : strings_Trim.f (ofD l) (⟨#[48]⟩ : ByteArray) = some (ofD (tt l)) := by
  unfold strings_Trim.f
  rw [if_pos ⟨rfl, by decide, by rw [size_ofD]; omega⟩]
  exact congrArg some (trim_ofD h)
theorem trimLeft_f (l : List Nat) (h : Dg l) (hs : l.length ≤ 1000000) : strings_TrimLeft.f (ofD l) (⟨#[48]⟩ : ByteArray) = some (ofD (tl l)) := by
  unfold strings_TrimLeft.f
  rw [if_pos ⟨rfl, by decide, by rw [size_ofD]; omega⟩]
  exact congrArg some (trimLeft_ofD h)
theorem repeat_f (n : Int) (h0 : 0 ≤ n) (h1 : n ≤ 1000000) : strings_Repeat.f (⟨#[48]⟩ : ByteArray) n = some (ofD (List.replicate n.toNat 0)) := by
  unfold strings_Repeat.f
  have e : (⟨#[48]⟩ : ByteArray).size = 1 := rfl
  rw [if_pos ⟨h0, by omega, by rw [e]; omega⟩]
  exact congrArg some (repeat_ofD _)
theorem toList_empty (s : ByteArray) : s.toList = [] ↔ s.size = 0 := by
  rw [ByteArray.toList_eq]
  obtain ⟨⟨l⟩⟩ := s
  simp [ByteArray.size]
theorem ok_sizes {neg : Bool} {I F : ByteArray} (h : Ok neg I F) : I.size ≠ 0 ∧ I.size + F.size ≤ 40 ∧ AllD I ∧ AllD F := by
  obtain ⟨li, lf, h1, h2, rfl, rfl, h3, h4, h5⟩ := h
  refine ⟨?_, by rw [size_ofD, size_ofD]; exact h4, allD_ofD h1, allD_ofD h2⟩
  rw [size_ofD]
  exact fun e => h3.1 (List.eq_nil_of_length_eq_zero e)
/-- Both checks say the same; where they say 'well', it is a decimal. -/
theorem check (neg : Bool) (I F : ByteArray) : ∃ c : Int, Ev (fun k => decimal_Check.f k neg I F) c ∧ Ev (fun k => idiomref02_Check.f k neg I F) c ∧ (c = 0 ∨ c = 20) ∧ (c = 0 ↔ Ok neg I F) := by
  have refBad : ∀ x : Bool, x = true → Ev (fun k => idiomref02_Check.j0 k x neg I F) 20 := fun x hx => Ev.some fun k => by simp only [idiomref02_Check.j0]; rw [if_pos hx]
  by_cases hI : I.size > 40
  · refine ⟨20, Ev.congr (fun k => ?_) (Ev.now _), Ev.congr (fun k => ?_) (refBad true rfl), .inr rfl, by simp; intro h; have := ok_sizes h; omega⟩
    · simp only [decimal_Check.f]; rw [if_pos (by omega)]
    · simp only [idiomref02_Check.f]; rw [if_neg (by omega), if_pos (by omega)]
  by_cases hF : F.size > 40 - I.size
  · refine ⟨20, Ev.congr (fun k => ?_) (Ev.now _), ?_, .inr rfl, by simp; intro h; have := ok_sizes h; omega⟩
    · simp only [decimal_Check.f]; rw [if_neg (by omega), w64 (by omega) (by omega), if_pos (by omega)]
    · by_cases h1 : I.size < 1
      · exact Ev.congr (fun k => by simp only [idiomref02_Check.f]; rw [if_pos (by omega)]) (refBad true rfl)
      · by_cases h2 : F.size > 40
        · exact Ev.congr (fun k => by simp only [idiomref02_Check.f]; rw [if_neg (by omega), if_neg (by omega), if_pos (by omega)]) (refBad true rfl)
        · exact Ev.congr (fun k => by simp only [idiomref02_Check.f]; rw [if_neg (by omega), if_neg (by omega), if_neg (by omega), w64 (by omega) (by omega)]) (refBad _ (by simp; omega))
  -- the program's form, then
  have prog : ∀ b : Bool, Ev (fun k => decimal_form.f k neg I F) b → Ev (fun k => decimal_Check.f k neg I F) (if b = true then 0 else 20) := fun b hb => by
    refine Ev.congr (g := fun k => decimal_Check.f k neg I F) (fun k => by simp only [decimal_Check.f]; rw [if_neg (by omega), w64 (by omega) (by omega), if_neg (by omega)]) ?_
    refine Ev.bind hb ?_
    cases b <;> exact Ev.now _
  have formBad : ∀ x : Bool, x = true → Ev (fun k => decimal_form.j0 k x neg I F) false := fun x hx => Ev.some fun k => by simp only [decimal_form.j0]; rw [if_pos hx]
  by_cases h0 : I.size = 0
  · refine ⟨20, prog false ?_, Ev.congr (fun k => ?_) (refBad true rfl), .inr rfl, by simp; intro h; have := ok_sizes h; omega⟩
    · exact Ev.congr (fun k => by simp only [decimal_form.f]; rw [if_pos ((toList_empty I).2 h0)]) (formBad true rfl)
    · simp only [idiomref02_Check.f]; rw [if_pos (by omega)]
  have hne : ¬ I.toList = [] := fun e => h0 ((toList_empty I).1 e)
  have ref : ∀ c : Int, Ev (fun k => idiomref02_Check.j0 k false neg I F) c → Ev (fun k => idiomref02_Check.f k neg I F) c := fun c hc => by
    refine Ev.congr (fun k => ?_) hc
    simp only [idiomref02_Check.f]
    rw [if_neg (by omega), if_neg (by omega), if_neg (by omega), w64 (by omega) (by omega), decide_eq_false (by omega)]
  by_cases dI : AllD I
  rotate_left
  · refine ⟨20, prog false ?_, ref 20 ?_, .inr rfl, by simp; intro h; exact dI (ok_sizes h).2.2.1⟩
    · refine Ev.congr (g := fun k => decimal_form.f k neg I F) (fun k => by simp only [decimal_form.f]; rw [if_neg hne]) ?_
      exact Ev.bind (all_no I (by omega) dI) (formBad true rfl)
    · refine Ev.step (g := fun k => idiomref02_Check.j0 k false neg I F) (fun k => by simp only [idiomref02_Check.j0]; rw [if_neg (by decide)]) ?_
      exact Ev.bind (digits_no I (by omega) dI) (Ev.now _)
  by_cases dF : AllD F
  rotate_left
  · refine ⟨20, prog false ?_, ref 20 ?_, .inr rfl, by simp; intro h; exact dF (ok_sizes h).2.2.2⟩
    · refine Ev.congr (g := fun k => decimal_form.f k neg I F) (fun k => by simp only [decimal_form.f]; rw [if_neg hne]) ?_
      exact Ev.bind (all_yes I (by omega) dI) (Ev.bind (all_no F (by omega) dF) (formBad true rfl))
    · refine Ev.step (g := fun k => idiomref02_Check.j0 k false neg I F) (fun k => by simp only [idiomref02_Check.j0]; rw [if_neg (by decide)]) ?_
      exact Ev.bind (digits_yes I (by omega) dI) (Ev.bind (digits_no F (by omega) dF) (Ev.now _))
  obtain ⟨li, di, rfl⟩ := of_bytes I dI
  obtain ⟨lf, df, rfl⟩ := of_bytes F dF
  rw [size_ofD] at hI hF h0
  rw [size_ofD] at hF
  have b0 : bt (ofD li) 0 = ((li.getD 0 0 + 48 : Nat) : Int) := bt_ofD di (by omega) (by omega)
  have form : ∀ (b x : Bool), x = decide (li.getD 0 0 = 0 ∧ 1 < li.length) → Ev (fun k => decimal_form.j0 k x neg (ofD li) (ofD lf)) b → Ev (fun k => decimal_form.f k neg (ofD li) (ofD lf)) b := fun b x hx hb => by
    refine Ev.congr (g := fun k => decimal_form.f k neg (ofD li) (ofD lf)) (fun k => by simp only [decimal_form.f]; rw [if_neg hne]) ?_
    refine Ev.bind (all_yes _ (by rw [size_ofD]; omega) dI) (Ev.bind (all_yes _ (by rw [size_ofD]; omega) dF) ?_)
    by_cases h1 : 1 < li.length
    · have e : ((bt (ofD li) 0) == 48) = x := by
        rw [b0, hx, Bool.eq_iff_iff]; simp [h1]; omega
      exact Ev.congr (fun k => by rw [if_pos rfl, if_pos (by rw [size_ofD]; omega), if_pos (by rw [size_ofD]; omega), e]) hb
    · have e : x = false := by rw [hx]; simp [h1]
      subst e
      exact Ev.congr (fun k => by rw [if_pos rfl, if_neg (by rw [size_ofD]; omega)]) hb
  have ref2 : ∀ c : Int, Ev (fun k => if 0 < ((ofD li).size : Int) then (if (bt (ofD li) 0) = 48 then (if ((ofD li).size : Int) > 1 then (some (20 : Int)) else (if neg = true then ((idiomref02_Nought.f k neg (ofD li) (ofD lf)).bind fun t147 => (if t147 = true then (some 20) else (some 0))) else (some 0))) else (if neg = true then ((idiomref02_Nought.f k neg (ofD li) (ofD lf)).bind fun t148 => (if t148 = true then (some 20) else (some 0))) else (some 0))) else (none)) c → Ev (fun k => idiomref02_Check.f k neg (ofD li) (ofD lf)) c := fun c hc => by
    refine ref c (Ev.step (g := fun k => idiomref02_Check.j0 k false neg (ofD li) (ofD lf)) (fun k => by simp only [idiomref02_Check.j0]; rw [if_neg (by decide)]) ?_)
    exact Ev.bind (digits_yes _ (by rw [size_ofD]; omega) dI) (Ev.bind (digits_yes _ (by rw [size_ofD]; omega) dF) hc)
  by_cases hz : li.getD 0 0 = 0 ∧ 1 < li.length
  · refine ⟨20, prog false (form false true (decide_eq_true hz).symm (formBad true rfl)), ref2 20 (Ev.congr (fun k => ?_) (Ev.now _)), .inr rfl, ?_⟩
    · rw [if_pos (by rw [size_ofD]; omega), b0, if_pos (by omega), if_pos (by rw [size_ofD]; omega)]
    · simp only [show ¬ (20 : Int) = 0 by omega, false_iff]
      rintro ⟨mi, mf, h1, h2, h3, h4, h5, h6, h7⟩
      have := ofD_inj di h1 h3
      subst this
      rcases h5.2 with h8 | h8
      · omega
      · exact h8 hz.1
  have cI : Canon li := ⟨fun e => h0 (by rw [e]; rfl), by
    by_cases h1 : li.length = 1
    · exact .inl h1
    · exact .inr fun e => hz ⟨e, by omega⟩⟩
  have okIff : Ok neg (ofD li) (ofD lf) ↔ (neg = true → val li ≠ 0 ∨ val lf ≠ 0) := by
    constructor
    · rintro ⟨mi, mf, h1, h2, h3, h4, h5, h6, h7⟩
      have e1 := ofD_inj di h1 h3
      have e2 := ofD_inj df h2 h4
      subst e1 e2
      exact h7
    · intro h
      exact ⟨li, lf, di, df, rfl, rfl, cI, by omega, h⟩
  have n1 := noughts_of li di (by omega)
  have n2 := noughts_of lf df (by omega)
  have tI := trim_f li di (by omega)
  have tF := trim_f lf df (by omega)
  have nought : Ev (fun k => idiomref02_Nought.f k neg (ofD li) (ofD lf)) (decide (val li = 0 ∧ val lf = 0)) := by
    refine Ev.bind n1 ?_
    by_cases h1 : val li = 0
    · refine Ev.congr (fun k => if_pos (by simp [h1])) ?_
      simp only [h1, true_and]
      exact Ev.bind n2 (Ev.now _)
    · refine Ev.congr (fun k => if_neg (by simp [h1])) ?_
      simp only [h1, false_and, decide_false]
      exact Ev.now _
  have fz : (decide (li.getD 0 0 = 0 ∧ 1 < li.length)) = false := decide_eq_false hz
  cases neg with
  | false =>
    refine ⟨0, ?_, ?_, .inl rfl, by simp [okIff]⟩
    · have := prog true (form true false fz.symm (Ev.some fun k => by simp only [decimal_form.j0]; rw [if_neg (by decide), if_neg (by decide)]))
      simpa using this
    · refine ref2 0 (Ev.congr (fun k => ?_) (Ev.now _))
      rw [if_pos (by rw [size_ofD]; omega)]
      by_cases h1 : bt (ofD li) 0 = 48
      · have : ¬ 1 < li.length := fun h => hz ⟨by omega, h⟩
        rw [if_pos h1, if_neg (by rw [size_ofD]; omega), if_neg (by decide)]
      · rw [if_neg h1, if_neg (by decide)]
  | true =>
    by_cases hv : val li = 0 ∧ val lf = 0
    · have e1 : (ofD (tt li)).toList = [] := toList_nil.2 (tt_nil.2 hv.1)
      have e2 : (ofD (tt lf)).toList = [] := toList_nil.2 (tt_nil.2 hv.2)
      refine ⟨20, ?_, ?_, .inr rfl, by simp [okIff, hv]⟩
      · have := prog false (form false false fz.symm (Ev.some fun k => by simp only [decimal_form.j0]; rw [if_neg (by decide), if_pos trivial, tI, Option.bind_some, if_pos e1, tF, Option.bind_some, e2]; rfl))
        simpa using this
      · refine ref2 20 ?_
        rw [show decide (val li = 0 ∧ val lf = 0) = true from decide_eq_true hv] at nought
        by_cases h1 : bt (ofD li) 0 = 48
        · have : ¬ 1 < li.length := fun h => hz ⟨by omega, h⟩
          exact Ev.congr (fun k => by rw [if_pos (by rw [size_ofD]; omega), if_pos h1, if_neg (by rw [size_ofD]; omega), if_pos rfl]) (Ev.bind nought (Ev.now _))
        · exact Ev.congr (fun k => by rw [if_pos (by rw [size_ofD]; omega), if_neg h1, if_pos rfl]) (Ev.bind nought (Ev.now _))
    · refine ⟨0, ?_, ?_, .inl rfl, by simp [okIff]; omega⟩
      · have hb : Ev (fun k => decimal_form.j0 k false true (ofD li) (ofD lf)) true := by
          refine Ev.some fun k => ?_
          simp only [decimal_form.j0]
          rw [if_neg (by decide), if_pos trivial, tI, Option.bind_some]
          by_cases h1 : val li = 0
          · have e1 : (ofD (tt li)).toList = [] := toList_nil.2 (tt_nil.2 h1)
            have e2 : (ofD (tt lf)).toList ≠ [] := fun e => hv ⟨h1, tt_nil.1 (toList_nil.1 e)⟩
            rw [if_pos e1, tF, Option.bind_some]
            simpa using e2
          · rw [if_neg (fun e => h1 (tt_nil.1 (toList_nil.1 e)))]
        have := prog true (form true false fz.symm hb)
        simpa using this
      · refine ref2 0 ?_
        rw [show decide (val li = 0 ∧ val lf = 0) = false from decide_eq_false hv] at nought
        by_cases h1 : bt (ofD li) 0 = 48
        · have : ¬ 1 < li.length := fun h => hz ⟨by omega, h⟩
          exact Ev.congr (fun k => by rw [if_pos (by rw [size_ofD]; omega), if_pos h1, if_neg (by rw [size_ofD]; omega), if_pos rfl]) (Ev.bind nought (Ev.now _))
        · exact Ev.congr (fun k => by rw [if_pos (by rw [size_ofD]; omega), if_neg h1, if_pos rfl]) (Ev.bind nought (Ev.now _))

/-- How what is left lies: nothing, less than half, half, more. -/
def lies (r u : Nat) : Int := if r = 0 then 0 else if 2 * r < u then 1 else if 2 * r = u then 2 else 3
theorem tt_five (t : List Nat) (h : t.getD 0 0 = 5) (ht : t ≠ []) : tt t = [5] ↔ val t.tail = 0 := by
  cases t with
  | nil => exact absurd rfl ht
  | cons d u =>
    simp only [List.getD_cons_zero] at h
    subst h
    simp only [List.tail_cons, tt, List.reverse_cons]
    rw [val_eq_zero]
    constructor
    · intro e
      by_cases hz : u.reverse.dropWhile (· == 0) = []
      · intro d hd
        exact dropWhile_nil.1 hz d (by simpa using hd)
      · exfalso
        rw [List.dropWhile_append, if_neg (by simpa using hz)] at e
        simp only [List.reverse_append, List.reverse_cons, List.reverse_nil, List.nil_append, List.singleton_append, tl] at e
        rw [List.dropWhile_cons_of_neg (by decide)] at e
        simp at e
        exact hz (by simpa using e)
    · intro hz
      have e1 : u.reverse.dropWhile (· == 0) = [] := dropWhile_nil.2 (fun d hd => hz d (by simpa using hd))
      rw [List.dropWhile_append, if_pos (by simpa using e1)]
      simp [tl]
theorem cut_ev (s : List Nat) (m : Nat) (hs : Dg s) (ns : s.length ≤ 100000) (m0 : 0 < m) (hm : m ≤ s.length) :
    Ev (fun k => round_cut.f k (ofD s) (m : Int)) (ofD (s.take (s.length - m)), lies (val (s.drop (s.length - m))) (10 ^ m)) := by
  have w1 : wrap64 (((ofD s).size : Int) - m) = ((s.length - m : Nat) : Int) := by rw [size_ofD, w64 (by omega) (by omega)]; omega
  have hI : (ofD s).extract 0 (s.length - m) = ofD (s.take (s.length - m)) := by rw [ofD_extract]; simp
  have hF : (ofD s).extract (s.length - m) s.length = ofD (s.drop (s.length - m)) := by rw [ofD_extract, List.take_of_length_le (by simp)]
  have dt := hs.drop (s.length - m)
  have lt : (s.drop (s.length - m)).length = m := by rw [List.length_drop]; omega
  generalize hT : s.drop (s.length - m) = T at *
  have tf := trim_f T dt (by omega)
  have vt := val_lt dt
  rw [lt] at vt
  have b0 : bt (ofD T) 0 = ((T.getD 0 0 + 48 : Nat) : Int) := bt_ofD dt (by omega) (by omega)
  obtain ⟨t, u, rfl⟩ : ∃ t u, T = t :: u := by
    cases T with
    | nil => simp at lt; omega
    | cons t u => exact ⟨t, u, rfl⟩
  simp only [List.getD_cons_zero] at b0
  have lu : u.length + 1 = m := by simpa using lt
  have vu := val_lt dt.tail
  have pw : 10 ^ m = 10 * 10 ^ u.length := by rw [← lu, Nat.pow_succ, Nat.mul_comm]
  have hp : 0 < 10 ^ u.length := Nat.pow_pos (by omega)
  have vT : val (t :: u) = t * 10 ^ u.length + val u := rfl
  have t9 := dt.head
  have big : 5 ≤ t → 5 * 10 ^ u.length ≤ t * 10 ^ u.length := fun h => Nat.mul_le_mul_right _ h
  have small : t ≤ 4 → t * 10 ^ u.length ≤ 4 * 10 ^ u.length := fun h => Nat.mul_le_mul_right _ h
  have six : 6 ≤ t → 6 * 10 ^ u.length ≤ t * 10 ^ u.length := fun h => Nat.mul_le_mul_right _ h
  have hsz : 0 < ((ofD (t :: u)).size : Int) := by rw [size_ofD, List.length_cons]; omega
  refine Ev.congr (g := fun k => round_cut.f k (ofD s) (m : Int)) (fun k => by simp only [round_cut.f]; rw [if_neg (by rw [size_ofD]; omega)]) ?_
  have e5 : ([53] : List UInt8) = (ofD [5]).toList := by rw [toList_ofD]; rfl
  have go : ∀ x : Int, (∀ k, (if (ofD (tt (t :: u))).toList = [] then some (ofD (s.take (s.length - m)), (0 : Int)) else if 0 < ((ofD (t :: u)).size : Int) then (if bt (ofD (t :: u)) 0 = 53 then round_cut.j1 (k + 1) (ofD (s.take (s.length - m))) (ofD (t :: u)) ((ofD (tt (t :: u))).toList == [53]) else round_cut.j1 (k + 1) (ofD (s.take (s.length - m))) (ofD (t :: u)) false) else none) = some (ofD (s.take (s.length - m)), x)) → Ev (fun k => round_cut.j0 k (ofD s) (m : Int)) (ofD (s.take (s.length - m)), x) := by
    intro x hx
    refine Ev.step (f := fun k => _) (fun k => by simp only [round_cut.j0]; rw [w1, if_pos (by omega), if_pos (by rw [size_ofD]; omega), Int.toNat_natCast, size_ofD, hF, hI, tf, Option.bind_some]) ?_
    exact Ev.some fun k => hx k
  by_cases hz : val (t :: u) = 0
  · rw [show lies (val (t :: u)) (10 ^ m) = 0 by simp [lies, hz]]
    exact go 0 fun k => if_pos (toList_nil.2 (tt_nil.2 hz))
  have hz2 : ¬ (ofD (tt (t :: u))).toList = [] := fun e => hz (tt_nil.1 (toList_nil.1 e))
  by_cases h5 : t = 5
  · subst h5
    have e53 : bt (ofD (5 :: u)) 0 = 53 := by rw [b0]; rfl
    by_cases hu : val u = 0
    · have : lies (val (5 :: u)) (10 ^ m) = 2 := by unfold lies; rw [if_neg hz, if_neg (by omega), if_pos (by omega)]
      rw [this]
      have et : tt (5 :: u) = [5] := (tt_five (5 :: u) rfl (by simp)).2 hu
      exact go 2 fun k => by rw [if_neg hz2, if_pos hsz, if_pos e53, et, ← e5]; simp [round_cut.j1]
    · have : lies (val (5 :: u)) (10 ^ m) = 3 := by unfold lies; rw [if_neg hz, if_neg (by omega), if_neg (by omega)]
      rw [this]
      have et : tt (5 :: u) ≠ [5] := fun e => hu ((tt_five (5 :: u) rfl (by simp)).1 e)
      have ef : ((ofD (tt (5 :: u))).toList == [53]) = false := by
        rw [e5, beq_eq_false_iff_ne, Ne, toList_inj dt.tt (Dg.cons (by omega) Dg.nil)]; exact et
      exact go 3 fun k => by rw [if_neg hz2, if_pos hsz, if_pos e53, ef]; simp only [round_cut.j1]; rw [if_neg (by decide), if_pos hsz, if_pos (by omega)]
  · have n53 : ¬ bt (ofD (t :: u)) 0 = 53 := by omega
    by_cases h6 : 6 ≤ t
    · have : lies (val (t :: u)) (10 ^ m) = 3 := by have := six h6; unfold lies; rw [if_neg hz, if_neg (by omega), if_neg (by omega)]
      rw [this]
      exact go 3 fun k => by rw [if_neg hz2, if_pos hsz, if_neg n53]; simp only [round_cut.j1]; rw [if_neg (by decide), if_pos hsz, if_pos (by omega)]
    · have : lies (val (t :: u)) (10 ^ m) = 1 := by have := small (by omega); unfold lies; rw [if_neg hz, if_pos (by omega)]
      rw [this]
      exact go 1 fun k => by rw [if_neg hz2, if_pos hsz, if_neg n53]; simp only [round_cut.j1]; rw [if_neg (by decide), if_pos hsz, if_neg (by omega)]

theorem nums8_ofD {l : List Nat} (h : Dg l) : Aid.nums8 (ofD l) = dnums l := by
  unfold Aid.nums8 dnums
  rw [data_ofD, List.map_map]
  apply List.map_congr_left
  intro d hd
  simp only [Function.comp]
  rw [ofNat48 (h d hd)]
theorem inc_nums : ∀ (g : List Nat), Dg g → ∃ g', Dg g' ∧ RoundOne.inc (dnums g) = dnums g' ∧ val g'.reverse = val g.reverse + 1 ∧ g'.length ≤ g.length + 1 ∧ g.length ≤ g'.length
  | [], _ => ⟨[1], Dg.cons (by omega) Dg.nil, rfl, rfl, by simp, by simp⟩
  | d :: t, h => by
    by_cases h9 : d = 9
    · subst h9
      obtain ⟨t', a, b, c, e, f⟩ := inc_nums t h.tail
      refine ⟨0 :: t', Dg.cons (by omega) a, ?_, ?_, by simp; omega, by simp; omega⟩
      · have : dnums (9 :: t) = 57 :: dnums t := rfl
        rw [this]
        simp only [RoundOne.inc, if_true, b]
        rfl
      · rw [List.reverse_cons, List.reverse_cons, val_snoc, val_snoc, c]; omega
    · refine ⟨(d + 1) :: t, Dg.cons (by have := h.head; omega) h.tail, ?_, ?_, by simp, by simp⟩
      · have : dnums (d :: t) = ((d + 48 : Nat) : Int) :: dnums t := rfl
        rw [this]
        simp only [RoundOne.inc]
        rw [if_neg (by omega)]
        have := h.head
        show _ :: dnums t = ((d + 1 + 48 : Nat) : Int) :: dnums t
        congr 1
        omega
      · rw [List.reverse_cons, List.reverse_cons, val_snoc, val_snoc]; omega
theorem one_f (h : List Nat) (hd : Dg h) (hn : h.length ≤ 1000000) : ∃ h', Dg h' ∧ val h' = val h + 1 ∧ h'.length ≤ h.length + 1 ∧ h.length ≤ h'.length ∧ round_one.f (ofD h) = some (ofD h') := by
  obtain ⟨g', a, b, c, e, f⟩ := inc_nums h.reverse hd.reverse
  refine ⟨g'.reverse, a.reverse, by simpa using c, by simpa using e, by simpa using f, ?_⟩
  unfold round_one.f RoundOne.f
  rw [if_pos (by rw [size_ofD]; omega), nums8_ofD hd]
  have : (dnums h).reverse = dnums h.reverse := by simp [dnums]
  rw [this, b]
  have e2 : (dnums g').reverse = dnums g'.reverse := by simp [dnums]
  rw [e2]
  exact congrArg some (strOfNums_ofD _)

theorem away_f (mode : Int) (neg : Bool) (q r u : Nat) (h1 : 1 ≤ mode) (h8 : mode ≤ 8) : round_away.f mode neg (lies r u) (q % 2 == 1) = some (upw mode neg q r u) := by
  unfold round_away.f upw lies
  by_cases h0 : r = 0
  · simp [h0]
  rw [if_neg h0, if_neg h0]
  have c0 : ¬ (if 2 * r < u then (1 : Int) else if 2 * r = u then 2 else 3) = 0 := by split <;> (try split) <;> omega
  have c1 : ((if 2 * r < u then (1 : Int) else if 2 * r = u then 2 else 3) ≥ 2) ↔ u ≤ 2 * r := by split <;> (try split) <;> omega
  have c2 : ((if 2 * r < u then (1 : Int) else if 2 * r = u then 2 else 3) = 3) ↔ u < 2 * r := by split <;> (try split) <;> omega
  have c3 : ((if 2 * r < u then (1 : Int) else if 2 * r = u then 2 else 3) = 2) ↔ u = 2 * r := by split <;> (try split) <;> omega
  generalize (if 2 * r < u then (1 : Int) else if 2 * r = u then 2 else 3) = c at *
  rw [if_neg c0]
  by_cases m1 : mode = 1
  · rw [if_pos m1, if_pos m1]
  rw [if_neg m1, if_neg m1]
  by_cases m2 : mode = 2
  · subst m2
    rw [if_pos rfl, if_neg (by omega), if_neg (by omega), if_neg (by omega), if_neg (by omega), if_neg (by omega), if_neg (by omega)]
  rw [if_neg m2]
  by_cases m3 : mode = 3
  · rw [if_pos m3, if_pos m3]
  rw [if_neg m3, if_neg m3]
  by_cases m4 : mode = 4
  · rw [if_pos m4, if_pos m4]
  rw [if_neg m4, if_neg m4]
  by_cases m5 : mode = 5
  · rw [if_pos m5, if_pos m5, decide_eq_decide.2 c1]
  rw [if_neg m5, if_neg m5]
  by_cases m6 : mode = 6
  · rw [if_pos m6, if_pos m6]
    have : (c == 3) = decide (u < 2 * r) := by rw [Bool.eq_iff_iff]; simp [c2]
    rw [this]
  rw [if_neg m6, if_neg m6]
  by_cases m7 : mode = 7
  · rw [if_pos m7, if_pos m7]
    by_cases a : u < 2 * r
    · rw [if_pos (c2.2 a)]; simp [a]
    · rw [if_neg (fun h => a (c2.1 h))]
      by_cases b : u = 2 * r
      · rw [if_pos (c3.2 b)]; simp [b]
      · rw [if_neg (fun h => b (c3.1 h))]; simp [a, b]
  rw [if_neg m7, if_neg m7, if_pos (by omega)]

theorem val_parts {h : List Nat} (hd : Dg h) (p : Nat) : val (iOf p h ++ fOf p h) = val h := by
  rw [val_append, fOf_length, val_iOf hd, val_fOf hd]
  have := Nat.div_add_mod (val h) (10 ^ p)
  rw [Nat.mul_comm] at this
  exact this
/-- What 'build' tells. -/
def built (neg : Bool) (h : List Nat) (p : Nat) : Bool × ByteArray × ByteArray × Int :=
  if (iOf p h).length + p > 40 then (false, ⟨#[]⟩, ⟨#[]⟩, 3) else (neg && decide (val h ≠ 0), ofD (iOf p h), ofD (fOf p h), 0)
theorem build_ev (neg : Bool) (h : List Nat) (p : Nat) (hd : Dg h) (hn : h.length ≤ 10000) (hp : p ≤ 10000) : Ev (fun k => round_build.f k neg (ofD h) (p : Int)) (built neg h p) := by
  have lp := pad_length p h
  have dp := dg_pad hd p
  have eI : iOf p h = lead ((pad p h).take ((pad p h).length - p)) := rfl
  have eF : fOf p h = (pad p h).drop ((pad p h).length - p) := rfl
  have dI := dg_iOf hd p
  have dF := dg_fOf hd p
  have lF := fOf_length p h
  have lI := lead_length ((pad p h).take ((pad p h).length - p))
  rw [← eI, List.length_take] at lI
  -- behind the padding
  have main : Ev (fun k => round_build.j0 k neg (ofD (pad p h)) (p : Int)) (built neg h p) := by
    have w1 : wrap64 (((ofD (pad p h)).size : Int) - p) = (((pad p h).length - p : Nat) : Int) := by rw [size_ofD, w64 (by omega) (by omega)]; omega
    have hI : (ofD (pad p h)).extract 0 ((pad p h).length - p) = ofD ((pad p h).take ((pad p h).length - p)) := by rw [ofD_extract]; simp
    have hF : (ofD (pad p h)).extract ((pad p h).length - p) (pad p h).length = ofD (fOf p h) := by rw [ofD_extract, List.take_of_length_le (by simp), eF]
    have j1 : Ev (fun k => round_build.j1 k (p : Int) neg (ofD (iOf p h)) (ofD (fOf p h))) (built neg h p) := by
      refine Ev.some fun k => ?_
      have w2 : wrap64 (((ofD (iOf p h)).size : Int) + p) = (((iOf p h).length + p : Nat) : Int) := by rw [size_ofD, w64 (by omega) (by omega)]; omega
      simp only [round_build.j1]
      rw [if_pos (by rw [size_ofD, size_ofD]; omega), ofD_append, trim_f _ (dI.append dF) (by rw [List.length_append]; omega), Option.bind_some, w2]
      unfold built
      by_cases hz : val h = 0
      · rw [if_pos (toList_nil.2 (tt_nil.2 (by rw [val_parts hd]; exact hz)))]
        by_cases h40 : (iOf p h).length + p > 40
        · rw [if_pos (by omega), if_pos h40]
        · rw [if_neg (by omega), if_neg h40]; simp [hz]
      · rw [if_neg (fun e => hz (by rw [← val_parts hd p]; exact tt_nil.1 (toList_nil.1 e)))]
        by_cases h40 : (iOf p h).length + p > 40
        · rw [if_pos (by omega), if_pos h40]
        · rw [if_neg (by omega), if_neg h40]; simp [hz]
    refine Ev.step (fun k => ?_) j1
    simp only [round_build.j0]
    rw [w1, if_pos (by omega), if_pos (by rw [size_ofD]; omega), Int.toNat_natCast, size_ofD, hI, hF, trimLeft_f _ (dp.take _) (by rw [List.length_take]; omega), Option.bind_some]
    rw [lead_of_tl] at eI
    by_cases hz : tl ((pad p h).take ((pad p h).length - p)) = []
    · rw [if_pos (toList_nil.2 hz)]
      rw [if_pos hz] at eI
      rw [eI]
      rfl
    · rw [if_neg (fun e => hz (toList_nil.1 e))]
      rw [if_neg hz] at eI
      rw [eI]
  by_cases hle : h.length ≤ p
  · have w3 : wrap64 (wrap64 ((p : Int) + 1) - ((ofD h).size : Int)) = ((p + 1 - h.length : Nat) : Int) := by
      rw [size_ofD, w64 (x := (p : Int) + 1) (by omega) (by omega), w64 (by omega) (by omega)]; omega
    refine Ev.congr (fun k => ?_) main
    simp only [round_build.f]
    rw [if_pos (by rw [size_ofD]; omega), w3, repeat_f _ (by omega) (by omega), Option.bind_some, Int.toNat_natCast, if_pos (by rw [size_ofD, size_ofD, List.length_replicate]; omega), ofD_append]
    rfl
  · refine Ev.congr (fun k => ?_) main
    simp only [round_build.f]
    rw [if_neg (by rw [size_ofD]; omega), pad_of_lt (by omega)]

theorem shorten_ev (neg : Bool) (li lf : List Nat) (mode : Int) (m : Nat) (di : Dg li) (df : Dg lf) (hn : li.length + lf.length ≤ 40) (h1 : 1 ≤ mode) (h8 : mode ≤ 8) (m0 : 0 < m) (hm : m < li.length + lf.length) :
    ∃ h, Dg h ∧ h.length ≤ 41 ∧ val h = val (li ++ lf) / 10 ^ m + (if (upw mode neg (val (li ++ lf) / 10 ^ m) (val (li ++ lf) % 10 ^ m) (10 ^ m)).1 = true then 1 else 0) ∧
      Ev (fun k => round_shorten.f k neg (ofD li) (ofD lf) mode (m : Int)) (if (upw mode neg (val (li ++ lf) / 10 ^ m) (val (li ++ lf) % 10 ^ m) (10 ^ m)).2 = 0 then
        (if m > lf.length then built neg (h ++ List.replicate (m - lf.length) 0) 0 else built neg h (lf.length - m)) else (false, ⟨#[]⟩, ⟨#[]⟩, (upw mode neg (val (li ++ lf) / 10 ^ m) (val (li ++ lf) % 10 ^ m) (10 ^ m)).2)) := by
  have hs := di.append df
  have ls : (li ++ lf).length = li.length + lf.length := List.length_append
  have cv := cut_ev (li ++ lf) m hs (by omega) m0 (by omega)
  have vq := val_take hs ((li ++ lf).length - m)
  have vr := val_drop hs ((li ++ lf).length - m)
  have e1 : (li ++ lf).length - ((li ++ lf).length - m) = m := by omega
  rw [e1] at vq vr
  have lh : ((li ++ lf).take ((li ++ lf).length - m)).length = (li ++ lf).length - m := by rw [List.length_take]; omega
  have dh := hs.take ((li ++ lf).length - m)
  rw [vr] at cv
  rw [← vq]
  generalize val (li ++ lf) % 10 ^ m = r at *
  generalize hH : (li ++ lf).take ((li ++ lf).length - m) = H at *
  have hne : H ≠ [] := fun e => by rw [e] at lh; simp at lh; omega
  have aw := away_f mode neg (val H) r (10 ^ m) h1 h8
  generalize upw mode neg (val H) r (10 ^ m) = U at *
  obtain ⟨g, dg, vg, lg⟩ : ∃ g, Dg g ∧ (val g = val H + (if U.1 = true then 1 else 0) ∧ (if U.1 = true then round_one.f (ofD H) = some (ofD g) else g = H)) ∧ g.length ≤ 41 := by
    by_cases hU : U.1 = true
    · obtain ⟨g, a, b, c, d, e⟩ := one_f H dh (by omega)
      exact ⟨g, a, ⟨by rw [if_pos hU]; exact b, by rw [if_pos hU]; exact e⟩, by omega⟩
    · exact ⟨H, dh, ⟨by rw [if_neg hU]; rfl, by rw [if_neg hU]⟩, by omega⟩
  refine ⟨g, dg, lg, vg.1, ?_⟩
  have j1 : Ev (fun k => round_shorten.j1 k (m : Int) (ofD g) neg (ofD li) (ofD lf)) (if m > lf.length then built neg (g ++ List.replicate (m - lf.length) 0) 0 else built neg g (lf.length - m)) := by
    by_cases hm2 : m > lf.length
    · rw [if_pos hm2]
      have w : wrap64 ((m : Int) - ((ofD lf).size : Int)) = ((m - lf.length : Nat) : Int) := by rw [size_ofD, w64 (by omega) (by omega)]; omega
      have bv := build_ev neg (g ++ List.replicate (m - lf.length) 0) 0 (dg.append (Dg.zeros _)) (by rw [List.length_append, List.length_replicate]; omega) (by omega)
      refine Ev.step (f := fun k => (round_build.f k neg (ofD (g ++ List.replicate (m - lf.length) 0)) 0).bind fun bt => some (bt.1, bt.2.1, bt.2.2.1, bt.2.2.2)) (fun k => ?_) (Ev.bind bv (Ev.now _))
      simp only [round_shorten.j1]
      rw [if_pos (by rw [size_ofD]; omega), w, repeat_f _ (by omega) (by omega), Option.bind_some, Int.toNat_natCast, if_pos (by rw [size_ofD, size_ofD, List.length_replicate]; omega), ofD_append]
    · rw [if_neg hm2]
      have w : wrap64 (((ofD lf).size : Int) - (m : Int)) = ((lf.length - m : Nat) : Int) := by rw [size_ofD, w64 (by omega) (by omega)]; omega
      have bv := build_ev neg g (lf.length - m) dg (by omega) (by omega)
      refine Ev.step (f := fun k => (round_build.f k neg (ofD g) ((lf.length - m : Nat) : Int)).bind fun bt => some (bt.1, bt.2.1, bt.2.2.1, bt.2.2.2)) (fun k => ?_) (Ev.bind bv (Ev.now _))
      simp only [round_shorten.j1]
      rw [if_neg (by rw [size_ofD]; omega), w]
  have lH : 0 < H.length := by cases H with
    | nil => exact absurd rfl hne
    | cons a b => simp
  have wl : wrap64 (((ofD H).size : Int) - 1) = ((H.length - 1 : Nat) : Int) := by rw [size_ofD, w64 (by omega) (by omega)]; omega
  have odd : (((((bt (ofD H) ((H.length - 1 : Nat) : Int)) - 48) % 256) % 2) == 1) = (val H % 2 == 1) := by
    have a := dh.get (H.length - 1)
    have b := val_odd H hne
    rw [bt_ofD dh (by omega) (by omega), Int.toNat_natCast, digit_of _ a, Bool.eq_iff_iff]
    simp only [beq_iff_eq]
    omega
  refine Ev.congr (g := fun k => round_shorten.f k neg (ofD li) (ofD lf) mode (m : Int)) (fun k => by simp only [round_shorten.f]; rw [if_pos (by rw [size_ofD, size_ofD]; omega), ofD_append]) ?_
  refine Ev.bind cv ?_
  refine Ev.congr (fun k => by rw [if_neg (fun e => hne (toList_nil.1 e)), wl, if_pos (by omega), if_pos (by rw [size_ofD]; omega), odd]) ?_
  refine Ev.step (g := fun k => round_shorten.j0 k mode (m : Int) (ofD H) (lies r (10 ^ m)) (val H % 2 == 1) neg (ofD li) (ofD lf)) (fun k => by simp only [round_shorten.j0]; rw [aw, Option.bind_some]) ?_
  by_cases hE : U.2 = 0
  · rw [if_pos hE]
    refine Ev.congr (fun k => if_pos hE) ?_
    by_cases hU : U.1 = true
    · have vg2 := vg.2
      rw [if_pos hU] at vg2
      refine Ev.congr (fun k => by rw [if_pos hU, vg2, Option.bind_some]) j1
    · have vg2 := vg.2
      rw [if_neg hU] at vg2
      subst vg2
      exact Ev.congr (fun k => if_neg hU) j1
  · rw [if_neg hE]
    exact Ev.congr (fun k => if_neg hE) (Ev.now _)
end Go.Proofs.YtpmhebdaphjinaaDoor.RoundProg
set_option linter.unusedVariables false
set_option linter.unusedSimpArgs false
namespace Go.Proofs.YtpmhebdaphjinaaDoor.Ref02
open Go.RowKit Go.Proofs.YtpmhebdaphjinaaDoorW.PrintWords Go.Proofs.YtpmhebdaphjinaaDoorW.PrintLast Go.Proofs.YtpmhebdaphjinaaDoorW.PrintMore Go.Proofs.YtpmhebdaphjinaaDoor.F Go.Proofs.YtpmhebdaphjinaaDoor.Dig Go.Proofs.YtpmhebdaphjinaaDoor.RoundRef Go.Proofs.YtpmhebdaphjinaaDoor.RoundProg

/-- A number's digits. -/
def num (n : Nat) : List Nat := if h : n < 10 then [n] else num (n / 10) ++ [n % 10]
termination_by n
theorem val_num (n : Nat) : val (num n) = n := by
  induction n using Nat.strongRecOn with
  | _ n ih =>
    unfold num
    split
    · simp [val]
    · rw [val_snoc, ih (n / 10) (by omega)]; omega
theorem dg_num (n : Nat) : Dg (num n) := by
  induction n using Nat.strongRecOn with
  | _ n ih =>
    unfold num
    split
    · exact Dg.cons (by omega) Dg.nil
    · exact (ih (n / 10) (by omega)).append (Dg.cons (by omega) Dg.nil)
theorem lead_num {l : List Nat} (hl : Dg l) : lead l = lead (num (val l)) := lead_eq hl (dg_num _) (val_num _).symm

theorem lead2_ev (l : List Nat) (hl : Dg l) (hn : l.length ≤ 1000000) : Ev (fun k => idiomref02_Lead.f k (ofD l)) (ofD (lead l)) := by
  show Ev (fun k => idiomref02_Lead.l0 k (ofD l)) _
  fun_induction lead l with
  | case1 =>
    refine Ev.some fun k => ?_
    simp only [idiomref02_Lead.l0]
    rw [if_neg (by rw [size_ofD]; simp), if_pos (toList_nil.2 rfl)]; rfl
  | case2 d =>
    refine Ev.some fun k => ?_
    simp only [idiomref02_Lead.l0]
    rw [if_neg (by rw [size_ofD]; simp), if_neg (fun e => by have := toList_nil.1 e; simp at this)]
  | case3 e t ih =>
    refine Ev.step (fun k => ?_) (ih hl.tail (by simp at hn ⊢; omega))
    simp only [idiomref02_Lead.l0]
    have hx : (ofD (0 :: e :: t)).extract 1 (ofD (0 :: e :: t)).size = ofD (e :: t) := by rw [size_ofD, ofD_extract]; simp
    rw [if_pos (by rw [size_ofD]; simp; omega), if_pos (by rw [size_ofD]; simp; omega), bt_ofD hl (by omega) (by simp; omega), if_pos (by simp), if_pos (by rw [size_ofD]; simp; omega), hx]
  | case4 d e t h =>
    refine Ev.some fun k => ?_
    simp only [idiomref02_Lead.l0]
    rw [if_pos (by rw [size_ofD]; simp; omega), if_pos (by rw [size_ofD]; simp; omega), bt_ofD hl (by omega) (by simp; omega), if_neg (by simp; omega), if_neg (fun e => by have := toList_nil.1 e; simp at this)]

theorem zeros2_ev (n : Nat) (hn : n ≤ 1000000) : Ev (fun k => idiomref02_Zeros.f k (n : Int)) (ofD (List.replicate n 0)) := by
  have aux : ∀ (m i : Nat), n - i = m → i ≤ n → Ev (fun k => idiomref02_Zeros.l0 k (n : Int) (List.replicate i 48 ++ List.replicate (n - i) 0) (i : Int)) (ofD (List.replicate n 0)) := by
    intro m
    induction m with
    | zero =>
      intro i h1 h2
      refine Ev.some fun k => ?_
      simp only [idiomref02_Zeros.l0]
      rw [if_neg (by omega)]
      have : i = n := by omega
      subst this
      rw [← strOfNums_ofD]
      simp
    | succ m ih =>
      intro i h1 h2
      refine Ev.step (fun k => ?_) (ih (i + 1) (by omega) (by omega))
      simp only [idiomref02_Zeros.l0]
      rw [if_pos (by omega), if_pos (by omega), if_pos (by simp; omega)]
      have e1 : wrap64 ((i : Int) + 1) = ((i + 1 : Nat) : Int) := by rw [w64 (by omega) (by omega)]; omega
      have e2 : (List.replicate i (48 : Int) ++ List.replicate (n - i) 0).set ((i : Int).toNat) 48 = List.replicate (i + 1) 48 ++ List.replicate (n - (i + 1)) 0 := by
        have e3 : n - i = (n - (i + 1)) + 1 := by omega
        rw [Int.toNat_natCast, e3, List.set_append_right _ _ (by simp)]
        simp only [List.length_replicate, Nat.sub_self, List.replicate_succ, List.set_cons_zero]
        rw [← List.replicate_succ, List.replicate_succ', List.append_assoc]; rfl
      rw [e1, e2]
  refine Ev.congr (fun k => ?_) (aux n 0 (by omega) (by omega))
  simp only [idiomref02_Zeros.f]
  rw [if_pos (by omega), if_pos (by omega)]
  simp

/-- Digits that were found from the right to the left. -/
theorem turned2_ev (ds : List Nat) (hd : Dg ds) (hn : ds.length ≤ 1000000) : Ev (fun k => idiomref02_turned.f k (dnums ds)) (ofD (lead ds.reverse)) := by
  have ln : (dnums ds).length = ds.length := by simp [dnums]
  have aux : ∀ (m i : Nat), ds.length - i = m → i ≤ ds.length → Ev (fun k => idiomref02_turned.l0 k (dnums ds) (List.replicate (ds.length - i) 0 ++ (dnums (ds.take i)).reverse) (i : Int)) (ofD (lead ds.reverse)) := by
    intro m
    induction m with
    | zero =>
      intro i h1 h2
      have : i = ds.length := by omega
      subst this
      have e : strOfNums (List.replicate (ds.length - ds.length) 0 ++ (dnums (ds.take ds.length)).reverse) = ofD ds.reverse := by
        rw [← strOfNums_ofD]
        simp [dnums]
      refine Ev.step (f := fun k => (idiomref02_Lead.f k (ofD ds.reverse)).bind fun t => some t) (fun k => ?_) (Ev.bind (lead2_ev _ hd.reverse (by simpa using hn)) (Ev.now _))
      simp only [idiomref02_turned.l0]
      rw [if_neg (by rw [ln]; omega), e]
    | succ m ih =>
      intro i h1 h2
      refine Ev.step (fun k => ?_) (ih (i + 1) (by omega) (by omega))
      simp only [idiomref02_turned.l0, ln]
      have e1 : wrap64 ((i : Int) + 1) = ((i + 1 : Nat) : Int) := by rw [w64 (by omega) (by omega)]; omega
      have e2 : wrap64 (wrap64 ((ds.length : Int) - 1) - (i : Int)) = ((ds.length - (i + 1) : Nat) : Int) := by
        rw [w64 (x := (ds.length : Int) - 1) (by omega) (by omega), w64 (by omega) (by omega)]; omega
      rw [e2, e1, if_pos (by omega), if_pos (by omega), if_pos (by omega), if_pos (by simp [dnums]; omega), Int.toNat_natCast]
      have e3 : rd (dnums ds) (i : Int) = ((ds.getD i 0 + 48 : Nat) : Int) := by
        unfold rd dnums
        rw [Int.toNat_natCast, List.getD_eq_getElem?_getD, List.getElem?_map, List.getD_eq_getElem?_getD, List.getElem?_eq_getElem (by omega)]
        rfl
      have e4 : ds.length - i = (ds.length - (i + 1)) + 1 := by omega
      have e5 : (dnums (ds.take (i + 1))).reverse = ((ds.getD i 0 + 48 : Nat) : Int) :: (dnums (ds.take i)).reverse := by
        rw [List.take_add_one, List.getElem?_eq_getElem (by omega)]
        simp only [Option.toList_some, nums_snoc, List.reverse_append, List.reverse_cons, List.reverse_nil, List.nil_append, List.singleton_append]
        rw [List.getD_eq_getElem?_getD, List.getElem?_eq_getElem (by omega)]; rfl
      rw [e3, e5, e4, set_mid]
  refine Ev.congr (fun k => ?_) (aux ds.length 0 (by omega) (by omega))
  simp only [idiomref02_turned.f, ln]
  rw [if_pos (by omega), if_pos (by omega)]
  simp [dnums]

/-- The digit number i from the right. -/
theorem rev_digit {s : List Nat} (hs : Dg s) (i : Nat) : s.reverse.getD i 0 = val s / 10 ^ i % 10 := by
  by_cases h : i < s.length
  · have e1 := val_take hs (s.length - i)
    have e2 : s.length - (s.length - i) = i := by omega
    rw [e2] at e1
    have hne : s.take (s.length - i) ≠ [] := fun e => by have := congrArg List.length e; simp at this; omega
    have e3 : s.take (s.length - i) = s.take (s.length - i - 1) ++ [s.getD (s.length - 1 - i) 0] := by
      have e5 : s.length - i - 1 = s.length - 1 - i := by omega
      rw [e5]
      obtain ⟨j, hj⟩ : ∃ j, j = s.length - 1 - i := ⟨_, rfl⟩
      have e4 : s.length - i = j + 1 := by omega
      rw [e4, ← hj, List.take_add_one, List.getElem?_eq_getElem (by omega), List.getD_eq_getElem?_getD, List.getElem?_eq_getElem (by omega)]
      rfl
    rw [e3, val_snoc] at e1
    have hg := hs.get (s.length - 1 - i)
    have e6 : s.reverse.getD i 0 = s.getD (s.length - 1 - i) 0 := by
      rw [List.getD_eq_getElem?_getD, List.getElem?_reverse h, List.getD_eq_getElem?_getD]
    rw [e6, ← e1]
    omega
  · have h1 := val_lt hs
    have h2 : 10 ^ s.length ≤ 10 ^ i := Nat.pow_le_pow_right (by omega) (by omega)
    rw [Nat.div_eq_of_lt (by omega), List.getD_eq_getElem?_getD, List.getElem?_eq_none (by simp; omega)]
    rfl
theorem at_f (s : List Nat) (hs : Dg s) (i : Nat) (hn : s.length ≤ 1000000) (hi : i ≤ 1000000) : idiomref02_at.f (ofD s) (i : Int) = some ((val s / 10 ^ i % 10 : Nat) : Int) := by
  rw [← rev_digit hs i]
  unfold idiomref02_at.f
  rw [size_ofD]
  by_cases h : i < s.length
  · have e : wrap64 (wrap64 ((s.length : Int) - 1) - (i : Int)) = ((s.length - 1 - i : Nat) : Int) := by
      rw [w64 (x := (s.length : Int) - 1) (by omega) (by omega), w64 (by omega) (by omega)]; omega
    have e6 : s.reverse.getD i 0 = s.getD (s.length - 1 - i) 0 := by
      rw [List.getD_eq_getElem?_getD, List.getElem?_reverse h, List.getD_eq_getElem?_getD]
    have hg := hs.get (s.length - 1 - i)
    rw [if_neg (by omega), e, if_pos (by omega), if_pos (by omega), bt_ofD hs (by omega) (by omega), Int.toNat_natCast, e6]
    congr 1
    omega
  · rw [if_pos (by omega), List.getD_eq_getElem?_getD, List.getElem?_eq_none (by simp; omega)]
    rfl
theorem mod_step (v i : Nat) : v % 10 ^ (i + 1) = v % 10 ^ i + 10 ^ i * (v / 10 ^ i % 10) := by
  rw [Nat.pow_succ, Nat.mod_mul]

end Go.Proofs.YtpmhebdaphjinaaDoor.Ref02
set_option linter.unusedVariables false
set_option linter.unusedSimpArgs false
namespace Go.Proofs.YtpmhebdaphjinaaDoor.RoundPlaces
open Go.RowKit Go.Proofs.YtpmhebdaphjinaaDoorW.PrintWords Go.Proofs.YtpmhebdaphjinaaDoorW.PrintLast Go.Proofs.YtpmhebdaphjinaaDoor.F Go.Proofs.YtpmhebdaphjinaaDoor.Dig Go.Proofs.YtpmhebdaphjinaaDoor.RoundRef Go.Proofs.YtpmhebdaphjinaaDoor.RoundProg

/-- A number's digits. -/
def cdig (n : Nat) : List Nat := if h : n < 10 then [n] else cdig (n / 10) ++ [n % 10]
termination_by n
theorem val_cdig (n : Nat) : val (cdig n) = n := by
  induction n using Nat.strongRecOn with
  | _ n ih =>
    unfold cdig
    split
    · simp [val]
    · rw [val_snoc, ih (n / 10) (by omega)]; omega
theorem dg_cdig (n : Nat) : Dg (cdig n) := by
  induction n using Nat.strongRecOn with
  | _ n ih =>
    unfold cdig
    split
    · exact Dg.cons (by omega) Dg.nil
    · exact (ih (n / 10) (by omega)).append (Dg.cons (by omega) Dg.nil)

/-- What a decimal is, rounded to places: its sign, whole part, places; the error. -/
def worth (neg : Bool) (li lf : List Nat) (mode : Int) (most : Nat) : Nat :=
  val (li ++ lf) / 10 ^ (lf.length - most) + (if (upw mode neg (val (li ++ lf) / 10 ^ (lf.length - most)) (val (li ++ lf) % 10 ^ (lf.length - most)) (10 ^ (lf.length - most))).1 = true then 1 else 0)
def plRes (neg : Bool) (li lf : List Nat) (mode : Int) (most : Nat) : Bool × ByteArray × ByteArray × Int :=
  if lf.length ≤ most then (neg, ofD li, ofD lf, 0)
  else if (upw mode neg (val (li ++ lf) / 10 ^ (lf.length - most)) (val (li ++ lf) % 10 ^ (lf.length - most)) (10 ^ (lf.length - most))).2 = 0 then
    (neg && decide (worth neg li lf mode most ≠ 0), ofD (iOf most (cdig (worth neg li lf mode most))), ofD (fOf most (cdig (worth neg li lf mode most))), 0)
  else (false, ⟨#[]⟩, ⟨#[]⟩, (upw mode neg (val (li ++ lf) / 10 ^ (lf.length - most)) (val (li ++ lf) % 10 ^ (lf.length - most)) (10 ^ (lf.length - most))).2)

theorem unit_val (m : Nat) : val (1 :: List.replicate m 0) = 10 ^ m := by simp [val, val_zeros]
theorem dg_unit (m : Nat) : Dg (1 :: List.replicate m 0) := Dg.cons (by omega) (Dg.zeros m)
theorem canon_unit (m : Nat) : Canon (1 :: List.replicate m 0) := ⟨by simp, .inr (by simp)⟩
theorem int_le (neg : Bool) (li lf : List Nat) (mode : Int) (most : Nat) (di : Dg li) (df : Dg lf) (h : most < lf.length) (x : List Nat) (dx : Dg x) (hx : val x = worth neg li lf mode most) : (iOf most x).length ≤ li.length + 1 := by
  have e : val (1 :: List.replicate li.length 0) = 10 ^ li.length := unit_val _
  have hv : val (iOf most x) ≤ val (1 :: List.replicate li.length 0) := by
    rw [val_iOf dx, e, hx]
    have h1 := val_lt di
    have h2 := val_lt df
    have p1 : 10 ^ lf.length = 10 ^ (lf.length - most) * 10 ^ most := by rw [← Nat.pow_add]; congr 1; omega
    have hp : 0 < 10 ^ lf.length := Nat.pow_pos (by omega)
    have hp2 : 0 < 10 ^ most := Nat.pow_pos (by omega)
    have e2 : val (li ++ lf) / 10 ^ (lf.length - most) / 10 ^ most = val li := by
      rw [Nat.div_div_eq_div_mul, ← p1, val_append, Nat.add_comm, Nat.add_mul_div_right _ _ hp, Nat.div_eq_of_lt h2, Nat.zero_add]
    have e3 : worth neg li lf mode most ≤ val (li ++ lf) / 10 ^ (lf.length - most) + 1 := by unfold worth; split <;> omega
    have e4 : worth neg li lf mode most / 10 ^ most ≤ (val (li ++ lf) / 10 ^ (lf.length - most) + 10 ^ most) / 10 ^ most := Nat.div_le_div_right (by omega)
    rw [Nat.add_div_right _ hp2, e2] at e4
    omega
  have := canon_length_le (dg_unit li.length) (canon_lead _ : Canon (iOf most x)) hv (by simp)
  rw [List.length_cons, List.length_replicate] at this
  exact this

theorem places_ev (neg : Bool) (li lf : List Nat) (mode : Int) (most : Nat) (di : Dg li) (df : Dg lf) (cl : Canon li) (hn : li.length + lf.length ≤ 40) (h1 : 1 ≤ mode) (h8 : mode ≤ 8) (h40 : most ≤ 40) :
    Ev (fun k => round_Places.j0 k mode (most : Int) false neg (ofD li) (ofD lf)) (plRes neg li lf mode most) ∧
    Ev (fun k => idiomref03_Places.j0 k mode (most : Int) false neg (ofD li) (ofD lf)) (plRes neg li lf mode most) := by
  have l0 : 0 < li.length := by
    cases li with
    | nil => exact absurd rfl cl.1
    | cons a b => simp
  by_cases h : lf.length ≤ most
  · have e : plRes neg li lf mode most = (neg, ofD li, ofD lf, 0) := by unfold plRes; rw [if_pos h]
    rw [e]
    constructor
    · refine Ev.some fun k => ?_
      simp only [round_Places.j0]
      rw [if_neg (by decide), if_pos (by rw [size_ofD]; omega)]
    · refine Ev.some fun k => ?_
      simp only [idiomref03_Places.j0]
      rw [if_neg (by decide), if_pos (by rw [size_ofD]; omega)]
  have w : wrap64 (((ofD lf).size : Int) - (most : Int)) = ((lf.length - most : Nat) : Int) := by rw [size_ofD, w64 (by omega) (by omega)]; omega
  have hs := di.append df
  have ls : (li ++ lf).length = li.length + lf.length := List.length_append
  obtain ⟨x, dx, lx, vx, sx⟩ := shorten_ev neg li lf mode (lf.length - most) di df hn h1 h8 (by omega) (by omega)
  have hp : 0 < val (1 :: List.replicate (lf.length - most) 0) := by rw [unit_val]; exact Nat.pow_pos (by omega)
  obtain ⟨q, dq, cq, vq, lq, tq⟩ := turned_ev mode neg (li ++ lf) (1 :: List.replicate (lf.length - most) 0) hs (dg_unit _) (canon_unit _) hp (by omega) (by simp; omega)
  rw [unit_val] at vq tq
  have wx : val x = worth neg li lf mode most := vx
  have wq : val q = worth neg li lf mode most := vq
  have il := int_le neg li lf mode most di df (by omega) x dx wx
  have px := parts_eq dx (dg_cdig (worth neg li lf mode most)) (by rw [wx, val_cdig]) most
  have pq := parts_eq dq (dg_cdig (worth neg li lf mode most)) (by rw [wq, val_cdig]) most
  have eb : lf.length - (lf.length - most) = most := by omega
  constructor
  · refine Ev.step (f := fun k => (round_shorten.f k neg (ofD li) (ofD lf) mode ((lf.length - most : Nat) : Int)).bind fun bt136 => some (bt136.1, bt136.2.1, bt136.2.2.1, bt136.2.2.2)) (fun k => ?_) ?_
    · simp only [round_Places.j0]
      rw [if_neg (by decide), if_neg (by rw [size_ofD]; omega), w]
    · refine Ev.bind sx ?_
      rw [if_neg (show ¬ lf.length - most > lf.length by omega), eb]
      unfold plRes
      rw [if_neg h]
      by_cases hU : (upw mode neg (val (li ++ lf) / 10 ^ (lf.length - most)) (val (li ++ lf) % 10 ^ (lf.length - most)) (10 ^ (lf.length - most))).2 = 0
      · rw [if_pos hU, if_pos hU]
        unfold built
        rw [if_neg (by omega), px.1, px.2, wx]
        exact Ev.now _
      · rw [if_neg hU, if_neg hU]
        exact Ev.now _
  · have nv := noughts_ev ((lf.length - most : Nat) : Int) (by omega)
    rw [Int.toNat_natCast] at nv
    have mv := made_ev neg q most dq (by omega) (by omega)
    refine Ev.step (f := fun k => (idiomref03_Noughts.f k ((lf.length - most : Nat) : Int)).bind fun t194 => (if 1 + t194.size ≤ 9223372036854775807 then ((idiomref03_turned.f k mode neg (ofD (li ++ lf)) ((⟨#[49]⟩ : ByteArray) ++ t194)).bind fun bt195 => (if bt195.2 = 0 then ((idiomref03_Made.f k neg bt195.1 (most : Int)).bind fun bt197 => (some (bt197.1, bt197.2.1, bt197.2.2, 0))) else (some (false, (⟨#[]⟩ : ByteArray), (⟨#[]⟩ : ByteArray), bt195.2)))) else (none))) (fun k => ?_) ?_
    · simp only [idiomref03_Places.j0]
      rw [if_neg (by decide), if_neg (by rw [size_ofD]; omega), if_pos (by rw [size_ofD, size_ofD]; omega), w, ofD_append]
    · refine Ev.bind nv ?_
      have eu : (⟨#[49]⟩ : ByteArray) ++ ofD (List.replicate (lf.length - most) 0) = ofD (1 :: List.replicate (lf.length - most) 0) := by rw [ofD_one, ofD_append]; rfl
      refine Ev.congr (fun k => by rw [if_pos (by rw [size_ofD, List.length_replicate]; omega), eu]) ?_
      refine Ev.bind tq ?_
      unfold plRes
      rw [if_neg h]
      by_cases hU : (upw mode neg (val (li ++ lf) / 10 ^ (lf.length - most)) (val (li ++ lf) % 10 ^ (lf.length - most)) (10 ^ (lf.length - most))).2 = 0
      · rw [if_pos hU]
        refine Ev.congr (fun k => if_pos hU) ?_
        refine Ev.bind mv ?_
        rw [pq.1, pq.2, wq]
        exact Ev.now _
      · rw [if_neg hU]
        exact Ev.congr (fun k => if_neg hU) (Ev.now _)

/-- Whatever is asked: both tell one thing. -/
theorem places (neg : Bool) (I F : ByteArray) (mode most : Int) : ∃ r, Ev (fun k => round_Places.f k neg I F mode most) r ∧ Ev (fun k => idiomref03_Places.f k neg I F mode most) r ∧
    (r = (false, ⟨#[]⟩, ⟨#[]⟩, r.2.2.2) ∧ r.2.2.2 ≠ 0 ∨ r.2.2.2 = 0 ∧ ∃ li lf, ∃ m : Nat, Dg li ∧ Dg lf ∧ Canon li ∧ li.length + lf.length ≤ 40 ∧ I = ofD li ∧ F = ofD lf ∧ (neg = true → val li ≠ 0 ∨ val lf ≠ 0) ∧ 1 ≤ mode ∧ mode ≤ 8 ∧ most = m ∧ m ≤ 40 ∧ r = plRes neg li lf mode m) ∧
    (Ok neg I F → 1 ≤ mode → mode ≤ 8 → 0 ≤ most → most ≤ 40 → ∃ li lf, Dg li ∧ Dg lf ∧ I = ofD li ∧ F = ofD lf ∧ Canon li ∧ li.length + lf.length ≤ 40 ∧ (neg = true → val li ≠ 0 ∨ val lf ≠ 0) ∧ r = plRes neg li lf mode most.toNat) := by
  obtain ⟨c, pc, rc, hc, okc⟩ := check neg I F
  have asked : ∀ x : Int, (∀ y : Int, True) → (if c = 0 then (if mode ≤ 0 then (30 : Int) else if mode ≥ 9 then 30 else 0) else c) = x → Ev (fun k => round_asked.f k neg I F mode) x ∧ Ev (fun k => idiomref03_asked.f k neg I F mode) x := by
    intro x _ hx
    subst hx
    have e1 : (mode < 1) = (mode ≤ 0) := by rw [eq_iff_iff]; omega
    have e2 : (mode > 8) = (mode ≥ 9) := by rw [eq_iff_iff]; omega
    refine ⟨Ev.bind pc (Ev.congr (fun k => ?_) (Ev.now _)), Ev.bind rc (Ev.congr (fun k => ?_) (Ev.now _))⟩
    · by_cases h0 : c = 0 <;> by_cases h1 : mode ≤ 0 <;> by_cases h2 : mode ≥ 9 <;> simp only [h0, h1, h2, if_true, if_false]
    · simp only [e1, e2]
      by_cases h0 : c = 0 <;> by_cases h1 : mode ≤ 0 <;> by_cases h2 : mode ≥ 9 <;> simp only [h0, h1, h2, if_true, if_false]
  obtain ⟨pa, ra⟩ := asked _ (fun _ => trivial) rfl
  by_cases hbad : (if c = 0 then (if mode ≤ 0 then (30 : Int) else if mode ≥ 9 then 30 else 0) else c) = 0
  rotate_left
  · refine ⟨(false, ⟨#[]⟩, ⟨#[]⟩, (if c = 0 then (if mode ≤ 0 then (30 : Int) else if mode ≥ 9 then 30 else 0) else c)), ?_, ?_, .inl ⟨rfl, hbad⟩, fun ok a b _ _ => ?_⟩
    · exact Ev.bind pa (Ev.congr (fun k => if_neg hbad) (Ev.now _))
    · exact Ev.bind ra (Ev.congr (fun k => if_neg hbad) (Ev.now _))
    · exact absurd (by rw [if_pos (okc.2 ok), if_neg (by omega), if_neg (by omega)]) hbad
  have h0 : c = 0 := by
    apply Classical.byContradiction
    intro h; rw [if_neg h] at hbad; exact h hbad
  rw [if_pos h0] at hbad
  have hm1 : 1 ≤ mode := by
    apply Classical.byContradiction
    intro h; rw [if_pos (by omega)] at hbad; omega
  have hm8 : mode ≤ 8 := by
    apply Classical.byContradiction
    intro h; rw [if_neg (by omega), if_pos (by omega)] at hbad; omega
  rw [if_pos h0, if_neg (by omega), if_neg (by omega)] at pa ra
  obtain ⟨li, lf, di, df, eI, eF, cl, hn, hsg⟩ := okc.1 h0
  have red : ∀ x r, ((x = true ↔ most < 0 ∨ 40 < most)) → Ev (fun k => round_Places.j0 k mode most x neg I F) r → Ev (fun k => round_Places.f k neg I F mode most) r := by
    intro x r hx h
    refine Ev.bind pa (Ev.congr (fun k => ?_) h)
    by_cases h1 : most < 0
    · rw [if_pos rfl, if_pos h1, hx.2 (.inl h1)]
    · rw [if_pos rfl, if_neg h1]
      have : decide (most > 40) = x := by rw [Bool.eq_iff_iff, hx]; simp; omega
      rw [this]
  have red2 : ∀ x r, ((x = true ↔ most < 0 ∨ 40 < most)) → Ev (fun k => idiomref03_Places.j0 k mode most x neg I F) r → Ev (fun k => idiomref03_Places.f k neg I F mode most) r := by
    intro x r hx h
    refine Ev.bind ra (Ev.congr (fun k => ?_) h)
    by_cases h1 : most < 0
    · rw [if_pos rfl, if_pos h1, hx.2 (.inl h1)]
    · rw [if_pos rfl, if_neg h1]
      have : decide (most > 40) = x := by rw [Bool.eq_iff_iff, hx]; simp; omega
      rw [this]
  by_cases ho : most < 0 ∨ 40 < most
  · refine ⟨(false, ⟨#[]⟩, ⟨#[]⟩, 1), red true _ (by simp [ho]) (Ev.some fun k => by simp only [round_Places.j0]; rw [if_pos trivial]), red2 true _ (by simp [ho]) (Ev.some fun k => by simp only [idiomref03_Places.j0]; rw [if_pos trivial]), .inl ⟨rfl, by simp⟩, fun _ _ _ _ _ => by omega⟩
  · obtain ⟨m, rfl⟩ := Int.eq_ofNat_of_zero_le (show 0 ≤ most by omega)
    obtain ⟨a, b⟩ := places_ev neg li lf mode m di df cl hn hm1 hm8 (by omega)
    refine ⟨plRes neg li lf mode m, red false _ (by simp; omega) (by rw [eI, eF]; exact a), red2 false _ (by simp; omega) (by rw [eI, eF]; exact b), ?_, fun _ _ _ _ _ => ⟨li, lf, di, df, eI, eF, cl, hn, hsg, rfl⟩⟩
    by_cases hr : (plRes neg li lf mode m).2.2.2 = 0
    · exact .inr ⟨hr, li, lf, m, di, df, cl, hn, eI, eF, hsg, hm1, hm8, rfl, by omega, rfl⟩
    · refine .inl ⟨?_, hr⟩
      unfold plRes at hr ⊢
      split at hr
      · exact absurd rfl hr
      · split at hr
        · exact absurd rfl hr
        · rename_i h1 h2
          rw [if_neg h1, if_neg h2]

theorem awake_ev : Ev (fun k => idiomlaw03_awake.f k) true := by
  obtain ⟨r, pr, _, _, hr⟩ := places false (⟨#[50]⟩ : ByteArray) (⟨#[53]⟩ : ByteArray) 7 0
  have d2 : Dg [2] := Dg.cons (by omega) Dg.nil
  have d5 : Dg [5] := Dg.cons (by omega) Dg.nil
  obtain ⟨li, lf, di, df, eI, eF, cl, hn, hsg, er⟩ := hr ⟨[2], [5], d2, d5, rfl, rfl, ⟨by simp, .inl rfl⟩, by simp, by simp⟩ (by omega) (by omega) (by omega) (by omega)
  have e1 : li = [2] := (ofD_inj d2 di eI).symm
  have e2 : lf = [5] := (ofD_inj d5 df eF).symm
  subst e1 e2
  refine Ev.bind pr ?_
  have : r = (false, ofD [2], ofD [], 0) := by
    rw [er]
    have c2 : cdig 2 = [2] := by unfold cdig; rfl
    have hw : worth false [2] [5] 7 0 = 2 := by decide
    unfold plRes
    simp only [show (0 : Int).toNat = 0 from rfl, hw, c2]
    rfl
  subst this
  exact Ev.congr (fun k => by rw [if_pos rfl]; simp only [toList_ofD]; rfl) (Ev.now _)

end Go.Proofs.YtpmhebdaphjinaaDoor.RoundPlaces
set_option linter.unusedVariables false
set_option linter.unusedSimpArgs false
namespace Go.Proofs.YtpmhebdaphjinaaDoor.Sum02
open Go.RowKit Go.Proofs.YtpmhebdaphjinaaDoorW.PrintWords Go.Proofs.YtpmhebdaphjinaaDoorW.PrintLast Go.Proofs.YtpmhebdaphjinaaDoorW.PrintMore Go.Proofs.YtpmhebdaphjinaaDoor.F Go.Proofs.YtpmhebdaphjinaaDoor.Dig Go.Proofs.YtpmhebdaphjinaaDoor.RoundRef Go.Proofs.YtpmhebdaphjinaaDoor.RoundProg Go.Proofs.YtpmhebdaphjinaaDoor.Ref02

/-- A number's digits, none ahead that is a nought. -/
def nd (n : Nat) : List Nat := lead (num n)
theorem dg_nd (n : Nat) : Dg (nd n) := (dg_num n).lead
theorem canon_nd (n : Nat) : Canon (nd n) := canon_lead _
theorem val_nd (n : Nat) : val (nd n) = n := by unfold nd; rw [val_lead, val_num]
theorem nd_of {l : List Nat} (h : Dg l) : lead l = nd (val l) := lead_num h
theorem nd_len {n k : Nat} (h : n < 10 ^ k) (hk : 0 < k) : (nd n).length ≤ k := by
  apply Classical.byContradiction
  intro hc
  have h1 := (canon_nd n).le_val (by omega)
  rw [val_nd] at h1
  have h2 : 10 ^ k ≤ 10 ^ ((nd n).length - 1) := Nat.pow_le_pow_right (by omega) (by omega)
  omega
theorem val_cons (d : Nat) (l : List Nat) : val (d :: l) = d * 10 ^ l.length + val l := rfl

theorem nil_nums : dnums [] = [] := rfl
theorem w_succ {i : Nat} (h : i ≤ 1000000) : wrap64 ((i : Int) + 1) = ((i + 1 : Nat) : Int) := by rw [w64 (by omega) (by omega)]; omega
theorem p_sum {x y c : Nat} (hx : x ≤ 9) (hy : y ≤ 9) (hc : c ≤ 1) : wrap64 (wrap64 ((x : Int) + (y : Int)) + (c : Int)) = ((x + y + c : Nat) : Int) := by
  rw [w64 (x := (x : Int) + (y : Int)) (by omega) (by omega), w64 (by omega) (by omega)]; omega
theorem p_dig {x : Nat} (hx : x ≤ 19) : (wrap64 (48 + Int.tmod (x : Int) 10)) % 256 = ((x % 10 + 48 : Nat) : Int) := by
  rw [Int.tmod_eq_emod_of_nonneg (by omega), w64 (by omega) (by omega)]; omega
theorem p_over {x : Nat} (hx : x ≤ 19) : wrap64 (Int.tdiv (x : Int) 10) = ((x / 10 : Nat) : Int) := by
  rw [Int.tdiv_eq_ediv_of_nonneg (by omega), w64 (by omega) (by omega)]; omega
theorem m_sub {x y c : Nat} (hx : x ≤ 9) (hy : y ≤ 9) (hc : c ≤ 1) : wrap64 (wrap64 ((x : Int) - (y : Int)) - (c : Int)) = (x : Int) - y - c := by
  rw [w64 (x := (x : Int) - (y : Int)) (by omega) (by omega), w64 (by omega) (by omega)]
theorem m_dig1 {x y c : Nat} (hx : x ≤ 9) (hy : y ≤ 9) (hc : c ≤ 1) (h : x < y + c) : (wrap64 (48 + (wrap64 ((x : Int) - y - c + 10)))) % 256 = ((x + 10 - y - c + 48 : Nat) : Int) := by
  rw [w64 (x := (x : Int) - y - c + 10) (by omega) (by omega), w64 (by omega) (by omega)]; omega
theorem m_dig0 {x y c : Nat} (hx : x ≤ 9) (hy : y ≤ 9) (hc : c ≤ 1) (h : ¬ x < y + c) : (wrap64 (48 + ((x : Int) - y - c))) % 256 = ((x - y - c + 48 : Nat) : Int) := by
  rw [w64 (by omega) (by omega)]; omega
theorem plus_ev (a b : List Nat) (ha : Dg a) (hb : Dg b) (na : a.length ≤ 1000) (nb : b.length ≤ 1000) : Ev (fun k => idiomref02_Plus.f k (ofD a) (ofD b)) (ofD (nd (val a + val b))) := by
  obtain ⟨M, hM⟩ : ∃ M, M = max a.length b.length := ⟨_, rfl⟩
  have am : ∀ i, M ≤ i → val a < 10 ^ i := fun i hi => Nat.lt_of_lt_of_le (val_lt ha) (Nat.pow_le_pow_right (by omega) (by omega))
  have bm : ∀ i, M ≤ i → val b < 10 ^ i := fun i hi => Nat.lt_of_lt_of_le (val_lt hb) (Nat.pow_le_pow_right (by omega) (by omega))
  have fin : ∀ ds : List Nat, Dg ds → ds.length ≤ 2000 → val ds.reverse = val a + val b → Ev (fun k => (idiomref02_turned.f k (dnums ds)).bind fun t => some t) (ofD (nd (val a + val b))) := by
    intro ds hd hn hv
    have t := turned2_ev ds hd (by omega)
    rw [nd_of hd.reverse, hv] at t
    exact Ev.bind t (Ev.now _)
  have mxe : mx ((ofD a).size : Int) ((ofD b).size : Int) = M := by
    rw [size_ofD, size_ofD]; unfold mx; split <;> omega
  have stop : ∀ (i : Nat) (ds : List Nat), Dg ds → ds.length ≤ 2000 → M ≤ i → val ds.reverse = val a + val b → Ev (fun k => idiomref02_Plus.l0 k (ofD a) (ofD b) (dnums ds) ((0 : Nat) : Int) (i : Int)) (ofD (nd (val a + val b))) := by
    intro i ds hd hn hi hv
    refine Ev.step (f := fun k => idiomref02_Plus.j1 k (ofD a) (ofD b) (dnums ds) ((0 : Nat) : Int) (i : Int) false) (fun k => ?_) (Ev.step (fun k => ?_) (fin ds hd hn hv))
    · simp only [idiomref02_Plus.l0, mxe]
      rw [if_neg (by omega)]
      rfl
    · simp only [idiomref02_Plus.j1]
      rw [if_neg (by decide)]
  have aux : ∀ (m i : Nat) (ds : List Nat) (c : Nat), M + 1 - i = m → i ≤ M + 1 → Dg ds → ds.length = i → c ≤ 1 → (i = M + 1 → c = 0) → val ds.reverse + c * 10 ^ i = val a % 10 ^ i + val b % 10 ^ i →
      Ev (fun k => idiomref02_Plus.l0 k (ofD a) (ofD b) (dnums ds) (c : Int) (i : Int)) (ofD (nd (val a + val b))) := by
    intro m
    induction m with
    | zero =>
      intro i ds c h1 h2 hd hl hc hz hv
      have hi : i = M + 1 := by omega
      have c0 := hz hi
      subst c0
      rw [Nat.mod_eq_of_lt (am i (by omega)), Nat.mod_eq_of_lt (bm i (by omega))] at hv
      exact stop i ds hd (by omega) (by omega) (by omega)
    | succ m ih =>
      intro i ds c h1 h2 hd hl hc hz hv
      by_cases hi : i < M ∨ c = 1
      · obtain ⟨da, hda⟩ : ∃ x, x = val a / 10 ^ i % 10 := ⟨_, rfl⟩
        obtain ⟨db, hdb⟩ : ∃ x, x = val b / 10 ^ i % 10 := ⟨_, rfl⟩
        have la : da ≤ 9 := by omega
        have lb : db ≤ 9 := by omega
        have ea := at_f a ha i (by omega) (by omega)
        have eb := at_f b hb i (by omega) (by omega)
        rw [← hda] at ea
        rw [← hdb] at eb
        have hstep := ih (i + 1) (ds ++ [(da + db + c) % 10]) ((da + db + c) / 10) (by omega) (by omega) (hd.append (Dg.cons (by omega) Dg.nil)) (by simp; omega) (by omega) (by
          intro he
          have hiM : i = M := by omega
          rw [Nat.div_eq_of_lt (am i (by omega))] at hda
          rw [Nat.div_eq_of_lt (bm i (by omega))] at hdb
          omega) (by
          rw [mod_step, mod_step, ← hda, ← hdb, List.reverse_append, List.reverse_singleton, List.singleton_append, val_cons, List.length_reverse, hl, Nat.pow_succ]
          obtain ⟨P, hP⟩ : ∃ P, P = 10 ^ i := ⟨_, rfl⟩
          obtain ⟨q, hq⟩ : ∃ q, q = (da + db + c) / 10 := ⟨_, rfl⟩
          obtain ⟨r, hr⟩ : ∃ r, r = (da + db + c) % 10 := ⟨_, rfl⟩
          rw [← hP] at hv ⊢
          rw [← hq, ← hr]
          have hx : (10 * q + r) * P = (da + db + c) * P := by congr 1; omega
          simp only [Nat.add_mul] at hx
          have e1 : 10 * q * P = q * (P * 10) := by rw [Nat.mul_comm 10 q, Nat.mul_assoc, Nat.mul_comm 10 P]
          rw [Nat.mul_comm P da, Nat.mul_comm P db]
          omega)
        refine Ev.step (f := fun k => idiomref02_Plus.j1 k (ofD a) (ofD b) (dnums ds) (c : Int) (i : Int) true) (fun k => ?_) (Ev.step (fun k => ?_) hstep)
        · simp only [idiomref02_Plus.l0, mxe]
          by_cases h3 : i < M
          · rw [if_pos (by omega)]
          · rw [if_neg (by omega), decide_eq_true (by omega)]
        · simp only [idiomref02_Plus.j1, ea, eb, Option.bind_some]
          rw [if_pos trivial, p_sum la lb hc, p_dig (by omega), p_over (by omega), w_succ (by omega), if_pos (by simp [dnums]; omega), nums_snoc]
      · have c0 : c = 0 := by omega
        subst c0
        rw [Nat.mod_eq_of_lt (am i (by omega)), Nat.mod_eq_of_lt (bm i (by omega))] at hv
        exact stop i ds hd (by omega) (by omega) (by omega)
  have h0 := aux (M + 1) 0 [] 0 (by omega) (by omega) Dg.nil rfl (by omega) (by omega) (by simp [val, Nat.mod_one])
  have c0 : ((0 : Nat) : Int) = 0 := rfl
  rw [nil_nums, c0] at h0
  show Ev (fun k => idiomref02_Plus.l0 k (ofD a) (ofD b) [] 0 0) _
  exact h0

theorem minus_ev (a b : List Nat) (ha : Dg a) (hb : Dg b) (na : a.length ≤ 1000) (nb : b.length ≤ 1000) (hle : val b ≤ val a) : Ev (fun k => idiomref02_Minus.f k (ofD a) (ofD b)) (ofD (nd (val a - val b))) := by
  have am : val a < 10 ^ a.length := val_lt ha
  have aux : ∀ (m i : Nat) (ds : List Nat) (c : Nat), a.length - i = m → i ≤ a.length → Dg ds → ds.length = i → c ≤ 1 → val ds.reverse + val b % 10 ^ i = val a % 10 ^ i + c * 10 ^ i →
      Ev (fun k => idiomref02_Minus.l0 k (ofD a) (ofD b) (dnums ds) (c : Int) (i : Int)) (ofD (nd (val a - val b))) := by
    intro m
    induction m with
    | zero =>
      intro i ds c h1 h2 hd hl hc hv
      have hi : i = a.length := by omega
      subst hi
      rw [Nat.mod_eq_of_lt am, Nat.mod_eq_of_lt (by omega)] at hv
      have hlt := val_lt hd.reverse
      rw [List.length_reverse, hl] at hlt
      have c0 : c = 0 := by
        apply Classical.byContradiction
        intro hne
        have : c = 1 := by omega
        subst this
        omega
      subst c0
      have t := turned2_ev ds hd (by omega)
      rw [nd_of hd.reverse, show val ds.reverse = val a - val b by omega] at t
      refine Ev.step (fun k => ?_) (Ev.bind t (Ev.now _))
      simp only [idiomref02_Minus.l0]
      rw [if_neg (by rw [size_ofD]; omega)]
    | succ m ih =>
      intro i ds c h1 h2 hd hl hc hv
      obtain ⟨da, hda⟩ : ∃ x, x = val a / 10 ^ i % 10 := ⟨_, rfl⟩
      obtain ⟨db, hdb⟩ : ∃ x, x = val b / 10 ^ i % 10 := ⟨_, rfl⟩
      have la : da ≤ 9 := by omega
      have lb : db ≤ 9 := by omega
      have ea := at_f a ha i (by omega) (by omega)
      have eb := at_f b hb i (by omega) (by omega)
      rw [← hda] at ea
      rw [← hdb] at eb
      have key : ∀ (d c' : Nat), d ≤ 9 → c' ≤ 1 → d + db + c = da + 10 * c' → Ev (fun k => idiomref02_Minus.l0 k (ofD a) (ofD b) (dnums (ds ++ [d])) (c' : Int) ((i + 1 : Nat) : Int)) (ofD (nd (val a - val b))) := by
        intro d c' h9 h1' hE
        refine ih (i + 1) (ds ++ [d]) c' (by omega) (by omega) (hd.append (Dg.cons h9 Dg.nil)) (by simp; omega) h1' ?_
        rw [mod_step, mod_step, ← hda, ← hdb, List.reverse_append, List.reverse_singleton, List.singleton_append, val_cons, List.length_reverse, hl, Nat.pow_succ]
        obtain ⟨P, hP⟩ : ∃ P, P = 10 ^ i := ⟨_, rfl⟩
        rw [← hP] at hv ⊢
        have hx : (d + db + c) * P = (da + 10 * c') * P := by rw [hE]
        simp only [Nat.add_mul] at hx
        have e1 : 10 * c' * P = c' * (P * 10) := by rw [Nat.mul_comm 10 c', Nat.mul_assoc, Nat.mul_comm 10 P]
        rw [Nat.mul_comm P da, Nat.mul_comm P db]
        omega
      by_cases hlt : da < db + c
      · have hs := key (da + 10 - db - c) 1 (by omega) (by omega) (by omega)
        refine Ev.step (fun k => ?_) hs
        simp only [idiomref02_Minus.l0, ea, eb, Option.bind_some]
        rw [if_pos (by rw [size_ofD]; omega), m_sub la lb hc, if_pos (by omega), if_pos (by simp [dnums]; omega), w_succ (by omega), nums_snoc, m_dig1 la lb hc hlt]
        rfl
      · have hs := key (da - db - c) 0 (by omega) (by omega) (by omega)
        refine Ev.step (fun k => ?_) hs
        simp only [idiomref02_Minus.l0, ea, eb, Option.bind_some]
        rw [if_pos (by rw [size_ofD]; omega), m_sub la lb hc, if_neg (by omega), if_pos (by simp [dnums]; omega), w_succ (by omega), nums_snoc, m_dig0 la lb hc hlt]
        rfl
  have h0 := aux a.length 0 [] 0 (by omega) (by omega) Dg.nil rfl (by omega) (by simp [val, Nat.mod_one])
  have c0 : ((0 : Nat) : Int) = 0 := rfl
  rw [nil_nums, c0] at h0
  show Ev (fun k => idiomref02_Minus.l0 k (ofD a) (ofD b) [] 0 0) _
  exact h0

/-- How two numbers stand. -/
def stand (x y : Nat) : Int := if x < y then -1 else if x = y then 0 else 1
theorem cmp2_ev (x y : Nat) (nx : (nd x).length ≤ 1000000) (ny : (nd y).length ≤ 1000000) : Ev (fun k => idiomref02_Cmp.f k (ofD (nd x)) (ofD (nd y))) (stand x y) := by
  have da := dg_nd x
  have db := dg_nd y
  have la := canon_nd x
  have lb := canon_nd y
  have va := val_nd x
  have vb := val_nd y
  have j : ∀ z : Bool, ((z = true) ↔ x < y) → Ev (fun k => idiomref02_Cmp.j0 k (ofD (nd x)) (ofD (nd y)) z) (stand x y) := by
    intro z hz
    refine Ev.some fun k => ?_
    simp only [idiomref02_Cmp.j0]
    unfold stand
    by_cases h1 : x < y
    · rw [if_pos (hz.2 h1), if_pos h1]
    · rw [if_neg (fun e => h1 (hz.1 e)), if_neg h1]
      by_cases h2 : x = y
      · rw [if_pos (by rw [h2]), if_pos h2]
      · rw [if_neg (fun e => h2 (by rw [← va, ← vb, (toList_inj da db).1 e])), if_neg h2]
  by_cases h : (nd x).length < (nd y).length
  · have hv : x < y := by
      rcases Nat.lt_or_ge x y with h3 | h3
      · exact h3
      · exact absurd (canon_length_le da lb (by omega) la.1) (by omega)
    refine Ev.congr (fun k => ?_) (j true (by simp [hv]))
    simp only [idiomref02_Cmp.f, size_ofD]
    rw [if_pos (by omega)]
  · by_cases h2 : (nd x).length = (nd y).length
    · have e := bytesLess_ofD da db h2
      rw [va, vb] at e
      refine Ev.congr (fun k => ?_) (j (decide (x < y)) (by simp))
      simp only [idiomref02_Cmp.f, size_ofD]
      rw [if_neg (by omega), if_pos (by omega), e]
    · have hv : ¬ x < y := by
        intro h3
        exact absurd (canon_length_le db la (by omega) lb.1) (by omega)
      refine Ev.congr (fun k => ?_) (j false (by simp [hv]))
      simp only [idiomref02_Cmp.f, size_ofD]
      rw [if_neg (by omega), if_neg (by omega)]

theorem first_ev : Ev (fun k => idiomref02_First.f k ([0, 0] : List Int)) 0 := by
  have w0 : wrap64 (0 + 1) = 1 := by rw [w64 (by omega) (by omega)]; omega
  have w1 : wrap64 (1 + 1) = 2 := by rw [w64 (by omega) (by omega)]; omega
  show Ev (fun k => idiomref02_First.l0 k ([0, 0] : List Int) 0) 0
  refine (Ev.step (f := fun k => idiomref02_First.l0 k ([0, 0] : List Int) 1) (fun k => ?_) (Ev.step (f := fun k => idiomref02_First.l0 k ([0, 0] : List Int) 2) (fun k => ?_) (Ev.some fun k => ?_)))
  · simp only [idiomref02_First.l0]
    rw [if_pos (by decide), if_pos (by decide), if_pos (by decide), w0]
  · simp only [idiomref02_First.l0]
    rw [if_pos (by decide), if_pos (by decide), if_pos (by decide), w1]
  · simp only [idiomref02_First.l0]
    rw [if_neg (by decide)]

theorem raised_ev (neg : Bool) (li lf : List Nat) (S : Nat) (di : Dg li) (df : Dg lf) (hn : li.length + lf.length ≤ 1000) (hS : lf.length ≤ S) (h : S ≤ 1000) :
    Ev (fun k => idiomref02_raised.f k neg (ofD li) (ofD lf) (S : Int)) (ofD (nd (val (li ++ lf) * 10 ^ (S - lf.length)))) := by
  have w : wrap64 ((S : Int) - ((ofD lf).size : Int)) = ((S - lf.length : Nat) : Int) := by rw [size_ofD, w64 (by omega) (by omega)]; omega
  have z := zeros2_ev (S - lf.length) (by omega)
  have e : val (li ++ lf ++ List.replicate (S - lf.length) 0) = val (li ++ lf) * 10 ^ (S - lf.length) := val_append_zeros _ _
  have dd := (di.append df).append (Dg.zeros (S - lf.length))
  have ld := lead2_ev (li ++ lf ++ List.replicate (S - lf.length) 0) dd (by simp; omega)
  rw [nd_of dd, e] at ld
  refine Ev.congr (fun k => by simp only [idiomref02_raised.f]; rw [if_pos (by rw [size_ofD, size_ofD]; omega), w, ofD_append]) ?_
  refine Ev.bind z ?_
  refine Ev.congr (fun k => by rw [if_pos (by rw [size_ofD, size_ofD]; simp; omega), ofD_append]) ?_
  exact Ev.bind ld (Ev.now _)

theorem make_ev (neg : Bool) (v : Nat) (p : Nat) (hn : (nd v).length ≤ 1000) (hp : p ≤ 1000) : Ev (fun k => idiomref02_Make.f k neg (ofD (nd v)) (p : Int)) (built neg (nd v) p) := by
  have dn := dg_nd v
  have cn := canon_nd v
  have vn := val_nd v
  generalize nd v = n at *
  have n0 : 0 < n.length := by
    cases n with
    | nil => exact absurd rfl cn.1
    | cons a b => simp
  have lp := pad_length p n
  have dp := dg_pad dn p
  have cI : Canon ((pad p n).take ((pad p n).length - p)) := by
    by_cases h : n.length ≤ p
    · refine ⟨fun e => ?_, .inl ?_⟩
      · have := congrArg List.length e; rw [List.length_take] at this; simp at this; omega
      · rw [List.length_take]; omega
    · rw [pad_of_lt (by omega)]
      refine ⟨fun e => ?_, ?_⟩
      · have := congrArg List.length e; rw [List.length_take] at this; simp at this; omega
      · rcases cn.2 with h1 | h1
        · left; rw [List.length_take]; omega
        · right
          rw [List.getD_eq_getElem?_getD, List.getElem?_take_of_lt (by omega), ← List.getD_eq_getElem?_getD]
          exact h1
  have eI : iOf p n = (pad p n).take ((pad p n).length - p) := cI.lead
  have lI : (iOf p n).length + p = (pad p n).length := by rw [eI, List.length_take]; omega
  have hI : (ofD (pad p n)).extract 0 ((pad p n).length - p) = ofD (iOf p n) := by rw [ofD_extract, eI]; simp
  have hF : (ofD (pad p n)).extract ((pad p n).length - p) (pad p n).length = ofD (fOf p n) := by rw [ofD_extract, List.take_of_length_le (by simp)]; rfl
  have tail : ∀ (s : Bool), (if ((ofD (pad p n)).size : Int) > 40 then some (false, (⟨#[]⟩ : ByteArray), (⟨#[]⟩ : ByteArray), (3 : Int)) else if 0 ≤ wrap64 (((ofD (pad p n)).size : Int) - (p : Int)) then if wrap64 (((ofD (pad p n)).size : Int) - (p : Int)) ≤ ((ofD (pad p n)).size : Int) then some (s, (ofD (pad p n)).extract 0 (wrap64 (((ofD (pad p n)).size : Int) - (p : Int))).toNat, (ofD (pad p n)).extract (wrap64 (((ofD (pad p n)).size : Int) - (p : Int))).toNat (ofD (pad p n)).size, (0 : Int)) else none else none)
      = some (if (iOf p n).length + p > 40 then (false, ⟨#[]⟩, ⟨#[]⟩, 3) else (s, ofD (iOf p n), ofD (fOf p n), 0)) := by
    intro s
    have w : wrap64 (((ofD (pad p n)).size : Int) - (p : Int)) = (((pad p n).length - p : Nat) : Int) := by rw [size_ofD, w64 (by omega) (by omega)]; omega
    rw [w, size_ofD, Int.toNat_natCast, hI, hF]
    by_cases h : (iOf p n).length + p > 40
    · rw [if_pos (by omega), if_pos h]
    · rw [if_neg (by omega), if_pos (by omega), if_pos (by omega), if_neg h]
  have j : ∀ s : Bool, Ev (fun k => idiomref02_Make.j0 k s (ofD n) (p : Int)) (if (iOf p n).length + p > 40 then (false, ⟨#[]⟩, ⟨#[]⟩, 3) else (s, ofD (iOf p n), ofD (fOf p n), 0)) := by
    intro s
    by_cases h : n.length ≤ p
    · have w3 : wrap64 (wrap64 ((p : Int) + 1) - ((ofD n).size : Int)) = ((p + 1 - n.length : Nat) : Int) := by
        rw [size_ofD, w64 (x := (p : Int) + 1) (by omega) (by omega), w64 (by omega) (by omega)]; omega
      have z := zeros2_ev (p + 1 - n.length) (by omega)
      refine Ev.step (fun k => by simp only [idiomref02_Make.j0]; rw [if_pos (by rw [size_ofD]; omega), w3]) ?_
      refine Ev.bind z ?_
      refine Ev.congr (fun k => ?_) (Ev.now _)
      rw [if_pos (by rw [size_ofD, size_ofD]; simp; omega), ofD_append]
      exact tail s
    · refine Ev.some fun k => ?_
      simp only [idiomref02_Make.j0]
      rw [if_neg (by rw [size_ofD]; omega)]
      have := tail s
      rw [pad_of_lt (by omega)] at this
      rw [pad_of_lt (by omega)] at *
      exact this
  have ld := lead2_ev n dn (by omega)
  rw [cn.lead] at ld
  refine Ev.bind ld ?_
  unfold built
  have hz : ((ofD n).toList != ([48] : List UInt8)) = decide (val n ≠ 0) := by
    have e1 : ((ofD n).toList = ([48] : List UInt8)) ↔ n = [0] := by
      rw [show ([48] : List UInt8) = (ofD [0]).toList from by rw [toList_ofD]; rfl]
      exact toList_inj dn (Dg.cons (by omega) Dg.nil)
    rw [Bool.eq_iff_iff, bne_iff_ne, ne_eq, e1, decide_eq_true_eq]
    constructor
    · intro h h0; exact h (canon_zero dn cn h0)
    · intro h h0; rw [h0] at h; exact h rfl
  cases neg with
  | true =>
    refine Ev.congr (fun k => by rw [if_pos rfl]) ?_
    rw [hz]
    simpa using j (decide (val n ≠ 0))
  | false =>
    refine Ev.congr (fun k => by rw [if_neg (by decide)]) ?_
    simpa using j false
end Go.Proofs.YtpmhebdaphjinaaDoor.Sum02
set_option linter.unusedVariables false
set_option linter.unusedSimpArgs false
namespace Go.Proofs.YtpmhebdaphjinaaDoor.Dec02
open Go.RowKit Go.Proofs.YtpmhebdaphjinaaDoorW.PrintWords Go.Proofs.YtpmhebdaphjinaaDoorW.PrintLast Go.Proofs.YtpmhebdaphjinaaDoorW.PrintMore Go.Proofs.YtpmhebdaphjinaaDoor.F Go.Proofs.YtpmhebdaphjinaaDoor.Dig Go.Proofs.YtpmhebdaphjinaaDoor.RoundRef Go.Proofs.YtpmhebdaphjinaaDoor.RoundProg Go.Proofs.YtpmhebdaphjinaaDoor.Ref02 Go.Proofs.YtpmhebdaphjinaaDoor.Sum02

/-- A decimal in its digits. -/
structure IsDec (neg : Bool) (li lf : List Nat) : Prop where
  di : Dg li
  df : Dg lf
  ci : Canon li
  ln : li.length + lf.length ≤ 40
  sg : neg = true → val li ≠ 0 ∨ val lf ≠ 0
theorem IsDec.ok {neg : Bool} {li lf : List Nat} (h : IsDec neg li lf) : Ok neg (ofD li) (ofD lf) := ⟨li, lf, h.di, h.df, rfl, rfl, h.ci, h.ln, h.sg⟩
theorem IsDec.abs {neg : Bool} {li lf : List Nat} (h : IsDec neg li lf) : IsDec false li lf := ⟨h.di, h.df, h.ci, h.ln, fun e => by cases e⟩
theorem IsDec.check {neg : Bool} {li lf : List Nat} (h : IsDec neg li lf) : Ev (fun k => idiomref02_Check.f k neg (ofD li) (ofD lf)) 0 := by
  obtain ⟨c, _, rc, _, okc⟩ := RoundProg.check neg (ofD li) (ofD lf)
  have h0 := okc.2 h.ok
  subst h0
  exact rc
theorem IsDec.pos {neg : Bool} {li lf : List Nat} (h : IsDec neg li lf) : 0 < li.length := by
  have := h.ci.1
  cases li with
  | nil => exact absurd rfl this
  | cons a b => simp

/-- What a decimal is worth at a scale, without its sign. -/
def at_ (li lf : List Nat) (S : Nat) : Nat := val (li ++ lf) * 10 ^ (S - lf.length)
theorem at_lt {li lf : List Nat} (di : Dg li) (df : Dg lf) {S : Nat} (h : lf.length ≤ S) : at_ li lf S < 10 ^ (li.length + S) := by
  have h1 := val_lt (di.append df)
  rw [List.length_append] at h1
  unfold at_
  have e : li.length + S = li.length + lf.length + (S - lf.length) := by omega
  rw [e, Nat.pow_add]
  exact Nat.mul_lt_mul_of_pos_right h1 (Nat.pow_pos (by omega))
theorem at_len {li lf : List Nat} (di : Dg li) (df : Dg lf) {S : Nat} (h : lf.length ≤ S) (h0 : 0 < li.length) (ln : li.length + lf.length ≤ 40) (hS : S ≤ 40) : (nd (at_ li lf S)).length ≤ 80 :=
  Nat.le_trans (nd_len (at_lt di df h) (by omega)) (by omega)
theorem mx_size (a b : List Nat) : mx ((ofD a).size : Int) ((ofD b).size : Int) = ((max a.length b.length : Nat) : Int) := by
  rw [size_ofD, size_ofD]; unfold mx; split <;> omega

theorem sum_ev (n1 : Bool) (i1 f1 : List Nat) (n2 : Bool) (i2 f2 : List Nat) (less : Bool) (S : Nat) (hS : S = max f1.length f2.length) (d1 : IsDec n1 i1 f1) (d2 : IsDec n2 i2 f2) :
    Ev (fun k => idiomref02_sum.f k n1 (ofD i1) (ofD f1) n2 (ofD i2) (ofD f2) less)
      (if n1 = (n2 != less) then built (n2 != less) (nd (at_ i1 f1 S + at_ i2 f2 S)) S
       else if at_ i2 f2 S ≤ at_ i1 f1 S then built n1 (nd (at_ i1 f1 S - at_ i2 f2 S)) S
       else built (n2 != less) (nd (at_ i2 f2 S - at_ i1 f1 S)) S) := by
  have l1 := d1.ln
  have l2 := d2.ln
  have q1 := d1.pos
  have q2 := d2.pos
  have r1 := raised_ev n1 i1 f1 S d1.di d1.df (by omega) (by omega) (by omega)
  have r2 := raised_ev n2 i2 f2 S d2.di d2.df (by omega) (by omega) (by omega)
  have x1 := at_len d1.di d1.df (S := S) (by omega) q1 l1 (by omega)
  have x2 := at_len d2.di d2.df (S := S) (by omega) q2 l2 (by omega)
  change Ev _ (ofD (nd (at_ i1 f1 S))) at r1
  change Ev _ (ofD (nd (at_ i2 f2 S))) at r2
  have b1 := at_lt d1.di d1.df (S := S) (by omega)
  have b2 := at_lt d2.di d2.df (S := S) (by omega)
  have c1 : at_ i1 f1 S < 10 ^ 80 := Nat.lt_of_lt_of_le b1 (Nat.pow_le_pow_right (by omega) (by omega))
  have c2 : at_ i2 f2 S < 10 ^ 80 := Nat.lt_of_lt_of_le b2 (Nat.pow_le_pow_right (by omega) (by omega))
  refine Ev.bind d1.check (Ev.bind d2.check (Ev.bind first_ev ?_))
  refine Ev.congr (fun k => by rw [if_pos rfl, mx_size, ← hS]) ?_
  refine Ev.bind r1 (Ev.bind r2 ?_)
  generalize at_ i1 f1 S = X at *
  generalize at_ i2 f2 S = Y at *
  have mk : ∀ (s : Bool) (v : Nat), v < 10 ^ 81 → Ev (fun k => (idiomref02_Make.f k s (ofD (nd v)) (S : Int)).bind fun bt262 => some (bt262.1, bt262.2.1, bt262.2.2.1, bt262.2.2.2)) (built s (nd v) S) := by
    intro s v hv
    have := nd_len hv (by omega)
    exact Ev.bind (make_ev s v S (by omega) (by omega)) (Ev.now _)
  by_cases hs : n1 = (n2 != less)
  · rw [if_pos hs]
    refine Ev.congr (fun k => by rw [if_pos (by simp [hs])]) ?_
    have p := plus_ev (nd X) (nd Y) (dg_nd _) (dg_nd _) (by omega) (by omega)
    rw [val_nd, val_nd] at p
    refine Ev.bind p (mk _ _ (by omega))
  · rw [if_neg hs]
    refine Ev.congr (fun k => by rw [if_neg (by simp [hs])]) ?_
    refine Ev.bind (cmp2_ev X Y (by omega) (by omega)) ?_
    unfold stand
    by_cases hle : Y ≤ X
    · rw [if_pos hle, if_neg (show ¬ X < Y by omega)]
      refine Ev.congr (fun k => by rw [if_pos (by split <;> omega)]) ?_
      have p := minus_ev (nd X) (nd Y) (dg_nd _) (dg_nd _) (by omega) (by omega) (by rw [val_nd, val_nd]; exact hle)
      rw [val_nd, val_nd] at p
      exact Ev.bind p (mk _ _ (by omega))
    · rw [if_neg hle, if_pos (show X < Y by omega)]
      refine Ev.congr (fun k => by rw [if_neg (by omega)]) ?_
      have p := minus_ev (nd Y) (nd X) (dg_nd _) (dg_nd _) (by omega) (by omega) (by rw [val_nd, val_nd]; omega)
      rw [val_nd, val_nd] at p
      exact Ev.bind p (mk _ _ (by omega))
/-- How two decimals stand. -/
def standD (n1 n2 : Bool) (k : Int) : Int := if n1 = true then (if n2 = true then -k else -1) else if n2 = true then 1 else k
theorem compare_ev (n1 : Bool) (i1 f1 : List Nat) (n2 : Bool) (i2 f2 : List Nat) (S : Nat) (hS : S = max f1.length f2.length) (d1 : IsDec n1 i1 f1) (d2 : IsDec n2 i2 f2) :
    Ev (fun k => idiomref02_Compare.f k n1 (ofD i1) (ofD f1) n2 (ofD i2) (ofD f2)) (standD n1 n2 (stand (at_ i1 f1 S) (at_ i2 f2 S)), 0) := by
  have l1 := d1.ln
  have l2 := d2.ln
  have q1 := d1.pos
  have q2 := d2.pos
  have r1 := raised_ev n1 i1 f1 S d1.di d1.df (by omega) (by omega) (by omega)
  have r2 := raised_ev n2 i2 f2 S d2.di d2.df (by omega) (by omega) (by omega)
  have x1 := at_len d1.di d1.df (S := S) (by omega) q1 l1 (by omega)
  have x2 := at_len d2.di d2.df (S := S) (by omega) q2 l2 (by omega)
  change Ev _ (ofD (nd (at_ i1 f1 S))) at r1
  change Ev _ (ofD (nd (at_ i2 f2 S))) at r2
  refine Ev.bind d1.check (Ev.bind d2.check (Ev.bind first_ev ?_))
  refine Ev.congr (fun k => by rw [if_pos rfl, mx_size, ← hS]) ?_
  refine Ev.bind r1 (Ev.bind r2 ?_)
  refine Ev.bind (cmp2_ev _ _ (by omega) (by omega)) ?_
  have st : ∀ x y, -1 ≤ stand x y ∧ stand x y ≤ 1 := fun x y => by unfold stand; repeat' split <;> omega
  have hb := st (at_ i1 f1 S) (at_ i2 f2 S)
  generalize stand (at_ i1 f1 S) (at_ i2 f2 S) = v at *
  have wv : wrap64 (-v) = -v := w64 (by omega) (by omega)
  cases n1 with
  | true =>
    refine Ev.congr (fun k => by rw [if_pos rfl]) ?_
    refine Ev.some fun k => ?_
    simp only [idiomref02_Compare.j0]
    cases n2 with
    | true => simp [standD, wv]
    | false => simp [standD]
  | false =>
    refine Ev.congr (fun k => by rw [if_neg (by decide)]) ?_
    refine Ev.some fun k => ?_
    simp only [idiomref02_Compare.j0]
    cases n2 with
    | true => simp [standD]
    | false => simp [standD]

/-- The parts of what is built. -/
theorem built_val (v p : Nat) : val (iOf p (nd v) ++ fOf p (nd v)) = v := by rw [val_parts (dg_nd v), val_nd]
theorem built_at (v p S : Nat) (h : p ≤ S) : at_ (iOf p (nd v)) (fOf p (nd v)) S = v * 10 ^ (S - p) := by unfold at_; rw [built_val, fOf_length]
theorem built_dec (s : Bool) (v p : Nat) (h : (iOf p (nd v)).length + p ≤ 40) : IsDec (s && decide (v ≠ 0)) (iOf p (nd v)) (fOf p (nd v)) ∧ built s (nd v) p = (s && decide (v ≠ 0), ofD (iOf p (nd v)), ofD (fOf p (nd v)), 0) := by
  have dn := dg_nd v
  refine ⟨⟨dg_iOf dn p, dg_fOf dn p, canon_lead _, by rw [fOf_length]; omega, fun hb => ?_⟩, ?_⟩
  · simp only [Bool.and_eq_true, decide_eq_true_eq] at hb
    have hv := built_val v p
    rw [val_append] at hv
    apply Classical.byContradiction
    intro hz
    have h3 : val (iOf p (nd v)) = 0 := by omega
    have h4 : val (fOf p (nd v)) = 0 := by omega
    rw [h3, h4] at hv
    omega
  · unfold built
    rw [if_neg (by omega), val_nd]
theorem iOf_one (v p : Nat) (h : v < 10 ^ (p + 1)) : (iOf p (nd v)).length ≤ 1 := by
  have dn := dg_nd v
  have h1 : val (iOf p (nd v)) < 10 ^ 1 := by
    rw [val_iOf dn, val_nd, Nat.div_lt_iff_lt_mul (Nat.pow_pos (by omega)), ← Nat.pow_add]
    rw [Nat.add_comm]
    exact h
  apply Classical.byContradiction
  intro hc
  have c : Canon (iOf p (nd v)) := canon_lead _
  have h2 := c.le_val (by omega)
  have h3 : 10 ^ 1 ≤ 10 ^ ((iOf p (nd v)).length - 1) := Nat.pow_le_pow_right (by omega) (by omega)
  omega
end Go.Proofs.YtpmhebdaphjinaaDoor.Dec02
set_option linter.unusedVariables false
set_option linter.unusedSimpArgs false
namespace Go.Proofs.YtpmhebdaphjinaaDoor.RoundNear
open Go.RowKit Go.Proofs.YtpmhebdaphjinaaDoorW.PrintWords Go.Proofs.YtpmhebdaphjinaaDoorW.PrintLast Go.Proofs.YtpmhebdaphjinaaDoorW.PrintMore Go.Proofs.YtpmhebdaphjinaaDoor.F Go.Proofs.YtpmhebdaphjinaaDoor.Dig Go.Proofs.YtpmhebdaphjinaaDoor.RoundRef Go.Proofs.YtpmhebdaphjinaaDoor.RoundProg Go.Proofs.YtpmhebdaphjinaaDoor.RoundPlaces Go.Proofs.YtpmhebdaphjinaaDoor.Ref02 Go.Proofs.YtpmhebdaphjinaaDoor.Sum02 Go.Proofs.YtpmhebdaphjinaaDoor.Dec02

theorem res_parts (neg : Bool) (li lf : List Nat) (mode : Int) (m : Nat) (d : IsDec neg li lf) (hm : m < lf.length) (h : (plRes neg li lf mode m).2.2.2 = 0) :
    IsDec (neg && decide (worth neg li lf mode m ≠ 0)) (iOf m (nd (worth neg li lf mode m))) (fOf m (nd (worth neg li lf mode m))) ∧
    plRes neg li lf mode m = (neg && decide (worth neg li lf mode m ≠ 0), ofD (iOf m (nd (worth neg li lf mode m))), ofD (fOf m (nd (worth neg li lf mode m))), 0) := by
  have l := d.ln
  have hl := int_le neg li lf mode m d.di d.df (by omega) (nd (worth neg li lf mode m)) (dg_nd _) (val_nd _)
  have p := parts_eq (dg_cdig (worth neg li lf mode m)) (dg_nd (worth neg li lf mode m)) (by rw [val_cdig, val_nd]) m
  refine ⟨(built_dec neg (worth neg li lf mode m) m (by omega)).1, ?_⟩
  unfold plRes at h ⊢
  rw [if_neg (by omega)] at h ⊢
  split at h
  · rename_i h2
    rw [if_pos h2, p.1, p.2]
  · exact absurd h (by assumption)

def ui (m : Nat) : List Nat := if m = 0 then [1] else [0]
def uf (m : Nat) : List Nat := if m = 0 then [] else List.replicate (m - 1) 0 ++ [1]
theorem uf_length (m : Nat) : (uf m).length = m := by unfold uf; split <;> simp <;> omega
theorem u_dec (m : Nat) (h : m ≤ 39) : IsDec false (ui m) (uf m) := by
  have l := uf_length m
  refine ⟨?_, ?_, ?_, ?_, fun e => by cases e⟩
  · unfold ui; split
    · exact Dg.cons (by omega) Dg.nil
    · exact Dg.cons (by omega) Dg.nil
  · unfold uf; split
    · exact Dg.nil
    · exact (Dg.zeros _).append (Dg.cons (by omega) Dg.nil)
  · unfold ui; split <;> exact ⟨by simp, .inl rfl⟩
  · have : (ui m).length = 1 := by unfold ui; split <;> rfl
    omega
theorem u_at (m S : Nat) : at_ (ui m) (uf m) S = 10 ^ (S - m) := by
  unfold at_
  rw [uf_length]
  have : val (ui m ++ uf m) = 1 := by
    unfold ui uf
    by_cases h : m = 0
    · rw [if_pos h, if_pos h]; rfl
    · rw [if_neg h, if_neg h]
      have e : [0] ++ (List.replicate (m - 1) 0 ++ [1]) = (0 :: List.replicate (m - 1) 0) ++ [1] := rfl
      rw [e, val_snoc, val_cons, val_zeros]
      simp
  rw [this, Nat.one_mul]
theorem unit_ev (m : Nat) (h : m ≤ 40) : Ev (fun k => idiomlaw03_unit.f k (m : Int)) (false, ofD (ui m), ofD (uf m)) := by
  unfold ui uf
  by_cases h0 : m = 0
  · rw [if_pos h0, if_pos h0]
    refine Ev.congr (fun k => ?_) (Ev.now _)
    simp only [idiomlaw03_unit.f]
    rw [if_pos (by omega)]
    rfl
  · rw [if_neg h0, if_neg h0]
    have nv := noughts_ev ((m - 1 : Nat) : Int) (by omega)
    rw [Int.toNat_natCast] at nv
    have w : wrap64 ((m : Int) - 1) = ((m - 1 : Nat) : Int) := by rw [w64 (by omega) (by omega)]; omega
    refine Ev.congr (fun k => by simp only [idiomlaw03_unit.f]; rw [if_neg (by omega), w]) ?_
    refine Ev.bind nv ?_
    refine Ev.congr (fun k => ?_) (Ev.now _)
    rw [if_pos (by rw [size_ofD]; simp; omega), ofD_one, ofD_append]
    rfl

/-- The gap. -/
def gap (x y : Nat) : Nat := x - y + (y - x)
theorem gap_lt (mode : Int) (neg : Bool) (u V : Nat) (hu : 0 < u) :
    gap ((V / u + (if (upw mode neg (V / u) (V % u) u).1 = true then 1 else 0)) * u) V < u ∧ (5 ≤ mode → mode ≤ 7 → gap ((V / u + (if (upw mode neg (V / u) (V % u) u).1 = true then 1 else 0)) * u) V + gap ((V / u + (if (upw mode neg (V / u) (V % u) u).1 = true then 1 else 0)) * u) V ≤ u) := by
  have hV := Nat.div_add_mod V u
  have hr := Nat.mod_lt V hu
  obtain ⟨q, hq⟩ : ∃ q, q = V / u := ⟨_, rfl⟩
  obtain ⟨r, hr'⟩ : ∃ r, r = V % u := ⟨_, rfl⟩
  rw [← hq, ← hr'] at hV ⊢
  rw [← hr'] at hr
  have e0 : q * u = u * q := Nat.mul_comm q u
  by_cases h : (upw mode neg q r u).1 = true
  · rw [if_pos h]
    have r0 : r ≠ 0 := by intro h0; rw [h0] at h; simp [upw] at h
    have eG : gap ((q + 1) * u) V = u - r := by unfold gap; rw [Nat.add_mul]; omega
    rw [eG]
    refine ⟨by omega, fun h5 h7 => ?_⟩
    unfold upw at h
    rw [if_neg r0, if_neg (by omega), if_neg (by omega), if_neg (by omega), if_neg (by omega)] at h
    by_cases m5 : mode = 5
    · rw [if_pos m5] at h; simp at h; omega
    · rw [if_neg m5] at h
      by_cases m6 : mode = 6
      · rw [if_pos m6] at h; simp at h; omega
      · rw [if_neg m6, if_pos (by omega)] at h
        simp at h
        omega
  · rw [if_neg h]
    have eG : gap ((q + 0) * u) V = r := by unfold gap; rw [Nat.add_zero]; omega
    rw [eG]
    refine ⟨hr, fun h5 h7 => ?_⟩
    by_cases r0 : r = 0
    · omega
    unfold upw at h
    rw [if_neg r0, if_neg (by omega), if_neg (by omega), if_neg (by omega), if_neg (by omega)] at h
    by_cases m5 : mode = 5
    · rw [if_pos m5] at h; simp at h; omega
    · rw [if_neg m5] at h
      by_cases m6 : mode = 6
      · rw [if_pos m6] at h; simp at h; omega
      · rw [if_neg m6, if_pos (by omega)] at h
        simp at h
        omega

theorem law (neg : Bool) (I F : ByteArray) (mode most : Int) : ∃ k, idiomlaw03_RoundNear.f k neg I F mode most = some true := by
  obtain ⟨r, pr, rr, hr, _⟩ := places neg I F mode most
  apply Ev.rounds
  have aw : Ev (fun k => (idiomlaw03_awake.f k).bind fun t => some t) true := Ev.bind awake_ev (Ev.now _)
  refine Ev.bind pr ?_
  rcases hr with ⟨e, hne⟩ | ⟨h0, li, lf, m, di, df, cl, hn, eI, eF, hsg, hm1, hm8, rfl, h40, er⟩
  · refine Ev.congr (fun k => by rw [if_neg hne]) ?_
    refine Ev.bind rr ?_
    exact Ev.congr (fun k => by rw [if_pos rfl]) aw
  have d : IsDec neg li lf := ⟨di, df, cl, hn, hsg⟩
  have l0 := d.pos
  refine Ev.congr (fun k => by rw [if_pos h0]) ?_
  subst eI eF
  by_cases hl : lf.length ≤ m
  · have e : plRes neg li lf mode m = (neg, ofD li, ofD lf, 0) := by unfold plRes; rw [if_pos hl]
    refine Ev.congr (fun k => ?_) aw
    rw [if_pos (by rw [size_ofD]; omega), er, e, if_pos (by simp)]
  refine Ev.congr (fun k => by rw [if_neg (by rw [size_ofD]; omega)]) ?_
  rw [er] at h0
  obtain ⟨dw, ew⟩ := res_parts neg li lf mode m d (by omega) h0
  rw [ew] at er
  rw [er]
  obtain ⟨L, hL⟩ : ∃ L, L = lf.length := ⟨_, rfl⟩
  have hu : 0 < 10 ^ (lf.length - m) := Nat.pow_pos (by omega)
  have hg := gap_lt mode neg (10 ^ (lf.length - m)) (val (li ++ lf)) hu
  change gap (worth neg li lf mode m * 10 ^ (lf.length - m)) (val (li ++ lf)) < 10 ^ (lf.length - m) ∧ (5 ≤ mode → mode ≤ 7 → gap (worth neg li lf mode m * 10 ^ (lf.length - m)) (val (li ++ lf)) + gap (worth neg li lf mode m * 10 ^ (lf.length - m)) (val (li ++ lf)) ≤ 10 ^ (lf.length - m)) at hg
  have aX : at_ (iOf m (nd (worth neg li lf mode m))) (fOf m (nd (worth neg li lf mode m))) L = worth neg li lf mode m * 10 ^ (lf.length - m) := by rw [built_at _ _ _ (by omega), hL]
  have aY : at_ li lf L = val (li ++ lf) := by unfold at_; rw [hL, Nat.sub_self, Nat.pow_zero, Nat.mul_one]
  have sm := sum_ev (neg && decide (worth neg li lf mode m ≠ 0)) (iOf m (nd (worth neg li lf mode m))) (fOf m (nd (worth neg li lf mode m))) neg li lf true L (by rw [fOf_length]; omega) dw d
  rw [aX, aY] at sm
  rw [← hL] at hg hu sm
  obtain ⟨W, hW⟩ : ∃ W, W = worth neg li lf mode m := ⟨_, rfl⟩
  rw [← hW] at hg dw sm ⊢
  -- the gap
  have sg : ∃ s, Ev (fun k => idiomref02_sum.f k (neg && decide (W ≠ 0)) (ofD (iOf m (nd W))) (ofD (fOf m (nd W))) neg (ofD li) (ofD lf) true) (built s (nd (gap (W * 10 ^ (L - m)) (val (li ++ lf)))) L) := by
    by_cases hs : (neg && decide (W ≠ 0)) = (neg != true)
    · rw [if_pos hs] at sm
      have w0 : W = 0 := by
        apply Classical.byContradiction
        intro hne
        cases neg <;> simp [hne] at hs
      have e : gap (W * 10 ^ (L - m)) (val (li ++ lf)) = W * 10 ^ (L - m) + val (li ++ lf) := by rw [w0]; unfold gap; omega
      rw [← e] at sm
      exact ⟨_, sm⟩
    · rw [if_neg hs] at sm
      by_cases hle : val (li ++ lf) ≤ W * 10 ^ (L - m)
      · rw [if_pos hle] at sm
        have e : gap (W * 10 ^ (L - m)) (val (li ++ lf)) = W * 10 ^ (L - m) - val (li ++ lf) := by unfold gap; omega
        rw [← e] at sm
        exact ⟨_, sm⟩
      · rw [if_neg hle] at sm
        have e : gap (W * 10 ^ (L - m)) (val (li ++ lf)) = val (li ++ lf) - W * 10 ^ (L - m) := by unfold gap; omega
        rw [← e] at sm
        exact ⟨_, sm⟩
  obtain ⟨s, sg⟩ := sg
  generalize gap (W * 10 ^ (L - m)) (val (li ++ lf)) = G at *
  obtain ⟨hg1, hg2⟩ := hg
  have p1 : 10 ^ (L - m) ≤ 10 ^ L := Nat.pow_le_pow_right (by omega) (by omega)
  have p2 : 10 ^ (L + 1) = 10 ^ L * 10 := Nat.pow_succ ..
  have i1 := iOf_one G L (by omega)
  have i2 := iOf_one (G + G) L (by omega)
  obtain ⟨dG, eG⟩ := built_dec s G L (by omega)
  rw [eG] at sg
  have aG : at_ (iOf L (nd G)) (fOf L (nd G)) L = G := by rw [built_at _ _ _ (by omega), Nat.sub_self, Nat.pow_zero, Nat.mul_one]
  have a2 : at_ (iOf L (nd (G + G))) (fOf L (nd (G + G))) L = G + G := by rw [built_at _ _ _ (by omega), Nat.sub_self, Nat.pow_zero, Nat.mul_one]
  have uv := unit_ev m h40
  have ud := u_dec m (by omega)
  have ua := u_at m L
  refine Ev.bind (Ev.bind sg (Ev.now _)) ?_
  refine Ev.congr (fun k => by rw [if_pos rfl]) ?_
  refine Ev.bind (Ev.now (false, ofD (iOf L (nd G)), ofD (fOf L (nd G)))) ?_
  refine Ev.bind uv ?_
  have cp := compare_ev false (iOf L (nd G)) (fOf L (nd G)) false (ui m) (uf m) L (by rw [fOf_length, uf_length]; omega) dG.abs ud
  rw [aG, ua] at cp
  refine Ev.bind cp ?_
  refine Ev.congr (fun k => by rw [if_neg (by unfold standD stand; rw [if_neg (by decide), if_neg (by decide), if_pos hg1]; decide)]) ?_
  have sa := sum_ev false (iOf L (nd G)) (fOf L (nd G)) false (iOf L (nd G)) (fOf L (nd G)) false L (by rw [fOf_length]; omega) dG.abs dG.abs
  rw [if_pos (by decide), aG] at sa
  obtain ⟨d2, e2⟩ := built_dec (false != false) (G + G) L (by omega)
  rw [e2] at sa
  refine Ev.bind (Ev.bind sa (Ev.now _)) ?_
  refine Ev.congr (fun k => by rw [if_pos rfl]) ?_
  refine Ev.bind uv ?_
  have c2 := compare_ev false (iOf L (nd (G + G))) (fOf L (nd (G + G))) false (ui m) (uf m) L (by rw [fOf_length, uf_length]; omega) d2.abs ud
  rw [a2, ua] at c2
  refine Ev.bind c2 ?_
  refine Ev.congr (fun k => ?_) aw
  by_cases hle : G + G ≤ 10 ^ (L - m)
  · rw [if_pos]
    unfold standD stand
    rw [if_neg (by decide), if_neg (by decide)]
    repeat' split
    all_goals simp
    omega
  · have hm : ¬ (5 ≤ mode ∧ mode ≤ 7) := fun h => hle (hg2 h.1 h.2)
    split
    · rfl
    · by_cases h5 : mode < 5
      · rw [if_pos h5]
      · rw [if_neg h5, if_pos (by omega)]
end Go.Proofs.YtpmhebdaphjinaaDoor.RoundNear
set_option linter.unusedVariables false
set_option linter.unusedSimpArgs false
namespace Go.Proofs.YtpmhebdaphjinaaDoor.lawRoundNear
open Go.ChangeShapes Go.WideShapes Go.ChangeAt Go.RowKit
open Go.ChangeMaps (open_string shut_string)
theorem own : ownKnob Tryd.prog.godebug = none := by kernel_rfl
theorem laidOut : laidOutB Tryd.prog = true := by kernel_rfl
set_option maxRecDepth 100000 in
theorem lifted (os : Os) (started : os.Started) (H : Type) (enc : TypeId × Value → H) :
    ReturnsInHanded {} Tryd.checked os 4 .any (fun w args => (Rows.roundNearSpec.pre enc Tryd.prog Tryd.f4 [] false w args ∧ laidMetH Tryd.prog Rows.roundNearRow.laid w) ∧ sizedMet enc Tryd.prog Tryd.f4 (OpenSpec.ofChange Rows.roundNearSpec) false w args)
      (Rows.roundNearSpec.post enc Tryd.prog Tryd.f4 false true false false) := by
  refine returnsInHanded_of_change_and (C := Tryd.checked) (X := (fun w _ => laidMetH Tryd.prog Rows.roundNearRow.laid w)) (fun _ _ _ hh h => h.of_heap hh) own started (by kernel_rfl) Tryd.func4
    (ChangeSpec.witness_shaped (enc := enc) (C := Tryd.checked) (os := os) (X := (fun w _ => laidMetH Tryd.prog Rows.roundNearRow.laid w)) false (World.laidAll Tryd.prog os Rows.roundNearRow.laid) #[.agg #[.bool false, .string ByteArray.empty, .string ByteArray.empty], .int .i64 0, .int .i64 0] 12 (World.laidAll_os _ _ _)
      (World.shaped_of_ZipB (by kernel_rfl) (by kernel_rfl)) (by kernel_rfl) (by kernel_rfl) (by kernel_rfl)
      (by rw [MakeChecks.laidMetH_plain _ _ _ (by kernel_rfl)]; exact laidMet_laidAll _ (by kernel_rfl) (by kernel_rfl))) ?_
  intro W base args ds gs before hval0 hW _ hsz0 hL0 _
  have hsz : (DataW.weightsEach Tryd.prog (Tryd.f4.params.toList ++ Rows.roundNearSpec.plain.varTypes Tryd.prog) (ds ++ gs)).all (· ≤ reachBytes) = true := hsz0
  have hval : ∀ (j : Nat) t v, Tryd.f4.params[j]? = some t → args[j]? = some v → Value.okWide Tryd.prog W .any base t v := hval0
  have hW' := hW
  obtain ⟨p, q, hA0, hV, rfl, hfz, hnd⟩ := hW
  have hA : DataW.TrodAll enc Tryd.prog W 0 (fun _ => true) true Tryd.f4.params.toList args.toList ds p := hA0
  rw [Tryd.params4] at hA hval hsz
  obtain ⟨v0, vs0, d0, ds0, p0, q0, hargs, rfl, rfl, h0, r0⟩ := trodAll_cons hA
  obtain ⟨v1, vs1, d1, ds1, p1, q1, rfl, rfl, rfl, h1, r1⟩ := trodAll_cons r0
  obtain ⟨v2, vs2, d2, ds2, p2, q2, rfl, rfl, rfl, h2, r2⟩ := trodAll_cons r1
  obtain ⟨rfl, rfl, rfl⟩ := trodAll_nil r2
  obtain rfl : args = #[v0, v1, v2] := by cases args; simp_all
  obtain ⟨rfl, rfl⟩ := trodVars_none hV
  have k0 := h0
  have lt0 : ∀ x ∈ p0, x.block < W.heap.size := by obtain ⟨m, hm⟩ := k0; exact DataW.trod_lt m _ _ _ hm
  have k1 := h1
  have lt1 : ∀ x ∈ p1, x.block < W.heap.size := by obtain ⟨m, hm⟩ := k1; exact DataW.trod_lt m _ _ _ hm
  have k2 := h2
  have lt2 : ∀ x ∈ p2, x.block < W.heap.size := by obtain ⟨m, hm⟩ := k2; exact DataW.trod_lt m _ _ _ hm
  obtain ⟨c0_0, c0_1, c0_2, y0_0, y0_1, y0_2, m0, rfl, rfl, rfl, g0_0, g0_1, g0_2⟩ := Go.Joins.open_agg3 Tryd.underlying23 (by kernel_rfl) (show Tryd.prog.cellsOf 23 = 3 by kernel_rfl) (hval 0 23 v0 rfl rfl) h0
  obtain ⟨a0_0, e0_0, rfl⟩ := DataW.trod_bool Tryd.underlying4 g0_0
  obtain rfl : c0_0 = _ := List.singleton_inj.1 e0_0
  obtain ⟨a0_1, e0_1, rfl, s0_1⟩ := DataW.trod_string Tryd.underlying9 g0_1
  obtain rfl : c0_1 = _ := List.singleton_inj.1 e0_1
  obtain ⟨a0_2, e0_2, rfl, s0_2⟩ := DataW.trod_string Tryd.underlying9 g0_2
  obtain rfl : c0_2 = _ := List.singleton_inj.1 e0_2
  obtain ⟨a1, rfl, rfl, rfl, w1⟩ := open_int Tryd.underlying3 (hval 1 3 v1 rfl rfl) h1
  obtain ⟨a2, rfl, rfl, rfl, w2⟩ := open_int Tryd.underlying3 (hval 2 3 v2 rfl rfl) h2
  obtain ⟨k, hk⟩ := RoundNear.law a0_0 a0_1 a0_2 a1 a2
  refine (F.idiomlaw03_RoundNear.calls k a0_0 a0_1 a0_2 a1 a2 true W hk).mono fun e W' ⟨he, bel0⟩ => ?_
  have bel : Below W.heap.size W W' := by first | exact bel0 | exact YtpmhebdaphjinaaDoorW.PrintWords.Drawn0.below bel0
  subst he
  exact ⟨_, rfl, _, _, _, [], _, [], hW', trodAll_mk1 (shut_bool Tryd.underlying4 _), (trodAll_cons_mk (Below.trod laidOut (by kernel_rfl) (of_decide_eq_true (by kernel_rfl)) k0 bel lt0) (trodAll_cons_mk (Below.trod laidOut (by kernel_rfl) (of_decide_eq_true (by kernel_rfl)) k1 bel lt1) (trodAll_cons_mk (Below.trod laidOut (by kernel_rfl) (of_decide_eq_true (by kernel_rfl)) k2 bel lt2) trodAll_mk0))), rfl, bel.frame _, fun h => by cases h⟩
theorem said : Rows.roundNearRow.holds Tryd.pinned (OpenSpec.ofChange Rows.roundNearSpec) :=
  OpenClaim.holds_of_wide 4 Tryd.f4 rfl rfl rfl rfl rfl rfl rfl ⟨rfl, rfl, rfl, rfl, rfl⟩ rfl rfl rfl rfl rfl (by kernel_rfl) Tryd.func4 (by kernel_rfl)
    (of_decide_eq_true (by kernel_rfl)) (by unfold Func.isWrapper; first | (rw [if_pos (by decide +kernel)]; kernel_rfl) | (rw [if_neg (by decide +kernel)]; exact ⟨rfl, rfl⟩))
    (fun os started H enc _ => lifted os started H enc)
theorem plain (f : FuncId) (fn : Func) (hf : Tryd.pinned.checked.prog.funcNamed "idiom/idiomlaw03.RoundNear" = some f) (hfn : Tryd.pinned.checked.prog.funcs[f]? = some fn) :
    false = Tryd.pinned.checked.prog.looks [] ∧ ∀ (j : Nat) t, fn.params[j]? = some t → Tryd.pinned.checked.prog.wantsStandIn t = false := by
  obtain rfl : f = 4 := Option.some.inj ((show Tryd.prog.funcNamed "idiom/idiomlaw03.RoundNear" = some 4 by kernel_rfl).symm.trans hf) |>.symm
  obtain rfl : fn = Tryd.f4 := (Option.some.inj (Tryd.func4.symm.trans hfn)).symm
  refine ⟨by kernel_rfl, fun j t ht => ?_⟩
  rw [Tryd.params4] at ht
  have hm : t ∈ [23, 3, 3] := by simpa using Array.mem_of_getElem? ht
  have hall : ([23, 3, 3].all fun u => !Tryd.prog.wantsStandIn u) = true := by kernel_rfl
  exact (show Tryd.prog.wantsStandIn t = false by simpa using List.all_eq_true.1 hall t hm)
/-- THE CARD. -/
theorem card : Rows.RoundNearCardSaid :=
  Claim7.holds_tied_plain_at .later [] _ _ _ _ said (fun _ h => by cases h) (by kernel_rfl) (fun _ h => by cases h) roundNear_row_tie rfl ⟨rfl, rfl⟩ (by kernel_rfl) rfl plain (by kernel_rfl)
#print axioms card
end Go.Proofs.YtpmhebdaphjinaaDoor.lawRoundNear
namespace Go.Proofs.YtpmhebdaphjinaaDoor
/-- The claim, under a short name. -/
theorem roundNear_holds : Rows.RoundNearCardSaid := lawRoundNear.card
end Go.Proofs.YtpmhebdaphjinaaDoor
