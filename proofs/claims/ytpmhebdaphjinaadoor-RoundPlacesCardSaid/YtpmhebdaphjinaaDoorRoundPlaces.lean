/- Places of layer 3 and of its reference tell the same, and what that is; the plain law RoundPlaces. -/
import Derived.Test.YtpmhebdaphjinaaDoorRoundProg
import Derived.Test.YtpmhebdaphjinaaDoorF18
set_option linter.unusedVariables false
set_option linter.unusedSimpArgs false
namespace Go.Proofs.YtpmhebdaphjinaaDoor.RoundPlaces
open Go.RowKit Go.Proofs.YtpmhebdaphjinaaDoorW.PrintWords Go.Proofs.YtpmhebdaphjinaaDoorW.PrintLast Go.Proofs.YtpmhebdaphjinaaDoor.F Go.Proofs.YtpmhebdaphjinaaDoor.Dig Go.Proofs.YtpmhebdaphjinaaDoor.RoundRef Go.Proofs.YtpmhebdaphjinaaDoor.RoundProg

/-- A number's digits. -/
def cdig (n : Nat) : List Nat := if h : n < 10 then [n] else cdig (n / 10) ++ [n % 10]
termination_by n
theorem val_cdig (n : Nat) : val (cdig n) = n := by
  induction n using Nat.strongRecOn with
  | _ n ih =>
    unfold cdig
    split
    · simp [val]
    · rw [val_snoc, ih (n / 10) (by omega)]; omega
theorem dg_cdig (n : Nat) : Dg (cdig n) := by
  induction n using Nat.strongRecOn with
  | _ n ih =>
    unfold cdig
    split
    · exact Dg.cons (by omega) Dg.nil
    · exact (ih (n / 10) (by omega)).append (Dg.cons (by omega) Dg.nil)

/-- What a decimal is, rounded to places: its sign, whole part, places; the error. -/
def worth (neg : Bool) (li lf : List Nat) (mode : Int) (most : Nat) : Nat :=
  val (li ++ lf) / 10 ^ (lf.length - most) + (if (upw mode neg (val (li ++ lf) / 10 ^ (lf.length - most)) (val (li ++ lf) % 10 ^ (lf.length - most)) (10 ^ (lf.length - most))).1 = true then 1 else 0)
def plRes (neg : Bool) (li lf : List Nat) (mode : Int) (most : Nat) : Bool × ByteArray × ByteArray × Int :=
  if lf.length ≤ most then (neg, ofD li, ofD lf, 0)
  else if (upw mode neg (val (li ++ lf) / 10 ^ (lf.length - most)) (val (li ++ lf) % 10 ^ (lf.length - most)) (10 ^ (lf.length - most))).2 = 0 then
    (neg && decide (worth neg li lf mode most ≠ 0), ofD (iOf most (cdig (worth neg li lf mode most))), ofD (fOf most (cdig (worth neg li lf mode most))), 0)
  else (false, ⟨#[]⟩, ⟨#[]⟩, (upw mode neg (val (li ++ lf) / 10 ^ (lf.length - most)) (val (li ++ lf) % 10 ^ (lf.length - most)) (10 ^ (lf.length - most))).2)

theorem unit_val (m : Nat) : val (1 :: List.replicate m 0) = 10 ^ m := by simp [val, val_zeros]
theorem dg_unit (m : Nat) : Dg (1 :: List.replicate m 0) := Dg.cons (by omega) (Dg.zeros m)
theorem canon_unit (m : Nat) : Canon (1 :: List.replicate m 0) := ⟨by simp, .inr (by simp)⟩
theorem int_le (neg : Bool) (li lf : List Nat) (mode : Int) (most : Nat) (di : Dg li) (df : Dg lf) (h : most < lf.length) (x : List Nat) (dx : Dg x) (hx : val x = worth neg li lf mode most) : (iOf most x).length ≤ li.length + 1 := by
  have e : val (1 :: List.replicate li.length 0) = 10 ^ li.length := unit_val _
  have hv : val (iOf most x) ≤ val (1 :: List.replicate li.length 0) := by
    rw [val_iOf dx, e, hx]
    have h1 := val_lt di
    have h2 := val_lt df
    have p1 : 10 ^ lf.length = 10 ^ (lf.length - most) * 10 ^ most := by rw [← Nat.pow_add]; congr 1; omega
    have hp : 0 < 10 ^ lf.length := Nat.pow_pos (by omega)
    have hp2 : 0 < 10 ^ most := Nat.pow_pos (by omega)
    have e2 : val (li ++ lf) / 10 ^ (lf.length - most) / 10 ^ most = val li := by
      rw [Nat.div_div_eq_div_mul, ← p1, val_append, Nat.add_comm, Nat.add_mul_div_right _ _ hp, Nat.div_eq_of_lt h2, Nat.zero_add]
    have e3 : worth neg li lf mode most ≤ val (li ++ lf) / 10 ^ (lf.length - most) + 1 := by unfold worth; split <;> omega
    have e4 : worth neg li lf mode most / 10 ^ most ≤ (val (li ++ lf) / 10 ^ (lf.length - most) + 10 ^ most) / 10 ^ most := Nat.div_le_div_right (by omega)
    rw [Nat.add_div_right _ hp2, e2] at e4
    omega
  have := canon_length_le (dg_unit li.length) (canon_lead _ : Canon (iOf most x)) hv (by simp)
  rw [List.length_cons, List.length_replicate] at this
  exact this

theorem places_ev (neg : Bool) (li lf : List Nat) (mode : Int) (most : Nat) (di : Dg li) (df : Dg lf) (cl : Canon li) (hn : li.length + lf.length ≤ 40) (h1 : 1 ≤ mode) (h8 : mode ≤ 8) (h40 : most ≤ 40) :
    Ev (fun k => round_Places.j0 k mode (most : Int) false neg (ofD li) (ofD lf)) (plRes neg li lf mode most) ∧
    Ev (fun k => idiomref03_Places.j0 k mode (most : Int) false neg (ofD li) (ofD lf)) (plRes neg li lf mode most) := by
  have l0 : 0 < li.length := by
    cases li with
    | nil => exact absurd rfl cl.1
    | cons a b => simp
  by_cases h : lf.length ≤ most
  · have e : plRes neg li lf mode most = (neg, ofD li, ofD lf, 0) := by unfold plRes; rw [if_pos h]
    rw [e]
    constructor
    · refine Ev.some fun k => ?_
      simp only [round_Places.j0]
      rw [if_neg (by decide), if_pos (by rw [size_ofD]; omega)]
    · refine Ev.some fun k => ?_
      simp only [idiomref03_Places.j0]
      rw [if_neg (by decide), if_pos (by rw [size_ofD]; omega)]
  have w : wrap64 (((ofD lf).size : Int) - (most : Int)) = ((lf.length - most : Nat) : Int) := by rw [size_ofD, w64 (by omega) (by omega)]; omega
  have hs := di.append df
  have ls : (li ++ lf).length = li.length + lf.length := List.length_append
  obtain ⟨x, dx, lx, vx, sx⟩ := shorten_ev neg li lf mode (lf.length - most) di df hn h1 h8 (by omega) (by omega)
  have hp : 0 < val (1 :: List.replicate (lf.length - most) 0) := by rw [unit_val]; exact Nat.pow_pos (by omega)
  obtain ⟨q, dq, cq, vq, lq, tq⟩ := turned_ev mode neg (li ++ lf) (1 :: List.replicate (lf.length - most) 0) hs (dg_unit _) (canon_unit _) hp (by omega) (by simp; omega)
  rw [unit_val] at vq tq
  have wx : val x = worth neg li lf mode most := vx
  have wq : val q = worth neg li lf mode most := vq
  have il := int_le neg li lf mode most di df (by omega) x dx wx
  have px := parts_eq dx (dg_cdig (worth neg li lf mode most)) (by rw [wx, val_cdig]) most
  have pq := parts_eq dq (dg_cdig (worth neg li lf mode most)) (by rw [wq, val_cdig]) most
  have eb : lf.length - (lf.length - most) = most := by omega
  constructor
  · refine Ev.step (f := fun k => (round_shorten.f k neg (ofD li) (ofD lf) mode ((lf.length - most : Nat) : Int)).bind fun bt136 => some (bt136.1, bt136.2.1, bt136.2.2.1, bt136.2.2.2)) (fun k => ?_) ?_
    · simp only [round_Places.j0]
      rw [if_neg (by decide), if_neg (by rw [size_ofD]; omega), w]
    · refine Ev.bind sx ?_
      rw [if_neg (show ¬ lf.length - most > lf.length by omega), eb]
      unfold plRes
      rw [if_neg h]
      by_cases hU : (upw mode neg (val (li ++ lf) / 10 ^ (lf.length - most)) (val (li ++ lf) % 10 ^ (lf.length - most)) (10 ^ (lf.length - most))).2 = 0
      · rw [if_pos hU, if_pos hU]
        unfold built
        rw [if_neg (by omega), px.1, px.2, wx]
        exact Ev.now _
      · rw [if_neg hU, if_neg hU]
        exact Ev.now _
  · have nv := noughts_ev ((lf.length - most : Nat) : Int) (by omega)
    rw [Int.toNat_natCast] at nv
    have mv := made_ev neg q most dq (by omega) (by omega)
    refine Ev.step (f := fun k => (idiomref03_Noughts.f k ((lf.length - most : Nat) : Int)).bind fun t194 => (if 1 + t194.size ≤ 9223372036854775807 then ((idiomref03_turned.f k mode neg (ofD (li ++ lf)) ((⟨#[49]⟩ : ByteArray) ++ t194)).bind fun bt195 => (if bt195.2 = 0 then ((idiomref03_Made.f k neg bt195.1 (most : Int)).bind fun bt197 => (some (bt197.1, bt197.2.1, bt197.2.2, 0))) else (some (false, (⟨#[]⟩ : ByteArray), (⟨#[]⟩ : ByteArray), bt195.2)))) else (none))) (fun k => ?_) ?_
    · simp only [idiomref03_Places.j0]
      rw [if_neg (by decide), if_neg (by rw [size_ofD]; omega), if_pos (by rw [size_ofD, size_ofD]; omega), w, ofD_append]
    · refine Ev.bind nv ?_
      have eu : (⟨#[49]⟩ : ByteArray) ++ ofD (List.replicate (lf.length - most) 0) = ofD (1 :: List.replicate (lf.length - most) 0) := by rw [ofD_one, ofD_append]; rfl
      refine Ev.congr (fun k => by rw [if_pos (by rw [size_ofD, List.length_replicate]; omega), eu]) ?_
      refine Ev.bind tq ?_
      unfold plRes
      rw [if_neg h]
      by_cases hU : (upw mode neg (val (li ++ lf) / 10 ^ (lf.length - most)) (val (li ++ lf) % 10 ^ (lf.length - most)) (10 ^ (lf.length - most))).2 = 0
      · rw [if_pos hU]
        refine Ev.congr (fun k => if_pos hU) ?_
        refine Ev.bind mv ?_
        rw [pq.1, pq.2, wq]
        exact Ev.now _
      · rw [if_neg hU]
        exact Ev.congr (fun k => if_neg hU) (Ev.now _)

/-- Whatever is asked: both tell one thing. -/
theorem places (neg : Bool) (I F : ByteArray) (mode most : Int) : ∃ r, Ev (fun k => round_Places.f k neg I F mode most) r ∧ Ev (fun k => idiomref03_Places.f k neg I F mode most) r ∧
    (r = (false, ⟨#[]⟩, ⟨#[]⟩, r.2.2.2) ∧ r.2.2.2 ≠ 0 ∨ r.2.2.2 = 0 ∧ ∃ li lf, ∃ m : Nat, Dg li ∧ Dg lf ∧ Canon li ∧ li.length + lf.length ≤ 40 ∧ I = ofD li ∧ F = ofD lf ∧ (neg = true → val li ≠ 0 ∨ val lf ≠ 0) ∧ 1 ≤ mode ∧ mode ≤ 8 ∧ most = m ∧ m ≤ 40 ∧ r = plRes neg li lf mode m) ∧
    (Ok neg I F → 1 ≤ mode → mode ≤ 8 → 0 ≤ most → most ≤ 40 → ∃ li lf, Dg li ∧ Dg lf ∧ I = ofD li ∧ F = ofD lf ∧ Canon li ∧ li.length + lf.length ≤ 40 ∧ (neg = true → val li ≠ 0 ∨ val lf ≠ 0) ∧ r = plRes neg li lf mode most.toNat) := by
  obtain ⟨c, pc, rc, hc, okc⟩ := check neg I F
  have asked : ∀ x : Int, (∀ y : Int, True) → (if c = 0 then (if mode ≤ 0 then (30 : Int) else if mode ≥ 9 then 30 else 0) else c) = x → Ev (fun k => round_asked.f k neg I F mode) x ∧ Ev (fun k => idiomref03_asked.f k neg I F mode) x := by
    intro x _ hx
    subst hx
    have e1 : (mode < 1) = (mode ≤ 0) := by rw [eq_iff_iff]; omega
    have e2 : (mode > 8) = (mode ≥ 9) := by rw [eq_iff_iff]; omega
    refine ⟨Ev.bind pc (Ev.congr (fun k => ?_) (Ev.now _)), Ev.bind rc (Ev.congr (fun k => ?_) (Ev.now _))⟩
    · by_cases h0 : c = 0 <;> by_cases h1 : mode ≤ 0 <;> by_cases h2 : mode ≥ 9 <;> simp only [h0, h1, h2, if_true, if_false]
    · simp only [e1, e2]
      by_cases h0 : c = 0 <;> by_cases h1 : mode ≤ 0 <;> by_cases h2 : mode ≥ 9 <;> simp only [h0, h1, h2, if_true, if_false]
  obtain ⟨pa, ra⟩ := asked _ (fun _ => trivial) rfl
  by_cases hbad : (if c = 0 then (if mode ≤ 0 then (30 : Int) else if mode ≥ 9 then 30 else 0) else c) = 0
  rotate_left
  · refine ⟨(false, ⟨#[]⟩, ⟨#[]⟩, (if c = 0 then (if mode ≤ 0 then (30 : Int) else if mode ≥ 9 then 30 else 0) else c)), ?_, ?_, .inl ⟨rfl, hbad⟩, fun ok a b _ _ => ?_⟩
    · exact Ev.bind pa (Ev.congr (fun k => if_neg hbad) (Ev.now _))
    · exact Ev.bind ra (Ev.congr (fun k => if_neg hbad) (Ev.now _))
    · exact absurd (by rw [if_pos (okc.2 ok), if_neg (by omega), if_neg (by omega)]) hbad
  have h0 : c = 0 := by
    apply Classical.byContradiction
    intro h; rw [if_neg h] at hbad; exact h hbad
  rw [if_pos h0] at hbad
  have hm1 : 1 ≤ mode := by
    apply Classical.byContradiction
    intro h; rw [if_pos (by omega)] at hbad; omega
  have hm8 : mode ≤ 8 := by
    apply Classical.byContradiction
    intro h; rw [if_neg (by omega), if_pos (by omega)] at hbad; omega
  rw [if_pos h0, if_neg (by omega), if_neg (by omega)] at pa ra
  obtain ⟨li, lf, di, df, eI, eF, cl, hn, hsg⟩ := okc.1 h0
  have red : ∀ x r, ((x = true ↔ most < 0 ∨ 40 < most)) → Ev (fun k => round_Places.j0 k mode most x neg I F) r → Ev (fun k => round_Places.f k neg I F mode most) r := by
    intro x r hx h
    refine Ev.bind pa (Ev.congr (fun k => ?_) h)
    by_cases h1 : most < 0
    · rw [if_pos rfl, if_pos h1, hx.2 (.inl h1)]
    · rw [if_pos rfl, if_neg h1]
      have : decide (most > 40) = x := by rw [Bool.eq_iff_iff, hx]; simp; omega
      rw [this]
  have red2 : ∀ x r, ((x = true ↔ most < 0 ∨ 40 < most)) → Ev (fun k => idiomref03_Places.j0 k mode most x neg I F) r → Ev (fun k => idiomref03_Places.f k neg I F mode most) r := by
    intro x r hx h
    refine Ev.bind ra (Ev.congr (fun k => ?_) h)
    by_cases h1 : most < 0
    · rw [if_pos rfl, if_pos h1, hx.2 (.inl h1)]
    · rw [if_pos rfl, if_neg h1]
      have : decide (most > 40) = x := by rw [Bool.eq_iff_iff, hx]; simp; omega
      rw [this]
  by_cases ho : most < 0 ∨ 40 < most
  · refine ⟨(false, ⟨#[]⟩, ⟨#[]⟩, 1), red true _ (by simp [ho]) (Ev.some fun k => by simp only [round_Places.j0]; rw [if_pos trivial]), red2 true _ (by simp [ho]) (Ev.some fun k => by simp only [idiomref03_Places.j0]; rw [if_pos trivial]), .inl ⟨rfl, by simp⟩, fun _ _ _ _ _ => by omega⟩
  · obtain ⟨m, rfl⟩ := Int.eq_ofNat_of_zero_le (show 0 ≤ most by omega)
    obtain ⟨a, b⟩ := places_ev neg li lf mode m di df cl hn hm1 hm8 (by omega)
    refine ⟨plRes neg li lf mode m, red false _ (by simp; omega) (by rw [eI, eF]; exact a), red2 false _ (by simp; omega) (by rw [eI, eF]; exact b), ?_, fun _ _ _ _ _ => ⟨li, lf, di, df, eI, eF, cl, hn, hsg, rfl⟩⟩
    by_cases hr : (plRes neg li lf mode m).2.2.2 = 0
    · exact .inr ⟨hr, li, lf, m, di, df, cl, hn, eI, eF, hsg, hm1, hm8, rfl, by omega, rfl⟩
    · refine .inl ⟨?_, hr⟩
      unfold plRes at hr ⊢
      split at hr
      · exact absurd rfl hr
      · split at hr
        · exact absurd rfl hr
        · rename_i h1 h2
          rw [if_neg h1, if_neg h2]

theorem awake_ev : Ev (fun k => idiomlaw03_awake.f k) true := by
  obtain ⟨r, pr, _, _, hr⟩ := places false (⟨#[50]⟩ : ByteArray) (⟨#[53]⟩ : ByteArray) 7 0
  have d2 : Dg [2] := Dg.cons (by omega) Dg.nil
  have d5 : Dg [5] := Dg.cons (by omega) Dg.nil
  obtain ⟨li, lf, di, df, eI, eF, cl, hn, hsg, er⟩ := hr ⟨[2], [5], d2, d5, rfl, rfl, ⟨by simp, .inl rfl⟩, by simp, by simp⟩ (by omega) (by omega) (by omega) (by omega)
  have e1 : li = [2] := (ofD_inj d2 di eI).symm
  have e2 : lf = [5] := (ofD_inj d5 df eF).symm
  subst e1 e2
  refine Ev.bind pr ?_
  have : r = (false, ofD [2], ofD [], 0) := by
    rw [er]
    have c2 : cdig 2 = [2] := by unfold cdig; rfl
    have hw : worth false [2] [5] 7 0 = 2 := by decide
    unfold plRes
    simp only [show (0 : Int).toNat = 0 from rfl, hw, c2]
    rfl
  subst this
  exact Ev.congr (fun k => by rw [if_pos rfl]; simp only [toList_ofD]; rfl) (Ev.now _)

theorem law (neg : Bool) (I F : ByteArray) (mode most : Int) : ∃ k, idiomlaw03_RoundPlaces.f k neg I F mode most = some true := by
  obtain ⟨r, pr, rr, _, _⟩ := places neg I F mode most
  apply Ev.rounds
  refine Ev.bind pr (Ev.bind rr ?_)
  refine Ev.congr (fun k => by rw [if_pos (by simp), if_pos rfl]) ?_
  exact Ev.bind awake_ev (Ev.now _)
end Go.Proofs.YtpmhebdaphjinaaDoor.RoundPlaces
