/- Part 8 of 8 of the proof of the law RoundAgain: it is true at every input. Conditions: those of the given row, no others. -/
import Derived.Test.YtpmhebdaphjinaaDoorPkRoundAgain6
import Derived.Test.YtpmhebdaphjinaaDoorPkRoundAgain3
import Derived.Test.YtpmhebdaphjinaaDoorPkRoundAgain5
import Derived.Lib.SmallJoins
import Derived.OpenShut
import Derived.Test.YtpmhebdaphjinaaDoorCards
import Derived.Test.YtpmhebdaphjinaaDoorTie
import Derived.Test.YtpmhebdaphjinaaDoorPkRoundAgain0
import Derived.WalkKit
import Derived.ProofKit
import Derived.ShutString
import Derived.ChangeOld
import Derived.Below
import Derived.SizedLaws
import Derived.Carry
import Derived.PinnedBridge
import Derived.Lay
import Derived.LaidOnce
import Derived.SevenTiedAt
set_option linter.unusedVariables false
set_option linter.unusedSimpArgs false
namespace Go.Proofs.YtpmhebdaphjinaaDoor.RoundAgain
open Go.RowKit Go.Proofs.YtpmhebdaphjinaaDoorW.PrintWords Go.Proofs.YtpmhebdaphjinaaDoorW.PrintLast Go.Proofs.YtpmhebdaphjinaaDoor.F Go.Proofs.YtpmhebdaphjinaaDoor.Dig Go.Proofs.YtpmhebdaphjinaaDoor.RoundRef Go.Proofs.YtpmhebdaphjinaaDoor.RoundProg Go.Proofs.YtpmhebdaphjinaaDoor.RoundPlaces Go.Proofs.YtpmhebdaphjinaaDoor.RoundFixes Go.Proofs.YtpmhebdaphjinaaDoor.RoundDigits

theorem strip2_facts (li : List Nat) (least : Nat) : ∀ (n : Nat) (l : List Nat), Dg l → l.length ≤ n → Dg (strip2 li least n l) ∧ (strip2 li least n l).length ≤ l.length ∧ (val (strip2 li least n l) = 0 → val l = 0) ∧ (least ≤ cnt li l → least ≤ cnt li (strip2 li least n l)) ∧
    ¬ (strip2 li least n l ≠ [] ∧ (strip2 li least n l).getD ((strip2 li least n l).length - 1) 0 = 0 ∧ least < cnt li (strip2 li least n l))
  | 0, l, h, hn => by
    have e : l = [] := List.eq_nil_of_length_eq_zero (by omega)
    exact ⟨h, Nat.le_refl _, id, id, fun h => h.1 e⟩
  | n + 1, l, h, hn => by
    unfold strip2
    split
    · rename_i h1
      obtain ⟨a, b, c, d, e⟩ := strip2_facts li least n (l.take (l.length - 1)) (h.take _) (by simp; omega)
      have hl : (l.take (l.length - 1)).length = l.length - 1 := by simp
      have et := take_last h1.1 h1.2.1
      have hc : cnt li l = cnt li (l.take (l.length - 1)) + 1 := by
        have := cnt_snoc li (l.take (l.length - 1))
        rw [← et] at this
        exact this
      refine ⟨a, by omega, fun hz => ?_, fun _ => d (by omega), e⟩
      rw [et, val_snoc, c hz]
    · rename_i h1
      exact ⟨h, Nat.le_refl _, id, id, h1⟩
theorem strip2_stay (li : List Nat) (least n : Nat) (l : List Nat) (h : ¬ (l ≠ [] ∧ l.getD (l.length - 1) 0 = 0 ∧ least < cnt li l)) : strip2 li least n l = l := by
  cases n with
  | zero => rfl
  | succ n => unfold strip2; rw [if_neg h]
theorem cnt_pos {li lf : List Nat} (cl : Canon li) : 1 ≤ cnt li lf := by
  have l0 : 0 < li.length := by
    cases li with
    | nil => exact absurd rfl cl.1
    | cons a b => simp
  unfold cnt
  split
  · omega
  · rename_i h
    have : tl (li ++ lf) ≠ [] := fun e => h (tl_nil.1 e)
    cases e : tl (li ++ lf) with
    | nil => exact absurd e this
    | cons a b => simp
/-- To at most 40 digits: well, and once more the same. -/
theorem all40 (neg : Bool) (li lf : List Nat) (mode : Int) (di : Dg li) (df : Dg lf) (cl : Canon li) (hn : li.length + lf.length ≤ 40) (hs : neg = true → val li ≠ 0 ∨ val lf ≠ 0) (h1 : 1 ≤ mode) (h8 : mode ≤ 8) :
    ∃ lf', Dg lf' ∧ Ev (fun k => round_Significant.f k neg (ofD li) (ofD lf) mode 1 40) (neg, ofD li, ofD lf', 0) ∧ Ev (fun k => round_Significant.f k neg (ofD li) (ofD lf') 8 1 40) (neg, ofD li, ofD lf', 0) := by
  have inb : inS 1 40 := ⟨by omega, by omega, by omega⟩
  obtain ⟨r, pr, _, hr⟩ := sig neg (ofD li) (ofD lf) mode 1 40
  have c1 := cnt_le li lf
  have e1 := hr li lf di df rfl rfl cl hn hs h1 h8 inb (by omega)
  obtain ⟨a, b, c, d, e⟩ := strip2_facts li 1 lf.length lf df (Nat.le_refl _)
  have fv : ∀ l : List Nat, Dg l → li.length + l.length ≤ 40 → sigRes neg li l 1 = (neg, ofD li, ofD l, 0) := by
    intro l dl hl
    have := cnt_pos (lf := l) cl
    unfold sigRes
    have e0 : 1 - cnt li l = 0 := by omega
    rw [e0, if_neg (by omega), List.replicate_zero, List.append_nil]
  have e2 : r = (neg, ofD li, ofD (strip2 li 1 lf.length lf), 0) := by
    rw [e1]
    show sigRes neg li (strip2 li 1 lf.length lf) 1 = _
    exact fv _ a (by omega)
  generalize hL : strip2 li 1 lf.length lf = L at *
  obtain ⟨r2, pr2, _, hr2⟩ := sig neg (ofD li) (ofD L) 8 1 40
  have c2 := cnt_le li L
  have e3 := hr2 li L di a rfl rfl cl (by omega) (fun hb => (hs hb).imp id fun h h0 => h (c h0)) (by omega) (by omega) inb (by omega)
  have e4 : r2 = (neg, ofD li, ofD L, 0) := by
    rw [e3]
    show sigRes neg li (strip2 li 1 L.length L) 1 = _
    rw [strip2_stay li 1 L.length L e]
    exact fv _ a (by omega)
  subst e2 e4
  exact ⟨L, a, pr, pr2⟩

theorem law (neg : Bool) (I F : ByteArray) (mode n0 n1 : Int) : ∃ k, idiomlaw03_RoundAgain.f k neg I F mode n0 n1 = some true := by
  obtain ⟨r, pr, rr, hr, _⟩ := fix neg I F mode n0 n1
  apply Ev.rounds
  by_cases hz : r.2.2.2 = 0
  rotate_left
  · refine Ev.bind pr ?_
    refine Ev.congr (fun k => if_neg hz) (Ev.bind rr (Ev.congr (fun k => if_pos rfl) (Ev.bind awake_ev (Ev.now _))))
  obtain ⟨neg', li', lf', di', df', cl', hn', hs', hlo, hhi, hlast, hB, ⟨li, lf, di, df, eI, eF, cl, hn, hs⟩, h1, h8, er⟩ := hr hz
  obtain ⟨r2, pr2, _, _, hr2⟩ := fix neg' (ofD li') (ofD lf') 8 n0 n1
  have e2 := hr2 li' lf' di' df' rfl rfl cl' hn' hs' (by omega) (by omega) hB hlo hhi hlast
  obtain ⟨L, dL, s1, s2⟩ := all40 neg li lf mode di df cl hn hs h1 h8
  subst er e2 eI eF
  refine Ev.bind pr (Ev.congr (fun k => if_pos rfl) (Ev.bind pr2 (Ev.congr (fun k => if_pos rfl) ?_)))
  have e3 : (!(neg' == neg') || (!((ofD li').toList == (ofD li').toList) || (!((ofD lf').toList == (ofD lf').toList)))) = false := by simp
  simp only [e3]
  refine Ev.step (f := fun k => (round_Significant.f k neg (ofD li) (ofD lf) mode 1 40).bind fun c => (if c.2.2.2 = 0 then ((round_Significant.f k c.1 c.2.1 c.2.2.1 8 1 40).bind fun d => (if d.2.2.2 = 0 then (if (c.1 == d.1 && (c.2.1.toList == d.2.1.toList && (c.2.2.1.toList == d.2.2.1.toList))) = true then ((idiomlaw03_awake.f k).bind fun t => (some t)) else (none)) else (none))) else (none))) (fun k => ?_) ?_
  · simp only [idiomlaw03_RoundAgain.j0]
    exact if_neg (by decide)
  refine Ev.bind s1 (Ev.congr (fun k => if_pos rfl) (Ev.bind s2 (Ev.congr (fun k => if_pos rfl) (Ev.congr (fun k => if_pos (by simp)) (Ev.bind awake_ev (Ev.now _))))))
end Go.Proofs.YtpmhebdaphjinaaDoor.RoundAgain
set_option linter.unusedVariables false
namespace Go.Proofs.YtpmhebdaphjinaaDoor.Aid
open Go Go.ChangeShapes Go.WideShapes
variable {H : Type} {enc : TypeId × Value → H} {P : Program} {w : World} {base : Nat} {spare : Nat → Bool} {held : Bool}
theorem open_array2 {r : Reach} {b0 : Nat} {t e : TypeId} {v : Value} {d : DataW H} {p : List MemPlace} (hs : P.underlying t = some (.array 2 e)) (hce : P.cellsOf e = 1) (hC : P.cellsOf t = 2)
    (hv : Value.okWide P w r b0 t v) (h : DataW.Trod enc P w base spare held t v d p) :
    ∃ (v0 v1 : Value) (y0 y1 : DataW H × List MemPlace) (n : Nat), v = .agg #[v0, v1] ∧ d = .agg [y0.1, y1.1] ∧ p = y0.2 ++ y1.2 ∧
      DataW.trod enc P w base spare held n e [v0] = some y0 ∧ DataW.trod enc P w base spare held n e [v1] = some y1 := by
  obtain ⟨cs, rfl, hsz, _⟩ : ∃ cs, v = .agg cs ∧ cs.size = P.cellsOf t ∧ Row.okWide P w r b0 t cs := by
    simpa [Value.okWide, hs] using hv
  rw [hC] at hsz
  obtain ⟨l⟩ := cs
  match l, hsz with
  | [c0, c1], _ =>
    obtain ⟨fuel, hf⟩ := h
    obtain ⟨xs, m, rfl, hx, _, hl, hel⟩ := DataW.trod_array hs hf
    match xs, hl with
    | [y0, y1], _ =>
      have h0 := hel 0 (by omega)
      have h1 := hel 1 (by omega)
      simp only [Prod.mk.injEq] at hx
      refine ⟨c0, c1, y0, y1, m, rfl, by rw [hx.1]; rfl, by rw [hx.2]; simp, ?_, ?_⟩
      · simpa [hce, Value.cells] using h0
      · simpa [hce, Value.cells] using h1
end Go.Proofs.YtpmhebdaphjinaaDoor.Aid
set_option linter.unusedVariables false
set_option linter.unusedSimpArgs false
namespace Go.Proofs.YtpmhebdaphjinaaDoor.lawRoundAgain
open Go.ChangeShapes Go.WideShapes Go.ChangeAt Go.RowKit
open Go.ChangeMaps (open_string shut_string)
theorem own : ownKnob Tryd.prog.godebug = none := by kernel_rfl
theorem laidOut : laidOutB Tryd.prog = true := by kernel_rfl
set_option maxRecDepth 100000 in
theorem lifted (os : Os) (started : os.Started) (H : Type) (enc : TypeId × Value → H) :
    ReturnsInHanded {} Tryd.checked os 8 .any (fun w args => (Rows.roundAgainSpec.pre enc Tryd.prog Tryd.f8 [] false w args ∧ laidMetH Tryd.prog Rows.roundAgainRow.laid w) ∧ sizedMet enc Tryd.prog Tryd.f8 (OpenSpec.ofChange Rows.roundAgainSpec) false w args)
      (Rows.roundAgainSpec.post enc Tryd.prog Tryd.f8 false true false false) := by
  refine returnsInHanded_of_change_and (C := Tryd.checked) (X := (fun w _ => laidMetH Tryd.prog Rows.roundAgainRow.laid w)) (fun _ _ _ hh h => h.of_heap hh) own started (by kernel_rfl) Tryd.func8
    (ChangeSpec.witness_shaped (enc := enc) (C := Tryd.checked) (os := os) (X := (fun w _ => laidMetH Tryd.prog Rows.roundAgainRow.laid w)) false (World.laidAll Tryd.prog os Rows.roundAgainRow.laid) #[.agg #[.bool false, .string ByteArray.empty, .string ByteArray.empty], .int .i64 0, .agg #[.int .i64 0, .int .i64 0]] 12 (World.laidAll_os _ _ _)
      (World.shaped_of_ZipB (by kernel_rfl) (by kernel_rfl)) (by kernel_rfl) (by kernel_rfl) (by kernel_rfl)
      (by rw [MakeChecks.laidMetH_plain _ _ _ (by kernel_rfl)]; exact laidMet_laidAll _ (by kernel_rfl) (by kernel_rfl))) ?_
  intro W base args ds gs before hval0 hW _ hsz0 hL0 _
  have hsz : (DataW.weightsEach Tryd.prog (Tryd.f8.params.toList ++ Rows.roundAgainSpec.plain.varTypes Tryd.prog) (ds ++ gs)).all (· ≤ reachBytes) = true := hsz0
  have hval : ∀ (j : Nat) t v, Tryd.f8.params[j]? = some t → args[j]? = some v → Value.okWide Tryd.prog W .any base t v := hval0
  have hW' := hW
  obtain ⟨p, q, hA0, hV, rfl, hfz, hnd⟩ := hW
  have hA : DataW.TrodAll enc Tryd.prog W 0 (fun _ => true) true Tryd.f8.params.toList args.toList ds p := hA0
  rw [Tryd.params8] at hA hval hsz
  obtain ⟨v0, vs0, d0, ds0, p0, q0, hargs, rfl, rfl, h0, r0⟩ := trodAll_cons hA
  obtain ⟨v1, vs1, d1, ds1, p1, q1, rfl, rfl, rfl, h1, r1⟩ := trodAll_cons r0
  obtain ⟨v2, vs2, d2, ds2, p2, q2, rfl, rfl, rfl, h2, r2⟩ := trodAll_cons r1
  obtain ⟨rfl, rfl, rfl⟩ := trodAll_nil r2
  obtain rfl : args = #[v0, v1, v2] := by cases args; simp_all
  obtain ⟨rfl, rfl⟩ := trodVars_none hV
  have k0 := h0
  have lt0 : ∀ x ∈ p0, x.block < W.heap.size := by obtain ⟨m, hm⟩ := k0; exact DataW.trod_lt m _ _ _ hm
  have k1 := h1
  have lt1 : ∀ x ∈ p1, x.block < W.heap.size := by obtain ⟨m, hm⟩ := k1; exact DataW.trod_lt m _ _ _ hm
  have k2 := h2
  have lt2 : ∀ x ∈ p2, x.block < W.heap.size := by obtain ⟨m, hm⟩ := k2; exact DataW.trod_lt m _ _ _ hm
  obtain ⟨c0_0, c0_1, c0_2, y0_0, y0_1, y0_2, m0, rfl, rfl, rfl, g0_0, g0_1, g0_2⟩ := Go.Joins.open_agg3 Tryd.underlying23 (by kernel_rfl) (show Tryd.prog.cellsOf 23 = 3 by kernel_rfl) (hval 0 23 v0 rfl rfl) h0
  obtain ⟨a0_0, e0_0, rfl⟩ := DataW.trod_bool Tryd.underlying4 g0_0
  obtain rfl : c0_0 = _ := List.singleton_inj.1 e0_0
  obtain ⟨a0_1, e0_1, rfl, s0_1⟩ := DataW.trod_string Tryd.underlying9 g0_1
  obtain rfl : c0_1 = _ := List.singleton_inj.1 e0_1
  obtain ⟨a0_2, e0_2, rfl, s0_2⟩ := DataW.trod_string Tryd.underlying9 g0_2
  obtain rfl : c0_2 = _ := List.singleton_inj.1 e0_2
  obtain ⟨a1, rfl, rfl, rfl, w1⟩ := open_int Tryd.underlying3 (hval 1 3 v1 rfl rfl) h1
  obtain ⟨c2_0, c2_1, y2_0, y2_1, m2, rfl, rfl, rfl, g2_0, g2_1⟩ := Aid.open_array2 Tryd.underlying36 (show Tryd.prog.cellsOf 3 = 1 by kernel_rfl) (show Tryd.prog.cellsOf 36 = 2 by kernel_rfl) (hval 2 36 v2 rfl rfl) h2
  obtain ⟨a2_0, e2_0, rfl, w2_0⟩ := DataW.trod_int Tryd.underlying3 g2_0
  obtain rfl : c2_0 = _ := List.singleton_inj.1 e2_0
  obtain ⟨a2_1, e2_1, rfl, w2_1⟩ := DataW.trod_int Tryd.underlying3 g2_1
  obtain rfl : c2_1 = _ := List.singleton_inj.1 e2_1
  obtain ⟨k, hk⟩ := RoundAgain.law a0_0 a0_1 a0_2 a1 a2_0 a2_1
  refine (F.idiomlaw03_RoundAgain.calls k a0_0 a0_1 a0_2 a1 a2_0 a2_1 true W hk).mono fun e W' ⟨he, bel0⟩ => ?_
  have bel : Below W.heap.size W W' := by first | exact bel0 | exact YtpmhebdaphjinaaDoorW.PrintWords.Drawn0.below bel0
  subst he
  exact ⟨_, rfl, _, _, _, [], _, [], hW', trodAll_mk1 (shut_bool Tryd.underlying4 _), (trodAll_cons_mk (Below.trod laidOut (by kernel_rfl) (of_decide_eq_true (by kernel_rfl)) k0 bel lt0) (trodAll_cons_mk (Below.trod laidOut (by kernel_rfl) (of_decide_eq_true (by kernel_rfl)) k1 bel lt1) (trodAll_cons_mk (Below.trod laidOut (by kernel_rfl) (of_decide_eq_true (by kernel_rfl)) k2 bel lt2) trodAll_mk0))), rfl, bel.frame _, fun h => by cases h⟩
theorem said : Rows.roundAgainRow.holds Tryd.pinned (OpenSpec.ofChange Rows.roundAgainSpec) :=
  OpenClaim.holds_of_wide 8 Tryd.f8 rfl rfl rfl rfl rfl rfl rfl ⟨rfl, rfl, rfl, rfl, rfl⟩ rfl rfl rfl rfl rfl (by kernel_rfl) Tryd.func8 (by kernel_rfl)
    (of_decide_eq_true (by kernel_rfl)) (by unfold Func.isWrapper; first | (rw [if_pos (by decide +kernel)]; kernel_rfl) | (rw [if_neg (by decide +kernel)]; exact ⟨rfl, rfl⟩))
    (fun os started H enc _ => lifted os started H enc)
theorem plain (f : FuncId) (fn : Func) (hf : Tryd.pinned.checked.prog.funcNamed "idiom/idiomlaw03.RoundAgain" = some f) (hfn : Tryd.pinned.checked.prog.funcs[f]? = some fn) :
    false = Tryd.pinned.checked.prog.looks [] ∧ ∀ (j : Nat) t, fn.params[j]? = some t → Tryd.pinned.checked.prog.wantsStandIn t = false := by
  obtain rfl : f = 8 := Option.some.inj ((show Tryd.prog.funcNamed "idiom/idiomlaw03.RoundAgain" = some 8 by kernel_rfl).symm.trans hf) |>.symm
  obtain rfl : fn = Tryd.f8 := (Option.some.inj (Tryd.func8.symm.trans hfn)).symm
  refine ⟨by kernel_rfl, fun j t ht => ?_⟩
  rw [Tryd.params8] at ht
  have hm : t ∈ [23, 3, 36] := by simpa using Array.mem_of_getElem? ht
  have hall : ([23, 3, 36].all fun u => !Tryd.prog.wantsStandIn u) = true := by kernel_rfl
  exact (show Tryd.prog.wantsStandIn t = false by simpa using List.all_eq_true.1 hall t hm)
/-- THE CARD. -/
theorem card : Rows.RoundAgainCardSaid :=
  Claim7.holds_tied_plain_at .later [] _ _ _ _ said (fun _ h => by cases h) (by kernel_rfl) (fun _ h => by cases h) roundAgain_row_tie rfl ⟨rfl, rfl⟩ (by kernel_rfl) rfl plain (by kernel_rfl)
#print axioms card
end Go.Proofs.YtpmhebdaphjinaaDoor.lawRoundAgain
namespace Go.Proofs.YtpmhebdaphjinaaDoor
/-- The claim, under a short name. -/
theorem roundAgain_holds : Rows.RoundAgainCardSaid := lawRoundAgain.card
end Go.Proofs.YtpmhebdaphjinaaDoor
