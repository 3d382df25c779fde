/- Texts on the way: ProofRight, AbsenceRight, ProofContent. -/
import Derived.Test.YtjgbidklkhohfaaDoorPx0
import Derived.Test.YtjgbidklkhohfaaDoorPx5
import Derived.Test.YtjgbidklkhohfaaDoorPx10
import Derived.Test.YtjgbidklkhohfaaDoorPx11
import Derived.Test.YtjgbidklkhohfaaDoorPx17
import Derived.Test.YtjgbidklkhohfaaDoorGet
import Derived.Test.YtjgbidklkhohfaaDoorTexts
namespace Go.Proofs.YtjgbidklkhohfaaDoor.Mod
open Go.RowKit Go.Proofs.YtjgbidklkhohfaaDoor.P Go.Proofs.YtjgbidklkhohfaaDoor.EvK Go.Proofs.YtjgbidklkhohfaaDoorW.PrintWords Go.Proofs.YtjgbidklkhohfaaDoorW.PrintLast
set_option linter.unusedVariables false
set_option linter.unusedSimpArgs false
theorem drop_nil {α : Type} (l : List α) {i : Nat} (h : l.length ≤ i) : l.drop i = [] := List.drop_eq_nil_of_le h
/-- Texts, the one of a print first, each but the last one that of a folder whose next name is kept for the print of the next text. -/
noncomputable def wayL : Int → List ByteArray → List ByteArray → Bool
  | _, _, [] => true
  | t, ns, s :: ss => decide (printOf s = t) && (ss.isEmpty || ((readFolder s).2 && (namedP (readFolder s).1 (ns.headD ByteArray.empty)).2 && wayL (namedP (readFolder s).1 (ns.headD ByteArray.empty)).1 ns.tail ss))
def TextsSized (ts : List ByteArray) : Prop := ts.length ≤ 1048576 ∧ ∀ z ∈ ts, z.size ≤ 1048576
theorem wayL_two (t : Int) (ns : List ByteArray) (s s' : ByteArray) (ss : List ByteArray) : wayL t ns (s :: s' :: ss) = (decide (printOf s = t) && ((readFolder s).2 && (namedP (readFolder s).1 (ns.headD ByteArray.empty)).2 && wayL (namedP (readFolder s).1 (ns.headD ByteArray.empty)).1 ns.tail (s' :: ss))) := by rw [wayL, List.isEmpty_cons, Bool.false_or]
theorem wayL_one (t : Int) (ns : List ByteArray) (s : ByteArray) : wayL t ns [s] = decide (printOf s = t) := by rw [wayL]; simp
theorem wayL_low (ns : List ByteArray) (s : ByteArray) (ss : List ByteArray) : wayL (-2) ns (s :: ss) = false := by
  rw [wayL, decide_eq_false (by have := (printOf_ge s).1; omega), Bool.false_and]
theorem headD_drop (ns : List ByteArray) (i : Nat) (h : i < ns.length) : (ns.drop i).headD ByteArray.empty = ns.getD i ByteArray.empty := by
  rw [drop_cons ns ByteArray.empty i h]; rfl
theorem readFolder_ok (s : ByteArray) : entriesValid (readFolder s).1 = true := by
  rcases readFolder_cases s with ⟨M, hM, e, hr⟩ | ⟨hno, hr⟩
  · rw [hr]; exact hM
  · rw [hr]; exact entriesValid_nil
theorem impl_way_ev (root : Int) (ns ts : List ByteArray) (hts : TextsSized ts) (hn : ts.length ≤ ns.length + 1) : Ev (fun k => impl_onTheWay.f k root ns ts) (wayL root ns ts) := by
  unfold impl_onTheWay.f
  obtain ⟨hl, hz⟩ := hts
  have key : ∀ d i (t : Int), i + d = ts.length → Ev (fun k => impl_onTheWay.l0 k ns ts t ts (ts.length : Int) (i : Int)) (wayL t (ns.drop i) (ts.drop i)) := by
    intro d
    induction d with
    | zero =>
      intro i t hi
      refine Ev_succ.mpr ?_
      simp only [impl_onTheWay.l0]
      rw [Ev_neg (by omega), drop_nil ts (by omega), wayL]
      exact Ev_some.mpr rfl
    | succ d ih =>
      intro i t hi
      have hm : (ts.getD i ByteArray.empty).size ≤ 1048576 := hz _ (by rw [getD_at ts _ i (by omega)]; exact List.getElem_mem _)
      refine Ev_succ.mpr ?_
      simp only [impl_onTheWay.l0, rdT_nat, w64s i (by omega)]
      rw [Ev_pos (by omega), Ev_pos (by omega), Ev_pos (by omega), Ev_bd (impl_print_ev _ (by omega)), w64 (x := (ts.length : Int) - 1) (by omega) (by omega), drop_cons ts ByteArray.empty i (by omega), Ev_ite]
      by_cases hp : printOf (ts.getD i ByteArray.empty) = t
      case neg =>
        rw [if_neg hp, wayL, decide_eq_false hp, Bool.false_and]
        exact Ev_some.mpr rfl
      rw [if_pos hp, Ev_ite]
      by_cases he : i + 1 = ts.length
      · rw [if_pos (by omega), drop_nil ts (by omega), wayL_one, decide_eq_true hp]
        exact Ev_some.mpr rfl
      rw [if_neg (by omega), Ev_bd (impl_readFolder_ev _ (by omega)), Ev_ite, drop_cons ts ByteArray.empty (i + 1) (by omega), wayL_two, decide_eq_true hp, Bool.true_and, headD_drop ns i (by omega), List.tail_drop, ← drop_cons ts ByteArray.empty (i + 1) (by omega)]
      by_cases hf : (readFolder (ts.getD i ByteArray.empty)).2 = true
      case neg =>
        rw [if_neg hf, (by simpa using hf : (readFolder (ts.getD i ByteArray.empty)).2 = false), Bool.false_and, Bool.false_and]
        exact Ev_some.mpr rfl
      rw [if_pos hf, Ev_pos (by omega), Ev_bd (impl_named_ev (readFolder_ok _) _), Ev_ite, hf, Bool.true_and]
      by_cases hg : (namedP (readFolder (ts.getD i ByteArray.empty)).1 (ns.getD i ByteArray.empty)).2 = true
      · rw [if_pos hg, hg, Bool.true_and]
        exact ih (i + 1) _ (by omega)
      · rw [if_neg hg, (by simpa using hg : (namedP (readFolder (ts.getD i ByteArray.empty)).1 (ns.getD i ByteArray.empty)).2 = false), Bool.false_and]
        exact Ev_some.mpr rfl
  exact key ts.length 0 root (by omega)
theorem spec_way_ev (root : Int) (ns ts : List ByteArray) (hts : TextsSized ts) (hn : ts.length ≤ ns.length + 1) (h0 : 0 < ts.length) : Ev (fun k => spec_l12Way.f k root ns ts) (wayL root ns ts) := by
  unfold spec_l12Way.f
  obtain ⟨hl, hz⟩ := hts
  have key : ∀ d i (t : Int), i + (d + 1) = ts.length → Ev (fun k => spec_l12Way.l0 k ns ts t (i : Int)) (wayL t (ns.drop i) (ts.drop i)) := by
    intro d
    induction d with
    | zero =>
      intro i t hi
      have hm : (ts.getD i ByteArray.empty).size ≤ 1048576 := hz _ (by rw [getD_at ts _ i (by omega)]; exact List.getElem_mem _)
      refine Ev_succ.mpr ?_
      simp only [spec_l12Way.l0, rdT_nat, w64s i (by omega)]
      rw [Ev_pos (by omega), Ev_pos (by omega), Ev_bd (spec_print_ev _ (by omega)), drop_cons ts ByteArray.empty i (by omega), drop_nil ts (by omega), wayL_one, Ev_ite]
      by_cases hp : printOf (ts.getD i ByteArray.empty) = t
      · rw [if_pos hp, Ev_pos (by omega), decide_eq_true hp]
        exact Ev_some.mpr rfl
      · rw [if_neg hp, decide_eq_false hp]
        exact Ev_some.mpr rfl
    | succ d ih =>
      intro i t hi
      have hm : (ts.getD i ByteArray.empty).size ≤ 1048576 := hz _ (by rw [getD_at ts _ i (by omega)]; exact List.getElem_mem _)
      refine Ev_succ.mpr ?_
      simp only [spec_l12Way.l0, rdT_nat, w64s i (by omega)]
      rw [Ev_pos (by omega), Ev_pos (by omega), Ev_bd (spec_print_ev _ (by omega)), drop_cons ts ByteArray.empty i (by omega), Ev_ite]
      by_cases hp : printOf (ts.getD i ByteArray.empty) = t
      case neg =>
        rw [if_neg hp, wayL, decide_eq_false hp, Bool.false_and]
        exact Ev_some.mpr rfl
      rw [if_pos hp, Ev_neg (by omega), Ev_bd (spec_readFolder_ev _ (by omega)), drop_cons ts ByteArray.empty (i + 1) (by omega), wayL_two, decide_eq_true hp, Bool.true_and, headD_drop ns i (by omega), List.tail_drop, ← drop_cons ts ByteArray.empty (i + 1) (by omega)]
      have hv := readFolder_ok (ts.getD i ByteArray.empty)
      have hno : ¬ (readFolder (ts.getD i ByteArray.empty)).2 = true → (readFolder (ts.getD i ByteArray.empty)).1 = [] := fun g => by rw [readFolder_not g]
      generalize (readFolder (ts.getD i ByteArray.empty)).2 = b at *
      generalize (readFolder (ts.getD i ByteArray.empty)).1 = L at *
      have h3 := entriesValid_len hv
      have inner : ∀ d2 j (w : Int) (r : Bool), j + d2 = L.length → Ev (fun k => spec_l12Way.l0 k ns ts (if (namedP (L.drop j) (ns.getD i ByteArray.empty)).2 = true then (namedP (L.drop j) (ns.getD i ByteArray.empty)).1 else w) ((i + 1 : Nat) : Int)) r → Ev (fun k => spec_l12Way.l1 k ns ts w (i : Int) L (j : Int)) r := by
        intro d2
        induction d2 with
        | zero =>
          intro j w r hj hr
          rw [drop_nil L (by omega), if_neg (by simp [namedP])] at hr
          refine Ev_succ.mpr ?_
          simp only [spec_l12Way.l1, w64s i (by omega)]
          rw [Ev_neg (by omega)]
          exact hr
        | succ d2 ih2 =>
          intro j w r hj hr
          refine Ev_succ.mpr ?_
          simp only [spec_l12Way.l1, rdEntry, rdT_nat, w64s j (by omega)]
          rw [Ev_pos (by omega), Ev_pos (by omega), Ev_pos (by omega), Ev_pos (by omega), Ev_ite]
          rw [drop_cons L z63 j (by omega), namedP] at hr
          by_cases he : (L.getD j z63).f0 = ns.getD i ByteArray.empty
          · rw [if_pos he, if_pos rfl] at hr
            rw [if_pos (by rw [he])]
            refine ih2 (j + 1) _ r (by omega) ?_
            have hnone : namedP (L.drop (j + 1)) (ns.getD i ByteArray.empty) = (-1, false) := namedP_none (fun v hv2 e => by
              obtain ⟨q, hq, rfl⟩ := List.getElem_of_mem hv2
              rw [List.length_drop] at hq
              rw [List.getElem_drop] at e
              refine ents_once hv (r := j) (by omega) he (j + 1 + q) (by omega) (by omega) ?_
              rw [getD_at L _ (j + 1 + q) (by omega)]
              exact e)
            rw [hnone, if_neg (by simp)]
            exact hr
          · rw [if_neg he] at hr
            rw [if_neg (fun g => he (toList_iff.1 g))]
            exact ih2 (j + 1) w r (by omega) hr
      refine inner L.length 0 (-2) _ (by omega) ?_
      rw [List.drop_zero]
      have h1 := ih (i + 1) (if (namedP L (ns.getD i ByteArray.empty)).2 = true then (namedP L (ns.getD i ByteArray.empty)).1 else -2) (by omega)
      by_cases hg : (namedP L (ns.getD i ByteArray.empty)).2 = true
      · have hb : b = true := by
          by_cases hb : b = true
          · exact hb
          · rw [hno hb] at hg
            simp [namedP] at hg
        rw [if_pos hg] at h1 ⊢
        rw [hb, hg, Bool.true_and, Bool.true_and]
        exact h1
      · rw [if_neg hg] at h1 ⊢
        rw [(by simpa using hg : (namedP L (ns.getD i ByteArray.empty)).2 = false), Bool.and_false, Bool.false_and]
        rw [drop_cons ts ByteArray.empty (i + 1) (by omega), wayL_low] at h1
        exact h1
  obtain ⟨d, hd⟩ : ∃ d, ts.length = d + 1 := ⟨ts.length - 1, by omega⟩
  exact key d 0 root (by omega)
noncomputable def proofRight (root : Int) (p : ByteArray) (ts : List ByteArray) : Bool := (pathParts p).2 && (decide (ts.length = (pathParts p).1.length + 1) && wayL root (pathParts p).1 ts)
noncomputable def absenceRight (root : Int) (p : ByteArray) (ts : List ByteArray) : Bool :=
  (pathParts p).2 && (decide (1 ≤ ts.length ∧ ts.length ≤ (pathParts p).1.length) && (wayL root (pathParts p).1 ts && ((readFolder (ts.getD (ts.length - 1) ByteArray.empty)).2 && !(namedP (readFolder (ts.getD (ts.length - 1) ByteArray.empty)).1 ((pathParts p).1.getD (ts.length - 1) ByteArray.empty)).2)))
noncomputable def proofContent (root : Int) (p : ByteArray) (ts : List ByteArray) : ByteArray × Bool := if proofRight root p ts = true then readFile (ts.getD (ts.length - 1) ByteArray.empty) else ((⟨#[]⟩ : ByteArray), false)
theorem rdLastT (ts : List ByteArray) (h : 0 < ts.length) (hl : ts.length ≤ 1048576) : 0 ≤ wrap64 ((ts.length : Int) - 1) ∧ wrap64 ((ts.length : Int) - 1) = ((ts.length - 1 : Nat) : Int) := by
  rw [w64 (by omega) (by omega)]
  omega
theorem impl_proofRight_ev (root : Int) (p : ByteArray) (ts : List ByteArray) (hp : p.size ≤ 4294967200) (hts : TextsSized ts) : Ev (fun k => impl_ProofRight.f k root p ts) (proofRight root p ts) := by
  unfold impl_ProofRight.f proofRight
  have hl := hts.1
  have h3 := (pathOk_iff.1 (pathParts_ok p)).1
  rw [Ev_bd (impl_pathParts_ev p hp), Ev_ite]
  by_cases hb : (pathParts p).2 = true
  case neg => rw [if_neg hb, (by simpa using hb : (pathParts p).2 = false), Bool.false_and]; exact Ev_some.mpr rfl
  rw [if_pos hb, hb, Bool.true_and, w64 (x := ((pathParts p).1.length : Int) + 1) (by omega) (by omega), Ev_ite]
  by_cases hc : ts.length = (pathParts p).1.length + 1
  · rw [if_pos (by omega), decide_eq_true hc, Bool.true_and, Ev_bd (impl_way_ev root _ ts hts (by omega))]
    exact Ev_some.mpr rfl
  · rw [if_neg (by omega), decide_eq_false hc, Bool.false_and]
    exact Ev_some.mpr rfl
theorem spec_proofRight_ev (root : Int) (p : ByteArray) (ts : List ByteArray) (hp : p.size ≤ 4294967200) (hts : TextsSized ts) : Ev (fun k => spec_ProofRight.f k root p ts) (proofRight root p ts) := by
  unfold spec_ProofRight.f proofRight
  have hl := hts.1
  have h3 := (pathOk_iff.1 (pathParts_ok p)).1
  rw [Ev_bd (spec_pathParts_ev p hp), Ev_ite]
  by_cases hb : (pathParts p).2 = true
  case neg => rw [if_neg hb, (by simpa using hb : (pathParts p).2 = false), Bool.false_and]; exact Ev_some.mpr rfl
  rw [if_pos hb, hb, Bool.true_and, w64 (x := ((pathParts p).1.length : Int) + 1) (by omega) (by omega), Ev_ite]
  by_cases hc : ts.length = (pathParts p).1.length + 1
  · rw [if_pos (by omega), decide_eq_true hc, Bool.true_and, Ev_bd (spec_way_ev root _ ts hts (by omega) (by omega))]
    exact Ev_some.mpr rfl
  · rw [if_neg (by omega), decide_eq_false hc, Bool.false_and]
    exact Ev_some.mpr rfl
theorem proofRight_pos {root : Int} {p : ByteArray} {ts : List ByteArray} (h : proofRight root p ts = true) : 0 < ts.length := by
  unfold proofRight at h
  simp only [Bool.and_eq_true, decide_eq_true_eq] at h
  omega
theorem impl_proofContent_ev (root : Int) (p : ByteArray) (ts : List ByteArray) (hp : p.size ≤ 4294967200) (hts : TextsSized ts) : Ev (fun k => impl_ProofContent.f k root p ts) (proofContent root p ts) := by
  unfold impl_ProofContent.f proofContent
  rw [Ev_bd (impl_proofRight_ev root p ts hp hts), Ev_ite]
  by_cases h : proofRight root p ts = true
  · have h0 := proofRight_pos h
    have hl := hts.1
    have hm : (ts.getD (ts.length - 1) ByteArray.empty).size ≤ 1048576 := hts.2 _ (by rw [getD_at ts _ _ (by omega)]; exact List.getElem_mem _)
    obtain ⟨g1, g2⟩ := rdLastT ts h0 hl
    rw [if_pos h, if_pos h, Ev_pos g1, g2, Ev_pos (by omega), rdT_nat, Ev_bd (impl_readFile_ev _ (by omega))]
    exact Ev_some.mpr rfl
  · rw [if_neg h, if_neg h]
    exact Ev_some.mpr rfl
theorem spec_proofContent_ev (root : Int) (p : ByteArray) (ts : List ByteArray) (hp : p.size ≤ 4294967200) (hts : TextsSized ts) : Ev (fun k => spec_ProofContent.f k root p ts) (proofContent root p ts) := by
  unfold spec_ProofContent.f proofContent
  rw [Ev_bd (spec_proofRight_ev root p ts hp hts), Ev_ite]
  by_cases h : proofRight root p ts = true
  · have h0 := proofRight_pos h
    have hl := hts.1
    have hm : (ts.getD (ts.length - 1) ByteArray.empty).size ≤ 1048576 := hts.2 _ (by rw [getD_at ts _ _ (by omega)]; exact List.getElem_mem _)
    obtain ⟨g1, g2⟩ := rdLastT ts h0 hl
    rw [if_pos h, if_pos h, Ev_pos g1, g2, Ev_pos (by omega), rdT_nat, Ev_bd (spec_readFile_ev _ (by omega))]
    exact Ev_some.mpr rfl
  · rw [if_neg h, if_neg h]
    exact Ev_some.mpr rfl
theorem impl_absenceRight_ev (root : Int) (p : ByteArray) (ts : List ByteArray) (hp : p.size ≤ 4294967200) (hts : TextsSized ts) : Ev (fun k => impl_AbsenceRight.f k root p ts) (absenceRight root p ts) := by
  unfold impl_AbsenceRight.f absenceRight
  have hl := hts.1
  have h3 := (pathOk_iff.1 (pathParts_ok p)).1
  rw [Ev_bd (impl_pathParts_ev p hp), Ev_ite]
  generalize (pathParts p).2 = b at *
  generalize (pathParts p).1 = ns at *
  have hj : ∀ c r, c = true → r = false → Ev (fun k => impl_AbsenceRight.j0 k ts ns c) r := by
    rintro c r rfl rfl
    refine Ev_succ.mpr ?_
    simp only [impl_AbsenceRight.j0, if_true]
    exact Ev_some.mpr rfl
  by_cases hb : b = true
  case neg => rw [if_neg hb]; exact hj _ _ rfl (by rw [(by simpa using hb : b = false), Bool.false_and])
  rw [if_pos hb, hb, Bool.true_and, Ev_ite]
  by_cases h1 : ts.length < 1
  · rw [if_pos (by omega)]; exact hj _ _ rfl (by rw [decide_eq_false (by omega), Bool.false_and])
  rw [if_neg (by omega), Ev_ite]
  by_cases h2 : ts.length > ns.length
  · rw [if_pos (by omega)]; exact hj _ _ rfl (by rw [decide_eq_false (by omega), Bool.false_and])
  rw [if_neg (by omega), decide_eq_true (by omega : 1 ≤ ts.length ∧ ts.length ≤ ns.length), Bool.true_and, Ev_bd (impl_way_ev root ns ts hts (by omega))]
  by_cases hw : wayL root ns ts = true
  case neg => exact hj _ _ (by simp [hw]) (by rw [(by simpa using hw : wayL root ns ts = false), Bool.false_and])
  have hm : (ts.getD (ts.length - 1) ByteArray.empty).size ≤ 1048576 := hts.2 _ (by rw [getD_at ts _ _ (by omega)]; exact List.getElem_mem _)
  obtain ⟨g1, g2⟩ := rdLastT ts (by omega) hl
  rw [hw]
  refine Ev_succ.mpr ?_
  simp only [impl_AbsenceRight.j0]
  rw [Ev_neg (by simp), Ev_pos g1, g2, Ev_pos (by omega), rdT_nat, rdT_nat, Ev_bd (impl_readFolder_ev _ (by omega)), Ev_ite, Bool.true_and]
  by_cases hf : (readFolder (ts.getD (ts.length - 1) ByteArray.empty)).2 = true
  · rw [if_pos hf, Ev_pos (by omega), Ev_bd (impl_named_ev (readFolder_ok _) _), hf, Bool.true_and]
    exact Ev_some.mpr rfl
  · rw [if_neg hf, (by simpa using hf : (readFolder (ts.getD (ts.length - 1) ByteArray.empty)).2 = false), Bool.false_and]
    exact Ev_some.mpr rfl
theorem spec_absenceRight_ev (root : Int) (p : ByteArray) (ts : List ByteArray) (hp : p.size ≤ 4294967200) (hts : TextsSized ts) : Ev (fun k => spec_AbsenceRight.f k root p ts) (absenceRight root p ts) := by
  unfold spec_AbsenceRight.f absenceRight
  have hl := hts.1
  have h3 := (pathOk_iff.1 (pathParts_ok p)).1
  rw [Ev_bd (spec_pathParts_ev p hp), Ev_ite]
  generalize (pathParts p).2 = b at *
  generalize (pathParts p).1 = ns at *
  have hj : ∀ c r, c = true → r = false → Ev (fun k => spec_AbsenceRight.j0 k ts ns c) r := by
    rintro c r rfl rfl
    refine Ev_succ.mpr ?_
    simp only [spec_AbsenceRight.j0, if_true]
    exact Ev_some.mpr rfl
  by_cases hb : b = true
  case neg => rw [if_neg hb]; exact hj _ _ rfl (by rw [(by simpa using hb : b = false), Bool.false_and])
  rw [if_pos hb, hb, Bool.true_and, Ev_b0 (l1In_eq _ _ _), Ev_ite]
  by_cases h1 : 1 ≤ ts.length ∧ ts.length ≤ ns.length
  case neg =>
    rw [if_neg (fun g => h1 (by have := inB_iff.1 g; omega))]
    exact hj _ _ rfl (by rw [decide_eq_false h1, Bool.false_and])
  rw [if_pos (inB_iff.2 (by omega)), decide_eq_true h1, Bool.true_and, Ev_bd (spec_way_ev root ns ts hts (by omega) (by omega))]
  by_cases hw : wayL root ns ts = true
  case neg => exact hj _ _ (by simp [hw]) (by rw [(by simpa using hw : wayL root ns ts = false), Bool.false_and])
  have hm : (ts.getD (ts.length - 1) ByteArray.empty).size ≤ 1048576 := hts.2 _ (by rw [getD_at ts _ _ (by omega)]; exact List.getElem_mem _)
  obtain ⟨g1, g2⟩ := rdLastT ts (by omega) hl
  rw [hw]
  refine Ev_succ.mpr ?_
  simp only [spec_AbsenceRight.j0]
  rw [Ev_neg (by simp), Ev_pos g1, g2, Ev_pos (by omega), rdT_nat, Ev_bd (spec_readFolder_ev _ (by omega)), Bool.true_and]
  have hv := readFolder_ok (ts.getD (ts.length - 1) ByteArray.empty)
  have hno : ¬ (readFolder (ts.getD (ts.length - 1) ByteArray.empty)).2 = true → (readFolder (ts.getD (ts.length - 1) ByteArray.empty)).1 = [] := fun g => by rw [readFolder_not g]
  generalize (readFolder (ts.getD (ts.length - 1) ByteArray.empty)).2 = c at *
  generalize (readFolder (ts.getD (ts.length - 1) ByteArray.empty)).1 = L at *
  have h3L := entriesValid_len hv
  have inner : ∀ d j, j + d = L.length → Ev (fun k => spec_AbsenceRight.l0 k ts ns L c (j : Int)) (if (namedP (L.drop j) (ns.getD (ts.length - 1) ByteArray.empty)).2 = true then false else c) := by
    intro d
    induction d with
    | zero =>
      intro j hj2
      refine Ev_succ.mpr ?_
      simp only [spec_AbsenceRight.l0]
      rw [Ev_neg (by omega), drop_nil L (by omega), if_neg (by simp [namedP])]
      exact Ev_some.mpr rfl
    | succ d ih =>
      intro j hj2
      refine Ev_succ.mpr ?_
      simp only [spec_AbsenceRight.l0, rdEntry, g2, rdT_nat, w64s j (by omega)]
      rw [Ev_pos (by omega), Ev_pos (by omega), Ev_pos (by omega), Ev_pos (by omega), drop_cons L z63 j (by omega), namedP, Ev_ite]
      by_cases he : (L.getD j z63).f0 = ns.getD (ts.length - 1) ByteArray.empty
      · rw [if_pos (by rw [he]), if_pos he, if_pos rfl]
        exact Ev_some.mpr rfl
      · rw [if_neg (fun g => he (toList_iff.1 g)), if_neg he]
        exact ih (j + 1) (by omega)
  have hi := inner L.length 0 (by omega)
  rw [List.drop_zero] at hi
  by_cases hg : (namedP L (ns.getD (ts.length - 1) ByteArray.empty)).2 = true
  · rw [if_pos hg] at hi
    rw [hg, Bool.not_true, Bool.and_false]
    exact hi
  · rw [if_neg hg] at hi
    rw [(by simpa using hg : (namedP L (ns.getD (ts.length - 1) ByteArray.empty)).2 = false), Bool.not_false, Bool.and_true]
    exact hi
end Go.Proofs.YtjgbidklkhohfaaDoor.Mod
