/- The texts on the way: PathProof and AbsenceProof. -/
import Derived.Test.YtjgbidklkhohfaaGreatDoorPx0
import Derived.Test.YtjgbidklkhohfaaGreatDoorPx12
import Derived.Test.YtjgbidklkhohfaaGreatDoorPx13
import Derived.Test.YtjgbidklkhohfaaGreatDoorWay
import Derived.Test.YtjgbidklkhohfaaGreatDoorWalk
namespace Go.Proofs.YtjgbidklkhohfaaGreatDoor.Mod
open Go.RowKit Go.Proofs.YtjgbidklkhohfaaGreatDoor.P Go.Proofs.YtjgbidklkhohfaaGreatDoor.EvK Go.Proofs.YtjgbidklkhohfaaGreatDoorW.PrintWords Go.Proofs.YtjgbidklkhohfaaGreatDoorW.PrintLast
set_option linter.unusedVariables false
set_option linter.unusedSimpArgs false
/-- The print behind names; whether each name is kept; the texts on the way. -/
noncomputable def stepT (l : List S46) : Int → List ByteArray → Int
  | t, [] => t
  | t, n :: ns => stepT l (namedP (folderP l t).1 n).1 ns
noncomputable def okT (l : List S46) : Int → List ByteArray → Bool
  | _, [] => true
  | t, n :: ns => (namedP (folderP l t).1 n).2 && okT l (namedP (folderP l t).1 n).1 ns
noncomputable def proofL (l : List S46) : Int → List ByteArray → List ByteArray
  | t, [] => [(getP l t).1]
  | t, n :: ns => (getP l t).1 :: proofL l (namedP (folderP l t).1 n).1 ns
noncomputable def pathProof (l : List S46) (root : Int) (p : ByteArray) : List ByteArray := if (walkTo l root p).2 = true then proofL l root (pathParts p).1 else []
theorem proofL_len (l : List S46) : ∀ (ns : List ByteArray) (t : Int), (proofL l t ns).length = ns.length + 1 := by
  intro ns
  induction ns with
  | nil => intro t; rfl
  | cons n ns ih => intro t; rw [proofL, List.length_cons, ih, List.length_cons]
theorem proofL_cons (l : List S46) (t : Int) (ns : List ByteArray) : proofL l t ns = (getP l t).1 :: (proofL l t ns).tail := by
  cases ns <;> rfl
theorem getP_of_named {l : List S46} {t : Int} {n : ByteArray} (h : (namedP (folderP l t).1 n).2 = true) : (getP l t).2 = true ∧ (folderP l t).2 = true := by
  have hf : (folderP l t).2 = true := by
    by_cases g : (folderP l t).2 = true
    · exact g
    · rw [folderP_not g] at h
      simp [namedP] at h
  refine ⟨?_, hf⟩
  by_cases g : (getP l t).2 = true
  · exact g
  · unfold folderP at hf
    rw [getP_not g, readFolder_empty] at hf
    simp at hf
theorem walk_ok (l : List S46) : ∀ (ns : List ByteArray) (t : Int), walkL l t ns = if okT l t ns = true ∧ (getP l (stepT l t ns)).2 = true then (stepT l t ns, true) else (-1, false) := by
  intro ns
  induction ns with
  | nil => intro t; simp [walkL, okT, stepT]
  | cons n ns ih =>
    intro t
    rw [walkL, okT, stepT]
    by_cases h : (namedP (folderP l t).1 n).2 = true
    · rw [if_pos h, ih, h, Bool.true_and]
    · rw [if_neg h, if_neg]
      rintro ⟨g, -⟩
      rw [Bool.and_eq_true] at g
      exact h g.1
theorem stepT_snoc (l : List S46) (n : ByteArray) : ∀ (ns : List ByteArray) (t : Int), stepT l t (ns ++ [n]) = (namedP (folderP l (stepT l t ns)).1 n).1 := by
  intro ns
  induction ns with
  | nil => intro t; rfl
  | cons m ns ih => intro t; rw [List.cons_append, stepT, stepT, ih]
theorem okT_snoc (l : List S46) (n : ByteArray) : ∀ (ns : List ByteArray) (t : Int), okT l t (ns ++ [n]) = (okT l t ns && (namedP (folderP l (stepT l t ns)).1 n).2) := by
  intro ns
  induction ns with
  | nil => intro t; simp [okT, stepT]
  | cons m ns ih => intro t; rw [List.cons_append, okT, okT, stepT, ih, Bool.and_assoc]
theorem take_snoc (ns : List ByteArray) (i : Nat) (h : i < ns.length) : ns.take (i + 1) = ns.take i ++ [ns.getD i ByteArray.empty] := by
  rw [getD_at ns _ i h, List.take_succ_eq_append_getElem h]
theorem okT_take (l : List S46) (t : Int) (ns : List ByteArray) (h : okT l t ns = true) : ∀ d i, i + d = ns.length → okT l t (ns.take i) = true := by
  intro d
  induction d with
  | zero => intro i hi; rw [List.take_of_length_le (by omega)]; exact h
  | succ d ih =>
    intro i hi
    have := ih (i + 1) (by omega)
    rw [take_snoc ns i (by omega), okT_snoc, Bool.and_eq_true] at this
    exact this.1
theorem okT_named (l : List S46) (t : Int) (ns : List ByteArray) (h : okT l t ns = true) (i : Nat) (hi : i < ns.length) : (namedP (folderP l (stepT l t (ns.take i))).1 (ns.getD i ByteArray.empty)).2 = true := by
  have := okT_take l t ns h (ns.length - (i + 1)) (i + 1) (by omega)
  rw [take_snoc ns i hi, okT_snoc, Bool.and_eq_true] at this
  exact this.2
theorem walk_yes {l : List S46} {t : Int} {ns : List ByteArray} (h : (walkL l t ns).2 = true) : okT l t ns = true ∧ (getP l (stepT l t ns)).2 = true := by
  rw [walk_ok] at h
  split at h
  · assumption
  · simp at h
theorem walk_take {l : List S46} {t : Int} {ns : List ByteArray} (h : (walkL l t ns).2 = true) (i : Nat) (hi : i ≤ ns.length) : walkL l t (ns.take i) = (stepT l t (ns.take i), true) := by
  obtain ⟨h1, h2⟩ := walk_yes h
  rw [walk_ok, if_pos]
  refine ⟨okT_take l t ns h1 (ns.length - i) i (by omega), ?_⟩
  by_cases e : i = ns.length
  · rw [List.take_of_length_le (by omega)]; exact h2
  · exact (getP_of_named (okT_named l t ns h1 i (by omega))).1
theorem proofL_range (l : List S46) : ∀ (ns : List ByteArray) (t : Int), proofL l t ns = (List.range (ns.length + 1)).map (fun k => (getP l (stepT l t (ns.take k))).1) := by
  intro ns
  induction ns with
  | nil => intro t; rfl
  | cons n ns ih =>
    intro t
    rw [proofL, ih, List.length_cons, List.range_succ_eq_map (n := ns.length + 1), List.map_cons, List.map_map]
    rfl
theorem proofL_last (l : List S46) : ∀ (ns : List ByteArray) (t : Int), (proofL l t ns).getD ns.length ByteArray.empty = (getP l (stepT l t ns)).1 := by
  intro ns
  induction ns with
  | nil => intro t; rfl
  | cons n ns ih =>
    intro t
    rw [proofL, List.length_cons, List.getD_cons_succ, ih, stepT]
theorem proofL_size {l : List S46} (h : storeValid l = true) (ns : List ByteArray) (t : Int) : ∀ z ∈ proofL l t ns, z.size ≤ 60 := by
  intro z hz
  rw [proofL_range] at hz
  obtain ⟨k, -, rfl⟩ := List.mem_map.1 hz
  exact getP_size h _
theorem walkTo_valid {l : List S46} {root : Int} {p : ByteArray} (h : (walkTo l root p).2 = true) : storeValid l = true ∧ (walkL l root (pathParts p).1).2 = true := by
  unfold walkTo at h
  split at h
  · rename_i g; exact ⟨g.2, h⟩
  · simp at h
theorem pathProof_len (l : List S46) (root : Int) (p : ByteArray) : (pathProof l root p).length ≤ 4 := by
  unfold pathProof
  have h3 := (pathOk_iff.1 (pathParts_ok p)).1
  split
  · rw [proofL_len]; omega
  · simp
theorem pathProof_size (l : List S46) (root : Int) (p : ByteArray) : ∀ z ∈ pathProof l root p, z.size ≤ 60 := by
  unfold pathProof
  split
  · rename_i h
    exact proofL_size (walkTo_valid h).1 _ _
  · intro z hz; simp at hz
theorem range_getD (n i : Nat) (h : i < n) : (List.range n).getD i 0 = i := by simp [List.getD_eq_getElem?_getD, h]
theorem spec_pathProof_ev (l : List S46) (root : Int) (p : ByteArray) (hl : StoreSized l) (hp : p.size ≤ 4294967200) : Ev (fun k => spec_PathProof.f k l root p) (pathProof l root p) := by
  unfold spec_PathProof.f pathProof
  rw [Ev_bd (spec_pathParts_ev p hp), Ev_bd (spec_walk_ev l root p hl hp)]
  by_cases h : (walkTo l root p).2 = true
  case neg =>
    rw [if_neg h, (by simpa using h : (walkTo l root p).2 = false)]
    refine Ev_succ.mpr ?_
    simp only [spec_PathProof.l0]
    rw [Ev_pos (by omega)]
    refine Ev_succ.mpr ?_
    simp only [spec_PathProof.j1]
    rw [Ev_neg (by simp)]
    exact Ev_some.mpr rfl
  obtain ⟨hv, hw⟩ := walkTo_valid h
  have h3 := (pathOk_iff.1 (pathParts_ok p)).1
  have h40 := (storeValid_iff.1 hv).1
  rw [if_pos h, h, proofL_range]
  generalize (pathParts p).1 = ns at *
  have key : ∀ d i (acc : List ByteArray), i + d = ns.length + 1 → acc.length ≤ i → Ev (fun k => spec_PathProof.l0 k l root acc ns true (i : Int)) (acc ++ ((List.range (ns.length + 1)).drop i).map (fun k => (getP l (stepT l root (ns.take k))).1)) := by
    intro d
    induction d with
    | zero =>
      intro i acc hi ha
      refine Ev_succ.mpr ?_
      simp only [spec_PathProof.l0]
      rw [Ev_neg (by omega)]
      refine Ev_succ.mpr ?_
      simp only [spec_PathProof.j1]
      rw [Ev_neg (by simp), List.drop_eq_nil_of_le (by simp; omega)]
      exact Ev_some.mpr (by simp)
    | succ d ih =>
      intro i acc hi ha
      refine Ev_succ.mpr ?_
      simp only [spec_PathProof.l0]
      rw [Ev_pos (by omega)]
      refine Ev_succ.mpr ?_
      simp only [spec_PathProof.j1, w64s i (by omega), Int.toNat_natCast]
      rw [Ev_pos trivial, Ev_pos (by omega), Ev_pos (by omega), Ev_bd (spec_l9_ev hv root _ (by rw [List.length_take]; omega)), walk_take hw i (by omega), Ev_bd (spec_l4_ev l _ (by omega)), Ev_pos (by omega), drop_cons (List.range (ns.length + 1)) 0 i (by simp; omega), range_getD _ i (by omega), List.map_cons]
      have := ih (i + 1) (acc ++ [(getP l (stepT l root (ns.take i))).1]) (by omega) (by simp; omega)
      simpa using this
  have := key (ns.length + 1) 0 [] (by omega) (by simp)
  simpa using this
/-- The texts down to the first name that is not kept. -/
noncomputable def absL (l : List S46) : Int → List ByteArray → List ByteArray → List ByteArray
  | _, [], _ => []
  | t, n :: ns, acc => if (getP l t).2 = true ∧ (folderP l t).2 = true then (if (namedP (folderP l t).1 n).2 = true then absL l (namedP (folderP l t).1 n).1 ns (acc ++ [(getP l t).1]) else acc ++ [(getP l t).1]) else []
noncomputable def absenceProof (l : List S46) (root : Int) (p : ByteArray) : List ByteArray := if (pathParts p).2 = true ∧ storeValid l = true then absL l root (pathParts p).1 [] else []
theorem absL_len (l : List S46) : ∀ (ns : List ByteArray) (t : Int) (acc : List ByteArray), (absL l t ns acc).length ≤ acc.length + ns.length := by
  intro ns
  induction ns with
  | nil => intro t acc; simp [absL]
  | cons n ns ih =>
    intro t acc
    rw [absL]
    split
    · split
      · have := ih (namedP (folderP l t).1 n).1 (acc ++ [(getP l t).1])
        simp at this ⊢
        omega
      · simp
    · simp
theorem absenceProof_len (l : List S46) (root : Int) (p : ByteArray) : (absenceProof l root p).length ≤ 3 := by
  unfold absenceProof
  have h3 := (pathOk_iff.1 (pathParts_ok p)).1
  split
  · have := absL_len l (pathParts p).1 root []
    simp at this
    omega
  · simp
theorem impl_absenceProof_ev (l : List S46) (root : Int) (p : ByteArray) (hl : StoreSized l) (hp : p.size ≤ 4294967200) : Ev (fun k => impl_AbsenceProof.f k l root p) (absenceProof l root p) := by
  unfold impl_AbsenceProof.f absenceProof
  have h3 := (pathOk_iff.1 (pathParts_ok p)).1
  rw [Ev_bd (impl_pathParts_ev p hp), Ev_ite]
  generalize (pathParts p).2 = b at *
  generalize (pathParts p).1 = ns at *
  have hj : ∀ c r, c = true → r = [] → Ev (fun k => impl_AbsenceProof.j0 k l root ns c) r := by
    rintro c r rfl rfl
    refine Ev_succ.mpr ?_
    simp only [impl_AbsenceProof.j0, if_true]
    exact Ev_some.mpr rfl
  by_cases hb : b = true
  case neg => rw [if_neg hb, if_neg (fun g => hb g.1)]; exact hj _ _ rfl rfl
  rw [if_pos hb, Ev_bd (impl_store_ev l hl)]
  by_cases hv : storeValid l = true
  case neg => rw [if_neg (fun g => hv g.2)]; exact hj _ _ (by simp [hv]) rfl
  rw [if_pos ⟨hb, hv⟩, hv]
  refine Ev_succ.mpr ?_
  simp only [impl_AbsenceProof.j0]
  rw [Ev_neg (by simp)]
  have key : ∀ d i (t : Int) (acc : List ByteArray), i + d = ns.length → acc.length ≤ i → Ev (fun k => impl_AbsenceProof.l0 k l acc t ns (ns.length : Int) (i : Int)) (absL l t (ns.drop i) acc) := by
    intro d
    induction d with
    | zero =>
      intro i t acc hi ha
      refine Ev_succ.mpr ?_
      simp only [impl_AbsenceProof.l0]
      rw [Ev_neg (by omega), List.drop_eq_nil_of_le (by omega), absL]
      exact Ev_some.mpr rfl
    | succ d ih =>
      intro i t acc hi ha
      have hs := getP_size hv t
      have hfold : readFolder (getP l t).1 = folderP l t := rfl
      refine Ev_succ.mpr ?_
      simp only [impl_AbsenceProof.l0, rdT_nat, w64s i (by omega)]
      rw [Ev_pos (by omega), Ev_pos (by omega), Ev_pos (by omega), Ev_bd (impl_textOf_ev hv t), drop_cons ns ByteArray.empty i (by omega), absL, Ev_ite]
      by_cases g : (getP l t).2 = true
      case neg => rw [if_neg g, if_neg (fun q => g q.1)]; exact Ev_some.mpr rfl
      rw [if_pos g, Ev_bd (impl_readFolder_ev _ (by omega)), hfold, Ev_ite]
      by_cases f : (folderP l t).2 = true
      case neg => rw [if_neg f, if_neg (fun q => f q.2)]; exact Ev_some.mpr rfl
      rw [if_pos f, if_pos ⟨g, f⟩, Ev_pos (by omega), Ev_bs, Ev_bd (impl_named_ev folderP_valid _), Ev_ite]
      by_cases q : (namedP (folderP l t).1 (ns.getD i ByteArray.empty)).2 = true
      · rw [if_pos q, if_pos q]
        exact ih (i + 1) _ _ (by omega) (by simp; omega)
      · rw [if_neg q, if_neg q]
        exact Ev_some.mpr rfl
  exact key ns.length 0 root [] (by omega) (by simp)
theorem way_proof {l : List S46} (hv : storeValid l = true) (rest : List ByteArray) : ∀ (ns : List ByteArray) (t : Int), okT l t ns = true → (getP l (stepT l t ns)).2 = true → wayL t (ns ++ rest) (proofL l t ns) = true := by
  intro ns
  induction ns with
  | nil =>
    intro t _ hg
    rw [proofL, wayL_one]
    exact decide_eq_true (getP_text hv hg).2.symm
  | cons n ns ih =>
    intro t ho hg
    rw [okT, Bool.and_eq_true] at ho
    rw [stepT] at hg
    obtain ⟨g1, g2⟩ := getP_of_named ho.1
    have hfold : readFolder (getP l t).1 = folderP l t := rfl
    have hi := ih _ ho.2 hg
    rw [proofL, proofL_cons l _ ns] at *
    rw [List.cons_append, wayL_two, hfold, List.headD_cons, List.tail_cons, hi, ho.1, g2, decide_eq_true (getP_text hv g1).2.symm]
    rfl
theorem pathProof_join {l : List S46} (hv : storeValid l = true) (root : Int) (ns : List ByteArray) (h : pathOk ns = true) : pathProof l root (joinPath ns) = if okT l root ns = true ∧ (getP l (stepT l root ns)).2 = true then proofL l root ns else [] := by
  have e : walkTo l root (mkB (joinL ns)) = walkL l root ns := by
    unfold walkTo
    rw [pathParts_join h]
    exact if_pos ⟨rfl, hv⟩
  unfold pathProof joinPath
  rw [if_pos h, e, pathParts_join h, walk_ok]
  by_cases g : okT l root ns = true ∧ (getP l (stepT l root ns)).2 = true
  · rw [if_pos g, if_pos g, if_pos rfl]
  · rw [if_neg g, if_neg g, if_neg (by simp)]
theorem absenceRight_nil (root : Int) (p : ByteArray) : absenceRight root p [] = false := by
  unfold absenceRight
  rw [decide_eq_false (by simp), Bool.false_and, Bool.and_false]
theorem spec_absenceProof_ev (l : List S46) (root : Int) (p : ByteArray) (hl : StoreSized l) (hp : p.size ≤ 4294967200) : Ev (fun k => spec_AbsenceProof.f k l root p) (absenceProof l root p) := by
  unfold spec_AbsenceProof.f absenceProof
  have hok := pathParts_ok p
  have h3 := (pathOk_iff.1 hok).1
  rw [Ev_bd (spec_pathParts_ev p hp), Ev_ite]
  have hj : ∀ c r, c = true → r = [] → Ev (fun k => spec_AbsenceProof.j0 k l root p (pathParts p).1 c) r := by
    rintro c r rfl rfl
    refine Ev_succ.mpr ?_
    simp only [spec_AbsenceProof.j0, if_true]
    exact Ev_some.mpr rfl
  by_cases hb : (pathParts p).2 = true
  case neg => rw [if_neg hb, if_neg (fun g => hb g.1)]; exact hj _ _ rfl rfl
  rw [if_pos hb, Ev_bd (spec_store_ev l hl)]
  by_cases hv : storeValid l = true
  case neg => rw [if_neg (fun g => hv g.2)]; exact hj _ _ (by simp [hv]) rfl
  rw [if_pos ⟨hb, hv⟩, hv]
  refine Ev_succ.mpr ?_
  simp only [spec_AbsenceProof.j0]
  rw [Ev_neg (by simp)]
  have hright : ∀ ts, absenceRight root p ts = (decide (1 ≤ ts.length ∧ ts.length ≤ (pathParts p).1.length) && (wayL root (pathParts p).1 ts && ((readFolder (ts.getD (ts.length - 1) ByteArray.empty)).2 && !(namedP (readFolder (ts.getD (ts.length - 1) ByteArray.empty)).1 ((pathParts p).1.getD (ts.length - 1) ByteArray.empty)).2))) := by
    intro ts
    unfold absenceRight
    rw [hb, Bool.true_and]
  generalize (pathParts p).1 = ns at *
  have hokt : ∀ i, pathOk (ns.take i) = true := fun i => pathOk_iff.2 ⟨by rw [List.length_take]; omega, fun q hq => (pathOk_iff.1 hok).2 q (List.mem_of_mem_take hq)⟩
  have step : ∀ i r, i < ns.length → (if absenceRight root p (pathProof l root (joinPath (ns.take i))) = true then pathProof l root (joinPath (ns.take i)) = r else Ev (fun k => spec_AbsenceProof.l0 k l root p ns ((i + 1 : Nat) : Int)) r) → Ev (fun k => spec_AbsenceProof.l0 k l root p ns (i : Int)) r := by
    intro i r hi hr
    have hw := (pathOk_iff.1 (hokt i)).2
    refine Ev_succ.mpr ?_
    simp only [spec_AbsenceProof.l0, w64s i (by omega), Int.toNat_natCast]
    have h28 := joinPath_size (ns.take i)
    have hpl := pathProof_len l root (joinPath (ns.take i))
    have hps := pathProof_size l root (joinPath (ns.take i))
    rw [Ev_pos (by omega), Ev_pos (by omega), Ev_pos (by omega), Ev_bd (spec_joinPath_ev _ (by rw [List.length_take]; omega) (fun q hq => by have := words_size hw q hq; omega)), Ev_bd (spec_pathProof_ev l root _ hl (by omega)), Ev_bd (spec_absenceRight_ev root p _ hp ⟨by omega, fun z hz => by have := hps z hz; omega⟩), Ev_ite]
    split at hr
    · rename_i g; rw [if_pos g]; exact Ev_some.mpr hr
    · rename_i g; rw [if_neg g]; exact hr
  have stop : Ev (fun k => spec_AbsenceProof.l0 k l root p ns (ns.length : Int)) [] := by
    refine Ev_succ.mpr ?_
    simp only [spec_AbsenceProof.l0]
    rw [Ev_neg (by omega)]
    exact Ev_some.mpr rfl
  have bad : ∀ d i, i + d = ns.length → okT l root (ns.take i) = false → Ev (fun k => spec_AbsenceProof.l0 k l root p ns (i : Int)) [] := by
    intro d
    induction d with
    | zero => intro i hi _; obtain rfl : i = ns.length := by omega
              exact stop
    | succ d ih =>
      intro i hi hbad
      refine step i _ (by omega) ?_
      rw [pathProof_join hv root _ (hokt i), if_neg (c := okT l root (ns.take i) = true ∧ _) (fun g => by rw [hbad] at g; simp at g), absenceRight_nil, if_neg (by simp)]
      exact ih (i + 1) (by omega) (by rw [take_snoc ns i (by omega), okT_snoc, hbad, Bool.false_and])
  have good : ∀ d i, i + d = ns.length → okT l root (ns.take i) = true → Ev (fun k => spec_AbsenceProof.l0 k l root p ns (i : Int)) (absL l (stepT l root (ns.take i)) (ns.drop i) ((List.range i).map (fun k => (getP l (stepT l root (ns.take k))).1))) := by
    intro d
    induction d with
    | zero =>
      intro i hi _
      obtain rfl : i = ns.length := by omega
      rw [List.drop_length, absL]
      exact stop
    | succ d ih =>
      intro i hi hgood
      refine step i _ (by omega) ?_
      have e1 : okT l root (ns.take (i + 1)) = (namedP (folderP l (stepT l root (ns.take i))).1 (ns.getD i ByteArray.empty)).2 := by rw [take_snoc ns i (by omega), okT_snoc, hgood, Bool.true_and]
      have e2 : stepT l root (ns.take (i + 1)) = (namedP (folderP l (stepT l root (ns.take i))).1 (ns.getD i ByteArray.empty)).1 := by rw [take_snoc ns i (by omega), stepT_snoc]
      have e3 : (List.range (i + 1)).map (fun k => (getP l (stepT l root (ns.take k))).1) = (List.range i).map (fun k => (getP l (stepT l root (ns.take k))).1) ++ [(getP l (stepT l root (ns.take i))).1] := by rw [List.range_succ, List.map_append]; rfl
      have e4 : proofL l root (ns.take i) = (List.range (i + 1)).map (fun k => (getP l (stepT l root (ns.take k))).1) := by
        rw [proofL_range, List.length_take, Nat.min_eq_left (by omega)]
        refine List.map_congr_left (fun k hk => ?_)
        rw [List.take_take, Nat.min_eq_left (by have := List.mem_range.1 hk; omega)]
      have hgo := ih (i + 1) (by omega)
      rw [e1, e2, e3] at hgo
      have hstop := bad d (i + 1) (by omega)
      rw [e1] at hstop
      rw [pathProof_join hv root _ (hokt i), drop_cons ns ByteArray.empty i (by omega), absL, hgood]
      have hway := way_proof hv (ns.drop i) (ns.take i) root hgood
      have hlast := proofL_last l (ns.take i) root
      have hplen := proofL_len l (ns.take i) root
      rw [List.length_take, Nat.min_eq_left (by omega)] at hlast hplen
      rw [List.take_append_drop] at hway
      generalize stepT l root (ns.take i) = t at *
      by_cases g : (getP l t).2 = true
      case neg =>
        rw [if_neg (c := true = true ∧ (getP l t).2 = true) (fun q => g q.2), absenceRight_nil, if_neg (by simp), if_neg (fun q => g q.1)]
        refine hstop ?_
        by_cases q : (namedP (folderP l t).1 (ns.getD i ByteArray.empty)).2 = true
        · exact absurd (getP_of_named q).1 g
        · simpa using q
      have hfold : readFolder (getP l t).1 = folderP l t := rfl
      rw [if_pos (c := true = true ∧ (getP l t).2 = true) ⟨rfl, g⟩, hright, hplen, Nat.add_sub_cancel, hlast, hfold, hway g, decide_eq_true (by omega : 1 ≤ i + 1 ∧ i + 1 ≤ ns.length), Bool.true_and, Bool.true_and]
      by_cases f : (folderP l t).2 = true
      case neg =>
        rw [(by simpa using f : (folderP l t).2 = false), Bool.false_and, if_neg (by simp), if_neg (fun q => by simp at q)]
        refine hstop ?_
        by_cases q : (namedP (folderP l t).1 (ns.getD i ByteArray.empty)).2 = true
        · exact absurd (getP_of_named q).2 f
        · simpa using q
      rw [f, Bool.true_and, if_pos (c := (getP l t).2 = true ∧ true = true) ⟨g, rfl⟩]
      by_cases q : (namedP (folderP l t).1 (ns.getD i ByteArray.empty)).2 = true
      · rw [q, if_neg (by simp), if_pos rfl]
        exact hgo q
      · rw [(by simpa using q : (namedP (folderP l t).1 (ns.getD i ByteArray.empty)).2 = false), if_pos (by simp), if_neg (by simp), e4, e3]
  have := good ns.length 0 (by omega) (by simp [okT])
  simpa [stepT] using this
end Go.Proofs.YtjgbidklkhohfaaGreatDoor.Mod
