/- The texts on the way: PathProof and AbsenceProof. -/
import Derived.Test.YtjgbidklkhohfaaDoorPx0
import Derived.Test.YtjgbidklkhohfaaDoorPx15
import Derived.Test.YtjgbidklkhohfaaDoorWay
import Derived.Test.YtjgbidklkhohfaaDoorWalk
import Derived.Test.YtjgbidklkhohfaaDoorProofs0
namespace Go.Proofs.YtjgbidklkhohfaaDoor.Mod
open Go.RowKit Go.Proofs.YtjgbidklkhohfaaDoor.P Go.Proofs.YtjgbidklkhohfaaDoor.EvK Go.Proofs.YtjgbidklkhohfaaDoorW.PrintWords Go.Proofs.YtjgbidklkhohfaaDoorW.PrintLast
set_option linter.unusedVariables false
set_option linter.unusedSimpArgs false
noncomputable def proofL (l : List S58) : Int → List ByteArray → List ByteArray
  | t, [] => [(getP l t).1]
  | t, n :: ns => (getP l t).1 :: proofL l (namedP (folderP l t).1 n).1 ns
noncomputable def pathProof (l : List S58) (root : Int) (p : ByteArray) : List ByteArray := if (walkTo l root p).2 = true then proofL l root (pathParts p).1 else []
theorem proofL_len (l : List S58) : ∀ (ns : List ByteArray) (t : Int), (proofL l t ns).length = ns.length + 1 := by
  intro ns
  induction ns with
  | nil => intro t; rfl
  | cons n ns ih => intro t; rw [proofL, List.length_cons, ih, List.length_cons]
theorem proofL_cons (l : List S58) (t : Int) (ns : List ByteArray) : proofL l t ns = (getP l t).1 :: (proofL l t ns).tail := by
  cases ns <;> rfl
theorem proofL_range (l : List S58) : ∀ (ns : List ByteArray) (t : Int), proofL l t ns = (List.range (ns.length + 1)).map (fun k => (getP l (stepT l t (ns.take k))).1) := by
  intro ns
  induction ns with
  | nil => intro t; rfl
  | cons n ns ih =>
    intro t
    rw [proofL, ih, List.length_cons, List.range_succ_eq_map (n := ns.length + 1), List.map_cons, List.map_map]
    rfl
theorem proofL_last (l : List S58) : ∀ (ns : List ByteArray) (t : Int), (proofL l t ns).getD ns.length ByteArray.empty = (getP l (stepT l t ns)).1 := by
  intro ns
  induction ns with
  | nil => intro t; rfl
  | cons n ns ih =>
    intro t
    rw [proofL, List.length_cons, List.getD_cons_succ, ih, stepT]
theorem proofL_size {l : List S58} (h : storeValid l = true) (ns : List ByteArray) (t : Int) : ∀ z ∈ proofL l t ns, z.size ≤ 60 := by
  intro z hz
  rw [proofL_range] at hz
  obtain ⟨k, -, rfl⟩ := List.mem_map.1 hz
  exact getP_size h _
theorem walkTo_valid {l : List S58} {root : Int} {p : ByteArray} (h : (walkTo l root p).2 = true) : storeValid l = true ∧ (walkL l root (pathParts p).1).2 = true := by
  unfold walkTo at h
  split at h
  · rename_i g; exact ⟨g.2, h⟩
  · simp at h
theorem pathProof_len (l : List S58) (root : Int) (p : ByteArray) : (pathProof l root p).length ≤ 4 := by
  unfold pathProof
  have h3 := (pathOk_iff.1 (pathParts_ok p)).1
  split
  · rw [proofL_len]; omega
  · simp
theorem pathProof_size (l : List S58) (root : Int) (p : ByteArray) : ∀ z ∈ pathProof l root p, z.size ≤ 60 := by
  unfold pathProof
  split
  · rename_i h
    exact proofL_size (walkTo_valid h).1 _ _
  · intro z hz; simp at hz
theorem range_getD (n i : Nat) (h : i < n) : (List.range n).getD i 0 = i := by simp [List.getD_eq_getElem?_getD, h]
theorem impl_pathProof_ev (l : List S58) (root : Int) (p : ByteArray) (hl : StoreSized l) (hp : p.size ≤ 4294967200) : Ev (fun k => impl_PathProof.f k l root p) (pathProof l root p) := by
  unfold impl_PathProof.f pathProof
  rw [Ev_bd (impl_walk_ev l root p hl hp), Ev_ite]
  by_cases h : (walkTo l root p).2 = true
  case neg => rw [if_neg h, if_neg h]; exact Ev_some.mpr rfl
  obtain ⟨hv, -⟩ := walkTo_valid h
  have h3 := (pathOk_iff.1 (pathParts_ok p)).1
  rw [if_pos h, if_pos h, Ev_bd (impl_pathParts_ev p hp), Ev_bd (impl_textOf_ev hv root)]
  generalize (pathParts p).1 = ns at *
  have key : ∀ d i (t : Int) (acc : List ByteArray), i + d = ns.length → acc.length ≤ i + 1 → Ev (fun k => impl_PathProof.l0 k l (getP l t).1 acc ns (ns.length : Int) (i : Int)) (acc ++ (proofL l t (ns.drop i)).tail) := by
    intro d
    induction d with
    | zero =>
      intro i t acc hi ha
      refine Ev_succ.mpr ?_
      simp only [impl_PathProof.l0]
      rw [Ev_neg (by omega), List.drop_eq_nil_of_le (by omega)]
      exact Ev_some.mpr (by simp [proofL])
    | succ d ih =>
      intro i t acc hi ha
      have hs := getP_size hv t
      have hfold : readFolder (getP l t).1 = folderP l t := rfl
      refine Ev_succ.mpr ?_
      simp only [impl_PathProof.l0, rdT_nat, w64s i (by omega)]
      rw [Ev_pos (by omega), Ev_pos (by omega), Ev_pos (by omega), Ev_bd (impl_readFolder_ev _ (by omega)), hfold, Ev_bd (impl_named_ev folderP_valid _), Ev_bd (impl_textOf_ev hv _), Ev_pos (by omega), drop_cons ns ByteArray.empty i (by omega), proofL, List.tail_cons]
      have := ih (i + 1) (namedP (folderP l t).1 (ns.getD i ByteArray.empty)).1 (acc ++ [(getP l (namedP (folderP l t).1 (ns.getD i ByteArray.empty)).1).1]) (by omega) (by simp; omega)
      rw [proofL_cons l _ (ns.drop (i + 1))]
      simpa using this
  have := key ns.length 0 root [(getP l root).1] (by omega) (by simp)
  rw [proofL_cons]
  simpa using this
theorem spec_pathProof_ev (l : List S58) (root : Int) (p : ByteArray) (hl : StoreSized l) (hp : p.size ≤ 4294967200) : Ev (fun k => spec_PathProof.f k l root p) (pathProof l root p) := by
  unfold spec_PathProof.f pathProof
  rw [Ev_bd (spec_pathParts_ev p hp), Ev_bd (spec_walk_ev l root p hl hp)]
  by_cases h : (walkTo l root p).2 = true
  case neg =>
    rw [if_neg h, (by simpa using h : (walkTo l root p).2 = false)]
    refine Ev_succ.mpr ?_
    simp only [spec_PathProof.l0]
    rw [Ev_pos (by omega)]
    refine Ev_succ.mpr ?_
    simp only [spec_PathProof.j1]
    rw [Ev_neg (by simp)]
    exact Ev_some.mpr rfl
  obtain ⟨hv, hw⟩ := walkTo_valid h
  have h3 := (pathOk_iff.1 (pathParts_ok p)).1
  have h40 := (storeValid_iff.1 hv).1
  rw [if_pos h, h, proofL_range]
  generalize (pathParts p).1 = ns at *
  have key : ∀ d i (acc : List ByteArray), i + d = ns.length + 1 → acc.length ≤ i → Ev (fun k => spec_PathProof.l0 k l root acc ns true (i : Int)) (acc ++ ((List.range (ns.length + 1)).drop i).map (fun k => (getP l (stepT l root (ns.take k))).1)) := by
    intro d
    induction d with
    | zero =>
      intro i acc hi ha
      refine Ev_succ.mpr ?_
      simp only [spec_PathProof.l0]
      rw [Ev_neg (by omega)]
      refine Ev_succ.mpr ?_
      simp only [spec_PathProof.j1]
      rw [Ev_neg (by simp), List.drop_eq_nil_of_le (by simp; omega)]
      exact Ev_some.mpr (by simp)
    | succ d ih =>
      intro i acc hi ha
      refine Ev_succ.mpr ?_
      simp only [spec_PathProof.l0]
      rw [Ev_pos (by omega)]
      refine Ev_succ.mpr ?_
      simp only [spec_PathProof.j1, w64s i (by omega), Int.toNat_natCast]
      rw [Ev_pos trivial, Ev_pos (by omega), Ev_pos (by omega), Ev_bd (spec_l9_ev hv root _ (by rw [List.length_take]; omega)), walk_take hw i (by omega), Ev_bd (spec_l4_ev l _ (by omega)), Ev_pos (by omega), drop_cons (List.range (ns.length + 1)) 0 i (by simp; omega), range_getD _ i (by omega), List.map_cons]
      have := ih (i + 1) (acc ++ [(getP l (stepT l root (ns.take i))).1]) (by omega) (by simp; omega)
      simpa using this
  have := key (ns.length + 1) 0 [] (by omega) (by simp)
  simpa using this
/-- The texts down to the first name that is not kept. -/
noncomputable def absL (l : List S58) : Int → List ByteArray → List ByteArray → List ByteArray
  | _, [], _ => []
  | t, n :: ns, acc => if (getP l t).2 = true ∧ (folderP l t).2 = true then (if (namedP (folderP l t).1 n).2 = true then absL l (namedP (folderP l t).1 n).1 ns (acc ++ [(getP l t).1]) else acc ++ [(getP l t).1]) else []
noncomputable def absenceProof (l : List S58) (root : Int) (p : ByteArray) : List ByteArray := if (pathParts p).2 = true ∧ storeValid l = true then absL l root (pathParts p).1 [] else []
theorem absL_len (l : List S58) : ∀ (ns : List ByteArray) (t : Int) (acc : List ByteArray), (absL l t ns acc).length ≤ acc.length + ns.length := by
  intro ns
  induction ns with
  | nil => intro t acc; simp [absL]
  | cons n ns ih =>
    intro t acc
    rw [absL]
    split
    · split
      · have := ih (namedP (folderP l t).1 n).1 (acc ++ [(getP l t).1])
        simp at this ⊢
        omega
      · simp
    · simp
theorem absenceProof_len (l : List S58) (root : Int) (p : ByteArray) : (absenceProof l root p).length ≤ 3 := by
  unfold absenceProof
  have h3 := (pathOk_iff.1 (pathParts_ok p)).1
  split
  · have := absL_len l (pathParts p).1 root []
    simp at this
    omega
  · simp
theorem way_proof {l : List S58} (hv : storeValid l = true) (rest : List ByteArray) : ∀ (ns : List ByteArray) (t : Int), okT l t ns = true → (getP l (stepT l t ns)).2 = true → wayL t (ns ++ rest) (proofL l t ns) = true := by
  intro ns
  induction ns with
  | nil =>
    intro t _ hg
    rw [proofL, wayL_one]
    exact decide_eq_true (getP_text hv hg).2.symm
  | cons n ns ih =>
    intro t ho hg
    rw [okT, Bool.and_eq_true] at ho
    rw [stepT] at hg
    obtain ⟨g1, g2⟩ := getP_of_named ho.1
    have hfold : readFolder (getP l t).1 = folderP l t := rfl
    have hi := ih _ ho.2 hg
    rw [proofL, proofL_cons l _ ns] at *
    rw [List.cons_append, wayL_two, hfold, List.headD_cons, List.tail_cons, hi, ho.1, g2, decide_eq_true (getP_text hv g1).2.symm]
    rfl
theorem pathProof_join {l : List S58} (hv : storeValid l = true) (root : Int) (ns : List ByteArray) (h : pathOk ns = true) : pathProof l root (joinPath ns) = if okT l root ns = true ∧ (getP l (stepT l root ns)).2 = true then proofL l root ns else [] := by
  have e : walkTo l root (mkB (joinL ns)) = walkL l root ns := by
    unfold walkTo
    rw [pathParts_join h]
    exact if_pos ⟨rfl, hv⟩
  unfold pathProof joinPath
  rw [if_pos h, e, pathParts_join h, walk_ok]
  by_cases g : okT l root ns = true ∧ (getP l (stepT l root ns)).2 = true
  · rw [if_pos g, if_pos g, if_pos rfl]
  · rw [if_neg g, if_neg g, if_neg (by simp)]
theorem absenceRight_nil (root : Int) (p : ByteArray) : absenceRight root p [] = false := by
  unfold absenceRight
  rw [decide_eq_false (by simp), Bool.false_and, Bool.and_false]
end Go.Proofs.YtjgbidklkhohfaaDoor.Mod
