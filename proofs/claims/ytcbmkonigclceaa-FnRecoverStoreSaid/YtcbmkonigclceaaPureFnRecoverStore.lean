/- The pure statement of FnRecoverStore: proved. -/
import Derived.Test.YtcbmkonigclceaaStmtFnRecoverStore
import Derived.Test.YtcbmkonigclceaaRecAllS
namespace Go.Proofs.Ytcbmkonigclceaa.Pure
open Go.RowKit Go.Proofs.Ytcbmkonigclceaa.P Go.Proofs.Ytcbmkonigclceaa.EvK Go.Proofs.Ytcbmkonigclceaa.Mod Go.Proofs.YtcbmkonigclceaaW.PrintWords
theorem drawRec_p (l : List Int) (hl : ∀ x ∈ l, 0 ≤ x ∧ x ≤ 255) : EvP (fun k => spec_DrawRecoverStore.f k l) (fun r => DrawnL r) := by
  obtain ⟨bs, ho, h0⟩ := open_ev l hl
  unfold spec_DrawRecoverStore.f
  simp only [ho, Option.bind_some]
  refine EvP_bp (log_p h0 (by omega) 9 (by omega)) ?_
  rintro ⟨x, q⟩ ⟨h, h1, h2⟩
  exact EvP_some.mpr h
theorem FnRecoverStore : laws_FnRecoverStore.Stmt := by
  intro l hl hq
  refine Ev.rounds (g := fun k => laws_FnRecoverStore.f k l) ?_
  obtain ⟨x, hd, hx⟩ := drawRec_p l (fun z h => wf_u8 (hq z h))
  have hs := hx.sized
  have hlen := hx.len
  have hrl := recS_len x
  unfold laws_FnRecoverStore.f
  rw [Ev_ite]
  split
  · exact Ev_some.mpr rfl
  rw [Ev_bd hd, Ev_bd (impl_rec_ev x hs), Ev_bd (spec_rec_ev x hs), Ev_bd (samePieces_ev _ _ (by omega)), Ev_pos (eqb_self _)]
  rw [show ((recS x).2 != (recS x).2) = false by simp]
  refine Ev_succ.mpr ?_
  simp only [laws_FnRecoverStore.j0]
  rw [Ev_neg (by simp), Ev_ite]
  by_cases hok : (recS x).2 = true
  · rw [if_pos hok, Ev_bd (impl_done_ev x hs)]
    have hv : logValid x = true := by
      unfold recS at hok
      by_cases h : logValid x = true
      · exact h
      · rw [if_neg h] at hok
        simp at hok
    have e : recS x = recL [] (logDone x) := by unfold recS; rw [if_pos hv]
    rw [e] at hok hrl ⊢
    obtain ⟨q1, -, q3⟩ := recL_ok (logDone x) [] storeNil hok
    have hsv := recL_valid (logDone x) [] storeNil
    have hdl := (logDone_len x).2
    have hz := logDone_siz x
    generalize logDone x = ts at *
    generalize (recL [] ts).1 = st at *
    have key : ∀ n i, i + n = ts.length → Ev (fun k => laws_FnRecoverStore.l0 k st ts (i : Int)) true := by
      intro n
      induction n with
      | zero =>
        intro i hi
        refine Ev_succ.mpr ?_
        simp only [laws_FnRecoverStore.l0]
        rw [Ev_neg (by omega), Ev_bd (impl_store_ev st (storeValid_sized hsv)), Ev_pos hsv]
        simp only [List.length_nil, Nat.zero_add] at q3
        exact Ev_some.mpr (by rw [decide_eq_true (by omega)])
      | succ n ih =>
        intro i hi
        refine Ev_succ.mpr ?_
        have hm : ts.getD i ByteArray.empty ∈ ts := by
          rw [List.getD_eq_getElem?_getD, List.getElem?_eq_getElem (show i < ts.length by omega)]
          exact List.getElem_mem _
        have hsz := hz _ hm
        have hq := q1 _ hm
        have hg := getT_mem hsv hq.2
        dsimp only at hg
        simp only [laws_FnRecoverStore.l0, rdT_nat, w64s i (by omega)]
        rw [Ev_pos (by omega), Ev_pos (by omega), Ev_bd (impl_print_ev _ (by omega)), Ev_bd (impl_get_ev st _ (storeValid_sized hsv)), hg, Ev_pos rfl, Ev_pos rfl]
        exact ih (i + 1) (by omega)
    exact key ts.length 0 (by omega)
  · rw [if_neg hok]
    have e : (recS x).1 = [] := by
      unfold recS at hok ⊢
      by_cases h : logValid x = true
      · rw [if_pos h] at hok ⊢
        have nil : ∀ (ts : List ByteArray) (s : List S65), ¬ (recL s ts).2 = true → (recL s ts).1 = [] := by
          intro ts
          induction ts with
          | nil => intro s h; exact absurd rfl h
          | cons t ts ih =>
            intro s h
            unfold recL at h ⊢
            split
            · rename_i hp
              rw [if_pos hp] at h
              exact ih _ h
            · rfl
        exact nil _ _ hok
      · rw [if_neg h]
    rw [e, Ev_pos (by simp), Ev_bd alive_ev]
    exact Ev_some.mpr rfl
end Go.Proofs.Ytcbmkonigclceaa.Pure
