/- What PutText and GetText come to. -/
import Derived.Test.YtcbmkonigclceaaPx0
import Derived.Test.YtcbmkonigclceaaPx1
import Derived.Test.YtcbmkonigclceaaPx2
import Derived.Test.YtcbmkonigclceaaFind
namespace Go.Proofs.Ytcbmkonigclceaa.Mod
open Go.RowKit Go.Proofs.Ytcbmkonigclceaa.P Go.Proofs.Ytcbmkonigclceaa.EvK Go.Proofs.YtcbmkonigclceaaW.PrintWords Go.Proofs.YtcbmkonigclceaaW.PrintLast
set_option linter.all false
def insP (l : List S65) (v : S65) : List S65 := l.take (posP l v.f0) ++ [v] ++ l.drop (posP l v.f0)
open Classical in
noncomputable def putT (l : List S65) (s : ByteArray) : List S65 × Int × Bool :=
  if storeValid l = true then
    (if textValid s = true then
      (if hasP l (printOf s) then (if (l.getD (posP l (printOf s)) z65).f1 = s then (l, printOf s, true) else (l, -1, false))
       else if l.length = 40 then (l, -1, false) else (insP l ⟨printOf s, s⟩, printOf s, true))
     else (l, -1, false))
  else ([], -1, false)
theorem spec_put_ev (l : List S65) (s : ByteArray) (hl : StoreSized l) (hn : l.length ≤ 1048576) (hs : s.size ≤ 9223372036854775807) : Ev (fun k => spec_PutText.f k l s) (putT l s) := by
  unfold spec_PutText.f putT
  rw [Ev_bd (spec_store_ev l hl), Ev_ite]
  by_cases h : storeValid l = true
  · rw [if_pos h, if_pos h, Ev_bd (spec_print_ev s hs)]
    obtain ⟨g1, g2⟩ := posP_spec l (printOf s)
    have g0 := posP_le l (printOf s)
    have hge := printOf_ge s
    have hj3t : ∀ b, Ev (fun k => spec_PutText.j3 k l s (printOf s) (posP l (printOf s) : Int) b true) (l, -1, false) := by
      intro b
      refine Ev_succ.mpr ?_
      simp only [spec_PutText.j3, if_true, Option.bind_some, List.nil_append, List.length_nil]
      rw [Ev_pos (by omega)]
      exact Ev_some.mpr rfl
    have hj3a : Ev (fun k => spec_PutText.j3 k l s (printOf s) (posP l (printOf s) : Int) true false) (l, printOf s, true) := by
      refine Ev_succ.mpr ?_
      simp only [spec_PutText.j3, if_true, Option.bind_some, List.nil_append, List.length_nil]
      rw [Ev_neg (by simp), Ev_pos (by omega)]
      exact Ev_some.mpr rfl
    have hj3b : Ev (fun k => spec_PutText.j3 k l s (printOf s) (posP l (printOf s) : Int) false false) (insP l ⟨printOf s, s⟩, printOf s, true) := by
      refine Ev_succ.mpr ?_
      simp only [spec_PutText.j3, Option.bind_some, List.nil_append, List.length_nil, Int.toNat_natCast]
      rw [Ev_neg (by simp), Ev_neg (by simp), Ev_pos (by omega), Ev_pos (by omega), Ev_pos (by simp; omega), Ev_pos (by simp; omega), Ev_pos (by simp; omega)]
      exact Ev_some.mpr rfl
    have hj2 : ∀ b : Bool, (b = true ↔ hasP l (printOf s)) → Ev (fun k => spec_PutText.j2 k l s (printOf s) (posP l (printOf s) : Int) b)
        (if textValid s = true then (open Classical in if hasP l (printOf s) then (if (l.getD (posP l (printOf s)) z65).f1 = s then (l, printOf s, true) else (l, -1, false)) else if l.length = 40 then (l, -1, false) else (insP l ⟨printOf s, s⟩, printOf s, true)) else (l, -1, false)) := by
      intro b hb
      refine Ev_succ.mpr ?_
      simp only [spec_PutText.j2, rdPiece]
      rw [Ev_ite]
      by_cases ht : textValid s = true
      · have := printOf_in ht
        rw [if_neg (by omega), if_pos ht, Ev_ite]
        by_cases hb1 : b = true
        · have hq := hb.1 hb1
          rw [if_pos hb1, if_pos hq, Ev_pos (by omega), Ev_pos (by have := hq.1; omega), Ev_ite]
          by_cases he : (l.getD (posP l (printOf s)) z65).f1 = s
          · rw [if_pos (by rw [he]), if_pos he, hb1]
            exact hj3a
          · rw [if_neg (fun g => he (toList_iff.1 g)), if_neg he]
            exact hj3t b
        · rw [if_neg hb1, if_neg (fun g => hb1 (hb.2 g))]
          have hbf : b = false := by simpa using hb1
          by_cases h40 : l.length = 40
          · rw [if_pos h40, show ((l.length : Int) == 40) = true by simp; omega]
            exact hj3t b
          · rw [if_neg h40, show ((l.length : Int) == 40) = false by simp; omega, hbf]
            exact hj3b
      · rw [printOf_not ht] at *
        rw [if_pos (by omega), if_neg ht]
        exact hj3t b
    have hj1 : Ev (fun k => spec_PutText.j1 k l s (printOf s) (posP l (printOf s) : Int))
        (if textValid s = true then (open Classical in if hasP l (printOf s) then (if (l.getD (posP l (printOf s)) z65).f1 = s then (l, printOf s, true) else (l, -1, false)) else if l.length = 40 then (l, -1, false) else (insP l ⟨printOf s, s⟩, printOf s, true)) else (l, -1, false)) := by
      refine Ev_succ.mpr ?_
      simp only [spec_PutText.j1, rdPiece]
      rw [Ev_ite]
      by_cases hlt : posP l (printOf s) < l.length
      · rw [if_pos (by omega), Ev_pos (by omega)]
        refine hj2 _ ?_
        rw [beq_iff_eq]
        exact ⟨fun g => ⟨hlt, g⟩, fun g => g.2⟩
      · rw [if_neg (by omega)]
        exact hj2 _ ⟨fun g => by simp at g, fun g => absurd g.1 hlt⟩
    have key : ∀ d i, i + d = posP l (printOf s) → Ev (fun k => spec_PutText.l0 k l s (printOf s) (i : Int))
        (if textValid s = true then (open Classical in if hasP l (printOf s) then (if (l.getD (posP l (printOf s)) z65).f1 = s then (l, printOf s, true) else (l, -1, false)) else if l.length = 40 then (l, -1, false) else (insP l ⟨printOf s, s⟩, printOf s, true)) else (l, -1, false)) := by
      intro d
      induction d with
      | zero =>
        intro i hi
        obtain rfl : i = posP l (printOf s) := by omega
        refine Ev_succ.mpr ?_
        simp only [spec_PutText.l0, rdPiece]
        rw [Ev_ite]
        by_cases hlt : posP l (printOf s) < l.length
        · have := g2 hlt
          rw [if_pos (by omega), Ev_pos (by omega), Ev_neg (by omega)]
          exact hj1
        · rw [if_neg (by omega)]
          exact hj1
      | succ d ih =>
        intro i hi
        refine Ev_succ.mpr ?_
        have := g1 i (by omega)
        simp only [spec_PutText.l0, rdPiece, w64s i (by omega)]
        rw [Ev_pos (by omega), Ev_pos (by omega), Ev_pos this]
        exact ih (i + 1) (by omega)
    exact key (posP l (printOf s)) 0 (by omega)
  · rw [if_neg h, if_neg h]
    exact Ev_some.mpr rfl
theorem insP_mem {l : List S65} {v x : S65} : x ∈ insP l v ↔ x = v ∨ x ∈ l := by
  unfold insP
  have e : x ∈ l ↔ x ∈ l.take (posP l v.f0) ∨ x ∈ l.drop (posP l v.f0) := by
    rw [← List.mem_append, List.take_append_drop]
  rw [List.mem_append, List.mem_append, List.mem_singleton, e]
  constructor
  · rintro ((h | h) | h)
    · exact Or.inr (Or.inl h)
    · exact Or.inl h
    · exact Or.inr (Or.inr h)
  · rintro (h | h | h)
    · exact Or.inl (Or.inr h)
    · exact Or.inl (Or.inl h)
    · exact Or.inr h
theorem insP_len (l : List S65) (v : S65) : (insP l v).length = l.length + 1 := by
  unfold insP
  have := posP_le l v.f0
  simp
  omega
theorem insP_valid {l : List S65} {s : ByteArray} (h : storeValid l = true) (ht : textValid s = true) (hn : ¬ hasP l (printOf s)) (h40 : l.length ≠ 40) : storeValid (insP l ⟨printOf s, s⟩) = true := by
  obtain ⟨h1, h2, h3⟩ := storeValid_iff.1 h
  obtain ⟨g1, g2⟩ := posP_spec l (printOf s)
  have g0 := posP_le l (printOf s)
  refine storeValid_iff.2 ⟨by rw [insP_len]; omega, fun v hv => ?_, ?_⟩
  · rcases insP_mem.1 hv with rfl | hv
    · exact ⟨ht, rfl⟩
    · exact h2 v hv
  · unfold insP
    rw [List.append_assoc, List.pairwise_append]
    have hdrop : ∀ b ∈ l.drop (posP l (printOf s)), printOf s < b.f0 := by
      intro b hb
      obtain ⟨i, hi, rfl⟩ := List.getElem_of_mem hb
      rw [List.length_drop] at hi
      rw [List.getElem_drop, ← pieceAt l _ (by omega)]
      have h5 := g2 (by omega)
      have h6 : (l.getD (posP l (printOf s)) z65).f0 ≠ printOf s := fun e => hn ⟨by omega, e⟩
      by_cases hi0 : i = 0
      · subst hi0
        rw [Nat.add_zero]
        omega
      · have := store_less h (posP l (printOf s)) (posP l (printOf s) + i) (by omega) (by omega)
        omega
    refine ⟨h3.sublist (List.take_sublist _ _), ?_, ?_⟩
    · rw [List.singleton_append, List.pairwise_cons]
      exact ⟨hdrop, h3.sublist (List.drop_sublist _ _)⟩
    · intro a ha b hb
      have ha' : a.f0 < printOf s := by
        obtain ⟨i, hi, rfl⟩ := List.getElem_of_mem ha
        rw [List.length_take] at hi
        have hi2 : i < posP l (printOf s) := Nat.lt_of_lt_of_le hi (Nat.min_le_left _ _)
        have h7 := g1 i hi2
        rw [List.getElem_take]
        rw [pieceAt l i (by omega)] at h7
        exact h7
      rw [List.singleton_append, List.mem_cons] at hb
      rcases hb with rfl | hb
      · exact ha'
      · have := hdrop b hb
        omega
theorem putT_again {l : List S65} {s : ByteArray} (h : storeValid l = true) (ht : textValid s = true) (hm : (⟨printOf s, s⟩ : S65) ∈ l) : putT l s = (l, printOf s, true) := by
  have hp : hasP l (printOf s) := (hasP_iff h _).2 ⟨_, hm, rfl⟩
  have e : l.getD (posP l (printOf s)) z65 = ⟨printOf s, s⟩ := store_once h (by rw [pieceAt l _ hp.1]; exact List.getElem_mem _) hm hp.2
  unfold putT
  rw [if_pos h, if_pos ht, if_pos hp, e, if_pos rfl]
theorem putT_ok {l : List S65} {s : ByteArray} (h : (putT l s).2.2 = true) : storeValid l = true ∧ textValid s = true ∧ storeValid (putT l s).1 = true ∧ (⟨printOf s, s⟩ : S65) ∈ (putT l s).1 ∧ (∀ v ∈ l, v ∈ (putT l s).1) ∧ (putT l s).1.length ≤ l.length + 1 ∧ (putT l s).2.1 = printOf s ∧ (∀ v ∈ (putT l s).1, v ∈ l ∨ v = ⟨printOf s, s⟩) := by
  unfold putT at h ⊢
  by_cases h1 : storeValid l = true
  case neg => rw [if_neg h1] at h; simp at h
  by_cases h2 : textValid s = true
  case neg => rw [if_pos h1, if_neg h2] at h; simp at h
  by_cases h3 : hasP l (printOf s)
  · by_cases h4 : (l.getD (posP l (printOf s)) z65).f1 = s
    · rw [if_pos h1, if_pos h2, if_pos h3, if_pos h4]
      refine ⟨h1, h2, h1, ?_, fun v hv => hv, by dsimp only; omega, rfl, fun v hv => Or.inl hv⟩
      have e : l.getD (posP l (printOf s)) z65 = ⟨printOf s, s⟩ := by
        have h5 := h3.2
        generalize l.getD (posP l (printOf s)) z65 = v at h4 h5
        cases v
        simp_all
      rw [← e, pieceAt l _ h3.1]
      exact List.getElem_mem _
    · rw [if_pos h1, if_pos h2, if_pos h3, if_neg h4] at h; simp at h
  · by_cases h4 : l.length = 40
    · rw [if_pos h1, if_pos h2, if_neg h3, if_pos h4] at h; simp at h
    · rw [if_pos h1, if_pos h2, if_neg h3, if_neg h4]
      exact ⟨h1, h2, insP_valid h1 h2 h3 h4, insP_mem.2 (Or.inl rfl), fun v hv => insP_mem.2 (Or.inr hv), by rw [insP_len]; exact Nat.le_refl _, rfl, fun v hv => (insP_mem.1 hv).symm⟩
theorem putT_valid (l : List S65) (s : ByteArray) : storeValid (putT l s).1 = true := by
  by_cases h : (putT l s).2.2 = true
  · exact (putT_ok h).2.2.1
  · unfold putT at h ⊢
    by_cases h1 : storeValid l = true
    · rw [if_pos h1] at h ⊢
      by_cases h2 : textValid s = true
      · rw [if_pos h2] at h ⊢
        by_cases h3 : hasP l (printOf s)
        · rw [if_pos h3]
          split <;> exact h1
        · rw [if_neg h3] at h ⊢
          by_cases h4 : l.length = 40
          · rw [if_pos h4]; exact h1
          · rw [if_neg h4] at h
            simp at h
      · rw [if_neg h2]; exact h1
    · rw [if_neg h1]; decide
noncomputable def getT (l : List S65) (t : Int) : ByteArray × Bool := open Classical in if storeValid l = true ∧ hasP l t then ((l.getD (posP l t) z65).f1, true) else (⟨#[]⟩, false)
theorem impl_get_ev (l : List S65) (t : Int) (hl : StoreSized l) : Ev (fun k => impl_GetText.f k l t) (getT l t) := by
  unfold impl_GetText.f impl_textOf.f getT
  rw [Ev_bd (impl_store_ev l hl), Ev_ite]
  by_cases h : storeValid l = true
  · rw [if_pos h]
    obtain ⟨r, b, hr, h1, h2, h3, h4⟩ := findPiece_p h t
    have hp : r = posP l t := posP_uniq h1 h2 (fun hlt => h3 r (Nat.le_refl _) hlt)
    have hb : b = true ↔ hasP l t := by unfold hasP; rw [← hp]; exact h4
    by_cases hb1 : b = true
    · have hlt : r < l.length := (h4.1 hb1).1
      refine (Ev_bd (a := ((l.getD r z65).f1, true)) ?_).mpr ?_
      · rw [Ev_bd hr, Ev_pos hb1, Ev_pos (by omega), Ev_pos (by omega), rdPiece]
        exact Ev_some.mpr rfl
      · rw [if_pos ⟨h, hb.1 hb1⟩, ← hp]
        exact Ev_some.mpr rfl
    · refine (Ev_bd (a := ((⟨#[]⟩ : ByteArray), false)) ?_).mpr ?_
      · rw [Ev_bd hr, Ev_neg hb1]
        exact Ev_some.mpr rfl
      · rw [if_neg (fun g => hb1 (hb.2 g.2))]
        exact Ev_some.mpr rfl
  · rw [if_neg h, if_neg (fun g => h g.1)]
    exact Ev_some.mpr rfl
theorem getT_mem {l : List S65} {v : S65} (h : storeValid l = true) (hm : v ∈ l) : getT l v.f0 = (v.f1, true) := by
  have hp : hasP l v.f0 := (hasP_iff h _).2 ⟨v, hm, rfl⟩
  have e : l.getD (posP l v.f0) z65 = v := store_once h (by rw [pieceAt l _ hp.1]; exact List.getElem_mem _) hm hp.2
  unfold getT
  rw [if_pos ⟨h, hp⟩, e]
end Go.Proofs.Ytcbmkonigclceaa.Mod
