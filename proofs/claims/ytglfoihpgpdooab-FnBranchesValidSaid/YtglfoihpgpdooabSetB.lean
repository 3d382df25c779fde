/- What the reference's SetBranch comes to, and the draws of branches. -/
import Derived.Test.YtglfoihpgpdooabPx0
import Derived.Test.YtglfoihpgpdooabPx1
import Derived.Test.YtglfoihpgpdooabPx2
import Derived.Test.YtglfoihpgpdooabPx3
import Derived.Test.YtglfoihpgpdooabBranchAt
import Derived.Test.YtglfoihpgpdooabDrawW
namespace Go.Proofs.Ytglfoihpgpdooab.Mod
open Go.RowKit Go.Proofs.Ytglfoihpgpdooab.P Go.Proofs.Ytglfoihpgpdooab.EvK Go.Proofs.YtglfoihpgpdooabW.PrintWords Go.Proofs.YtglfoihpgpdooabW.PrintLast
set_option linter.unusedVariables false
set_option linter.unusedSimpArgs false
/-- The first place whose text is not less. -/
def posB (l : List S35) (t : ByteArray) : Nat := (l.takeWhile (fun b => lessS b.f0 t)).length
theorem posB_le (l : List S35) (t : ByteArray) : posB l t ≤ l.length := by
  unfold posB
  exact (List.takeWhile_sublist _).length_le
open Classical in
noncomputable def putB (l : List S35) (b : S35) : List S35 :=
  l.take (posB l b.f0) ++ [b] ++ (if posB l b.f0 < l.length ∧ (l.getD (posB l b.f0) z35).f0 = b.f0 then l.drop (posB l b.f0 + 1) else l.drop (posB l b.f0))
noncomputable def setB (l : List S35) (many : Int) (b : S35) : List S35 × Bool :=
  if branchesValid l many = true then (if branchesValid (putB l b) many = true then (putB l b, true) else (l, false)) else ([], false)
theorem putB_mem {l : List S35} {b v : S35} (h : v ∈ putB l b) : v ∈ l ∨ v = b := by
  unfold putB at h
  rcases List.mem_append.1 h with h | h
  · rcases List.mem_append.1 h with h | h
    · exact Or.inl (List.mem_of_mem_take h)
    · exact Or.inr (List.mem_singleton.1 h)
  · split at h <;> exact Or.inl (List.mem_of_mem_drop h)
theorem putB_len (l : List S35) (b : S35) : (putB l b).length ≤ l.length + 1 := by
  unfold putB
  have := posB_le l b.f0
  split <;> simp <;> omega
theorem putB_sized {l : List S35} {b : S35} (h : BranSized l) (hl : l.length ≤ 1048576) (hb : b.f0.size ≤ 9223372036854775807) : BranSized (putB l b) := by
  refine ⟨by have := putB_len l b; omega, fun v hv => ?_⟩
  rcases putB_mem hv with hv | rfl
  · exact h.2 v hv
  · exact hb
theorem posB_spec (l : List S35) (t : ByteArray) : (∀ j, j < posB l t → lessS (l.getD j z35).f0 t = true) ∧ (posB l t < l.length → lessS (l.getD (posB l t) z35).f0 t = false) := by
  unfold posB
  induction l with
  | nil => exact ⟨fun j hj => by simp at hj, fun h => by simp at h⟩
  | cons a l ih =>
    rw [List.takeWhile_cons]
    by_cases h : lessS a.f0 t = true
    · rw [if_pos h]
      refine ⟨fun j hj => ?_, fun hj => ?_⟩
      · cases j with
        | zero => simpa using h
        | succ j => simpa using ih.1 j (by simpa using hj)
      · simpa using ih.2 (by simpa using hj)
    · rw [if_neg h]
      exact ⟨fun j hj => by simp at hj, fun _ => by simpa using h⟩
theorem posB_uniq {l : List S35} {t : ByteArray} {r : Nat} (h0 : r ≤ l.length) (h1 : ∀ j, j < r → lessS (l.getD j z35).f0 t = true) (h2 : r < l.length → lessS (l.getD r z35).f0 t = false) : r = posB l t := by
  obtain ⟨g1, g2⟩ := posB_spec l t
  have g0 := posB_le l t
  rcases Nat.lt_trichotomy r (posB l t) with q | q | q
  · have := g1 r q
    rw [h2 (by omega)] at this
    simp at this
  · exact q
  · have := h1 _ q
    rw [g2 (by omega)] at this
    simp at this
theorem spec_setB_ev (l : List S35) (many : Int) (s : ByteArray) (n : Int) (hl : BranSized l) (hn : l.length ≤ 1048576) (hs : s.size ≤ 9223372036854775807) : Ev (fun k => spec_SetBranch.f k l many s n) (setB l many ⟨s, n⟩) := by
  unfold spec_SetBranch.f setB
  rw [Ev_bd (spec_bran_ev l many hl), Ev_ite]
  by_cases h : branchesValid l many = true
  · rw [if_pos h, if_pos h]
    obtain ⟨g1, g2⟩ := posB_spec l s
    have g0 := posB_le l s
    have hz := putB_sized (b := ⟨s, n⟩) hl hn hs
    have hj3 : ∀ rest, rest = (if posB l s < l.length ∧ (l.getD (posB l s) z35).f0 = s then l.drop (posB l s + 1) else l.drop (posB l s)) → Ev (fun k => spec_SetBranch.j3 k l many (posB l s : Int) rest s n) (if branchesValid (putB l ⟨s, n⟩) many = true then (putB l ⟨s, n⟩, true) else (l, false)) := by
      intro rest hr
      refine Ev_succ.mpr ?_
      have hrl : rest.length ≤ l.length := by rw [hr]; split <;> simp
      simp only [spec_SetBranch.j3, Option.bind_some, List.nil_append, List.length_nil, Int.toNat_natCast]
      have e : l.take (posB l s) ++ [⟨s, n⟩] ++ rest = putB l ⟨s, n⟩ := by unfold putB; rw [hr]
      rw [Ev_pos (by omega), Ev_pos (by omega), Ev_pos (by simp; omega), Ev_pos (by simp; omega), Ev_pos (by simp; omega), e, Ev_bd (spec_bran_ev _ many hz), Ev_ite]
      by_cases h2 : branchesValid (putB l ⟨s, n⟩) many = true
      · rw [if_pos h2, if_pos h2]
        exact Ev_some.mpr rfl
      · rw [if_neg h2, if_neg h2, Ev_pos (by omega)]
        exact Ev_some.mpr rfl
    have hj2 : ∀ b : Bool, (b = true ↔ posB l s < l.length ∧ (l.getD (posB l s) z35).f0 = s) → Ev (fun k => spec_SetBranch.j2 k l many (posB l s : Int) (l.drop (posB l s)) b s n) (if branchesValid (putB l ⟨s, n⟩) many = true then (putB l ⟨s, n⟩, true) else (l, false)) := by
      intro b hb
      refine Ev_succ.mpr ?_
      simp only [spec_SetBranch.j2]
      rw [Ev_ite]
      by_cases h2 : b = true
      · have hc := hb.1 h2
        rw [if_pos h2, w64s _ (by omega), Ev_pos (by omega), Ev_pos (by omega)]
        exact hj3 _ (by rw [if_pos hc, Int.toNat_natCast])
      · rw [if_neg h2]
        exact hj3 _ (by rw [if_neg (fun g => h2 (hb.2 g))])
    have hj1 : Ev (fun k => spec_SetBranch.j1 k l many (posB l s : Int) s n) (if branchesValid (putB l ⟨s, n⟩) many = true then (putB l ⟨s, n⟩, true) else (l, false)) := by
      refine Ev_succ.mpr ?_
      simp only [spec_SetBranch.j1, Option.bind_some, Int.toNat_natCast, rdBranch]
      rw [Ev_pos (by omega), Ev_pos (by omega), Ev_ite]
      by_cases h2 : posB l s < l.length
      · rw [if_pos (by omega)]
        refine hj2 _ ?_
        rw [beq_iff_eq, toList_iff]
        exact ⟨fun g => ⟨h2, g⟩, fun g => g.2⟩
      · rw [if_neg (by omega)]
        exact hj2 _ ⟨fun g => by simp at g, fun g => absurd g.1 h2⟩
    have key : ∀ d i, i + d = posB l s → Ev (fun k => spec_SetBranch.l0 k l many (i : Int) s n) (if branchesValid (putB l ⟨s, n⟩) many = true then (putB l ⟨s, n⟩, true) else (l, false)) := by
      intro d
      induction d with
      | zero =>
        intro i hi
        obtain rfl : i = posB l s := by omega
        refine Ev_succ.mpr ?_
        simp only [spec_SetBranch.l0, rdBranch]
        rw [Ev_ite]
        by_cases h2 : posB l s < l.length
        · have := g2 h2
          unfold lessS at this
          rw [if_pos (by omega), Ev_pos (by omega), Ev_neg (by rw [this]; simp)]
          exact hj1
        · rw [if_neg (by omega)]
          exact hj1
      | succ d ih =>
        intro i hi
        refine Ev_succ.mpr ?_
        have := g1 i (by omega)
        unfold lessS at this
        simp only [spec_SetBranch.l0, rdBranch, w64s i (by omega)]
        rw [Ev_pos (by omega), Ev_pos (by omega), Ev_pos this]
        exact ih (i + 1) (by omega)
    exact key (posB l s) 0 (by omega)
  · rw [if_neg h, if_neg h]
    exact Ev_some.mpr rfl
theorem branchesValid_nil {many : Int} (h : 0 ≤ many ∧ many ≤ 12) : branchesValid [] many = true := by
  unfold branchesValid
  rw [inB_iff.2 h]
  rfl
theorem setB_valid {l : List S35} {many : Int} (h : branchesValid l many = true) (b : S35) : branchesValid (setB l many b).1 many = true := by
  unfold setB
  rw [if_pos h]
  by_cases h2 : branchesValid (putB l b) many = true
  · rw [if_pos h2]; exact h2
  · rw [if_neg h2]; exact h
theorem setB_nil {l : List S35} {many : Int} (h : ¬ branchesValid l many = true) (b : S35) : setB l many b = ([], false) := by
  unfold setB
  rw [if_neg h]
/-- Branches as the draws give them. -/
structure DrawnB (l : List S35) : Prop where
  len : l.length ≤ 7
  siz : ∀ v ∈ l, v.f0.size ≤ 9
theorem DrawnB.sized {l : List S35} (h : DrawnB l) : BranSized l := ⟨by have := h.len; omega, fun v hv => by have := h.siz v hv; omega⟩
theorem drawnB_nil : DrawnB [] := ⟨by simp, fun v hv => by simp at hv⟩
theorem drawnB_setB {l : List S35} {many : Int} (b : S35) : (setB l many b).1.length ≤ 6 ∧ ∀ v ∈ (setB l many b).1, v.f0.size ≤ 9 := by
  by_cases h : branchesValid l many = true
  · have hv := setB_valid h b
    exact ⟨branchesValid_len hv, fun v g => by have := branchesValid_word hv v g; omega⟩
  · rw [setB_nil h]
    exact ⟨by simp, fun v g => by simp at g⟩
theorem many_p {b : List Int} {p : Int} (h : RdOk b p) (hp : p + 3 ≤ 1000000) : EvP (fun k => spec_l20Many.f k b p) (fun r => -1 ≤ r.1 ∧ r.1 ≤ 13 ∧ r.2 = p + 2) := by
  unfold spec_l20Many.f
  refine EvP_bp (pick_p h 8 (by omega)) ?_
  rintro ⟨v, q⟩ ⟨rfl, r1, -⟩
  have r1 := r1 (by omega)
  dsimp only at r1 ⊢
  simp only [Option.bind_some]
  refine EvP_bp (pick_p (h.to (q := p + 1) (by omega) (by omega)) 9 (by omega)) ?_
  rintro ⟨u, q2⟩ ⟨rfl, r2, -⟩
  have r2 := r2 (by omega)
  dsimp only at r2 ⊢
  rw [w64 (x := 1 + v) (by omega) (by omega)]
  have : u = 0 ∨ u = 1 ∨ u = 2 ∨ u = 3 ∨ u = 4 ∨ u = 5 ∨ u = 6 ∨ u = 7 ∨ u = 8 := by omega
  rcases this with rfl | rfl | rfl | rfl | rfl | rfl | rfl | rfl | rfl <;> exact EvP_some.mpr ⟨by simp [rd] <;> omega, by simp [rd] <;> omega, by dsimp only; omega⟩
theorem branches_p {b : List Int} {p : Int} (h : RdOk b p) (hp : p + 100 ≤ 1000000) (many : Int) (hm : many ≤ 13) (n : Int) (hn : n ≤ 1000000) : EvP (fun k => spec_l20Branches.f k b p many n) (fun r => DrawnB r.1 ∧ p ≤ r.2 ∧ r.2 ≤ p + 100) := by
  have hj1f : ∀ (x8 : Int) (l : List S35) (q : Int), (l.length ≤ 6 ∧ ∀ v ∈ l, v.f0.size ≤ 9) → p ≤ q → q + 3 ≤ p + 100 → EvP (fun k => spec_l20Branches.j1 k many n l x8 false b q) (fun r => DrawnB r.1 ∧ p ≤ r.2 ∧ r.2 ≤ p + 100) := by
    intro x8 l q hl h1 h2
    refine EvP_succ.mpr ?_
    simp only [spec_l20Branches.j1]
    rw [EvP_neg (by simp)]
    refine EvP_bp (odd_p (h.to h1 (by omega)) n hn) ?_
    rintro ⟨o, q1⟩ ⟨g1, g2⟩
    dsimp only at g1 g2 ⊢
    rw [EvP_ite]
    split
    · simp only [Option.bind_some]
      refine EvP_bp (pick_p (h.to (q := q1) (by omega) (by omega)) 4 (by omega)) ?_
      rintro ⟨v, q2⟩ ⟨rfl, r1, -⟩
      have r1 := r1 (by omega)
      dsimp only at r1 ⊢
      rw [EvP_pos r1.1, EvP_pos (by simpa using r1.2), EvP_pos (by omega)]
      refine EvP_some.mpr ⟨⟨by simp; omega, fun x hx => ?_⟩, by dsimp only; omega, by dsimp only; omega⟩
      rcases List.mem_append.1 hx with hx | hx
      · exact hl.2 x hx
      · have : v = 0 ∨ v = 1 ∨ v = 2 ∨ v = 3 := by omega
        rw [List.mem_singleton.1 hx]
        rcases this with rfl | rfl | rfl | rfl <;> exact Nat.le_of_ble_eq_true rfl
    · exact EvP_some.mpr ⟨⟨by dsimp only; omega, hl.2⟩, by dsimp only; omega, by dsimp only; omega⟩
  have loop : ∀ (d : Nat) (l : List S35) (q : Int), (l.length ≤ 6 ∧ ∀ v ∈ l, v.f0.size ≤ 9) → p ≤ q → q + 4 * d + 4 ≤ p + 100 → EvP (fun k => spec_l20Branches.l0 k many n l (d : Int) b q) (fun r => DrawnB r.1 ∧ p ≤ r.2 ∧ r.2 ≤ p + 100) := by
    intro d
    induction d with
    | zero =>
      intro l q hl h1 h2
      refine EvP_succ.mpr ?_
      simp only [spec_l20Branches.l0]
      rw [EvP_neg (by omega)]
      exact hj1f _ l q hl h1 (by omega)
    | succ d ih =>
      intro l q hl h1 h2
      refine EvP_succ.mpr ?_
      simp only [spec_l20Branches.l0]
      rw [EvP_pos (by omega)]
      by_cases hm0 : many > 0
      · rw [decide_eq_true hm0]
        refine EvP_succ.mpr ?_
        simp only [spec_l20Branches.j1, if_true]
        refine EvP_bp (word_p (h.to (q := q) (by omega) (by omega)) (by omega) 0 (by omega)) ?_
        rintro ⟨s, q3⟩ ⟨hs, g3, g4⟩
        dsimp only at hs g3 g4 ⊢
        refine EvP_bp (pick_p (h.to (q := q3) (by omega) (by omega)) many (by omega)) ?_
        rintro ⟨v, q2⟩ ⟨rfl, -, -⟩
        dsimp only
        rw [EvP_bd (spec_setB_ev l many s v ⟨by omega, fun v hv => by have := hl.2 v hv; omega⟩ (by omega) (by omega))]
        rw [w64 (x := ((d + 1 : Nat) : Int) - 1) (by omega) (by omega), show ((d + 1 : Nat) : Int) - 1 = (d : Int) by omega]
        exact ih _ _ (drawnB_setB _) (by omega) (by omega)
      · rw [decide_eq_false hm0]
        exact hj1f _ l q hl h1 (by omega)
  unfold spec_l20Branches.f
  refine EvP_bp (pick_p h 6 (by omega)) ?_
  rintro ⟨v, q⟩ ⟨rfl, r1, -⟩
  have r1 := r1 (by omega)
  dsimp only at r1 ⊢
  obtain ⟨d, rfl⟩ := Int.eq_ofNat_of_zero_le r1.1
  exact loop d [] (p + 1) ⟨by simp, fun v hv => by simp at hv⟩ (by omega) (by omega)
end Go.Proofs.Ytglfoihpgpdooab.Mod
