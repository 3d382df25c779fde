/- What the draws of versions come to: they end, and the versions are few. -/
import Derived.Test.YtbjfbmoeboagaaaPx0
import Derived.Test.YtbjfbmoeboagaaaPx6
import Derived.Test.YtbjfbmoeboagaaaPx9
import Derived.Test.YtbjfbmoeboagaaaVers
import Derived.Test.YtbjfbmoeboagaaaVersMore
import Derived.Test.YtbjfbmoeboagaaaDrawW
import Derived.Test.YtbjfbmoeboagaaaPick
namespace Go.Proofs.Ytbjfbmoeboagaaa.Mod
open Go.RowKit Go.Proofs.Ytbjfbmoeboagaaa.P Go.Proofs.Ytbjfbmoeboagaaa.EvK Go.Proofs.YtbjfbmoeboagaaaW.PrintWords Go.Proofs.YtbjfbmoeboagaaaW.PrintLast
set_option linter.unusedVariables false
set_option linter.unusedSimpArgs false
/-- What AddVersion answers. -/
def addV (l : List S25) (v : S25) : List S25 × Bool :=
  if versionsValid l = true then (if versionsValid (l ++ [v]) = true then (l ++ [v], true) else (l, false)) else ([], false)
theorem addV_valid (l : List S25) (v : S25) : versionsValid (addV l v).1 = true := by
  unfold addV
  by_cases h : versionsValid l = true
  · rw [if_pos h]
    by_cases h2 : versionsValid (l ++ [v]) = true
    · rw [if_pos h2]; exact h2
    · rw [if_neg h2]; exact h
  · rw [if_neg h]
    decide
theorem sized_snoc {l : List S25} (h : VersSized l) (hl : l.length ≤ 1000) (v : S25) (hv : v.f2.size ≤ 9223372036854775807) : VersSized (l ++ [v]) := by
  refine ⟨by simp; omega, fun x hx => ?_⟩
  rcases List.mem_append.1 hx with hx | hx
  · exact h.2 x hx
  · rw [List.mem_singleton.1 hx]; exact hv
theorem spec_addV_ev (l : List S25) (hl : VersSized l) (hn : l.length ≤ 1048576) (a b : Int) (s : ByteArray) (hs : s.size ≤ 9223372036854775807) : Ev (fun k => spec_AddVersion.f k l a b s) (addV l ⟨a, b, s⟩) := by
  unfold spec_AddVersion.f addV
  rw [Ev_bd (spec_vers_ev l hl), Ev_ite]
  by_cases h : versionsValid l = true
  · rw [if_pos h, if_pos h]
    have hlen := versionsValid_len h
    simp only [Option.bind_some, List.nil_append, List.length_nil, List.length_cons]
    rw [Ev_pos (by omega), Ev_pos (by omega), Ev_bd (spec_vers_ev _ (sized_snoc hl (by omega) _ hs)), Ev_ite]
    by_cases h2 : versionsValid (l ++ [⟨a, b, s⟩]) = true
    · rw [if_pos h2, if_pos h2]
      exact Ev_some.mpr rfl
    · rw [if_neg h2, if_neg h2, Ev_pos (by omega)]
      exact Ev_some.mpr rfl
  · rw [if_neg h, if_neg h]
    exact Ev_some.mpr rfl
/-- Versions as the draws give them. -/
structure DrawnV (l : List S25) : Prop where
  len : l.length ≤ 14
  siz : ∀ v ∈ l, v.f2.size ≤ 9
theorem DrawnV.sized {l : List S25} (h : DrawnV l) : VersSized l := ⟨by have := h.len; omega, fun v hv => by have := h.siz v hv; omega⟩
theorem drawn_valid {l : List S25} (h : versionsValid l = true) : DrawnV l := by
  refine ⟨by have := versionsValid_len h; omega, fun v hv => ?_⟩
  obtain ⟨i, hi, rfl⟩ := List.getElem_of_mem hv
  have := versionsValid_at h hi
  rw [List.getD_eq_getElem?_getD, List.getElem?_eq_getElem hi] at this
  unfold versOk at this
  simp only [Option.getD_some, Bool.and_eq_true] at this
  have := wordValid_size this.2
  omega
theorem versions_p {b : List Int} {p : Int} (h : RdOk b p) (hp : p + 200 ≤ 1000000) (n : Int) (hn : n ≤ 1000000) : EvP (fun k => spec_l20Versions.f k b p n) (fun r => DrawnV r.1 ∧ p ≤ r.2 ∧ r.2 ≤ p + 200) := by
  have loop : ∀ (d : Nat) (l : List S25) (q : Int), versionsValid l = true → p ≤ q → q + 7 * d + 3 ≤ p + 200 → EvP (fun k => spec_l20Versions.l0 k n l (d : Int) b q) (fun r => DrawnV r.1 ∧ p ≤ r.2 ∧ r.2 ≤ p + 200) := by
    intro d
    induction d with
    | zero =>
      intro l q hv h1 h2
      have hlen := versionsValid_len hv
      refine EvP_succ.mpr ?_
      simp only [spec_l20Versions.l0]
      rw [EvP_neg (by omega)]
      refine EvP_bp (odd_p (h.to h1 (by omega)) n hn) ?_
      rintro ⟨o, q1⟩ ⟨g1, g2⟩
      dsimp only at g1 g2 ⊢
      rw [EvP_ite]
      split
      · simp only [Option.bind_some]
        refine EvP_bp (pick_p (h.to (q := q1) (by omega) (by omega)) 4 (by omega)) ?_
        rintro ⟨v, q2⟩ ⟨rfl, r1, -⟩
        have r1 := r1 (by omega)
        dsimp only at r1 ⊢
        rw [EvP_pos r1.1, EvP_pos (by simpa using r1.2)]
        simp only [Option.bind_some, List.length_cons, List.length_nil]
        rw [EvP_pos (by omega)]
        refine EvP_some.mpr ⟨⟨by simp; omega, fun x hx => ?_⟩, by dsimp only; omega, by dsimp only; omega⟩
        rcases List.mem_append.1 hx with hx | hx
        · exact (drawn_valid hv).siz x hx
        · have : v = 0 ∨ v = 1 ∨ v = 2 ∨ v = 3 := by omega
          rcases this with rfl | rfl | rfl | rfl <;> (simp only [List.mem_cons, List.not_mem_nil, or_false] at hx; rcases hx with rfl | rfl <;> exact Nat.le_of_ble_eq_true rfl)
      · exact EvP_some.mpr ⟨drawn_valid hv, by dsimp only; omega, by dsimp only; omega⟩
    | succ d ih =>
      intro l q hv h1 h2
      have hlen := versionsValid_len hv
      refine EvP_succ.mpr ?_
      simp only [spec_l20Versions.l0]
      rw [EvP_pos (by omega)]
      refine EvP_bp (print_p (h.to h1 (by omega)) (by omega) 0 (by omega)) ?_
      rintro ⟨a, q1⟩ ⟨g1, g2⟩
      dsimp only at g1 g2 ⊢
      refine EvP_bp (pick_p (h.to (q := q1) (by omega) (by omega)) _ (by rw [w64 (by omega) (by omega)]; omega)) ?_
      rintro ⟨v, q2⟩ ⟨rfl, -, -⟩
      dsimp only
      refine EvP_bp (word_p (h.to (q := q1 + 1) (by omega) (by omega)) (by omega) 0 (by omega)) ?_
      rintro ⟨s, q3⟩ ⟨hs, g3, g4⟩
      dsimp only at hs g3 g4 ⊢
      rw [EvP_bd (spec_addV_ev l (versionsValid_sized hv) (by omega) _ _ s (by omega))]
      rw [w64 (x := ((d + 1 : Nat) : Int) - 1) (by omega) (by omega), show ((d + 1 : Nat) : Int) - 1 = (d : Int) by omega]
      exact ih _ _ (addV_valid _ _) (by omega) (by omega)
  unfold spec_l20Versions.f
  refine EvP_bp (pick_p h 8 (by omega)) ?_
  rintro ⟨v, q⟩ ⟨rfl, r1, -⟩
  have r1 := r1 (by omega)
  dsimp only at r1 ⊢
  obtain ⟨d, rfl⟩ := Int.eq_ofNat_of_zero_le r1.1
  exact loop d [] (p + 1) (by decide) (by omega) (by omega)
end Go.Proofs.Ytbjfbmoeboagaaa.Mod
