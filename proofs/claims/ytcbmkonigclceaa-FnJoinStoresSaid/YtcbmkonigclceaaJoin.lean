/- Two stores joined: what both sides come to, and that the order does not matter. -/
import Derived.Test.YtcbmkonigclceaaPx0
import Derived.Test.YtcbmkonigclceaaPx1
import Derived.Test.YtcbmkonigclceaaPx2
import Derived.Test.YtcbmkonigclceaaPx10
import Derived.Test.YtcbmkonigclceaaDrawS
namespace Go.Proofs.Ytcbmkonigclceaa.Mod
open Go.RowKit Go.Proofs.Ytcbmkonigclceaa.P Go.Proofs.Ytcbmkonigclceaa.EvK Go.Proofs.YtcbmkonigclceaaW.PrintWords Go.Proofs.YtcbmkonigclceaaW.PrintLast
set_option linter.all false
def SortP (l : List S65) : Prop := l.Pairwise (fun a b => a.f0 < b.f0)
theorem sort_less {l : List S65} (h : SortP l) (i j : Nat) (hij : i < j) (hj : j < l.length) : (l.getD i z65).f0 < (l.getD j z65).f0 := by
 rw [pieceAt l i (by omega), pieceAt l j hj]
 exact (List.pairwise_iff_getElem.1 h) i j (by omega) hj hij
theorem findPiece_s {l : List S65} (h : SortP l) (hlen : l.length ≤ 1048576) (t : Int) :
  ∃ r : Nat, ∃ b : Bool, Ev (fun k => impl_findPiece.f k l t) ((r : Int), b) ∧ r ≤ l.length ∧ (∀ j, j < r → (l.getD j z65).f0 < t) ∧ (∀ j, r ≤ j → j < l.length → t ≤ (l.getD j z65).f0) ∧ (b = true ↔ r < l.length ∧ (l.getD r z65).f0 = t) := by
 obtain ⟨r, hr, h1, h2, h3⟩ := searchP_ev l z65 (fun x => decide (x.f0 < t)) (fun k i j => impl_findPiece.l0 k l t i j) (by omega)
  (fun i j hij hj hl => by
   have := sort_less h i j hij hj
   simp only [decide_eq_true_eq] at hl ⊢
   omega) (by
   intro i j hij hj r hr
   refine Ev_succ.mpr ?_
   simp only [impl_findPiece.l0]
   rw [Ev_pos (by omega), Ev_pos (by omega), Ev_pos (by omega), show ((i : Int) + (j : Int)) / 2 = (((i + j) / 2 : Nat) : Int) by omega, rdPiece, Ev_b0 (findPiece1_eq _ _ _), Ev_ite]
   by_cases hl : (l.getD ((i + j) / 2) z65).f0 < t
   ·rw [if_pos (by simpa using hl)] at hr
    rw [if_pos (by rw [if_pos hl]; omega)]
    exact hr
   ·rw [if_neg (by simpa using hl)] at hr
    rw [if_neg (by rw [if_neg hl]; split <;> omega)]
    exact hr) (by
   intro i
   refine Ev_succ.mpr ?_
   simp only [impl_findPiece.l0]
   rw [Ev_neg (by omega)]
   exact Ev_some.mpr rfl)
 have h2' : ∀ j, j < r → (l.getD j z65).f0 < t := fun j hj => by simpa using h2 j hj
 have h3' : ∀ j, r ≤ j → j < l.length → t ≤ (l.getD j z65).f0 := fun j hj hl => by simpa using h3 j hj hl
 by_cases hrl : r < l.length
 ·refine ⟨r, (if (l.getD r z65).f0 < t then (-1 : Int) else if (l.getD r z65).f0 > t then 1 else 0) == 0, ?_, h1, h2', h3', ?_⟩
  ·unfold impl_findPiece.f
   rw [Ev_bd hr, Ev_pos (by omega), Ev_pos (by omega), rdPiece, Ev_b0 (findPiece1_eq _ _ _)]
   exact Ev_some.mpr rfl
  ·rw [beq_iff_eq]
   constructor
   ·intro g
    refine ⟨hrl, ?_⟩
    by_cases q1 : (l.getD r z65).f0 < t
    ·rw [if_pos q1] at g; omega
    ·by_cases q2 : (l.getD r z65).f0 > t
     ·rw [if_neg q1, if_pos q2] at g; omega
     ·omega
   ·rintro ⟨-, g⟩
    rw [if_neg (by omega), if_neg (by omega)]
 ·refine ⟨r, false, ?_, h1, h2', h3', ?_⟩
  ·unfold impl_findPiece.f
   rw [Ev_bd hr, Ev_pos (by omega), Ev_neg (by omega)]
   exact Ev_some.mpr rfl
  ·exact ⟨fun g => by simp at g, fun g => absurd g.1 hrl⟩
theorem hasP_sort {l : List S65} (h : SortP l) (t : Int) : hasP l t ↔ ∃ v ∈ l, v.f0 = t := by
 obtain ⟨g1, g2⟩ := posP_spec l t
 have g0 := posP_le l t
 constructor
 ·rintro ⟨h1, h2⟩
  refine ⟨_, ?_, h2⟩
  rw [pieceAt l _ h1]
  exact List.getElem_mem _
 ·rintro ⟨v, hv, e⟩
  obtain ⟨i, hi, rfl⟩ := List.getElem_of_mem hv
  rw [← pieceAt l i hi] at e
  rcases Nat.lt_trichotomy i (posP l t) with q | q | q
  ·have := g1 i q; omega
  ·subst q; exact ⟨hi, e⟩
  ·have := sort_less h _ i q hi
   have := g2 (by omega)
   omega
theorem sort_once {l : List S65} (h : SortP l) {v w : S65} (hv : v ∈ l) (hw : w ∈ l) (e : v.f0 = w.f0) : v = w := by
 obtain ⟨i, hi, rfl⟩ := List.getElem_of_mem hv
 obtain ⟨j, hj, rfl⟩ := List.getElem_of_mem hw
 rcases Nat.lt_trichotomy i j with q | q | q
 ·have := (List.pairwise_iff_getElem.1 h) i j hi hj q; omega
 ·subst q; rfl
 ·have := (List.pairwise_iff_getElem.1 h) j i hj hi q; omega
theorem insP_sort {l : List S65} (h : SortP l) {v : S65} (hn : ¬ hasP l v.f0) : SortP (insP l v) := by
 obtain ⟨g1, g2⟩ := posP_spec l v.f0
 have hle := posP_le l v.f0
 have hlo : ∀ x ∈ l.take (posP l v.f0), x.f0 < v.f0 := by
  intro x hx
  obtain ⟨i, hi, rfl⟩ := List.getElem_of_mem hx
  rw [List.length_take] at hi
  rw [List.getElem_take]
  have := g1 i (by omega)
  rw [pieceAt l i (by omega)] at this
  exact this
 have hhi : ∀ x ∈ l.drop (posP l v.f0), v.f0 < x.f0 := by
  intro x hx
  have hxl := List.mem_of_mem_drop hx
  obtain ⟨i, hi, rfl⟩ := List.getElem_of_mem hx
  rw [List.length_drop] at hi
  rw [List.getElem_drop]
  have h1 := g2 (by omega)
  have h2 : (l.getD (posP l v.f0) z65).f0 ≤ (l.getD (posP l v.f0 + i) z65).f0 := by
   rcases Nat.eq_zero_or_pos i with e | e
   ·subst e; exact Int.le_refl _
   ·exact Int.le_of_lt (sort_less h _ _ (by omega) (by omega))
  rw [pieceAt l (posP l v.f0 + i) (by omega)] at h2
  have h3 : l[posP l v.f0 + i].f0 ≠ v.f0 := fun e => hn ((hasP_sort h v.f0).2 ⟨_, List.getElem_mem _, e⟩)
  omega
 unfold SortP insP
 rw [List.append_assoc, List.pairwise_append]
 refine ⟨h.sublist (List.take_sublist _ _), ?_, ?_⟩
 ·rw [List.singleton_append, List.pairwise_cons]
  exact ⟨hhi, h.sublist (List.drop_sublist _ _)⟩
 ·intro a ha b hb
  rw [List.singleton_append] at hb
  rcases List.mem_cons.1 hb with rfl | hb
  ·exact hlo a ha
  ·have := hlo a ha
   have := hhi b hb
   omega
open Classical in
noncomputable def insAll : List S65 → List S65 → Option (List S65)
 | l, [] => some l
 | l, v :: b => if hasP l v.f0 then (if (l.getD (posP l v.f0) z65).f1 = v.f1 then insAll l b else none) else insAll (insP l v) b
def fin (o : Option (List S65)) : List S65 × Bool := match o with
 | none => ([], false)
 | some m => if (m.length : Int) > 40 then ([], false) else (m, true)
noncomputable def joinS (a b : List S65) : List S65 × Bool := if storeValid a = true ∧ storeValid b = true then fin (insAll a b) else ([], false)
theorem piece_eta (u v : S65) (h0 : u.f0 = v.f0) (h1 : u.f1 = v.f1) : u = v := by cases u; cases v; simp_all
theorem insAll_spec : ∀ (b l : List S65), SortP l → SortP b →
  (∀ m, insAll l b = some m → SortP m ∧ (∀ x, x ∈ m ↔ x ∈ l ∨ x ∈ b) ∧ l.length ≤ m.length ∧ m.length ≤ l.length + b.length) ∧ (insAll l b = none ↔ ∃ v ∈ l, ∃ w ∈ b, v.f0 = w.f0 ∧ v ≠ w) := by
 intro b
 induction b with
 | nil =>
  intro l hl _
  refine ⟨fun m hm => ?_, ?_⟩
  ·rw [insAll] at hm
   obtain rfl := Option.some.inj hm
   exact ⟨hl, fun x => by simp, Nat.le_refl _, by simp⟩
  ·rw [insAll]; simp
 | cons v b ih =>
  intro l hl hb
  unfold SortP at hb
  rw [List.pairwise_cons] at hb
  obtain ⟨hb1, hb2⟩ := hb
  rw [insAll]
  by_cases hh : hasP l v.f0
  ·rw [if_pos hh]
   have hu : l.getD (posP l v.f0) z65 ∈ l := by rw [pieceAt l _ hh.1]; exact List.getElem_mem _
   have hu0 := hh.2
   generalize l.getD (posP l v.f0) z65 = u at *
   by_cases he : u.f1 = v.f1
   ·rw [if_pos he]
    obtain rfl := piece_eta u v hu0 he
    obtain ⟨i1, i2⟩ := ih l hl hb2
    refine ⟨fun m hm => ?_, ?_⟩
    ·obtain ⟨m1, m2, m3, m4⟩ := i1 m hm
     refine ⟨m1, fun x => ?_, m3, by simp only [List.length_cons]; omega⟩
     rw [m2, List.mem_cons]
     constructor
     ·rintro (g | g)
      ·exact Or.inl g
      ·exact Or.inr (Or.inr g)
     ·rintro (g | rfl | g)
      ·exact Or.inl g
      ·exact Or.inl hu
      ·exact Or.inr g
    ·rw [i2]
     constructor
     ·rintro ⟨x, hx, w, hw, g⟩
      exact ⟨x, hx, w, List.mem_cons_of_mem _ hw, g⟩
     ·rintro ⟨x, hx, w, hw, g1, g2⟩
      rcases List.mem_cons.1 hw with rfl | hw
      ·exact absurd (sort_once hl hx hu g1) g2
      ·exact ⟨x, hx, w, hw, g1, g2⟩
   ·rw [if_neg he]
    refine ⟨fun m hm => by simp at hm, ?_⟩
    constructor
    ·intro _
     exact ⟨u, hu, v, List.mem_cons_self, hu0, fun e => he (by rw [e])⟩
    ·intro _; rfl
  ·rw [if_neg hh]
   obtain ⟨i1, i2⟩ := ih (insP l v) (insP_sort hl hh) hb2
   refine ⟨fun m hm => ?_, ?_⟩
   ·obtain ⟨m1, m2, m3, m4⟩ := i1 m hm
    rw [insP_len] at m3 m4
    refine ⟨m1, fun x => ?_, by omega, by simp only [List.length_cons]; omega⟩
    rw [m2, insP_mem, List.mem_cons]
    constructor
    ·rintro ((g | g) | g)
     ·exact Or.inr (Or.inl g)
     ·exact Or.inl g
     ·exact Or.inr (Or.inr g)
    ·rintro (g | g | g)
     ·exact Or.inl (Or.inr g)
     ·exact Or.inl (Or.inl g)
     ·exact Or.inr g
   ·rw [i2]
    constructor
    ·rintro ⟨x, hx, w, hw, g1, g2⟩
     rcases insP_mem.1 hx with rfl | hx
     ·have := hb1 w hw; omega
     ·exact ⟨x, hx, w, List.mem_cons_of_mem _ hw, g1, g2⟩
    ·rintro ⟨x, hx, w, hw, g1, g2⟩
     rcases List.mem_cons.1 hw with rfl | hw
     ·exact absurd ((hasP_sort hl w.f0).2 ⟨x, hx, g1⟩) hh
     ·exact ⟨x, insP_mem.2 (Or.inr hx), w, hw, g1, g2⟩
theorem sorted_eq : ∀ (l m : List S65), SortP l → SortP m → (∀ x, x ∈ l ↔ x ∈ m) → l = m := by
 intro l
 induction l with
 | nil =>
  intro m _ _ h
  cases m with
  | nil => rfl
  | cons b m => exact absurd ((h b).2 List.mem_cons_self) (by simp)
 | cons a l ih =>
  intro m hl hm h
  cases m with
  | nil => exact absurd ((h a).1 List.mem_cons_self) (by simp)
  | cons b m =>
   unfold SortP at hl hm
   rw [List.pairwise_cons] at hl hm
   have e : a = b := by
    rcases List.mem_cons.1 ((h a).1 List.mem_cons_self) with e | ha
    ·exact e
    ·rcases List.mem_cons.1 ((h b).2 List.mem_cons_self) with e | hb
     ·exact e.symm
     ·have := hm.1 a ha
      have := hl.1 b hb
      omega
   subst e
   rw [ih m hl.2 hm.2 (fun x => ?_)]
   have hx := h x
   rw [List.mem_cons, List.mem_cons] at hx
   constructor
   ·intro g
    rcases hx.1 (Or.inr g) with rfl | g2
    ·have := hl.1 _ g; omega
    ·exact g2
   ·intro g
    rcases hx.2 (Or.inr g) with rfl | g2
    ·have := hm.1 _ g; omega
    ·exact g2
theorem store_sort {l : List S65} (h : storeValid l = true) : SortP l := (storeValid_iff.1 h).2.2
theorem joinS_comm (a b : List S65) : joinS a b = joinS b a := by
 unfold joinS
 by_cases h : storeValid a = true ∧ storeValid b = true
 ·rw [if_pos h, if_pos ⟨h.2, h.1⟩]
  obtain ⟨p1, p2⟩ := insAll_spec b a (store_sort h.1) (store_sort h.2)
  obtain ⟨q1, q2⟩ := insAll_spec a b (store_sort h.2) (store_sort h.1)
  congr 1
  cases hm : insAll a b with
  | none =>
   obtain ⟨v, hv, w, hw, g1, g2⟩ := p2.1 hm
   exact (q2.2 ⟨w, hw, v, hv, g1.symm, fun e => g2 e.symm⟩).symm
  | some m =>
   cases hn : insAll b a with
   | none =>
    obtain ⟨v, hv, w, hw, g1, g2⟩ := q2.1 hn
    have := p2.2 ⟨w, hw, v, hv, g1.symm, fun e => g2 e.symm⟩
    rw [hm] at this
    cases this
   | some n =>
    obtain ⟨m1, m2, -, -⟩ := p1 m hm
    obtain ⟨n1, n2, -, -⟩ := q1 n hn
    rw [sorted_eq m n m1 n1 (fun x => by rw [m2, n2]; exact Or.comm)]
 ·rw [if_neg h, if_neg (fun g => h ⟨g.2, g.1⟩)]
theorem fin_big {l b : List S65} (hl : SortP l) (hb : SortP b) (h : 40 < l.length) : fin (insAll l b) = ([], false) := by
 cases hm : insAll l b with
 | none => rfl
 | some m =>
  have := ((insAll_spec b l hl hb).1 m hm).2.2.1
  unfold fin
  dsimp only
  rw [if_pos (by omega)]
theorem drop_sort {l : List S65} (h : SortP l) (i : Nat) : SortP (l.drop i) := h.sublist (List.drop_sublist _ _)
open Classical in
theorem spec_join_ev (a b : List S65) (ha : StoreSized a) (hb : StoreSized b) (hna : a.length ≤ 1048576) : Ev (fun k => spec_JoinStores.f k a b) (joinS a b) := by
 unfold spec_JoinStores.f joinS
 have hj : ∀ c r, c = true → r = (([] : List S65), false) → Ev (fun k => spec_JoinStores.j0 k a b c) r := by
  rintro c r rfl rfl
  refine Ev_succ.mpr ?_
  simp only [spec_JoinStores.j0, if_true]
  exact Ev_some.mpr rfl
 rw [Ev_bd (spec_store_ev a ha), Ev_ite]
 by_cases h1 : storeValid a = true
 case neg => rw [if_neg h1, if_neg (fun g => h1 g.1)]; exact hj _ _ rfl rfl
 rw [if_pos h1, Ev_bd (spec_store_ev b hb)]
 by_cases h2 : storeValid b = true
 case neg => rw [if_neg (fun g => h2 g.2)]; exact hj _ _ (by simp [h2]) rfl
 rw [if_pos ⟨h1, h2⟩, h2]
 refine Ev_succ.mpr ?_
 simp only [spec_JoinStores.j0]
 rw [Ev_neg (by simp), Ev_bs, Ev_pos (by simp; omega), List.nil_append]
 obtain ⟨hb40, hbv, hbs⟩ := storeValid_iff.1 h2
 have key : ∀ d i (l : List S65), i + d = b.length → storeValid l = true → Ev (fun k => spec_JoinStores.l0 k b l (i : Int)) (fin (insAll l (b.drop i))) := by
  intro d
  induction d with
  | zero =>
   intro i l hi hl
   have h40 := (storeValid_iff.1 hl).1
   refine Ev_succ.mpr ?_
   simp only [spec_JoinStores.l0]
   rw [Ev_neg (by omega), List.drop_eq_nil_of_le (by omega), insAll, fin]
   try dsimp only
   rw [if_neg (by omega)]
   exact Ev_some.mpr rfl
  | succ d ih =>
   intro i l hi hl
   have hm : b.getD i z65 ∈ b := by rw [pieceAt b i (by omega)]; exact List.getElem_mem _
   have hv := hbv _ hm
   have hsz := textValid_size hv.1
   have h40 := (storeValid_iff.1 hl).1
   have hd : SortP (b.drop (i + 1)) := drop_sort hbs (i + 1)
   refine Ev_succ.mpr ?_
   simp only [spec_JoinStores.l0, rdPiece, w64s i (by omega)]
   rw [Ev_pos (by omega), Ev_pos (by omega), drop_cons b z65 i (by omega), insAll]
   generalize b.getD i z65 = v at *
   obtain ⟨hv1, hv2⟩ := hv
   rw [Ev_bd (put_p hl v.f1 (by omega)).1]
   have hput : putT l v.f1 = (if hasP l v.f0 then (if (l.getD (posP l v.f0) z65).f1 = v.f1 then (l, v.f0, true) else (l, -1, false)) else if l.length = 40 then (l, -1, false) else (insP l v, v.f0, true)) := by
    unfold putT
    rw [if_pos hl, if_pos hv1, ← hv2]
   have hval : ¬ hasP l v.f0 → l.length ≠ 40 → storeValid (insP l v) = true := by
    intro g1 g2
    have := insP_valid hl hv1 (by rw [← hv2]; exact g1) g2
    rw [← hv2] at this
    exact this
   by_cases hh : hasP l v.f0
   ·rw [if_pos hh] at hput
    rw [if_pos hh]
    by_cases he : (l.getD (posP l v.f0) z65).f1 = v.f1
    ·rw [if_pos he] at hput
     rw [if_pos he, hput, Ev_pos rfl]
     exact ih (i + 1) l (by omega) hl
    ·rw [if_neg he] at hput
     rw [if_neg he, hput, Ev_neg (by simp)]
     exact Ev_some.mpr rfl
   ·rw [if_neg hh] at hput
    rw [if_neg hh]
    by_cases hq : l.length = 40
    ·rw [if_pos hq] at hput
     rw [hput, Ev_neg (by simp), fin_big (insP_sort (store_sort hl) hh) hd (by rw [insP_len]; omega)]
     exact Ev_some.mpr rfl
    ·rw [if_neg hq] at hput
     rw [hput, Ev_pos rfl]
     exact ih (i + 1) _ (by omega) (hval hh hq)
 exact key b.length 0 a (by omega) h1
theorem impl_join_ev (a b : List S65) (ha : StoreSized a) (hb : StoreSized b) (hna : a.length ≤ 1048576) : Ev (fun k => impl_JoinStores.f k a b) (joinS a b) := by
 unfold impl_JoinStores.f joinS
 have hj : ∀ c r, c = true → r = (([] : List S65), false) → Ev (fun k => impl_JoinStores.j0 k a b c) r := by
  rintro c r rfl rfl
  refine Ev_succ.mpr ?_
  simp only [impl_JoinStores.j0, if_true]
  exact Ev_some.mpr rfl
 rw [Ev_bd (impl_store_ev a ha), Ev_ite]
 by_cases h1 : storeValid a = true
 case neg => rw [if_neg h1, if_neg (fun g => h1 g.1)]; exact hj _ _ rfl rfl
 rw [if_pos h1, Ev_bd (impl_store_ev b hb)]
 by_cases h2 : storeValid b = true
 case neg => rw [if_neg (fun g => h2 g.2)]; exact hj _ _ (by simp [h2]) rfl
 rw [if_pos ⟨h1, h2⟩, h2]
 have ha40 := (storeValid_iff.1 h1).1
 have hc : slices_Clone_Piece.f a = some a := by
  unfold slices_Clone_Piece.f
  rw [if_pos (by omega)]
 refine Ev_succ.mpr ?_
 simp only [impl_JoinStores.j0]
 rw [Ev_neg (by simp), Ev_b0 hc]
 obtain ⟨hb40, hbv, hbs⟩ := storeValid_iff.1 h2
 have key : ∀ d i (l : List S65), i + d = b.length → SortP l → l.length ≤ 40 + i → Ev (fun k => impl_JoinStores.l0 k l b (b.length : Int) (i : Int)) (fin (insAll l (b.drop i))) := by
  intro d
  induction d with
  | zero =>
   intro i l hi hl hn
   refine Ev_succ.mpr ?_
   simp only [impl_JoinStores.l0]
   rw [Ev_neg (by omega), List.drop_eq_nil_of_le (by omega), insAll, fin]
   try dsimp only
   rw [Ev_ite]
   split <;> exact Ev_some.mpr rfl
  | succ d ih =>
   intro i l hi hl hn
   refine Ev_succ.mpr ?_
   simp only [impl_JoinStores.l0, rdPiece, w64s i (by omega)]
   rw [Ev_pos (by omega), Ev_pos (by omega), Ev_pos (by omega), drop_cons b z65 i (by omega), insAll]
   generalize b.getD i z65 = v at *
   obtain ⟨r, c, hr, g1, g2, g3, g4⟩ := findPiece_s hl (by omega) v.f0
   have hp : r = posP l v.f0 := posP_uniq g1 g2 (fun hlt => g3 r (Nat.le_refl _) hlt)
   have hbq : c = true ↔ hasP l v.f0 := by unfold hasP; rw [← hp]; exact g4
   rw [Ev_bd hr]
   dsimp only
   rw [Ev_ite]
   by_cases hb1 : c = true
   ·have hq := hbq.1 hb1
    have hlt : r < l.length := (g4.1 hb1).1
    rw [if_pos hb1, if_pos hq, Ev_pos (by omega), Ev_pos (by omega), rdPiece, ← hp, Ev_ite]
    by_cases he : (l.getD r z65).f1 = v.f1
    ·rw [if_pos (by rw [he]), if_pos he]
     exact ih (i + 1) l (by omega) hl (by omega)
    ·rw [if_neg (fun g => he (toList_iff.1 g)), if_neg he]
     exact Ev_some.mpr rfl
   ·have hq : ¬ hasP l v.f0 := fun g => hb1 (hbq.2 g)
    have e : slices_Insert_Piece.f l (r : Int) [⟨v.f0, v.f1⟩] = some (insP l v) := by
     unfold slices_Insert_Piece.f insP
     rw [if_pos ⟨rfl, by omega, by omega, by omega⟩, Int.toNat_natCast, ← hp]
    rw [if_neg hb1, if_neg hq, Ev_b0 e]
    exact ih (i + 1) _ (by omega) (insP_sort hl hq) (by rw [insP_len]; omega)
 exact key b.length 0 a (by omega) (store_sort h1) (by omega)
theorem joinS_ok {a b : List S65} (h : (joinS a b).2 = true) : storeValid (joinS a b).1 = true ∧ (∀ v ∈ a, v ∈ (joinS a b).1) ∧ a.length ≤ (joinS a b).1.length ∧ (joinS a b).1.length ≤ a.length + b.length := by
 unfold joinS at h ⊢
 by_cases g : storeValid a = true ∧ storeValid b = true
 case neg => rw [if_neg g] at h; simp at h
 rw [if_pos g] at h ⊢
 obtain ⟨a1, a2, a3⟩ := storeValid_iff.1 g.1
 obtain ⟨b1, b2, b3⟩ := storeValid_iff.1 g.2
 cases hm : insAll a b with
 | none => rw [hm] at h; simp [fin] at h
 | some m =>
  rw [hm] at h
  obtain ⟨m1, m2, m3, m4⟩ := (insAll_spec b a a3 b3).1 m hm
  unfold fin at h ⊢
  dsimp only at h ⊢
  by_cases q : (m.length : Int) > 40
  ·rw [if_pos q] at h; simp at h
  ·rw [if_neg q]
   refine ⟨storeValid_iff.2 ⟨(show m.length ≤ 40 from by omega), fun v hv => ?_, m1⟩, fun v hv => (m2 v).2 (Or.inl hv), m3, m4⟩
   rcases (m2 v).1 hv with hv | hv
   ·exact a2 v hv
   ·exact b2 v hv
theorem joinS_no {a b : List S65} (h : ¬ (joinS a b).2 = true) : (joinS a b).1 = [] := by
 unfold joinS at h ⊢
 by_cases g : storeValid a = true ∧ storeValid b = true
 case neg => rw [if_neg g]
 rw [if_pos g] at h ⊢
 unfold fin at h ⊢
 cases hm : insAll a b with
 | none => rfl
 | some m =>
  rw [hm] at h
  dsimp only at h ⊢
  by_cases q : (m.length : Int) > 40
  ·rw [if_pos q]
  ·rw [if_neg q] at h; simp at h
theorem joinS_len (a b : List S65) : (joinS a b).1.length ≤ 40 := by
 by_cases h : (joinS a b).2 = true
 ·exact (storeValid_iff.1 (joinS_ok h).1).1
 ·rw [joinS_no h]; simp
end Go.Proofs.Ytcbmkonigclceaa.Mod
