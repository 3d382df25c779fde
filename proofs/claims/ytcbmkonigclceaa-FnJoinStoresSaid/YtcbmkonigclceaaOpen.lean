/- Opening the arguments of a statement's row: slices of structs, of strings and of numbers, as rows that read ('Kd.C'). -/
import Derived.Deep.Slices
import Derived.Deep.Fields
import Derived.Deep.Strs
import Derived.ChangeSame
import Derived.Lib.SmallJoins
import Derived.Test.YtcbmkonigclceaaVMore
namespace Go.Proofs.Ytcbmkonigclceaa.Open
open Go.ChangeShapes Go.WideShapes Go.Deep Go.Proofs.YtcbmkonigclceaaW.PrintWords
set_option linter.all false

theorem rows_of {α : Type} (d : Kd α) (w : World) (a : Addr) (Q : α → Prop) (n : Nat)
  (h : ∀ i, i < n → ∃ x : α, Q x ∧ ∃ c, c.length = d.sz ∧ d.K w x c ∧ ∀ j u, c[j]? = some u → w.cell? (a.add (i * d.sz + j)) = some u) :
  ∀ m, m ≤ n → ∃ zs : List α, zs.length = m ∧ (∀ z ∈ zs, Q z) ∧ ∀ j p, zs[j]? = some p → ∃ c, c.length = d.sz ∧ d.K w p c ∧ ∀ i u, c[i]? = some u → w.cell? (a.add (j * d.sz + i)) = some u := by
 intro m
 induction m with
 | zero => exact fun _ => ⟨[], rfl, fun z hz => by simp at hz, fun j p hj => by simp at hj⟩
 | succ m ih =>
  intro hm
  obtain ⟨zs, hl, hq, hz⟩ := ih (by omega)
  obtain ⟨x, hx, c, hc, hk, hcell⟩ := h m (by omega)
  refine ⟨zs ++ [x], by simp [hl], fun z hz => ?_, fun j p hj => ?_⟩
  ·rcases List.mem_append.1 hz with hz | hz
   ·exact hq z hz
   ·rw [List.mem_singleton.1 hz]; exact hx
  ·rcases Nat.lt_or_ge j m with hjm | hjm
   ·rw [List.getElem?_append_left (by omega)] at hj
    exact hz j p hj
   ·have hje : j = m := by
     have := (List.getElem?_eq_some_iff.1 hj).1
     simp at this
     omega
    subst hje
    rw [List.getElem?_append_right (by omega), hl, Nat.sub_self] at hj
    simp at hj
    subst hj
    exact ⟨c, hc, hk, hcell⟩
theorem kd_rows {α : Type} (d : Kd α) (w : World) (a : Addr) (Q : α → Prop) (n : Nat) (hn : n ≤ 9223372036854775807)
  (h : ∀ i, i < n → ∃ x : α, Q x ∧ ∃ c, c.length = d.sz ∧ d.K w x c ∧ ∀ j u, c[j]? = some u → w.cell? (a.add (i * d.sz + j)) = some u) :
  ∃ zs : List α, d.C w (some a) n zs ∧ ∀ z ∈ zs, Q z := by
 obtain ⟨zs, hl, hq, hz⟩ := rows_of d w a Q n h n (Nat.le_refl _)
 exact ⟨zs, ⟨hl, hn, fun _ => ⟨a, rfl, hz⟩⟩, hq⟩

section
variable {H : Type} {enc : TypeId × Value → H} {P : Program} {w : World} {base : Nat} {spare : Nat → Bool} {held : Bool}
theorem open_slice_fields {t e : TypeId} {fs : Array Field} {fuel : Nat} {cs : List Value} {x : DataW H × List MemPlace} (ht : P.underlying t = some (.slice e)) (he : P.underlying e = some (.struct fs))
  (hone : oneCellFields P fs = true) (hC : P.cellsOf e = fs.size) (h : DataW.trod enc P w base spare held fuel t cs = some x) :
  (cs = [.slice none 0 0] ∧ x = (.nil, [])) ∨
  ∃ (a : Addr) (len cap m : Nat) (D : Nat → DataW H) (Pl : Nat → List MemPlace), cs = [.slice (some a) len cap] ∧ base ≤ a.block ∧ len ≤ cap ∧ cap ≤ maxLen ∧ m = (if spare a.block then cap else len) ∧
   x = (.slice ((List.range len).map D) ((List.range (m - len)).map fun j => D (len + j)), MemPlace.row a (m * fs.size) ++ (List.range m).flatMap Pl) ∧
   ∀ i, i < m → ∃ (ys : List (DataW H × List MemPlace)) (n : Nat), D i = .agg (ys.map (·.1)) ∧ Pl i = ys.flatMap (·.2) ∧ ys.length = fs.size ∧
    ∀ (j : Nat) (f : Field), fs[j]? = some f → ∃ (v : Value) (y : DataW H × List MemPlace), w.cell? (a.add (i * fs.size + j)) = some v ∧ ys[j]? = some y ∧ DataW.trod enc P w base spare held n f.type [v] = some y := by
 rcases open_slice ht h with h0 | ⟨a, len, cap, m, n, D, Pl, hcs, hb, hl, hm, hmm, hx, hi⟩
 ·exact .inl h0
 ·refine .inr ⟨a, len, cap, m, D, Pl, hcs, hb, hl, hm, hmm, by rw [hC] at hx; exact hx, fun i him => ?_⟩
  obtain ⟨cs', hc, ht'⟩ := hi i him
  rw [hC] at hc
  obtain ⟨ys, n', hn', hy, hlen, hyl, hf⟩ := DataW.trod_struct he ht'
  obtain ⟨_, hcl, hat⟩ := World.cells?_some hc
  simp only [Prod.mk.injEq] at hy
  refine ⟨ys, n', hy.1, hy.2, hyl, fun j f hj => ?_⟩
  obtain ⟨ho, hk⟩ := hone_of hone j f hj
  have hjl : j < fs.size := (Array.getElem?_eq_some_iff.1 hj).1
  have hcell := hat j hjl
  have hv : cs'[j]? = some (cs'[j]'(by omega)) := List.getElem?_eq_getElem (by omega)
  have h1 := hf j f hj
  rw [ho, hk] at h1
  have hone' : (cs'.drop j).take 1 = [cs'[j]'(by omega)] := by
   rw [List.drop_eq_getElem_cons (by omega)]
   rfl
  rw [hone'] at h1
  have hys : ys[j]? = some (ys[j]'(by omega)) := List.getElem?_eq_getElem (by omega)
  refine ⟨_, _, ?_, hys, h1.trans hys⟩
  rw [← Go.Deep.add_add, hcell, hv]

theorem kd_structs {α : Type} (d : Kd α) {t e : TypeId} {fs : Array Field} (Q : α → Prop) (ht : P.underlying t = some (.slice e)) (he : P.underlying e = some (.struct fs))
  (hone : oneCellFields P fs = true) (hC : P.cellsOf e = fs.size) (hsz : d.sz = fs.size)
  (elem : ∀ v : Nat → Value, (∀ j f, fs[j]? = some f → ∃ n y, DataW.trod enc P w base spare held n f.type [v j] = some y) → ∃ x : α, Q x ∧ d.K w x ((List.range fs.size).map v))
  {A : Option Addr} {len cap : Nat} {D : DataW H} {p : List MemPlace} (h : DataW.Trod enc P w base spare held t (.slice A len cap) D p) :
  ∃ zs : List α, d.C w A len zs ∧ len ≤ cap ∧ cap ≤ maxLen ∧ ∀ z ∈ zs, Q z := by
 obtain ⟨fuel, hf⟩ := h
 rcases open_slice_fields ht he hone hC hf with ⟨hcs, _⟩ | ⟨a, l, c, m, D', Pl, hcs, _, hl, hm, hmm, _, hi⟩
 ·simp [Value.cells] at hcs
  obtain ⟨rfl, rfl, rfl⟩ := hcs
  exact ⟨[], ⟨rfl, by omega, fun hp => absurd hp (by omega)⟩, Nat.le_refl _, by simp [maxLen], fun z hz => by simp at hz⟩
 ·simp [Value.cells] at hcs
  obtain ⟨rfl, rfl, rfl⟩ := hcs
  have hlm : len ≤ m := by rw [hmm]; split <;> omega
  obtain ⟨zs, hz, hq⟩ := kd_rows d w a Q len (by unfold maxLen at hm; omega) (fun i hil => by
   obtain ⟨ys, n, _, _, _, hf⟩ := hi i (by omega)
   obtain ⟨V, hV⟩ := choose_lt (α := Value) (n := fs.size) (p := fun j v => w.cell? (a.add (i * fs.size + j)) = some v ∧ ∀ f, fs[j]? = some f → ∃ n y, DataW.trod enc P w base spare held n f.type [v] = some y) (fun j hj => by
    obtain ⟨v, y, hc, _, ht⟩ := hf j (fs[j]) (Array.getElem?_eq_getElem hj)
    refine ⟨v, hc, fun f hfj => ?_⟩
    rw [Array.getElem?_eq_getElem hj] at hfj
    injection hfj with hfj
    subst hfj
    exact ⟨n, y, ht⟩)
   obtain ⟨x, hx, hk⟩ := elem V (fun j f hj => (hV j (Array.getElem?_eq_some_iff.1 hj).1).2 f hj)
   refine ⟨x, hx, _, by simp [hsz], hk, fun j u hu => ?_⟩
   rw [List.getElem?_map] at hu
   rcases Nat.lt_or_ge j fs.size with hj | hj
   ·rw [List.getElem?_range hj] at hu
    injection hu with hu
    subst hu
    rw [hsz]
    exact (hV j hj).1
   ·rw [List.getElem?_eq_none (by simpa using hj)] at hu
    cases hu)
  exact ⟨zs, hz, hl, hm, hq⟩
theorem kd_strs {t e : TypeId} (ht : P.underlying t = some (.slice e)) (he : P.underlying e = some .string) (hc : P.cellsOf e = 1)
  {A : Option Addr} {len cap : Nat} {D : DataW H} {p : List MemPlace} (h : DataW.Trod enc P w base spare held t (.slice A len cap) D p) :
  ∃ zs : List ByteArray, Kd.string.C w A len zs ∧ len ≤ cap ∧ cap ≤ maxLen ∧ ∀ z ∈ zs, z.size ≤ maxLen := by
 obtain ⟨fuel, hf⟩ := h
 rcases open_strs ht he hc hf with ⟨hcs, _⟩ | ⟨a, l, c, m, S, hcs, _, hl, hm, hmm, _, hi⟩
 ·simp [Value.cells] at hcs
  obtain ⟨rfl, rfl, rfl⟩ := hcs
  exact ⟨[], ⟨rfl, by omega, fun hp => absurd hp (by omega)⟩, Nat.le_refl _, by simp [maxLen], fun z hz => by simp at hz⟩
 ·simp [Value.cells] at hcs
  obtain ⟨rfl, rfl, rfl⟩ := hcs
  have hlm : len ≤ m := by rw [hmm]; split <;> omega
  obtain ⟨zs, hz, hq⟩ := kd_rows Kd.string w a (fun z => z.size ≤ maxLen) len (by unfold maxLen at hm; omega) (fun i hil => by
   obtain ⟨h1, h2⟩ := hi i (by omega)
   refine ⟨S i, h2, [.string (S i)], rfl, rfl, fun j u hu => ?_⟩
   match j, hu with
   | 0, hu =>
    injection hu with hu
    subst hu
    show w.cell? (a.add (i * 1 + 0)) = _
    simpa using h1)
  exact ⟨zs, hz, hl, hm, hq⟩
theorem kd_ints {t e : TypeId} {k : IntKind} (ht : P.underlying t = some (.slice e)) (he : P.underlying e = some (.int k)) (hc : P.cellsOf e = 1)
  {A : Option Addr} {len cap : Nat} {D : DataW H} {p : List MemPlace} (h : DataW.Trod enc P w base spare held t (.slice A len cap) D p) :
  ∃ zs : List Int, (Kd.int k).C w A len zs ∧ len ≤ cap ∧ cap ≤ maxLen ∧ ∀ z ∈ zs, (Lit.int k z).wf = true := by
 obtain ⟨fuel, hf⟩ := h
 rcases open_slice1 ht hc hf with ⟨hcs, _⟩ | ⟨a, l, c, m, n, V, D', Pl, hcs, _, hl, hm, hmm, _, hi⟩
 ·simp [Value.cells] at hcs
  obtain ⟨rfl, rfl, rfl⟩ := hcs
  exact ⟨[], ⟨rfl, by omega, fun hp => absurd hp (by omega)⟩, Nat.le_refl _, by simp [maxLen], fun z hz => by simp at hz⟩
 ·simp [Value.cells] at hcs
  obtain ⟨rfl, rfl, rfl⟩ := hcs
  have hlm : len ≤ m := by rw [hmm]; split <;> omega
  obtain ⟨zs, hz, hq⟩ := kd_rows (Kd.int k) w a (fun z => (Lit.int k z).wf = true) len (by unfold maxLen at hm; omega) (fun i hil => by
   obtain ⟨h1, h2⟩ := hi i (by omega)
   obtain ⟨x, hx, _, hw⟩ := DataW.trod_int he h2
   refine ⟨x, hw, [.int k x], rfl, rfl, fun j u hu => ?_⟩
   match j, hu with
   | 0, hu =>
    injection hu with hu
    subst hu
    show w.cell? (a.add (i * 1 + 0)) = _
    have : V i = .int k x := by simpa using hx
    rw [← this]
    simpa using h1)
  exact ⟨zs, hz, hl, hm, hq⟩
end
end Go.Proofs.Ytcbmkonigclceaa.Open
