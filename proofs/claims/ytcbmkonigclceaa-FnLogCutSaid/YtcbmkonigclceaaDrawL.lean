/- What the draws of logs come to, and LogAdd, LogCut of the reference. -/
import Derived.Test.YtcbmkonigclceaaPx0
import Derived.Test.YtcbmkonigclceaaPx16
import Derived.Test.YtcbmkonigclceaaPx18
import Derived.Test.YtcbmkonigclceaaPx19
import Derived.Test.YtcbmkonigclceaaLog
import Derived.Test.YtcbmkonigclceaaDrawW
namespace Go.Proofs.Ytcbmkonigclceaa.Mod
open Go.RowKit Go.Proofs.Ytcbmkonigclceaa.P Go.Proofs.Ytcbmkonigclceaa.EvK Go.Proofs.YtcbmkonigclceaaW.PrintWords Go.Proofs.YtcbmkonigclceaaW.PrintLast
set_option linter.unusedVariables false
set_option linter.unusedSimpArgs false
theorem logValid_len {l : List S39} (h : logValid l = true) : l.length ≤ 40 := by
  unfold logValid at h
  simp only [Bool.and_eq_true, decide_eq_true_eq] at h
  omega
theorem logValid_mem {l : List S39} : logValid l = true ↔ (∀ v ∈ l, logOk v = true) ∧ l.length ≤ 40 := by
  unfold logValid
  rw [Bool.and_eq_true, allN_iff, decide_eq_true_iff]
  constructor
  · rintro ⟨h, hl⟩
    refine ⟨fun v hv => ?_, by omega⟩
    obtain ⟨i, hi, rfl⟩ := List.getElem_of_mem hv
    have := h i hi
    rw [List.getD_eq_getElem?_getD, List.getElem?_eq_getElem hi] at this
    exact this
  · rintro ⟨h, hl⟩
    refine ⟨fun i hi => ?_, by omega⟩
    rw [List.getD_eq_getElem?_getD, List.getElem?_eq_getElem hi]
    exact h _ (List.getElem_mem hi)
theorem logOk_size {v : S39} (h : logOk v = true) : v.f1.size ≤ 60 := by
  unfold logOk at h
  simp only [Bool.and_eq_true] at h
  exact textValid_size h.1.2
theorem logValid_sized {l : List S39} (h : logValid l = true) : LogSized l := by
  obtain ⟨h1, h2⟩ := logValid_mem.1 h
  exact ⟨by omega, fun v hv => by have := logOk_size (h1 v hv); omega⟩
/-- Logs as the draws give them. -/
structure DrawnL (l : List S39) : Prop where
  len : l.length ≤ 100
  siz : ∀ v ∈ l, v.f1.size ≤ 61
theorem DrawnL.sized {l : List S39} (h : DrawnL l) : LogSized l := ⟨by have := h.len; omega, fun v hv => by have := h.siz v hv; omega⟩
theorem drawn_log {l : List S39} (h : logValid l = true) : DrawnL l := by
  obtain ⟨h1, h2⟩ := logValid_mem.1 h
  exact ⟨by omega, fun v hv => by have := logOk_size (h1 v hv); omega⟩
/-- What LogAdd puts behind a log. -/
def addTail (ts : List ByteArray) : List S39 := ⟨0, ⟨#[]⟩⟩ :: (ts.map fun t => ⟨1, t⟩) ++ [⟨2, ⟨#[]⟩⟩]
noncomputable def logAdd (l : List S39) (ts : List ByteArray) : List S39 × Bool :=
  if logValid l = true then (if logValid (l ++ addTail ts) = true then (l ++ addTail ts, true) else (l, false)) else ([], false)
theorem addTail_sized {l : List S39} {ts : List ByteArray} (hl : LogSized l) (hn : l.length ≤ 1048576) (ht : ts.length ≤ 1048576) (hs : ∀ t ∈ ts, t.size ≤ 9223372036854775807) : LogSized (l ++ addTail ts) := by
  refine ⟨by simp [addTail]; omega, fun v hv => ?_⟩
  rcases List.mem_append.1 hv with hv | hv
  · exact hl.2 v hv
  · unfold addTail at hv
    simp only [List.mem_append, List.mem_cons, List.mem_map, List.not_mem_nil, or_false] at hv
    rcases hv with (rfl | ⟨t, ht, rfl⟩) | rfl
    · dsimp only; decide
    · exact hs t ht
    · dsimp only; decide
theorem rdOf_nat (ts : List ByteArray) (i : Nat) : rdOf ByteArray.empty ts (i : Int) = ts.getD i ByteArray.empty := by simp [rdOf]
theorem spec_logAdd_ev (l : List S39) (ts : List ByteArray) (hl : LogSized l) (hn : l.length ≤ 1048576) (ht : ts.length ≤ 1048576) (hs : ∀ t ∈ ts, t.size ≤ 9223372036854775807) : Ev (fun k => spec_LogAdd.f k l ts) (logAdd l ts) := by
  unfold spec_LogAdd.f logAdd
  rw [Ev_bd (spec_log_ev l hl), Ev_ite]
  by_cases h : logValid l = true
  · rw [if_pos h, if_pos h]
    simp only [Option.bind_some, List.nil_append, List.length_nil]
    rw [Ev_pos (by omega), Ev_pos (by omega)]
    have hz := addTail_sized hl hn ht hs
    have key : ∀ d i, i + d = ts.length → Ev (fun k => spec_LogAdd.l0 k l ts (l ++ [⟨0, ⟨#[]⟩⟩] ++ ((ts.take i).map fun t => ⟨1, t⟩)) (i : Int)) (if logValid (l ++ addTail ts) = true then (l ++ addTail ts, true) else (l, false)) := by
      intro d
      induction d with
      | zero =>
        intro i hi
        obtain rfl : i = ts.length := by omega
        refine Ev_succ.mpr ?_
        simp only [spec_LogAdd.l0]
        rw [Ev_neg (by omega), List.take_length, Ev_pos (by simp; omega)]
        have e : l ++ [⟨0, ⟨#[]⟩⟩] ++ (ts.map fun t => (⟨1, t⟩ : S39)) ++ [⟨2, ⟨#[]⟩⟩] = l ++ addTail ts := by simp [addTail]
        simp only [Option.bind_some, List.nil_append, List.length_nil]
        rw [e, Ev_bd (spec_log_ev _ hz), Ev_ite]
        by_cases h2 : logValid (l ++ addTail ts) = true
        · rw [if_pos h2, if_pos h2]
          exact Ev_some.mpr rfl
        · rw [if_neg h2, if_neg h2, Ev_pos (by omega)]
          exact Ev_some.mpr rfl
      | succ d ih =>
        intro i hi
        refine Ev_succ.mpr ?_
        simp only [spec_LogAdd.l0, w64s i (by omega), rdOf_nat]
        rw [Ev_pos (by omega), Ev_pos (by omega), Ev_pos (by simp; omega)]
        have := ih (i + 1) (by omega)
        have e2 : ((ts.take (i + 1)).map fun t => (⟨1, t⟩ : S39)) = ((ts.take i).map fun t => (⟨1, t⟩ : S39)) ++ [⟨1, ts.getD i ByteArray.empty⟩] := by
          rw [List.take_succ_eq_append_getElem (show i < ts.length by omega), List.map_append]
          simp [List.getD_eq_getElem?_getD, List.getElem?_eq_getElem (show i < ts.length by omega)]
        rw [e2, ← List.append_assoc] at this
        exact this
    have := key ts.length 0 (by omega)
    simpa using this
  · rw [if_neg h, if_neg h]
    exact Ev_some.mpr rfl
theorem logAdd_valid (l : List S39) (ts : List ByteArray) : logValid (logAdd l ts).1 = true := by
  unfold logAdd
  by_cases h : logValid l = true
  · rw [if_pos h]
    by_cases h2 : logValid (l ++ addTail ts) = true
    · rw [if_pos h2]; exact h2
    · rw [if_neg h2]; exact h
  · rw [if_neg h]
    exact logValid_mem.2 ⟨fun v hv => by simp at hv, by simp⟩
noncomputable def logCut (l : List S39) (m : Int) : List S39 := if logValid l = true ∧ 0 ≤ m ∧ m ≤ l.length then l.take m.toNat else []
theorem spec_logCut_ev (l : List S39) (m : Int) (hl : LogSized l) : Ev (fun k => spec_LogCut.f k l m) (logCut l m) := by
  unfold spec_LogCut.f logCut
  rw [Ev_bd (spec_log_ev l hl), Ev_ite]
  by_cases h : logValid l = true
  · rw [if_pos h]
    have hlen := logValid_len h
    simp only [l1In_eq, Option.bind_some, Ev_ite, List.nil_append, List.length_nil]
    by_cases h1 : 0 ≤ m ∧ m ≤ l.length
    · rw [inB_iff.2 h1, if_pos rfl, if_pos h1.1, if_pos h1.2, if_pos (by simp; omega), if_pos ⟨h, h1⟩]
      exact Ev_some.mpr rfl
    · have e : inB m 0 l.length = false := by
        rw [Bool.eq_false_iff]
        exact fun g => h1 (inB_iff.1 g)
      rw [e, if_neg (by simp), if_neg (fun g => h1 g.2)]
      exact Ev_some.mpr rfl
  · rw [if_neg h, if_neg (fun g => h g.1)]
    exact Ev_some.mpr rfl
theorem text_p {b : List Int} {p : Int} (h : RdOk b p) (hp : p + 2 ≤ 1000000) (n : Int) (hn : n ≤ 1000000) : EvP (fun k => spec_l20Text.f k b p n) (fun r => r.1.size ≤ 61 ∧ p ≤ r.2 ∧ r.2 ≤ p + 2) := by
  unfold spec_l20Text.f
  refine EvP_bp (odd_p h n hn) ?_
  rintro ⟨o, q⟩ ⟨h1, h2⟩
  dsimp only at h1 h2 ⊢
  have hq : RdOk b q := h.to h1 (by omega)
  rw [EvP_ite]
  split
  · rw [EvP_pos (by omega)]
    simp only [Option.bind_some]
    refine EvP_bp (pick_p hq 3 (by omega)) ?_
    rintro ⟨v, q'⟩ ⟨rfl, r1, -⟩
    have r1 := r1 (by omega)
    dsimp only at r1 ⊢
    rw [EvP_pos r1.1, EvP_pos (by simpa using r1.2)]
    refine EvP_some.mpr ⟨?_, by dsimp only; omega, by dsimp only; omega⟩
    have : v = 0 ∨ v = 1 ∨ v = 2 := by omega
    rcases this with rfl | rfl | rfl <;> (dsimp only; decide)
  · simp only [Option.bind_some]
    refine EvP_bp (pick_p hq 8 (by omega)) ?_
    rintro ⟨v, q'⟩ ⟨rfl, r1, -⟩
    have r1 := r1 (by omega)
    dsimp only at r1 ⊢
    rw [EvP_pos r1.1, EvP_pos (by simpa using r1.2)]
    refine EvP_some.mpr ⟨?_, by dsimp only; omega, by dsimp only; omega⟩
    have : v = 0 ∨ v = 1 ∨ v = 2 ∨ v = 3 ∨ v = 4 ∨ v = 5 ∨ v = 6 ∨ v = 7 := by omega
    rcases this with rfl | rfl | rfl | rfl | rfl | rfl | rfl | rfl <;> (dsimp only; decide)
theorem drawnL_snoc {l : List S39} {n : Nat} (hl : l.length ≤ n) (h : ∀ v ∈ l, v.f1.size ≤ 61) (v : S39) (hv : v.f1.size ≤ 61) : (l ++ [v]).length ≤ n + 1 ∧ ∀ x ∈ l ++ [v], x.f1.size ≤ 61 := by
  refine ⟨by simp; omega, fun x hx => ?_⟩
  rcases List.mem_append.1 hx with hx | hx
  · exact h x hx
  · rw [List.mem_singleton.1 hx]; exact hv
theorem logCut_drawn {l : List S39} {m : Int} {n : Nat} (hl : l.length ≤ n) (h : ∀ v ∈ l, v.f1.size ≤ 61) : (logCut l m).length ≤ n ∧ ∀ x ∈ logCut l m, x.f1.size ≤ 61 := by
  unfold logCut
  split
  · exact ⟨by rw [List.length_take]; omega, fun x hx => h x (List.mem_of_mem_take hx)⟩
  · exact ⟨by simp, fun x hx => by simp at hx⟩
theorem log_p {b : List Int} {p : Int} (h : RdOk b p) (hp : p + 200 ≤ 1000000) (n : Int) (hn : n ≤ 1000000) : EvP (fun k => spec_l20Log.f k b p n) (fun r => DrawnL r.1 ∧ p ≤ r.2 ∧ r.2 ≤ p + 200) := by
  have hj3 : ∀ (l : List S39) (q : Int), l.length ≤ 60 → (∀ v ∈ l, v.f1.size ≤ 61) → p ≤ q → q ≤ p + 190 → EvP (fun k => spec_l20Log.j3 k n l b q) (fun r => DrawnL r.1 ∧ p ≤ r.2 ∧ r.2 ≤ p + 200) := by
    intro l q hl hs h1 h2
    refine EvP_succ.mpr ?_
    simp only [spec_l20Log.j3]
    refine EvP_bp (odd_p (h.to h1 (by omega)) n hn) ?_
    rintro ⟨o, q1⟩ ⟨g1, g2⟩
    dsimp only at g1 g2 ⊢
    rw [EvP_ite]
    split
    · simp only [Option.bind_some]
      refine EvP_bp (pick_p (h.to (q := q1) (by omega) (by omega)) 4 (by omega)) ?_
      rintro ⟨v, q2⟩ ⟨rfl, r1, -⟩
      have r1 := r1 (by omega)
      dsimp only at r1 ⊢
      rw [EvP_pos r1.1, EvP_pos (by simpa using r1.2), EvP_pos (by omega)]
      have hx : (⟨(rd_T39 [⟨3, ⟨#[]⟩⟩, ⟨-1, ⟨#[]⟩⟩, ⟨0, ⟨#[97]⟩⟩, ⟨1, ⟨#[10]⟩⟩] v).f0, (rd_T39 [⟨3, ⟨#[]⟩⟩, ⟨-1, ⟨#[]⟩⟩, ⟨0, ⟨#[97]⟩⟩, ⟨1, ⟨#[10]⟩⟩] v).f1⟩ : S39).f1.size ≤ 61 := by
        have : v = 0 ∨ v = 1 ∨ v = 2 ∨ v = 3 := by omega
        rcases this with rfl | rfl | rfl | rfl <;> exact Nat.le_of_ble_eq_true rfl
      have := drawnL_snoc hl hs _ hx
      exact EvP_some.mpr ⟨⟨Nat.le_trans this.1 (by omega), this.2⟩, by dsimp only; omega, by dsimp only; omega⟩
    · exact EvP_some.mpr ⟨⟨Nat.le_trans hl (by omega), hs⟩, by dsimp only; omega, by dsimp only; omega⟩
  have hl0 : ∀ (d : Nat) (l : List S39) (q : Int), l.length ≤ 42 → (∀ v ∈ l, v.f1.size ≤ 61) → p ≤ q → q + 20 * d + 10 ≤ p + 190 → EvP (fun k => spec_l20Log.l0 k n l (d : Int) b q) (fun r => DrawnL r.1 ∧ p ≤ r.2 ∧ r.2 ≤ p + 200) := by
    intro d
    induction d with
    | zero =>
      intro l q hl hs h1 h2
      refine EvP_succ.mpr ?_
      simp only [spec_l20Log.l0]
      rw [EvP_neg (by omega)]
      refine EvP_bp (odd_p (h.to h1 (by omega)) 4 (by omega)) ?_
      rintro ⟨o, q1⟩ ⟨g1, g2⟩
      dsimp only at g1 g2 ⊢
      rw [EvP_ite]
      split
      · rw [w64 (x := (l.length : Int) + 1) (by omega) (by omega)]
        refine EvP_bp (pick_p (h.to (q := q1) (by omega) (by omega)) _ (by omega)) ?_
        rintro ⟨v, q2⟩ ⟨rfl, -, -⟩
        dsimp only
        rw [EvP_bd (spec_logCut_ev l v ⟨by omega, fun v hv => by have := hs v hv; omega⟩)]
        have := logCut_drawn (m := v) hl hs
        exact hj3 _ _ (by omega) this.2 (by omega) (by omega)
      · exact hj3 _ _ (by omega) hs (by omega) (by omega)
    | succ d ih =>
      intro l q hl hs h1 h2
      have hj2 : ∀ (l : List S39) (q : Int), l.length ≤ 41 → (∀ v ∈ l, v.f1.size ≤ 61) → p ≤ q → q + 20 * d + 11 ≤ p + 190 → EvP (fun k => spec_l20Log.j2 k n l ((d + 1 : Nat) : Int) b q) (fun r => DrawnL r.1 ∧ p ≤ r.2 ∧ r.2 ≤ p + 200) := by
        intro l q hl hs h1 h2
        refine EvP_succ.mpr ?_
        simp only [spec_l20Log.j2]
        refine EvP_bp (pick_p (h.to (q := q) (by omega) (by omega)) 6 (by omega)) ?_
        rintro ⟨v, q2⟩ ⟨rfl, -, -⟩
        dsimp only
        rw [w64 (x := ((d + 1 : Nat) : Int) - 1) (by omega) (by omega), show ((d + 1 : Nat) : Int) - 1 = (d : Int) by omega, EvP_ite]
        split
        · rw [EvP_pos (by omega)]
          have := drawnL_snoc hl hs ⟨0, ⟨#[]⟩⟩ (by dsimp only; decide)
          exact ih _ _ (by omega) this.2 (by omega) (by omega)
        · exact ih _ _ (by omega) hs (by omega) (by omega)
      have hl1 : ∀ (e : Nat) (ts : List ByteArray) (q : Int), ts.length + e ≤ 8 → (∀ t ∈ ts, t.size ≤ 61) → p ≤ q → q + 2 * e + 20 * d + 12 ≤ p + 190 → EvP (fun k => spec_l20Log.l1 k n l ((d + 1 : Nat) : Int) ts (e : Int) b q) (fun r => DrawnL r.1 ∧ p ≤ r.2 ∧ r.2 ≤ p + 200) := by
        intro e
        induction e with
        | zero =>
          intro ts q ht hts h1 h2
          refine EvP_succ.mpr ?_
          simp only [spec_l20Log.l1]
          rw [EvP_neg (by omega), EvP_bd (spec_logAdd_ev l ts ⟨by omega, fun v hv => by have := hs v hv; omega⟩ (by omega) (by omega) (fun t ht => by have := hts t ht; omega))]
          have hv := logAdd_valid l ts
          have hD := drawn_log hv
          have hlen := logValid_len hv
          refine EvP_bp (pick_p (h.to (q := q) (by omega) (by omega)) 4 (by omega)) ?_
          rintro ⟨v, q2⟩ ⟨rfl, -, -⟩
          dsimp only
          rw [EvP_ite]
          split
          · rw [EvP_pos (by omega)]
            have := drawnL_snoc hlen hD.siz ⟨1, ⟨#[108, 111, 115, 116]⟩⟩ (by dsimp only; decide)
            exact hj2 _ _ (by omega) this.2 (by omega) (by omega)
          · exact hj2 _ _ (by omega) hD.siz (by omega) (by omega)
        | succ e ihe =>
          intro ts q ht hts h1 h2
          refine EvP_succ.mpr ?_
          simp only [spec_l20Log.l1]
          rw [EvP_pos (by omega)]
          refine EvP_bp (text_p (h.to (q := q) (by omega) (by omega)) (by omega) 0 (by omega)) ?_
          rintro ⟨t, q2⟩ ⟨hz, g1, g2⟩
          dsimp only at hz g1 g2 ⊢
          rw [EvP_pos (by omega), w64 (x := ((e + 1 : Nat) : Int) - 1) (by omega) (by omega), show ((e + 1 : Nat) : Int) - 1 = (e : Int) by omega]
          refine ihe _ _ (by simp; omega) (fun x hx => ?_) (by omega) (by omega)
          rcases List.mem_append.1 hx with hx | hx
          · exact hts x hx
          · rw [List.mem_singleton.1 hx]; exact hz
      refine EvP_succ.mpr ?_
      simp only [spec_l20Log.l0]
      rw [EvP_pos (by omega)]
      refine EvP_bp (pick_p (h.to (q := q) (by omega) (by omega)) 4 (by omega)) ?_
      rintro ⟨v, q2⟩ ⟨rfl, r1, -⟩
      have r1 := r1 (by omega)
      dsimp only at r1 ⊢
      obtain ⟨e, rfl⟩ := Int.eq_ofNat_of_zero_le r1.1
      exact hl1 e [] (q + 1) (by simp; omega) (fun t ht => by simp at ht) (by omega) (by omega)
  unfold spec_l20Log.f
  refine EvP_bp (pick_p h 4 (by omega)) ?_
  rintro ⟨v, q⟩ ⟨rfl, r1, -⟩
  have r1 := r1 (by omega)
  dsimp only at r1 ⊢
  obtain ⟨d, rfl⟩ := Int.eq_ofNat_of_zero_le r1.1
  exact hl0 d [] (p + 1) (by simp) (fun v hv => by simp at hv) (by omega) (by omega)
end Go.Proofs.Ytcbmkonigclceaa.Mod
