/- Laws on copying and clearing rows of elements of several cells, and on rows that a call owns. Plain: of no program. -/
import Derived.Test.YtcbmkonigclceaaKd
import Derived.Laws.AppendOwn
import Derived.Laws.Externs
import Derived.Laws.NewBlocks
import Derived.Shelf.RegionOpenPlain
import Derived.Deep.RegionLaw
import Derived.Laws.CopyRow
import Derived.Lib.AppendZeros
import Derived.Lib.AppendZerosOnto
import Derived.Lib.SliceRun
import Derived.Lib.Overlaps
namespace Go.Proofs.Ytcbmkonigclceaa.KdW
open Go.RowKit Go.Proofs.YtcbmkonigclceaaW.PrintWords
set_option linter.unusedVariables false
set_option linter.unusedSimpArgs false
theorem run_copy_rowk {P : Program} (w : World) (dT sT ty elem : TypeId) (g o dLen dCap : Nat) (a : Addr) (sLen sCap : Nat) (cur : Array Value) (t : TypeId) (cs : List Value) (i : TypeInfo)
    (hu : P.underlying dT = some (.slice elem)) (hq : P.info? elem = some i)
    (hg : w.heap[g]? = some (.cells cur t (0, 0))) (hn : cs.length = Nat.min sLen dLen * i.size)
    (hsrc : ∀ j v, cs[j]? = some v → w.cell? (a.add j) = some v) (hfit : o + cs.length ≤ cur.size) (h1 : ∀ v ∈ cs, v.oneCell' = true) :
    (Builtin.copy_ #[dT, sT] ty #[.slice (some ⟨g, o, none⟩) dLen dCap, .slice (some a) sLen sCap]).run P w =
      .ok (goInt (Nat.min sLen dLen)) (w.setRow g (cur.toList.take o ++ cs ++ cur.toList.drop (o + cs.length)).toArray) := by
  have hl := run_loadCells_list (P := P) w a cs hsrc
  have hst := run_storeCells_at P g o t cs 0 cur w hg (by simpa using hfit) h1
  simp [Builtin.copy_, run_underlying hu, Builtin.lenOf, Builtin.firstCells, sizeOf, typeInfo, hq, ← hn, hl, hst]
theorem run_clear_row {P : Program} (w : World) (t e ty : TypeId) (i : TypeInfo) (z : Value) (ht : P.underlying t = some (.slice e)) (hi : P.info? e = some i) (hz : i.zero = some z) (h1 : ∀ v ∈ z.cells.toList, v.oneCell' = true)
    (g o n c : Nat) (cur : Array Value) (te : TypeId) (hg : w.heap[g]? = some (.cells cur te (0, 0))) (hfit' : o + n * z.cells.size ≤ cur.size) :
    ∃ cur2 : Array Value, (Builtin.clear_ #[t] ty #[.slice (some ⟨g, o, none⟩) n c]).run P w = .ok (.tuple #[]) (w.setRow g cur2) ∧ cur2.size = cur.size ∧ cur2.toList.take o = cur.toList.take o := by
  have hfit : o + (Builtin.zeroCells z.cells n).toList.length ≤ cur.size := by
    have e : (Builtin.zeroCells z.cells n).toList.length = n * z.cells.size := by rw [Array.length_toList (xs := Builtin.zeroCells z.cells n), size_zeroCells]
    omega
  cases n with
  | zero =>
    refine ⟨cur, ?_, rfl, rfl⟩
    rw [setRow_self w g cur te (0, 0) hg]
    simp [Builtin.clear_, run_underlying ht]
  | succ n =>
    have hzo : ∀ v ∈ (Builtin.zeroCells z.cells (n + 1)).toList, v.oneCell' = true := by
      intro v hv
      simp only [Builtin.zeroCells, Array.toList_map, Array.toList_range, List.mem_map, List.mem_range] at hv
      obtain ⟨j, hj, rfl⟩ := hv
      have hs : 0 < z.cells.size := by
        rcases Nat.eq_zero_or_pos z.cells.size with h0 | h0
        · rw [h0, Nat.mul_zero] at hj; omega
        · exact h0
      have hm := Nat.mod_lt j hs
      rw [getElem!_pos z.cells _ hm]
      exact h1 _ (by simp)
    have hst := run_storeCells_at P g o te (Builtin.zeroCells z.cells (n + 1)).toList 0 cur w hg (by simpa using hfit) hzo
    refine ⟨(cur.toList.take o ++ (Builtin.zeroCells z.cells (n + 1)).toList ++ cur.toList.drop (o + (Builtin.zeroCells z.cells (n + 1)).toList.length)).toArray, ?_, ?_, ?_⟩
    · simp only [Nat.add_zero] at hst
      simp only [Builtin.clear_]
      simp [run_underlying ht, zeroValue, typeInfo, hi, hz]
      simp at hst
      rw [hst]
      rfl
    · simp only [List.size_toArray, List.length_append, List.length_take, List.length_drop]
      rw [Array.length_toList (xs := cur)]
      omega
    · have hlo : o ≤ cur.toList.length := by simp only [Array.length_toList]; omega
      rw [List.toList_toArray, List.append_assoc, List.take_append_of_le_length (by rw [List.length_take]; omega), List.take_take]
      simp
theorem reps_take {α : Type} {R : α → List Value → Prop} {size : Nat} {ps : List α} {cs : List Value} (h : Reps R size ps cs) (n : Nat) : Reps R size (ps.take n) (cs.take (n * size)) := by
  refine ⟨?_, fun j p hj => ?_⟩
  · rw [List.length_take, List.length_take, h.1]
    rcases Nat.le_total n ps.length with hn | hn
    · rw [Nat.min_eq_left hn, Nat.min_eq_left (Nat.mul_le_mul_right _ hn)]
    · rw [Nat.min_eq_right hn, Nat.min_eq_right (Nat.mul_le_mul_right _ hn)]
  · rw [List.getElem?_take] at hj
    split at hj
    · rename_i hlt
      have := h.2 j p hj
      rw [List.drop_take, List.take_take]
      have e : min size (n * size - j * size) = size := by
        have := Nat.mul_le_mul_right size (show j + 1 ≤ n by omega)
        rw [Nat.add_mul, Nat.one_mul] at this
        omega
      rw [e]
      exact this
    · cases hj
theorem reps_drop {α : Type} {R : α → List Value → Prop} {size : Nat} {ps : List α} {cs : List Value} (h : Reps R size ps cs) (n : Nat) : Reps R size (ps.drop n) (cs.drop (n * size)) := by
  refine ⟨by rw [List.length_drop, List.length_drop, h.1, Nat.sub_mul], fun j p hj => ?_⟩
  rw [List.getElem?_drop] at hj
  have := h.2 (n + j) p hj
  rw [List.drop_drop, ← Nat.add_mul]
  exact this
theorem reps_append {α : Type} {R : α → List Value → Prop} {size : Nat} {ps qs : List α} {cs ds : List Value} (h : Reps R size ps cs) (g : Reps R size qs ds) : Reps R size (ps ++ qs) (cs ++ ds) := by
  refine ⟨by rw [List.length_append, List.length_append, h.1, g.1, Nat.add_mul], fun j p hj => ?_⟩
  rcases Nat.lt_or_ge j ps.length with hlt | hge
  · rw [List.getElem?_append_left hlt] at hj
    have := h.2 j p hj
    have hl := h.1
    have h2 := Nat.mul_le_mul_right size (show j + 1 ≤ ps.length by omega)
    rw [Nat.add_mul, Nat.one_mul] at h2
    rw [List.drop_append_of_le_length (by omega), List.take_append_of_le_length (by rw [List.length_drop]; omega)]
    exact this
  · rw [List.getElem?_append_right hge] at hj
    have := g.2 _ p hj
    have hl := h.1
    have h2 := Nat.mul_le_mul_right size hge
    rw [List.drop_append, List.drop_eq_nil_of_le (by omega), List.nil_append, hl, ← Nat.sub_mul]
    exact this
/-- A row that is the call's own, behind what was written into its block. -/
theorem own_after {α : Type} {d : Kd α} {e : TypeId} {w0 w w' : World} {P0 : Nat → Prop} {g cap n : Nat} {cur2 : Array Value} {ys : List α} {inner : List Value}
    (hM : ∀ (w w' : World) (b b' : Nat) (ok ok' : Nat → Prop) (x : α) (cs : List Value), d.M w b ok x cs → d.M w' b' ok' x cs)
    (hbg : w0.heap.size ≤ g) (hP : P0 g) (hg : w'.heap[g]? = some (.cells cur2 e (0, 0))) (hn : n = ys.length) (hcap : ys.length ≤ cap) (hcm : cap ≤ maxLen) (hcs : cur2.size = cap * d.sz)
    (htake : cur2.toList.take (ys.length * d.sz) = inner) {W : World} {b : Nat} {ok : Nat → Prop} (hreps : Reps (d.M W b ok) d.sz ys inner) {ok2 : Nat → Prop} (hok : ok2 g) :
    Kd.R d e w' w0.heap.size ok2 (.slice (some ⟨g, 0, none⟩) n cap) ys := by
  subst hn
  refine ⟨fun k hk => ?_, inner, ⟨hreps.1, .inr ⟨g, cap, cur2, rfl, hbg, hg, hcap, hcm, hcs, htake⟩⟩, ?_⟩
  · simp [Value.ownBlock] at hk
    subst hk
    exact hok
  · exact ⟨hreps.1, fun j p hj => hM _ _ _ _ _ _ _ _ (hreps.2 j p hj)⟩
theorem below_row {w0 w : World} {g : Nat} (hB : Below w0.heap.size w0 w) (hbg : w0.heap.size ≤ g) (c : Array Value) : Below w0.heap.size w0 (w.setRow g c) :=
  ⟨hB.os, hB.tape, hB.output, by simpa using hB.size, fun k hk => (setRow_other w g k c (by omega)).trans (hB.block k hk)⟩
theorem kept_row {w W : World} {S : Nat → Prop} {g : Nat} (h : Kept w W S) (hg : S g) (c : Array Value) : Kept w (W.setRow g c) S :=
  ⟨by simpa using h.1, fun k hk hn => (setRow_other W g k c (fun e => hn (e ▸ hg))).trans (h.2 k hk hn)⟩
theorem step_append_runI {P : Program} {ops : Array Oper} {o : Oper} {a : Act} {w : World} {K : Act → World → Prop} {Q : Exit → Act → World → Prop} {E : Prop}
    (hg : o.guard = none) (d x : Operand) (dT sT : TypeId) (hop : o.op = Op.call { callee := Callee.builtin Builtin.append, args := #[d, x], argTypes := #[dT, sT] })
    (v u : Value) (hd : a.eval d = v) (hx : a.eval x = u) {v' : Value} {w' : World} (hr : (Builtin.append_ #[dT, sT] o.type #[v, u]).run P w = .ok v' w') (hK : K (a.put o.dst v') w') :
    if Region.wanted o (yielded ops a.tmps) = true then Oper.wp P o a w K Q else E := by
  have hw : Region.wanted o (yielded ops a.tmps) = true := by simp [Region.wanted, hg]
  rw [if_pos hw]
  unfold Oper.wp
  simp [execOp, hop, resolve, invoke, builtin, hd, hx, hr, Result.andThen]
  exact hK
theorem step_copy_runK {P : Program} {ops : Array Oper} {o : Oper} {a : Act} {w : World} {K : Act → World → Prop} {Q : Exit → Act → World → Prop} {E : Prop}
    (hg : o.guard = none) (d x : Operand) (dT sT : TypeId) (hop : o.op = Op.call { callee := Callee.builtin Builtin.copy, args := #[d, x], argTypes := #[dT, sT] })
    (v u : Value) (hd : a.eval d = v) (hx : a.eval x = u) {v' : Value} {w' : World} (hr : (Builtin.copy_ #[dT, sT] o.type #[v, u]).run P w = .ok v' w') (hK : K (a.put o.dst v') w') :
    if Region.wanted o (yielded ops a.tmps) = true then Oper.wp P o a w K Q else E := by
  have hw : Region.wanted o (yielded ops a.tmps) = true := by simp [Region.wanted, hg]
  rw [if_pos hw]
  unfold Oper.wp
  simp [execOp, hop, resolve, invoke, builtin, hd, hx, hr, Result.andThen]
  exact hK
theorem wpList_copy_runK {P : Program} (w : World) {ops : Array Oper} {rest : List Oper} {o : Oper} {a : Act} {Q : Exit → Act → World → Prop} (hgd : o.guard = none) (d s : Operand) (t t' : TypeId)
    (ho : o.op = .call { callee := .builtin .copy, args := #[d, s], argTypes := #[t, t'] }) (v u : Value) (hd : a.eval d = v) (hs : a.eval s = u) {v' : Value} {w' : World}
    (hr : (Builtin.copy_ #[t, t'] o.type #[v, u]).run P w = .ok v' w') (h : wpList P ops Q rest (a.put o.dst v') w') : wpList P ops Q (o :: rest) a w :=
  wpList_plain hgd fun K hK => by
    unfold Oper.wp execOp
    simp only [ho, resolve, invoke, builtin, Sem.run_bind, Sem.run_pure, Result.andThen_ok, List.map_toArray, List.map_cons, List.map_nil, hd, hs, hr]
    exact hK _ _ h
end Go.Proofs.Ytcbmkonigclceaa.KdW
