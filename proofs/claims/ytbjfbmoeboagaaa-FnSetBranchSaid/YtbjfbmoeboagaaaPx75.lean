-- The functions of the seat as plain Lean functions, made by the kit's print.py for all laws at once. Not trusted: Lean checks it.
import Derived.Test.YtbjfbmoeboagaaaPx0
namespace Go.Proofs.Ytbjfbmoeboagaaa.P
open Go.RowKit Go.Proofs.YtbjfbmoeboagaaaW.PrintWords Go.Proofs.YtbjfbmoeboagaaaW.PrintLast Go.Proofs.YtbjfbmoeboagaaaW.PrintMore
attribute [local go_sem] max2_int min2_int max_two min_two max_three min_three max_four min_four   -- for this text's walks alone
set_option linter.unusedVariables false
set_option linter.unusedSimpArgs false

/-! ### slices_Delete_Branch: function 78 (by a text of my own) -/
def slices_Delete_Branch.f (l0 : List S64) (a1 a2 : Int) : Option (List S64) := if 0 ≤ a1 ∧ a1 < a2 ∧ a2 ≤ (l0.length : Int) then some (l0.take a1.toNat ++ l0.drop a2.toNat) else none
set_option maxHeartbeats 8000000 in
set_option maxRecDepth 100000 in
theorem slices_Delete_Branch.calls (P0_ : Nat → Prop) (u9000_ : Value) (l0 : List S64) (a1 a2 : Int) (r : List S64) (w0 w : World) (hB : Below w0.heap.size w0 w) (ho0 : Kd.R k64 64 w w0.heap.size P0_ u9000_ l0) (h : slices_Delete_Branch.f l0 a1 a2 = some r) :
    Calls Try.prog 78 #[u9000_, .int .i64 a1, .int .i64 a2] w fun e w' => ∃ v0_ : Value, e = .returned (v0_) ∧ Kd.R k64 64 w' w0.heap.size (fun k_ => (P0_ k_ ∨ w.heap.size ≤ k_)) v0_ r ∧ Below w0.heap.size w0 w' ∧ Kept w w' (fun k_ => P0_ k_) := by
  unfold slices_Delete_Branch.f at h
  by_cases hc : 0 ≤ a1 ∧ a1 < a2 ∧ a2 ≤ (l0.length : Int)
  case neg => rw [if_neg hc] at h; cases h
  rw [if_pos hc] at h
  obtain rfl := Option.some.inj h
  clear h
  obtain ⟨h0, h1, h2⟩ := hc
  obtain ⟨i, rfl⟩ := Int.eq_ofNat_of_zero_le h0
  obtain ⟨j, rfl⟩ := Int.eq_ofNat_of_zero_le (show 0 ≤ a2 by omega)
  simp only [Int.toNat_natCast]
  have h1 : i < j := by omega
  have h2 : j ≤ l0.length := by omega
  obtain ⟨hP, inner, hown, hreps⟩ := ho0
  obtain ⟨hil, hown2⟩ := hown
  rcases hown2 with ⟨rfl, hn0⟩ | ⟨g, cap, cur, rfl, hbg, hg, hnc, hcm, hcs, htake⟩
  · exfalso; omega
  obtain ⟨i0, hi, hz0, hz1, hz2⟩ := info_parts info64
  have hz1c : ¬ ((i : Int) = (j : Int)) := by omega
  have hsz : k64.sz = 2 := rfl
  have hzi : ∀ u ∈ inner, u.oneCell' = true := KdW.reps_one hreps (by decide) (fun _ _ h => Kd.K_one k64 (Kd.K_of_M k64 h))
  have hcm' : cap ≤ 9223372036854775807 := by simpa [maxLen] using hcm
  have hil' : inner.length = l0.length * 2 := hil
  have hcs' : cur.size = cap * 2 := hcs
  have htake' : cur.toList.take (l0.length * 2) = inner := htake
  have hnl : (inner.drop (j * 2)).length = (l0.length - j) * i0.size := by rw [List.length_drop, hil', hz1]; omega
  have hcell : ∀ t u, inner[t]? = some u → w.cell? ⟨g, t, none⟩ = some u := by
    intro t u hu
    rw [cell_of_row w g t cur 64 (0, 0) hg, ← Array.getElem?_toList]
    rw [← htake', List.getElem?_take] at hu
    split at hu
    · exact hu
    · cases hu
  obtain ⟨A, hA, hsrc⟩ : ∃ A : Addr, (if cap = j then some (⟨g, 0, none⟩ : Addr) else some ⟨g, j * 2, none⟩) = some A ∧ (∀ t u, (inner.drop (j * 2))[t]? = some u → w.drew.cell? (A.add t) = some u) := by
    by_cases hcj : cap = j
    · refine ⟨_, by rw [if_pos hcj], fun t u hu => ?_⟩
      rw [List.drop_eq_nil_of_le (by omega)] at hu
      simp at hu
    · refine ⟨_, by rw [if_neg hcj], fun t u hu => ?_⟩
      rw [Addr.add_lit]
      rw [List.getElem?_drop] at hu
      exact hcell _ u hu
  obtain ⟨cur1, hcur1⟩ : ∃ cur1 : Array Value, cur1 = (cur.toList.take (i * i0.size) ++ inner.drop (j * 2) ++ cur.toList.drop (i * i0.size + (inner.drop (j * 2)).length)).toArray := ⟨_, rfl⟩
  have hrun : ∀ ty, (Builtin.append_ #[40, 40] ty #[.slice (some ⟨g, 0, none⟩) i cap, .slice (some A) (l0.length - j) (cap - j)]).run Try.prog w.drew = .ok (.slice (some ⟨g, 0, none⟩) (i + (l0.length - j)) cap) (w.drew.setRow g cur1) := fun ty => by
    rw [hcur1]
    exact run_append_room (P := Try.prog) w.drew 40 ty 64 i0 Try.underlying40 hi g i cap cur hg A (l0.length - j) (cap - j) (inner.drop (j * 2)) hnl hsrc (fun u hu => hzi u (List.mem_of_mem_drop hu)) (by omega) (by rw [hnl, hz1, hcs']; omega)
  have hs1 : cur1.size = cap * 2 := by
    rw [hcur1]
    simp only [List.size_toArray, List.length_append, List.length_take, List.length_drop, Array.length_toList, hnl, hz1, hcs']
    omega
  have ht1 : cur1.toList.take ((i + (l0.length - j)) * 2) = inner.take (i * 2) ++ inner.drop (j * 2) := by
    rw [hcur1, hz1, List.toList_toArray]
    have e1 : cur.toList.take (i * 2) = inner.take (i * 2) := by rw [← htake', List.take_take, Nat.min_eq_left (by omega)]
    have e2 : ((i + (l0.length - j)) * 2) = (inner.take (i * 2) ++ inner.drop (j * 2)).length := by rw [List.length_append, List.length_take, List.length_drop, hil']; omega
    rw [e1, e2, List.take_left']
    rfl
  obtain ⟨W1, hW1⟩ : ∃ W1, W1 = w.drew.setRow g cur1 := ⟨_, rfl⟩
  have hg1 : W1.heap[g]? = some (.cells cur1 64 (0, 0)) := by rw [hW1]; exact setRow_heap w.drew g cur _ 64 _ hg
  obtain ⟨cur2, hcl, hs2, ht2⟩ := KdW.run_clear_row (P := Try.prog) W1 40 64 0 i0 (.agg #[(.string ⟨#[]⟩), (.int .i64 0)]) Try.underlying40 hi hz0 (by decide) g ((i + (l0.length - j)) * 2) (l0.length - (i + (l0.length - j))) (cap - (i + (l0.length - j))) cur1 64 hg1 (by
    rw [hs1]
    show _ + _ * 2 ≤ _
    omega)
  rw [← hW1] at hrun
  have mixed : Try.prog.follows Departure.mixedOrders = true := by kernel_rfl
  have hic : i ≤ cap := by omega
  have hjc : j ≤ cap := by omega
  have X := Aside0.mk (And.intro hs2 (And.intro ht2 (And.intro hs1 (And.intro ht1 (And.intro hW1 (And.intro hreps (And.intro hg1 (And.intro hg hP))))))))
  clear hs2 ht2 hs1 ht1 hW1 hreps hg1 hg hcur1 hsrc hcell htake htake' hP hzi hnl
  go_enter Try.func78, Try.ntmps78
  go_wp2_with fail
  go_region_law_o (refine KdW.step_append_runI rfl (.tmp 22) (.tmp 25) 40 40 rfl (.slice (some ⟨g, 0, none⟩) i cap) (.slice (some A) (l0.length - j) (cap - j)) (by simp [Act.eval, Act.put]) (by simp [Act.eval, Act.put] <;> exact hA) (hrun _) ?_)
  go_wp2
  go_ret
  obtain ⟨hs2, ht2, hs1, ht1, hW1, hreps, hg1, hg, hP⟩ := X.out
  have hPg : P0_ g := hP g rfl
  have hlen : (l0.take i ++ l0.drop j).length = i + (l0.length - j) := by rw [List.length_append, List.length_take, List.length_drop]; omega
  refine ⟨_, rfl, KdW.own_after (w := w) (P0 := P0_) (fun _ _ _ _ _ _ _ _ h => h) hbg hPg (setRow_heap W1 g cur1 cur2 64 _ hg1) hlen.symm (by omega) hcm (by rw [hs2, hs1]; rfl) ?_ (KdW.reps_append (KdW.reps_take hreps i) (KdW.reps_drop hreps j)) (Or.inl hPg), ?_, ?_⟩
  · rw [hlen]
    exact ht2.trans ht1
  · rw [hW1]
    exact KdW.below_row (KdW.below_row (w := w.drew) ⟨hB.os, hB.tape, hB.output, hB.size, hB.block⟩ hbg _) hbg _
  · rw [hW1]
    exact KdW.kept_row (KdW.kept_row (W := w.drew) (Kept.drew (Kept.refl w _)) hPg _) hPg _

end Go.Proofs.Ytbjfbmoeboagaaa.P
