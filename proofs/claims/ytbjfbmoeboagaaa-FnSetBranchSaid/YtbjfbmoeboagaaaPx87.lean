-- The functions of the seat as plain Lean functions, made by the kit's print.py for all laws at once. Not trusted: Lean checks it.
import Derived.Test.YtbjfbmoeboagaaaPx0
namespace Go.Proofs.Ytbjfbmoeboagaaa.P
open Go.RowKit Go.Proofs.YtbjfbmoeboagaaaW.PrintWords Go.Proofs.YtbjfbmoeboagaaaW.PrintLast Go.Proofs.YtbjfbmoeboagaaaW.PrintMore
attribute [local go_sem] max2_int min2_int max_two min_two max_three min_three max_four min_four   -- for this text's walks alone
set_option linter.unusedVariables false
set_option linter.unusedSimpArgs false

/-! ### slices_Insert_Branch: function 79 (by a text of my own) -/
def slices_Insert_Branch.f (l0 : List S64) (a1 : Int) (l2 : List S64) : Option (List S64) := if l2.length = 1 ∧ 0 ≤ a1 ∧ a1 ≤ (l0.length : Int) ∧ (l0.length + 1) * 24 ≤ 140737488355328 then some (l0.take a1.toNat ++ l2 ++ l0.drop a1.toNat) else none
set_option maxHeartbeats 8000000 in
set_option maxRecDepth 100000 in
theorem slices_Insert_Branch.calls (P0_ : Nat → Prop) (u9000_ : Value) (l0 : List S64) (a1 : Int) (P2_ : Nat → Prop) (u9001_ : Value) (l2 : List S64) (r : List S64) (w0 w : World) (hB : Below w0.heap.size w0 w) (ho0 : Kd.R k64 64 w w0.heap.size P0_ u9000_ l0) (hp0_2 : ∀ k_, P0_ k_ → ¬ P2_ k_) (ho2 : Kd.R k64 64 w w0.heap.size P2_ u9001_ l2) (hp2_0 : ∀ k_, P2_ k_ → ¬ P0_ k_) (h : slices_Insert_Branch.f l0 a1 l2 = some r) :
    Calls Try.prog 79 #[u9000_, .int .i64 a1, u9001_] w fun e w' => ∃ v0_ : Value, e = .returned (v0_) ∧ Kd.R k64 64 w' w0.heap.size (fun k_ => ((P0_ k_ ∨ P2_ k_) ∨ w.heap.size ≤ k_)) v0_ r ∧ Below w0.heap.size w0 w' ∧ Kept w w' (fun k_ => P0_ k_ ∨ P2_ k_) := by
  unfold slices_Insert_Branch.f at h
  by_cases hc : l2.length = 1 ∧ 0 ≤ a1 ∧ a1 ≤ (l0.length : Int) ∧ (l0.length + 1) * 24 ≤ 140737488355328
  case neg => rw [if_neg hc] at h; cases h
  rw [if_pos hc] at h
  obtain rfl := Option.some.inj h
  clear h
  obtain ⟨hl1, h0, h1, hbig⟩ := hc
  obtain ⟨i, rfl⟩ := Int.eq_ofNat_of_zero_le h0
  simp only [Int.toNat_natCast]
  have hin : i ≤ l0.length := by omega
  obtain ⟨i0, hi, hz0, hz1, hz2⟩ := info_parts info64
  obtain ⟨A2, c2, eu2, hlc2, HR2⟩ := Kd.R_reads ho2
  by_cases hend : i = l0.length
  · -- behind the last one
    subst hend
    have HO : Kd.R k64 64 w w0.heap.size (fun k_ => ((P0_ k_ ∨ P2_ k_) ∨ w.heap.size ≤ k_)) u9000_ l0 := Kd.R_mono ho0 (fun k hk => Or.inl (Or.inl hk))
    have el : l0.take l0.length ++ l2 ++ l0.drop l0.length = l0 ++ l2 := by simp
    rw [el]
    have hP := ho0.1
    obtain ⟨A0, c0, rfl, hlc0, HR0⟩ := Kd.R_reads ho0
    have H0 := Aside0.mk (And.intro HO (And.intro HR2 hP))
    rw [eu2, hl1]
    rw [hl1] at HR2
    have hc63 : c0 ≤ 9223372036854775807 := by
      obtain ⟨_, _, hown, _⟩ := ho0
      rcases hown.2 with ⟨h, _⟩ | ⟨_, _, _, h, _, _, _, hcm, _⟩
      · injection h with h1 h2 h3; omega
      · injection h with h1 h2 h3; rw [h3]; simpa [maxLen] using hcm
    have step : ∀ (ops : Array Oper) (rest : List Oper) (o : Oper) (a : Act) (Q : Exit → Act → World → Prop) (x y : Operand), o.guard = none → o.op = .call { callee := .builtin .append, args := #[x, y], argTypes := #[40, 40] } → a.eval x = .slice A0 l0.length c0 → a.eval y = .slice A2 1 c2 →
        (∀ v1 w1, Kd.R k64 64 w1 w0.heap.size (fun k_ => ((P0_ k_ ∨ P2_ k_) ∨ w.heap.size ≤ k_)) v1 (l0 ++ l2) → Below w0.heap.size w0 w1 → Kept w w1 (fun k_ => P0_ k_ ∨ P2_ k_) → wpList Try.prog ops Q rest (a.put o.dst v1) w1) → wpList Try.prog ops Q (o :: rest) a w := by
      intro ops rest o a Q x y hg ho hx hy hk
      refine Kd.R_append_rows k64 w0.heap.size hg x y 40 64 (.agg #[(.string ⟨#[]⟩), (.int .i64 0)]) 24 ho Try.underlying40 info64 rfl (by decide) (by decide) _ l0 l2 A2 1 c2 _ (fun _ => False) hx hy HO HR2 (fun _ _ h => h) (fun _ h => h.elim) (fun k h => Or.inr h) hB hB.size hbig ?_
      intro v1 w1 h1 h2 h3 _
      exact hk v1 w1 h1 h2 (Kept.of_grown h3 (Kept.refl w _) (fun k hk => Or.inl (Or.inl (hP k hk))))
    clear HO HR2 hP ho0 ho2 HR0 hp0_2 hp2_0 el eu2
    cases A0 with
    | none =>
      have h00 : l0.length = 0 ∧ c0 = 0 := by
        obtain ⟨hO, _, hP⟩ := H0.out
        obtain ⟨_, _, hown, _⟩ := hO
        rcases hown.2 with ⟨h, h'⟩ | ⟨_, _, _, h, _⟩
        · injection h with h1 h2 h3; exact ⟨h', h3⟩
        · injection h with h1 h2 h3; cases h1
      obtain ⟨h00, rfl⟩ := h00
      rw [h00] at step ⊢
      clear H0
      go_enter Try.func79, Try.ntmps79
      go_wp2_with (at_builtin; refine step _ _ _ _ _ _ _ rfl rfl rfl rfl ?_; intro v1 w1 h1 h2 h3)
      all_goals (go_ret; exact ⟨v1, rfl, h1, h2, h3⟩)
    | some ad =>
      obtain ⟨g, off, sp⟩ := ad
      go_enter Try.func79, Try.ntmps79
      go_wp2_with (at_builtin; refine step _ _ _ _ _ _ _ rfl rfl rfl rfl ?_; intro v1 w1 h1 h2 h3)
      all_goals (go_ret; exact ⟨v1, rfl, h1, h2, h3⟩)
  · -- before another one: the row has a block
    obtain ⟨hP, inner, hown, hreps⟩ := ho0
    obtain ⟨hP2, news, hownv, hrepsv⟩ := ho2
    obtain ⟨hvl, hownv2⟩ := hownv
    rcases hownv2 with ⟨rfl, hn0⟩ | ⟨vb, vc, vcur, rfl, hbv, hgv, hvc, hvcm, hvcs, hvtake⟩
    · exfalso; omega
    obtain ⟨hil, hown2⟩ := hown
    rcases hown2 with ⟨rfl, hn0⟩ | ⟨g, cap, cur, rfl, hbg, hg, hnc, hcm, hcs, htake⟩
    · exfalso; omega
    have hnl : news.length = 2 := by rw [hvl, hl1]; rfl
    have hil' : inner.length = l0.length * 2 := hil
    have hcs' : cur.size = cap * 2 := hcs
    have htake' : cur.toList.take (l0.length * 2) = inner := htake
    have hcm' : cap ≤ 9223372036854775807 := by simpa [maxLen] using hcm
    have hv1 : ∀ u ∈ news, u.oneCell' = true := KdW.reps_one hrepsv (by decide) (fun _ _ h => Kd.K_one k64 (Kd.K_of_M k64 h))
    have hz1i : ∀ u ∈ inner, u.oneCell' = true := KdW.reps_one hreps (by decide) (fun _ _ h => Kd.K_one k64 (Kd.K_of_M k64 h))
    have hvcell : ∀ t u, news[t]? = some u → w.cell? ⟨vb, t, none⟩ = some u := by
      intro t u hu
      rw [cell_of_row w vb t vcur 64 (0, 0) hgv, ← Array.getElem?_toList]
      rw [← hvtake, List.getElem?_take] at hu
      split at hu
      · exact hu
      · cases hu
    have hcell : ∀ t u, inner[t]? = some u → w.cell? ⟨g, t, none⟩ = some u := by
      intro t u hu
      rw [cell_of_row w g t cur 64 (0, 0) hg, ← Array.getElem?_toList]
      rw [← htake', List.getElem?_take] at hu
      split at hu
      · exact hu
      · cases hu
    have hPg : P0_ g := hP g rfl
    have hPv : P2_ vb := hP2 vb rfl
    have hne : vb ≠ g := fun e => hp0_2 g hPg (e ▸ hPv)
    have hgl : g < w.heap.size := (Array.getElem?_eq_some_iff.1 hg).1
    have hvbl : vb < w.heap.size := (Array.getElem?_eq_some_iff.1 hgv).1
    rw [hl1]
    have mixed : Try.prog.follows Departure.mixedOrders = true := by kernel_rfl
    have hz2c : ¬ ((i : Int) = (l0.length : Int)) := by omega
    have hw1 : IntKind.i64.wrap ((i : Int) + (1 : Int)) = (i : Int) + (1 : Int) := by rw [IntKind.wrap_i64]; omega
    have htn : ((i : Int) + (1 : Int)).toNat = i + 1 := by omega
    have hdl : (inner.drop (i * 2)).length = (l0.length - i) * 2 := by rw [List.length_drop, hil']; omega
    have hin' : i < l0.length := by omega
    have hylen : (l0.take i ++ l2 ++ l0.drop i).length = l0.length + 1 := by rw [List.length_append, List.length_append, List.length_take, List.length_drop, hl1]; omega
    have hyreps : Reps (k64.M w w0.heap.size (fun _ => True)) k64.sz (l0.take i ++ l2 ++ l0.drop i) (inner.take (i * 2) ++ news ++ inner.drop (i * 2)) :=
      KdW.reps_append (KdW.reps_append (KdW.reps_take (R := k64.M w w0.heap.size (fun _ => True)) ⟨hreps.1, fun j p hj => hreps.2 j p hj⟩ i) ⟨hrepsv.1, fun j p hj => hrepsv.2 j p hj⟩) (KdW.reps_drop (R := k64.M w w0.heap.size (fun _ => True)) ⟨hreps.1, fun j p hj => hreps.2 j p hj⟩ i)
    by_cases hroom : l0.length + 1 ≤ cap
    · -- in place
      obtain ⟨cur1, hcur1⟩ : ∃ cur1 : Array Value, cur1 = (cur.toList.take ((i + 1) * 2) ++ inner.drop (i * 2) ++ cur.toList.drop ((i + 1) * 2 + (inner.drop (i * 2)).length)).toArray := ⟨_, rfl⟩
      have hs1 : cur1.size = cap * 2 := by
        rw [hcur1]
        simp only [List.size_toArray, List.length_append, List.length_take, List.length_drop, Array.length_toList, hil', hcs']
        omega
      have hcp1 : ∀ ty dc sc, (Builtin.copy_ #[40, 40] ty #[.slice (some ⟨g, (i + 1) * 2, none⟩) (l0.length - i) dc, .slice (some ⟨g, i * 2, none⟩) (l0.length + 1 - i) sc]).run Try.prog w.drew = .ok (goInt (Nat.min (l0.length + 1 - i) (l0.length - i))) (w.drew.setRow g cur1) := fun ty dc sc => by
        rw [hcur1]
        exact KdW.run_copy_rowk w.drew 40 40 ty 64 g ((i + 1) * 2) (l0.length - i) dc ⟨g, i * 2, none⟩ (l0.length + 1 - i) sc cur 64 (inner.drop (i * 2)) i0 Try.underlying40 hi hg (by rw [hdl, hz1]; simp only [Nat.min_def]; split <;> omega)
          (fun j v hj => by rw [Addr.add_lit]; rw [List.getElem?_drop] at hj; exact hcell _ v hj) (by rw [hdl, hcs']; omega) (fun v hv => hz1i v (List.mem_of_mem_drop hv))
      obtain ⟨W1, hW1⟩ : ∃ W1, W1 = w.drew.setRow g cur1 := ⟨_, rfl⟩
      have hg1 : W1.heap[g]? = some (.cells cur1 64 (0, 0)) := by rw [hW1]; exact setRow_heap w.drew g cur _ 64 _ hg
      obtain ⟨cur2, hcur2⟩ : ∃ cur2 : Array Value, cur2 = (cur1.toList.take (i * 2) ++ news ++ cur1.toList.drop (i * 2 + news.length)).toArray := ⟨_, rfl⟩
      have hcp2 : ∀ ty dc, (Builtin.copy_ #[40, 40] ty #[.slice (some ⟨g, i * 2, none⟩) (l0.length + 1 - i) dc, .slice (some ⟨vb, 0, none⟩) 1 vc]).run Try.prog W1 = .ok (goInt (Nat.min 1 (l0.length + 1 - i))) (W1.setRow g cur2) := fun ty dc => by
        rw [hcur2]
        exact KdW.run_copy_rowk W1 40 40 ty 64 g (i * 2) (l0.length + 1 - i) dc ⟨vb, 0, none⟩ 1 vc cur1 64 news i0 Try.underlying40 hi hg1 (by rw [hnl, hz1]; simp only [Nat.min_def]; split <;> omega)
          (fun j v hj => by
            rw [Addr.add_lit, Nat.zero_add, hW1]
            have : (w.drew.setRow g cur1).heap[vb]? = w.heap[vb]? := setRow_other w.drew g vb _ hne
            rw [World.cell?_of_block (w := w) this]
            exact hvcell j v hj) (by rw [hnl, hs1]; omega) hv1
      have e1 : cur.toList.take (i * 2) = inner.take (i * 2) := by rw [← htake', List.take_take, Nat.min_eq_left (by omega)]
      have hcl : cur.toList.length = cap * 2 := by rw [Array.length_toList (xs := cur), hcs']
      have e3 : cur1.toList.take (i * 2) = inner.take (i * 2) := by
        rw [hcur1, List.toList_toArray, List.append_assoc, List.take_append_of_le_length (by rw [List.length_take, hcl]; omega), List.take_take, Nat.min_eq_left (by omega), e1]
      have e4 : cur1.toList.drop (i * 2 + news.length) = inner.drop (i * 2) ++ cur.toList.drop ((i + 1) * 2 + (inner.drop (i * 2)).length) := by
        rw [hcur1, List.toList_toArray, List.append_assoc, List.drop_left']
        rw [List.length_take, hcl, hnl]
        omega
      have ht2 : cur2.toList.take ((l0.length + 1) * 2) = inner.take (i * 2) ++ news ++ inner.drop (i * 2) := by
        rw [hcur2, List.toList_toArray, e3, e4, ← List.append_assoc, List.take_left']
        rw [List.length_append, List.length_append, List.length_take, hdl, hnl, hil']
        omega
      have hs2 : cur2.size = cap * 2 := by
        rw [hcur2]
        simp only [List.size_toArray, List.length_append, List.length_take, List.length_drop, Array.length_toList, hnl, hs1]
        omega
      rw [← hW1] at hcp1
      have hov : ∀ lb cb, (callFunc 88 #[.slice (some ⟨vb, 0, none⟩) 1 vc, .slice (some ⟨g, (i + 1) * 2, none⟩) lb cb]).run Try.prog w = .ok (.value (.bool false)) w := fun lb cb => by
        rw [run_callFunc_extern Try.func88 (by kernel_rfl) (by kernel_rfl) (by kernel_rfl) (e := Extern.SlicesOverlaps.overlaps #[40, 40] #[4]) (by kernel_rfl),
          Lib.run_overlaps_apart w 40 4 64 Try.underlying40 2 (fun w => by simp [sizeOf, typeInfo, hi, hz1]) ⟨vb, 0, none⟩ ⟨g, (i + 1) * 2, none⟩ 1 vc lb cb hne 64 64 vcur.size cur.size (by simp [World.shape?, hgv]) (by simp [World.shape?, hg]) (by omega) (by simp [World.frozen?, hgv]) (by simp [World.frozen?, hgv])]
        rfl
      have X := Aside0.mk (And.intro hW1 (And.intro hg1 (And.intro hg (And.intro ht2 (And.intro hs2 (And.intro hyreps hP))))))
      clear hW1 hg1 hg ht2 hs2 hyreps hP hcur1 hcur2 hvcell hcell htake htake' hv1 hz1i hreps hrepsv hvtake hgv hcs hvcs hdl hs1
      have hb1 : (0 : Int) ≤ (i : Int) + (1 : Int) := by omega
      have hb3 : (i : Int) ≤ (l0.length : Int) + 1 := by omega
      have hb2 : ¬ (cap = i + 1) := by omega
      clear eu2
      have hb4 : ¬ (cap = i) := by omega
      go_enter Try.func79, Try.ntmps79
      go_wp2_with (simp only [hov])
      go_region_law_o (refine KdW.step_copy_runK rfl _ _ 40 40 rfl _ _ (by simp [Act.eval, Act.put]) (by simp [Act.eval, Act.put]) (hcp1 _ _ _) ?_)
      go_wp2_with (at_builtin; refine KdW.wpList_copy_runK _ rfl _ _ 40 40 rfl _ _ rfl rfl (hcp2 _ _) ?_)
      go_ret
      obtain ⟨hW1, hg1, hg, ht2, hs2, hyreps, hP⟩ := X.out
      refine ⟨_, rfl, KdW.own_after (w := w) (P0 := P0_) (fun _ _ _ _ _ _ _ _ h => h) hbg hPg (setRow_heap W1 g cur1 cur2 64 _ hg1) hylen.symm (by omega) hcm (by rw [hs2]; rfl) (by rw [hylen]; exact ht2) hyreps (Or.inl (Or.inl hPg)), ?_, ?_⟩
      · rw [hW1]
        exact KdW.below_row (KdW.below_row (w := w.drew) ⟨hB.os, hB.tape, hB.output, hB.size, hB.block⟩ hbg _) hbg _
      · rw [hW1]
        exact KdW.kept_row (KdW.kept_row (W := w.drew) (Kept.drew (Kept.refl w _)) (Or.inl hPg) _) (Or.inl hPg) _
    · -- a new row
      have hkk : (l0.length : Int) + 1 - (i : Int) = ((l0.length + 1 - i : Nat) : Int) := by omega
      have hik : i + (l0.length + 1 - i) = l0.length + 1 := by omega
      have hold : (Builtin.firstCells i0.size i (.slice (some ⟨g, 0, none⟩) i cap)).run Try.prog w.drew = .ok (inner.take (i * 2)).toArray w.drew := by
        rw [hz1]
        exact run_firstCells_some w.drew 2 i ⟨g, 0, none⟩ i cap (inner.take (i * 2)) (by rw [List.length_take, hil']; omega) (fun j v hj => by
          rw [Addr.add_lit, Nat.zero_add]
          rw [List.getElem?_take] at hj
          split at hj
          · exact hcell j v hj
          · cases hj)
      obtain ⟨G, hG⟩ : ∃ G, G = grownCap w (l0.length + 1) cap 64 := ⟨_, rfl⟩
      obtain ⟨ROW, hROW⟩ : ∃ ROW : Array Value, ROW = (inner.take (i * 2)).toArray ++ Builtin.zeroCells (Value.agg #[(.string ⟨#[]⟩), (.int .i64 0)]).cells (l0.length + 1 - i) ++ Builtin.zeroCells (Value.agg #[(.string ⟨#[]⟩), (.int .i64 0)]).cells (G - (l0.length + 1)) := ⟨_, rfl⟩
      have hrz : ∀ ty, (Builtin.append_ #[40, 3] ty #[.slice (some ⟨g, 0, none⟩) i cap, .int .i64 ((l0.length : Int) + 1 - (i : Int))]).run Try.prog w = .ok (.slice (some ⟨w.heap.size, 0, none⟩) (l0.length + 1) G) (w.drew.alloc (.cells ROW 64)) := fun ty => by
        have h := Lib.run_append_grow_zeros (P := Try.prog) w 40 3 ty 64 i0 _ .i64 .i64 Try.underlying40 Try.underlying3 hi hz0 (some ⟨g, 0, none⟩) i cap (inner.take (i * 2)) hold (l0.length + 1 - i) (by omega) (by rw [hz1]; omega) (by omega) (by omega) (by rw [hz2]; omega) (by rw [hz2, hik]; exact growslice_fits (by omega) hbig)
        rw [hik] at h
        rw [hkk, hROW, hG]
        exact h
      have hGn : l0.length + 1 ≤ G := by rw [hG]; exact grownCap_ge w _ _ _
      have hGm : G ≤ maxLen := by rw [hG]; exact grownCap_le_maxLen w _ _ _ (by simp only [maxLen]; omega)
      have hG63 : G ≤ 9223372036854775807 := by simpa [maxLen] using hGm
      have hRs : ROW.size = G * 2 := by
        rw [hROW]
        simp only [Array.size_append, List.size_toArray, size_zeroCells, List.length_take, hil']
        show _ + _ * 2 + _ * 2 = _
        omega
      obtain ⟨cA, hcA⟩ : ∃ cA : Array Value, cA = (ROW.toList.take (i * 2) ++ news ++ ROW.toList.drop (i * 2 + news.length)).toArray := ⟨_, rfl⟩
      have hsA : cA.size = G * 2 := by
        rw [hcA]
        simp only [List.size_toArray, List.length_append, List.length_take, List.length_drop, Array.length_toList, hnl, hRs]
        omega
      obtain ⟨cB, hcB⟩ : ∃ cB : Array Value, cB = (cA.toList.take ((i + 1) * 2) ++ inner.drop (i * 2) ++ cA.toList.drop ((i + 1) * 2 + (inner.drop (i * 2)).length)).toArray := ⟨_, rfl⟩
      have hsB : cB.size = G * 2 := by
        rw [hcB]
        simp only [List.size_toArray, List.length_append, List.length_take, List.length_drop, Array.length_toList, hil', hsA]
        omega
      have eR : ROW.toList.take (i * 2) = inner.take (i * 2) := by
        rw [hROW]
        simp only [Array.toList_append, List.append_assoc]
        rw [List.take_left']
        rw [List.length_take, hil']
        omega
      have hRl : ROW.toList.length = G * 2 := by rw [Array.length_toList (xs := ROW), hRs]
      have htB : cB.toList.take ((l0.length + 1) * 2) = inner.take (i * 2) ++ news ++ inner.drop (i * 2) := by
        have eA : cA.toList.take ((i + 1) * 2) = inner.take (i * 2) ++ news := by
          rw [hcA, List.toList_toArray, eR, List.take_left']
          rw [List.length_append, List.length_take, hnl, hil']
          omega
        rw [hcB, List.toList_toArray, eA, List.take_left']
        rw [List.length_append, List.length_append, List.length_take, hdl, hnl, hil']
        omega
      have hheap : ∀ (W : World), W.heap = (w.alloc (.cells ROW 64)).heap → W.heap[w.heap.size]? = some (.cells ROW 64 (0, 0)) := fun W hW => by rw [hW]; exact heap_alloc_new w _
      have hcpA : ∀ (W : World), W.heap = (w.alloc (.cells ROW 64)).heap → ∀ ty dc, (Builtin.copy_ #[40, 40] ty #[.slice (some ⟨w.heap.size, i * 2, none⟩) (l0.length + 1 - i) dc, .slice (some ⟨vb, 0, none⟩) 1 vc]).run Try.prog W = .ok (goInt (Nat.min 1 (l0.length + 1 - i))) (W.setRow w.heap.size cA) := fun W hW ty dc => by
        rw [hcA]
        exact KdW.run_copy_rowk W 40 40 ty 64 w.heap.size (i * 2) (l0.length + 1 - i) dc ⟨vb, 0, none⟩ 1 vc ROW 64 news i0 Try.underlying40 hi (hheap W hW) (by rw [hnl, hz1]; simp only [Nat.min_def]; split <;> omega)
          (fun j v hj => by
            rw [Addr.add_lit, Nat.zero_add]
            have : W.heap[vb]? = w.heap[vb]? := by rw [hW]; exact heap_alloc_old w _ hvbl
            rw [World.cell?_of_block (w := w) this]
            exact hvcell j v hj) (by rw [hnl, hRs]; omega) hv1
      have hcpB : ∀ (W : World), W.heap = ((w.alloc (.cells ROW 64)).setRow w.heap.size cA).heap → ∀ ty dc sc, (Builtin.copy_ #[40, 40] ty #[.slice (some ⟨w.heap.size, (i + 1) * 2, none⟩) (l0.length - i) dc, .slice (some ⟨g, i * 2, none⟩) (l0.length - i) sc]).run Try.prog W = .ok (goInt (Nat.min (l0.length - i) (l0.length - i))) (W.setRow w.heap.size cB) := fun W hW ty dc sc => by
        have hgW : W.heap[w.heap.size]? = some (.cells cA 64 (0, 0)) := by
          rw [hW]
          exact setRow_heap (w.alloc (.cells ROW 64)) w.heap.size ROW cA 64 _ (heap_alloc_new w _)
        rw [hcB]
        exact KdW.run_copy_rowk W 40 40 ty 64 w.heap.size ((i + 1) * 2) (l0.length - i) dc ⟨g, i * 2, none⟩ (l0.length - i) sc cA 64 (inner.drop (i * 2)) i0 Try.underlying40 hi hgW (by rw [hdl, hz1]; simp only [Nat.min_def]; split <;> omega)
          (fun j v hj => by
            rw [Addr.add_lit]
            rw [List.getElem?_drop] at hj
            have : W.heap[g]? = w.heap[g]? := by rw [hW, setRow_other _ w.heap.size g _ (by omega)]; exact heap_alloc_old w _ hgl
            rw [World.cell?_of_block (w := w) this]
            exact hcell _ v hj) (by rw [hdl, hsA]; omega) (fun v hv => hz1i v (List.mem_of_mem_drop hv))
      have X := Aside0.mk (And.intro htB (And.intro hsB hyreps))
      clear htB hsB hyreps hg hvcell hcell htake htake' hv1 hz1i hreps hrepsv hvtake hgv hcs hvcs hdl hsA eR hRl hRs hold hkk hik hheap hG hROW hcA hcB hP hP2
      have hGi : ¬ (G = i) := by omega
      have hGim : ¬ (G = i + 1) := by omega
      have hci : ¬ (cap = i) := by omega
      have hb1 : (0 : Int) ≤ (i : Int) + (1 : Int) := by omega
      have hb3 : (i : Int) ≤ (l0.length : Int) := by omega
      have hz3 : (cap : Int) < (l0.length : Int) + 1 := by omega
      clear eu2
      have hE1 : ((w.alloc (.cells ROW 64)).drew).heap = (w.alloc (.cells ROW 64)).heap := rfl
      go_enter Try.func79, Try.ntmps79
      go_wp2_with (first
        | (at_builtin; refine Lib.wpList_append_run _ rfl _ _ _ _ rfl _ _ rfl rfl _ _ (hrz _) ?_)
        | (at_builtin; refine KdW.wpList_copy_runK _ rfl _ _ 40 40 rfl _ _ rfl rfl (hcpA _ rfl _ _) ?_)
        | (at_builtin; refine KdW.wpList_copy_runK _ rfl _ _ 40 40 rfl _ _ rfl rfl (hcpB _ rfl _ _ _) ?_))
      go_region_law_o (refine KdW.step_copy_runK rfl _ _ 40 40 rfl (.slice (some ⟨w.heap.size, (i + 1) * 2, none⟩) (l0.length - i) (G - (i + 1))) (.slice (some ⟨g, i * 2, none⟩) (l0.length - i) (cap - i)) (by simp [Act.eval, Act.put]) (by simp [Act.eval, Act.put]) (hcpB (((w.alloc (.cells ROW 64)).drew.setRow w.heap.size cA).drew) rfl _ _ _) ?_)
      go_wp2
      go_ret
      obtain ⟨htB, hsB, hyreps⟩ := X.out
      have hg0 : ((w.alloc (.cells ROW 64)).drew.setRow w.heap.size cA).drew.heap[w.heap.size]? = some (.cells cA 64 (0, 0)) := setRow_heap (w.alloc (.cells ROW 64)).drew w.heap.size ROW cA 64 _ (heap_alloc_new w _)
      have hBa : Below w0.heap.size w0 (w.alloc (.cells ROW 64)) := hB.alloc hB.size _
      have hBA : Below w0.heap.size w0 ((w.alloc (.cells ROW 64)).drew.setRow w.heap.size cA) := KdW.below_row (w := (w.alloc (.cells ROW 64)).drew) ⟨hBa.os, hBa.tape, hBa.output, hBa.size, hBa.block⟩ hB.size _
      have hKa : Kept w (w.alloc (.cells ROW 64)) (fun k_ => (P0_ k_ ∨ P2_ k_) ∨ w.heap.size ≤ k_) := Kept.alloc (Kept.refl w _) _
      have hKA : Kept w ((w.alloc (.cells ROW 64)).drew.setRow w.heap.size cA) (fun k_ => (P0_ k_ ∨ P2_ k_) ∨ w.heap.size ≤ k_) := KdW.kept_row (W := (w.alloc (.cells ROW 64)).drew) (Kept.drew hKa) (Or.inr (Nat.le_refl _)) _
      have hKB := KdW.kept_row (W := ((w.alloc (.cells ROW 64)).drew.setRow w.heap.size cA).drew) (Kept.drew hKA) (Or.inr (Nat.le_refl _)) cB
      refine ⟨_, rfl, KdW.own_after (w := w) (P0 := fun _ => True) (fun _ _ _ _ _ _ _ _ h => h) hB.size trivial (setRow_heap _ w.heap.size cA cB 64 _ hg0) hylen.symm (by omega) hGm (by rw [hsB]; rfl) (by rw [hylen]; exact htB) hyreps (Or.inr (Nat.le_refl _)), ?_, ?_⟩
      · exact KdW.below_row (w := ((w.alloc (.cells ROW 64)).drew.setRow w.heap.size cA).drew) ⟨hBA.os, hBA.tape, hBA.output, hBA.size, hBA.block⟩ hB.size _
      · exact ⟨hKB.1, fun k hk hn => hKB.2 k hk (fun h => h.elim hn (fun h => by omega))⟩

end Go.Proofs.Ytbjfbmoeboagaaa.P
