-- The functions of the seat as plain Lean functions, made by the kit's print.py for all laws at once. Not trusted: Lean checks it.
import Derived.Test.YtcbmkonigclceaaPx0
import Derived.Test.YtcbmkonigclceaaPx1
namespace Go.Proofs.Ytcbmkonigclceaa.P
open Go.RowKit Go.Proofs.YtcbmkonigclceaaW.PrintWords Go.Proofs.YtcbmkonigclceaaW.PrintLast Go.Proofs.YtcbmkonigclceaaW.PrintMore
attribute [local go_sem] max2_int min2_int max_two min_two max_three min_three max_four min_four   -- for this text's walks alone
set_option linter.unusedVariables false
set_option linter.unusedSimpArgs false
/-! ### slices_Insert_Piece: function 82 (by a text of my own) -/
def slices_Insert_Piece.f (l0 : List S65) (a1 : Int) (l2 : List S65) : Option (List S65) := if l2.length = 1 ∧ 0 ≤ a1 ∧ a1 ≤ (l0.length : Int) ∧ (l0.length + 1) * 24 ≤ 140737488355328 then some (l0.take a1.toNat ++ l2 ++ l0.drop a1.toNat) else none
set_option maxHeartbeats 8000000 in
set_option maxRecDepth 100000 in
theorem slices_Insert_Piece.calls (P0_ : Nat → Prop) (u9000_ : Value) (l0 : List S65) (a1 : Int) (P2_ : Nat → Prop) (u9001_ : Value) (l2 : List S65) (r : List S65) (w0 w : World) (hB : Below w0.heap.size w0 w) (ho0 : Kd.R k65 65 w w0.heap.size P0_ u9000_ l0) (hp0_2 : ∀ k_, P0_ k_ → ¬ P2_ k_) (ho2 : Kd.R k65 65 w w0.heap.size P2_ u9001_ l2) (hp2_0 : ∀ k_, P2_ k_ → ¬ P0_ k_) (h : slices_Insert_Piece.f l0 a1 l2 = some r) :
    Calls Try.prog 82 #[u9000_, .int .i64 a1, u9001_] w fun e w' => ∃ v0_ : Value, e = .returned (v0_) ∧ Kd.R k65 65 w' w0.heap.size (fun k_ => ((P0_ k_ ∨ P2_ k_) ∨ w.heap.size ≤ k_)) v0_ r ∧ Below w0.heap.size w0 w' ∧ Kept w w' (fun k_ => P0_ k_ ∨ P2_ k_) := by
  unfold slices_Insert_Piece.f at h
  by_cases hc : l2.length = 1 ∧ 0 ≤ a1 ∧ a1 ≤ (l0.length : Int) ∧ (l0.length + 1) * 24 ≤ 140737488355328
  case neg => rw [if_neg hc] at h; cases h
  rw [if_pos hc] at h
  obtain rfl := Option.some.inj h
  clear h
  obtain ⟨hl1, h0, h1, hbig⟩ := hc
  obtain ⟨i, rfl⟩ := Int.eq_ofNat_of_zero_le h0
  simp only [Int.toNat_natCast]
  have hin : i ≤ l0.length := by omega
  obtain ⟨i0, hi, hz0, hz1, hz2⟩ := info_parts info65
  obtain ⟨A2, c2, eu2, hlc2, HR2⟩ := Kd.R_reads ho2
  by_cases hend : i = l0.length
  · -- behind the last one
    subst hend
    have HO : Kd.R k65 65 w w0.heap.size (fun k_ => ((P0_ k_ ∨ P2_ k_) ∨ w.heap.size ≤ k_)) u9000_ l0 := Kd.R_mono ho0 (fun k hk => Or.inl (Or.inl hk))
    have el : l0.take l0.length ++ l2 ++ l0.drop l0.length = l0 ++ l2 := by simp
    rw [el]
    have hP := ho0.1
    obtain ⟨A0, c0, rfl, hlc0, HR0⟩ := Kd.R_reads ho0
    have H0 := Aside0.mk (And.intro HO (And.intro HR2 hP))
    rw [eu2, hl1]
    rw [hl1] at HR2
    have hc63 : c0 ≤ 9223372036854775807 := by
      obtain ⟨_, _, hown, _⟩ := ho0
      rcases hown.2 with ⟨h, _⟩ | ⟨_, _, _, h, _, _, _, hcm, _⟩
      · injection h with h1 h2 h3; omega
      · injection h with h1 h2 h3; rw [h3]; simpa [maxLen] using hcm
    have step : ∀ (ops : Array Oper) (rest : List Oper) (o : Oper) (a : Act) (Q : Exit → Act → World → Prop) (x y : Operand), o.guard = none → o.op = .call { callee := .builtin .append, args := #[x, y], argTypes := #[51, 51] } → a.eval x = .slice A0 l0.length c0 → a.eval y = .slice A2 1 c2 →
        (∀ v1 w1, Kd.R k65 65 w1 w0.heap.size (fun k_ => ((P0_ k_ ∨ P2_ k_) ∨ w.heap.size ≤ k_)) v1 (l0 ++ l2) → Below w0.heap.size w0 w1 → Kept w w1 (fun k_ => P0_ k_ ∨ P2_ k_) → wpList Try.prog ops Q rest (a.put o.dst v1) w1) → wpList Try.prog ops Q (o :: rest) a w := by
      intro ops rest o a Q x y hg ho hx hy hk
      refine Kd.R_append_rows k65 w0.heap.size hg x y 51 65 (.agg #[(.int .i64 0), (.string ⟨#[]⟩)]) 24 ho Try.underlying51 info65 rfl (by decide) (by decide) _ l0 l2 A2 1 c2 _ (fun _ => False) hx hy HO HR2 (fun _ _ h => h) (fun _ h => h.elim) (fun k h => Or.inr h) hB hB.size hbig ?_
      intro v1 w1 h1 h2 h3 _
      exact hk v1 w1 h1 h2 (Kept.of_grown h3 (Kept.refl w _) (fun k hk => Or.inl (Or.inl (hP k hk))))
    clear HO HR2 hP ho0 ho2 HR0 hp0_2 hp2_0 el eu2
    cases A0 with
    | none =>
      have h00 : l0.length = 0 ∧ c0 = 0 := by
        obtain ⟨hO, _, hP⟩ := H0.out
        obtain ⟨_, _, hown, _⟩ := hO
        rcases hown.2 with ⟨h, h'⟩ | ⟨_, _, _, h, _⟩
        · injection h with h1 h2 h3; exact ⟨h', h3⟩
        · injection h with h1 h2 h3; cases h1
      obtain ⟨h00, rfl⟩ := h00
      rw [h00] at step ⊢
      clear H0
      go_enter Try.func82, Try.ntmps82
      go_wp2_with (at_builtin; refine step _ _ _ _ _ _ _ rfl rfl rfl rfl ?_; intro v1 w1 h1 h2 h3)
      all_goals (go_ret; exact ⟨v1, rfl, h1, h2, h3⟩)
    | some ad =>
      obtain ⟨g, off, sp⟩ := ad
      go_enter Try.func82, Try.ntmps82
      go_wp2_with (at_builtin; refine step _ _ _ _ _ _ _ rfl rfl rfl rfl ?_; intro v1 w1 h1 h2 h3)
      all_goals (go_ret; exact ⟨v1, rfl, h1, h2, h3⟩)
  · -- before another one: the row has a block
    obtain ⟨hP, inner, hown, hreps⟩ := ho0
    obtain ⟨hP2, news, hownv, hrepsv⟩ := ho2
    obtain ⟨hvl, hownv2⟩ := hownv
    rcases hownv2 with ⟨rfl, hn0⟩ | ⟨vb, vc, vcur, rfl, hbv, hgv, hvc, hvcm, hvcs, hvtake⟩
    · exfalso; omega
    obtain ⟨hil, hown2⟩ := hown
    rcases hown2 with ⟨rfl, hn0⟩ | ⟨g, cap, cur, rfl, hbg, hg, hnc, hcm, hcs, htake⟩
    · exfalso; omega
    have hnl : news.length = 2 := by rw [hvl, hl1]; rfl
    have hil' : inner.length = l0.length * 2 := hil
    have hcs' : cur.size = cap * 2 := hcs
    have htake' : cur.toList.take (l0.length * 2) = inner := htake
    have hcm' : cap ≤ 9223372036854775807 := by simpa [maxLen] using hcm
    have hv1 : ∀ u ∈ news, u.oneCell' = true := KdW.reps_one hrepsv (by decide) (fun _ _ h => Kd.K_one k65 (Kd.K_of_M k65 h))
    have hz1i : ∀ u ∈ inner, u.oneCell' = true := KdW.reps_one hreps (by decide) (fun _ _ h => Kd.K_one k65 (Kd.K_of_M k65 h))
    have hvcell : ∀ t u, news[t]? = some u → w.cell? ⟨vb, t, none⟩ = some u := by
      intro t u hu
      rw [cell_of_row w vb t vcur 65 (0, 0) hgv, ← Array.getElem?_toList]
      rw [← hvtake, List.getElem?_take] at hu
      split at hu
      · exact hu
      · cases hu
    have hcell : ∀ t u, inner[t]? = some u → w.cell? ⟨g, t, none⟩ = some u := by
      intro t u hu
      rw [cell_of_row w g t cur 65 (0, 0) hg, ← Array.getElem?_toList]
      rw [← htake', List.getElem?_take] at hu
      split at hu
      · exact hu
      · cases hu
    have hPg : P0_ g := hP g rfl
    have hPv : P2_ vb := hP2 vb rfl
    have hne : vb ≠ g := fun e => hp0_2 g hPg (e ▸ hPv)
    have hgl : g < w.heap.size := (Array.getElem?_eq_some_iff.1 hg).1
    have hvbl : vb < w.heap.size := (Array.getElem?_eq_some_iff.1 hgv).1
    rw [hl1]
    have mixed : Try.prog.follows Departure.mixedOrders = true := by kernel_rfl
    have hz2c : ¬ ((i : Int) = (l0.length : Int)) := by omega
    have hw1 : IntKind.i64.wrap ((i : Int) + (1 : Int)) = (i : Int) + (1 : Int) := by rw [IntKind.wrap_i64]; omega
    have htn : ((i : Int) + (1 : Int)).toNat = i + 1 := by omega
    have hdl : (inner.drop (i * 2)).length = (l0.length - i) * 2 := by rw [List.length_drop, hil']; omega
    have hin' : i < l0.length := by omega
    have hylen : (l0.take i ++ l2 ++ l0.drop i).length = l0.length + 1 := by rw [List.length_append, List.length_append, List.length_take, List.length_drop, hl1]; omega
    have hyreps : Reps (k65.M w w0.heap.size (fun _ => True)) k65.sz (l0.take i ++ l2 ++ l0.drop i) (inner.take (i * 2) ++ news ++ inner.drop (i * 2)) :=
      KdW.reps_append (KdW.reps_append (KdW.reps_take (R := k65.M w w0.heap.size (fun _ => True)) ⟨hreps.1, fun j p hj => hreps.2 j p hj⟩ i) ⟨hrepsv.1, fun j p hj => hrepsv.2 j p hj⟩) (KdW.reps_drop (R := k65.M w w0.heap.size (fun _ => True)) ⟨hreps.1, fun j p hj => hreps.2 j p hj⟩ i)
    by_cases hroom : l0.length + 1 ≤ cap
    · -- in place
      obtain ⟨cur1, hcur1⟩ : ∃ cur1 : Array Value, cur1 = (cur.toList.take ((i + 1) * 2) ++ inner.drop (i * 2) ++ cur.toList.drop ((i + 1) * 2 + (inner.drop (i * 2)).length)).toArray := ⟨_, rfl⟩
      have hs1 : cur1.size = cap * 2 := by
        rw [hcur1]
        simp only [List.size_toArray, List.length_append, List.length_take, List.length_drop, Array.length_toList, hil', hcs']
        omega
      have hcp1 : ∀ ty dc sc, (Builtin.copy_ #[51, 51] ty #[.slice (some ⟨g, (i + 1) * 2, none⟩) (l0.length - i) dc, .slice (some ⟨g, i * 2, none⟩) (l0.length + 1 - i) sc]).run Try.prog w.drew = .ok (goInt (Nat.min (l0.length + 1 - i) (l0.length - i))) (w.drew.setRow g cur1) := fun ty dc sc => by
        rw [hcur1]
        exact KdW.run_copy_rowk w.drew 51 51 ty 65 g ((i + 1) * 2) (l0.length - i) dc ⟨g, i * 2, none⟩ (l0.length + 1 - i) sc cur 65 (inner.drop (i * 2)) i0 Try.underlying51 hi hg (by rw [hdl, hz1]; simp only [Nat.min_def]; split <;> omega)
          (fun j v hj => by rw [Addr.add_lit]; rw [List.getElem?_drop] at hj; exact hcell _ v hj) (by rw [hdl, hcs']; omega) (fun v hv => hz1i v (List.mem_of_mem_drop hv))
      obtain ⟨W1, hW1⟩ : ∃ W1, W1 = w.drew.setRow g cur1 := ⟨_, rfl⟩
      have hg1 : W1.heap[g]? = some (.cells cur1 65 (0, 0)) := by rw [hW1]; exact setRow_heap w.drew g cur _ 65 _ hg
      obtain ⟨cur2, hcur2⟩ : ∃ cur2 : Array Value, cur2 = (cur1.toList.take (i * 2) ++ news ++ cur1.toList.drop (i * 2 + news.length)).toArray := ⟨_, rfl⟩
      have hcp2 : ∀ ty dc, (Builtin.copy_ #[51, 51] ty #[.slice (some ⟨g, i * 2, none⟩) (l0.length + 1 - i) dc, .slice (some ⟨vb, 0, none⟩) 1 vc]).run Try.prog W1 = .ok (goInt (Nat.min 1 (l0.length + 1 - i))) (W1.setRow g cur2) := fun ty dc => by
        rw [hcur2]
        exact KdW.run_copy_rowk W1 51 51 ty 65 g (i * 2) (l0.length + 1 - i) dc ⟨vb, 0, none⟩ 1 vc cur1 65 news i0 Try.underlying51 hi hg1 (by rw [hnl, hz1]; simp only [Nat.min_def]; split <;> omega)
          (fun j v hj => by
            rw [Addr.add_lit, Nat.zero_add, hW1]
            have : (w.drew.setRow g cur1).heap[vb]? = w.heap[vb]? := setRow_other w.drew g vb _ hne
            rw [World.cell?_of_block (w := w) this]
            exact hvcell j v hj) (by rw [hnl, hs1]; omega) hv1
      have e1 : cur.toList.take (i * 2) = inner.take (i * 2) := by rw [← htake', List.take_take, Nat.min_eq_left (by omega)]
      have hcl : cur.toList.length = cap * 2 := by rw [Array.length_toList (xs := cur), hcs']
      have e3 : cur1.toList.take (i * 2) = inner.take (i * 2) := by
        rw [hcur1, List.toList_toArray, List.append_assoc, List.take_append_of_le_length (by rw [List.length_take, hcl]; omega), List.take_take, Nat.min_eq_left (by omega), e1]
      have e4 : cur1.toList.drop (i * 2 + news.length) = inner.drop (i * 2) ++ cur.toList.drop ((i + 1) * 2 + (inner.drop (i * 2)).length) := by
        rw [hcur1, List.toList_toArray, List.append_assoc, List.drop_left']
        rw [List.length_take, hcl, hnl]
        omega
      have ht2 : cur2.toList.take ((l0.length + 1) * 2) = inner.take (i * 2) ++ news ++ inner.drop (i * 2) := by
        rw [hcur2, List.toList_toArray, e3, e4, ← List.append_assoc, List.take_left']
        rw [List.length_append, List.length_append, List.length_take, hdl, hnl, hil']
        omega
      have hs2 : cur2.size = cap * 2 := by
        rw [hcur2]
        simp only [List.size_toArray, List.length_append, List.length_take, List.length_drop, Array.length_toList, hnl, hs1]
        omega
      rw [← hW1] at hcp1
      have hov : ∀ lb cb, (callFunc 94 #[.slice (some ⟨vb, 0, none⟩) 1 vc, .slice (some ⟨g, (i + 1) * 2, none⟩) lb cb]).run Try.prog w = .ok (.value (.bool false)) w := fun lb cb => by
        rw [run_callFunc_extern Try.func94 (by kernel_rfl) (by kernel_rfl) (by kernel_rfl) (e := Extern.SlicesOverlaps.overlaps #[51, 51] #[4]) (by kernel_rfl),
          Lib.run_overlaps_apart w 51 4 65 Try.underlying51 2 (fun w => by simp [sizeOf, typeInfo, hi, hz1]) ⟨vb, 0, none⟩ ⟨g, (i + 1) * 2, none⟩ 1 vc lb cb hne 65 65 vcur.size cur.size (by simp [World.shape?, hgv]) (by simp [World.shape?, hg]) (by omega) (by simp [World.frozen?, hgv]) (by simp [World.frozen?, hgv])]
        rfl
      have X := Aside0.mk (And.intro hW1 (And.intro hg1 (And.intro hg (And.intro ht2 (And.intro hs2 (And.intro hyreps hP))))))
      clear hW1 hg1 hg ht2 hs2 hyreps hP hcur1 hcur2 hvcell hcell htake htake' hv1 hz1i hreps hrepsv hvtake hgv hcs hvcs hdl hs1
      have hb1 : (0 : Int) ≤ (i : Int) + (1 : Int) := by omega
      have hb3 : (i : Int) ≤ (l0.length : Int) + 1 := by omega
      have hb2 : ¬ (cap = i + 1) := by omega
      clear eu2
      have hb4 : ¬ (cap = i) := by omega
      go_enter Try.func82, Try.ntmps82
      go_wp2_with (simp only [hov])
      go_region_law_o (refine KdW.step_copy_runK rfl _ _ 51 51 rfl _ _ (by simp [Act.eval, Act.put]) (by simp [Act.eval, Act.put]) (hcp1 _ _ _) ?_)
      go_wp2_with (at_builtin; refine KdW.wpList_copy_runK _ rfl _ _ 51 51 rfl _ _ rfl rfl (hcp2 _ _) ?_)
      go_ret
      obtain ⟨hW1, hg1, hg, ht2, hs2, hyreps, hP⟩ := X.out
      refine ⟨_, rfl, KdW.own_after (w := w) (P0 := P0_) (fun _ _ _ _ _ _ _ _ h => h) hbg hPg (setRow_heap W1 g cur1 cur2 65 _ hg1) hylen.symm (by omega) hcm (by rw [hs2]; rfl) (by rw [hylen]; exact ht2) hyreps (Or.inl (Or.inl hPg)), ?_, ?_⟩
      · rw [hW1]
        exact KdW.below_row (KdW.below_row (w := w.drew) ⟨hB.os, hB.tape, hB.output, hB.size, hB.block⟩ hbg _) hbg _
      · rw [hW1]
        exact KdW.kept_row (KdW.kept_row (W := w.drew) (Kept.drew (Kept.refl w _)) (Or.inl hPg) _) (Or.inl hPg) _
    · -- a new row
      have hkk : (l0.length : Int) + 1 - (i : Int) = ((l0.length + 1 - i : Nat) : Int) := by omega
      have hik : i + (l0.length + 1 - i) = l0.length + 1 := by omega
      have hold : (Builtin.firstCells i0.size i (.slice (some ⟨g, 0, none⟩) i cap)).run Try.prog w.drew = .ok (inner.take (i * 2)).toArray w.drew := by
        rw [hz1]
        exact run_firstCells_some w.drew 2 i ⟨g, 0, none⟩ i cap (inner.take (i * 2)) (by rw [List.length_take, hil']; omega) (fun j v hj => by
          rw [Addr.add_lit, Nat.zero_add]
          rw [List.getElem?_take] at hj
          split at hj
          · exact hcell j v hj
          · cases hj)
      obtain ⟨G, hG⟩ : ∃ G, G = grownCap w (l0.length + 1) cap 65 := ⟨_, rfl⟩
      obtain ⟨ROW, hROW⟩ : ∃ ROW : Array Value, ROW = (inner.take (i * 2)).toArray ++ Builtin.zeroCells (Value.agg #[(.int .i64 0), (.string ⟨#[]⟩)]).cells (l0.length + 1 - i) ++ Builtin.zeroCells (Value.agg #[(.int .i64 0), (.string ⟨#[]⟩)]).cells (G - (l0.length + 1)) := ⟨_, rfl⟩
      have hrz : ∀ ty, (Builtin.append_ #[51, 3] ty #[.slice (some ⟨g, 0, none⟩) i cap, .int .i64 ((l0.length : Int) + 1 - (i : Int))]).run Try.prog w = .ok (.slice (some ⟨w.heap.size, 0, none⟩) (l0.length + 1) G) (w.drew.alloc (.cells ROW 65)) := fun ty => by
        have h := Lib.run_append_grow_zeros (P := Try.prog) w 51 3 ty 65 i0 _ .i64 .i64 Try.underlying51 Try.underlying3 hi hz0 (some ⟨g, 0, none⟩) i cap (inner.take (i * 2)) hold (l0.length + 1 - i) (by omega) (by rw [hz1]; omega) (by omega) (by omega) (by rw [hz2]; omega) (by rw [hz2, hik]; exact growslice_fits (by omega) hbig)
        rw [hik] at h
        rw [hkk, hROW, hG]
        exact h
      have hGn : l0.length + 1 ≤ G := by rw [hG]; exact grownCap_ge w _ _ _
      have hGm : G ≤ maxLen := by rw [hG]; exact grownCap_le_maxLen w _ _ _ (by simp only [maxLen]; omega)
      have hG63 : G ≤ 9223372036854775807 := by simpa [maxLen] using hGm
      have hRs : ROW.size = G * 2 := by
        rw [hROW]
        simp only [Array.size_append, List.size_toArray, size_zeroCells, List.length_take, hil']
        show _ + _ * 2 + _ * 2 = _
        omega
      obtain ⟨cA, hcA⟩ : ∃ cA : Array Value, cA = (ROW.toList.take (i * 2) ++ news ++ ROW.toList.drop (i * 2 + news.length)).toArray := ⟨_, rfl⟩
      have hsA : cA.size = G * 2 := by
        rw [hcA]
        simp only [List.size_toArray, List.length_append, List.length_take, List.length_drop, Array.length_toList, hnl, hRs]
        omega
      obtain ⟨cB, hcB⟩ : ∃ cB : Array Value, cB = (cA.toList.take ((i + 1) * 2) ++ inner.drop (i * 2) ++ cA.toList.drop ((i + 1) * 2 + (inner.drop (i * 2)).length)).toArray := ⟨_, rfl⟩
      have hsB : cB.size = G * 2 := by
        rw [hcB]
        simp only [List.size_toArray, List.length_append, List.length_take, List.length_drop, Array.length_toList, hil', hsA]
        omega
      have eR : ROW.toList.take (i * 2) = inner.take (i * 2) := by
        rw [hROW]
        simp only [Array.toList_append, List.append_assoc]
        rw [List.take_left']
        rw [List.length_take, hil']
        omega
      have hRl : ROW.toList.length = G * 2 := by rw [Array.length_toList (xs := ROW), hRs]
      have htB : cB.toList.take ((l0.length + 1) * 2) = inner.take (i * 2) ++ news ++ inner.drop (i * 2) := by
        have eA : cA.toList.take ((i + 1) * 2) = inner.take (i * 2) ++ news := by
          rw [hcA, List.toList_toArray, eR, List.take_left']
          rw [List.length_append, List.length_take, hnl, hil']
          omega
        rw [hcB, List.toList_toArray, eA, List.take_left']
        rw [List.length_append, List.length_append, List.length_take, hdl, hnl, hil']
        omega
      have hheap : ∀ (W : World), W.heap = (w.alloc (.cells ROW 65)).heap → W.heap[w.heap.size]? = some (.cells ROW 65 (0, 0)) := fun W hW => by rw [hW]; exact heap_alloc_new w _
      have hcpA : ∀ (W : World), W.heap = (w.alloc (.cells ROW 65)).heap → ∀ ty dc, (Builtin.copy_ #[51, 51] ty #[.slice (some ⟨w.heap.size, i * 2, none⟩) (l0.length + 1 - i) dc, .slice (some ⟨vb, 0, none⟩) 1 vc]).run Try.prog W = .ok (goInt (Nat.min 1 (l0.length + 1 - i))) (W.setRow w.heap.size cA) := fun W hW ty dc => by
        rw [hcA]
        exact KdW.run_copy_rowk W 51 51 ty 65 w.heap.size (i * 2) (l0.length + 1 - i) dc ⟨vb, 0, none⟩ 1 vc ROW 65 news i0 Try.underlying51 hi (hheap W hW) (by rw [hnl, hz1]; simp only [Nat.min_def]; split <;> omega)
          (fun j v hj => by
            rw [Addr.add_lit, Nat.zero_add]
            have : W.heap[vb]? = w.heap[vb]? := by rw [hW]; exact heap_alloc_old w _ hvbl
            rw [World.cell?_of_block (w := w) this]
            exact hvcell j v hj) (by rw [hnl, hRs]; omega) hv1
      have hcpB : ∀ (W : World), W.heap = ((w.alloc (.cells ROW 65)).setRow w.heap.size cA).heap → ∀ ty dc sc, (Builtin.copy_ #[51, 51] ty #[.slice (some ⟨w.heap.size, (i + 1) * 2, none⟩) (l0.length - i) dc, .slice (some ⟨g, i * 2, none⟩) (l0.length - i) sc]).run Try.prog W = .ok (goInt (Nat.min (l0.length - i) (l0.length - i))) (W.setRow w.heap.size cB) := fun W hW ty dc sc => by
        have hgW : W.heap[w.heap.size]? = some (.cells cA 65 (0, 0)) := by
          rw [hW]
          exact setRow_heap (w.alloc (.cells ROW 65)) w.heap.size ROW cA 65 _ (heap_alloc_new w _)
        rw [hcB]
        exact KdW.run_copy_rowk W 51 51 ty 65 w.heap.size ((i + 1) * 2) (l0.length - i) dc ⟨g, i * 2, none⟩ (l0.length - i) sc cA 65 (inner.drop (i * 2)) i0 Try.underlying51 hi hgW (by rw [hdl, hz1]; simp only [Nat.min_def]; split <;> omega)
          (fun j v hj => by
            rw [Addr.add_lit]
            rw [List.getElem?_drop] at hj
            have : W.heap[g]? = w.heap[g]? := by rw [hW, setRow_other _ w.heap.size g _ (by omega)]; exact heap_alloc_old w _ hgl
            rw [World.cell?_of_block (w := w) this]
            exact hcell _ v hj) (by rw [hdl, hsA]; omega) (fun v hv => hz1i v (List.mem_of_mem_drop hv))
      have X := Aside0.mk (And.intro htB (And.intro hsB hyreps))
      clear htB hsB hyreps hg hvcell hcell htake htake' hv1 hz1i hreps hrepsv hvtake hgv hcs hvcs hdl hsA eR hRl hRs hold hkk hik hheap hG hROW hcA hcB hP hP2
      have hGi : ¬ (G = i) := by omega
      have hGim : ¬ (G = i + 1) := by omega
      have hci : ¬ (cap = i) := by omega
      have hb1 : (0 : Int) ≤ (i : Int) + (1 : Int) := by omega
      have hb3 : (i : Int) ≤ (l0.length : Int) := by omega
      have hz3 : (cap : Int) < (l0.length : Int) + 1 := by omega
      clear eu2
      have hE1 : ((w.alloc (.cells ROW 65)).drew).heap = (w.alloc (.cells ROW 65)).heap := rfl
      go_enter Try.func82, Try.ntmps82
      go_wp2_with (first
        | (at_builtin; refine Lib.wpList_append_run _ rfl _ _ _ _ rfl _ _ rfl rfl _ _ (hrz _) ?_)
        | (at_builtin; refine KdW.wpList_copy_runK _ rfl _ _ 51 51 rfl _ _ rfl rfl (hcpA _ rfl _ _) ?_)
        | (at_builtin; refine KdW.wpList_copy_runK _ rfl _ _ 51 51 rfl _ _ rfl rfl (hcpB _ rfl _ _ _) ?_))
      go_region_law_o (refine KdW.step_copy_runK rfl _ _ 51 51 rfl (.slice (some ⟨w.heap.size, (i + 1) * 2, none⟩) (l0.length - i) (G - (i + 1))) (.slice (some ⟨g, i * 2, none⟩) (l0.length - i) (cap - i)) (by simp [Act.eval, Act.put]) (by simp [Act.eval, Act.put]) (hcpB (((w.alloc (.cells ROW 65)).drew.setRow w.heap.size cA).drew) rfl _ _ _) ?_)
      go_wp2
      go_ret
      obtain ⟨htB, hsB, hyreps⟩ := X.out
      have hg0 : ((w.alloc (.cells ROW 65)).drew.setRow w.heap.size cA).drew.heap[w.heap.size]? = some (.cells cA 65 (0, 0)) := setRow_heap (w.alloc (.cells ROW 65)).drew w.heap.size ROW cA 65 _ (heap_alloc_new w _)
      have hBa : Below w0.heap.size w0 (w.alloc (.cells ROW 65)) := hB.alloc hB.size _
      have hBA : Below w0.heap.size w0 ((w.alloc (.cells ROW 65)).drew.setRow w.heap.size cA) := KdW.below_row (w := (w.alloc (.cells ROW 65)).drew) ⟨hBa.os, hBa.tape, hBa.output, hBa.size, hBa.block⟩ hB.size _
      have hKa : Kept w (w.alloc (.cells ROW 65)) (fun k_ => (P0_ k_ ∨ P2_ k_) ∨ w.heap.size ≤ k_) := Kept.alloc (Kept.refl w _) _
      have hKA : Kept w ((w.alloc (.cells ROW 65)).drew.setRow w.heap.size cA) (fun k_ => (P0_ k_ ∨ P2_ k_) ∨ w.heap.size ≤ k_) := KdW.kept_row (W := (w.alloc (.cells ROW 65)).drew) (Kept.drew hKa) (Or.inr (Nat.le_refl _)) _
      have hKB := KdW.kept_row (W := ((w.alloc (.cells ROW 65)).drew.setRow w.heap.size cA).drew) (Kept.drew hKA) (Or.inr (Nat.le_refl _)) cB
      refine ⟨_, rfl, KdW.own_after (w := w) (P0 := fun _ => True) (fun _ _ _ _ _ _ _ _ h => h) hB.size trivial (setRow_heap _ w.heap.size cA cB 65 _ hg0) hylen.symm (by omega) hGm (by rw [hsB]; rfl) (by rw [hylen]; exact htB) hyreps (Or.inr (Nat.le_refl _)), ?_, ?_⟩
      · exact KdW.below_row (w := ((w.alloc (.cells ROW 65)).drew.setRow w.heap.size cA).drew) ⟨hBA.os, hBA.tape, hBA.output, hBA.size, hBA.block⟩ hB.size _
      · exact ⟨hKB.1, fun k hk hn => hKB.2 k hk (fun h => h.elim hn (fun h => by omega))⟩
/-! ### impl_PutText: function 56 -/
def impl_PutText.f (k : Nat) (l0 : List (S65)) (a1 : ByteArray) : Option ((List (S65)) × Int × Bool) := (impl_StoreValid.f k l0).bind fun t748 => (if t748 = true then ((impl_TextValid.f k a1).bind fun t749 => (if t749 = true then ((impl_PrintOf.f k a1).bind fun t753 => ((impl_findPiece.f k l0 t753).bind fun bt754 => (if bt754.2 = true then (if 0 ≤ bt754.1 then (if bt754.1 < (l0.length : Int) then (if ((rd_T65 l0 bt754.1).f1).toList = a1.toList then ((slices_Clone_Piece.f l0).bind fun t757 => (some (t757, t753, true))) else ((slices_Clone_Piece.f l0).bind fun t760 => (some (t760, (-1), false)))) else (none)) else (none)) else (if (l0.length : Int) = 40 then ((slices_Clone_Piece.f l0).bind fun t763 => (some (t763, (-1), false))) else ((slices_Clone_Piece.f l0).bind fun t766 => ((slices_Insert_Piece.f t766 bt754.1 (([(⟨t753, a1⟩ : S65)] : List (S65)))).bind fun t772 => (some (t772, t753, true)))))))) else ((slices_Clone_Piece.f l0).bind fun t750 => (some (t750, (-1), false))))) else (some (([] : List (S65)), (-1), false)))
theorem impl_PutText.mono : ∀ a0 a1 k, LeO (impl_PutText.f k a0 a1) (impl_PutText.f (k + 1) a0 a1) := by
  intro a0 a1 k
  unfold impl_PutText.f
  repeat' first
      | (with_reducible exact impl_PrintOf.mono _ _)
      | (with_reducible exact impl_StoreValid.mono _ _)
      | (with_reducible exact impl_TextValid.mono _ _)
      | (with_reducible exact impl_findPiece.mono _ _ _)
      | (with_reducible exact LeO.refl _)
      | (with_reducible exact LeO.none _)
      | (with_reducible refine LeO.ite ?_ ?_)
      | (with_reducible refine LeO.bind ?_ (fun _ => ?_))
      | exact impl_PrintOf.mono _ _
      | exact impl_StoreValid.mono _ _
      | exact impl_TextValid.mono _ _
      | exact impl_findPiece.mono _ _ _
      | exact LeO.none _
      | refine LeO.ite ?_ ?_
      | refine LeO.bind ?_ (fun _ => ?_)
set_option maxHeartbeats 8000000 in
set_option maxRecDepth 100000 in
theorem impl_PutText.calls (k : Nat) (A0 : Option Addr) (c0 : Nat) (l0 : List (S65)) (a1 : ByteArray) (r1 : List (S65)) (r2 : Int) (r3 : Bool) (w : World) (hr0 : Kd.C k65 w A0 l0.length l0) (hc0 : l0.length ≤ c0) (h : impl_PutText.f k l0 a1 = some (r1, r2, r3)) :
    Calls Try.prog 56 #[.slice A0 l0.length c0, .string a1] w fun e w' => ∃ v0_ : Value, e = .returned (.tuple #[v0_, .int .i64 r2, .bool r3]) ∧ Kd.R k65 65 w' w.heap.size (fun _ => True) v0_ r1 ∧ Below w.heap.size w w' := by
  have hu65 := Try.underlying65
  have HR0 := Aside0.mk hr0
  have HC0 := Aside0.mk hc0
  clear hr0 hc0
  have HB := Aside0.mk (Below.refl w.heap.size w)
  have H : ((impl_StoreValid.f k l0).bind fun t748 => (if t748 = true then ((impl_TextValid.f k a1).bind fun t749 => (if t749 = true then ((impl_PrintOf.f k a1).bind fun t753 => ((impl_findPiece.f k l0 t753).bind fun bt754 => (if bt754.2 = true then (if 0 ≤ bt754.1 then (if bt754.1 < (l0.length : Int) then (if ((rd_T65 l0 bt754.1).f1).toList = a1.toList then ((slices_Clone_Piece.f l0).bind fun t757 => (some (t757, t753, true))) else ((slices_Clone_Piece.f l0).bind fun t760 => (some (t760, (-1), false)))) else (none)) else (none)) else (if (l0.length : Int) = 40 then ((slices_Clone_Piece.f l0).bind fun t763 => (some (t763, (-1), false))) else ((slices_Clone_Piece.f l0).bind fun t766 => ((slices_Insert_Piece.f t766 bt754.1 (([(⟨t753, a1⟩ : S65)] : List (S65)))).bind fun t772 => (some (t772, t753, true)))))))) else ((slices_Clone_Piece.f l0).bind fun t750 => (some (t750, (-1), false))))) else (some (([] : List (S65)), (-1), false)))) = some (r1, r2, r3) := h
  clear h
  replace H := Option.bind_eq_some_iff.mp H
  obtain ⟨t748, A30, H⟩ := H
  replace H : (if t748 = true then ((impl_TextValid.f k a1).bind fun t749 => (if t749 = true then ((impl_PrintOf.f k a1).bind fun t753 => ((impl_findPiece.f k l0 t753).bind fun bt754 => (if bt754.2 = true then (if 0 ≤ bt754.1 then (if bt754.1 < (l0.length : Int) then (if ((rd_T65 l0 bt754.1).f1).toList = a1.toList then ((slices_Clone_Piece.f l0).bind fun t757 => (some (t757, t753, true))) else ((slices_Clone_Piece.f l0).bind fun t760 => (some (t760, (-1), false)))) else (none)) else (none)) else (if (l0.length : Int) = 40 then ((slices_Clone_Piece.f l0).bind fun t763 => (some (t763, (-1), false))) else ((slices_Clone_Piece.f l0).bind fun t766 => ((slices_Insert_Piece.f t766 bt754.1 (([(⟨t753, a1⟩ : S65)] : List (S65)))).bind fun t772 => (some (t772, t753, true)))))))) else ((slices_Clone_Piece.f l0).bind fun t750 => (some (t750, (-1), false))))) else (some (([] : List (S65)), (-1), false))) = some (r1, r2, r3) := H
  have A3 := Aside0.mk A30
  clear A30
  by_cases c4 : t748 = true
  · subst c4
    have H1 : ((impl_TextValid.f k a1).bind fun t749 => (if t749 = true then ((impl_PrintOf.f k a1).bind fun t753 => ((impl_findPiece.f k l0 t753).bind fun bt754 => (if bt754.2 = true then (if 0 ≤ bt754.1 then (if bt754.1 < (l0.length : Int) then (if ((rd_T65 l0 bt754.1).f1).toList = a1.toList then ((slices_Clone_Piece.f l0).bind fun t757 => (some (t757, t753, true))) else ((slices_Clone_Piece.f l0).bind fun t760 => (some (t760, (-1), false)))) else (none)) else (none)) else (if (l0.length : Int) = 40 then ((slices_Clone_Piece.f l0).bind fun t763 => (some (t763, (-1), false))) else ((slices_Clone_Piece.f l0).bind fun t766 => ((slices_Insert_Piece.f t766 bt754.1 (([(⟨t753, a1⟩ : S65)] : List (S65)))).bind fun t772 => (some (t772, t753, true)))))))) else ((slices_Clone_Piece.f l0).bind fun t750 => (some (t750, (-1), false))))) = some (r1, r2, r3) := by rw [if_pos rfl] at H; exact H
    clear H
    have H := H1
    clear H1
    replace H := Option.bind_eq_some_iff.mp H
    obtain ⟨t749, A50, H⟩ := H
    replace H : (if t749 = true then ((impl_PrintOf.f k a1).bind fun t753 => ((impl_findPiece.f k l0 t753).bind fun bt754 => (if bt754.2 = true then (if 0 ≤ bt754.1 then (if bt754.1 < (l0.length : Int) then (if ((rd_T65 l0 bt754.1).f1).toList = a1.toList then ((slices_Clone_Piece.f l0).bind fun t757 => (some (t757, t753, true))) else ((slices_Clone_Piece.f l0).bind fun t760 => (some (t760, (-1), false)))) else (none)) else (none)) else (if (l0.length : Int) = 40 then ((slices_Clone_Piece.f l0).bind fun t763 => (some (t763, (-1), false))) else ((slices_Clone_Piece.f l0).bind fun t766 => ((slices_Insert_Piece.f t766 bt754.1 (([(⟨t753, a1⟩ : S65)] : List (S65)))).bind fun t772 => (some (t772, t753, true)))))))) else ((slices_Clone_Piece.f l0).bind fun t750 => (some (t750, (-1), false)))) = some (r1, r2, r3) := H
    have A5 := Aside0.mk A50
    clear A50
    by_cases c6 : t749 = true
    · subst c6
      have H1 : ((impl_PrintOf.f k a1).bind fun t753 => ((impl_findPiece.f k l0 t753).bind fun bt754 => (if bt754.2 = true then (if 0 ≤ bt754.1 then (if bt754.1 < (l0.length : Int) then (if ((rd_T65 l0 bt754.1).f1).toList = a1.toList then ((slices_Clone_Piece.f l0).bind fun t757 => (some (t757, t753, true))) else ((slices_Clone_Piece.f l0).bind fun t760 => (some (t760, (-1), false)))) else (none)) else (none)) else (if (l0.length : Int) = 40 then ((slices_Clone_Piece.f l0).bind fun t763 => (some (t763, (-1), false))) else ((slices_Clone_Piece.f l0).bind fun t766 => ((slices_Insert_Piece.f t766 bt754.1 (([(⟨t753, a1⟩ : S65)] : List (S65)))).bind fun t772 => (some (t772, t753, true)))))))) = some (r1, r2, r3) := by rw [if_pos rfl] at H; exact H
      clear H
      have H := H1
      clear H1
      replace H := Option.bind_eq_some_iff.mp H
      obtain ⟨t753, A70, H⟩ := H
      replace H : ((impl_findPiece.f k l0 t753).bind fun bt754 => (if bt754.2 = true then (if 0 ≤ bt754.1 then (if bt754.1 < (l0.length : Int) then (if ((rd_T65 l0 bt754.1).f1).toList = a1.toList then ((slices_Clone_Piece.f l0).bind fun t757 => (some (t757, t753, true))) else ((slices_Clone_Piece.f l0).bind fun t760 => (some (t760, (-1), false)))) else (none)) else (none)) else (if (l0.length : Int) = 40 then ((slices_Clone_Piece.f l0).bind fun t763 => (some (t763, (-1), false))) else ((slices_Clone_Piece.f l0).bind fun t766 => ((slices_Insert_Piece.f t766 bt754.1 (([(⟨t753, a1⟩ : S65)] : List (S65)))).bind fun t772 => (some (t772, t753, true))))))) = some (r1, r2, r3) := H
      have A7 := Aside0.mk A70
      clear A70
      replace H := Option.bind_eq_some_iff.mp H
      obtain ⟨⟨t754, t755⟩, A80, H⟩ := H
      replace H : (if t755 = true then (if 0 ≤ t754 then (if t754 < (l0.length : Int) then (if ((rd_T65 l0 t754).f1).toList = a1.toList then ((slices_Clone_Piece.f l0).bind fun t757 => (some (t757, t753, true))) else ((slices_Clone_Piece.f l0).bind fun t760 => (some (t760, (-1), false)))) else (none)) else (none)) else (if (l0.length : Int) = 40 then ((slices_Clone_Piece.f l0).bind fun t763 => (some (t763, (-1), false))) else ((slices_Clone_Piece.f l0).bind fun t766 => ((slices_Insert_Piece.f t766 t754 (([(⟨t753, a1⟩ : S65)] : List (S65)))).bind fun t772 => (some (t772, t753, true)))))) = some (r1, r2, r3) := H
      have A8 := Aside0.mk A80
      clear A80
      by_cases c9 : t755 = true
      · subst c9
        have H1 : (if 0 ≤ t754 then (if t754 < (l0.length : Int) then (if ((rd_T65 l0 t754).f1).toList = a1.toList then ((slices_Clone_Piece.f l0).bind fun t757 => (some (t757, t753, true))) else ((slices_Clone_Piece.f l0).bind fun t760 => (some (t760, (-1), false)))) else (none)) else (none)) = some (r1, r2, r3) := by rw [if_pos rfl] at H; exact H
        clear H
        have H := H1
        clear H1
        by_cases c10 : 0 ≤ t754
        · rw [if_pos c10] at H
          have c10b0 : decide (0 ≤ t754) = true := decide_eq_true c10
          clear c10
          by_cases c11 : t754 < (l0.length : Int)
          · rw [if_pos c11] at H
            have c11b0 : decide (t754 < (l0.length : Int)) = true := decide_eq_true c11
            clear c11
            by_cases c12 : ((rd_T65 l0 t754).f1).toList = a1.toList
            · rw [if_pos c12] at H
              have c12b0 : (((rd_T65 l0 t754).f1).toList == a1.toList) = true := beq_iff_eq.mpr c12
              have c12b1 : (((rd_T65 l0 t754).f1).toList != a1.toList) = false := bne_eq_false_iff_eq.mpr c12
              clear c12
              replace H := Option.bind_eq_some_iff.mp H
              obtain ⟨t757, A130, H⟩ := H
              replace H : (some (t757, t753, true)) = some (r1, r2, r3) := H
              have A13 := Aside0.mk A130
              clear A130
              simp only [Option.some.injEq, Prod.mk.injEq] at H
              obtain ⟨rfl, rfl, rfl⟩ := H
              go_enter Try.func56, Try.ntmps56
              go_wp2_with (first | ((with_reducible refine gate_callee (f := 53) rfl ?_); refine goesL_ (some 11) rfl rfl Try.func53 (by kernel_rfl) rfl #[.slice A0 l0.length c0] rfl (by (try simp only [List.map_toArray, List.map_cons, List.map_nil]); first | done | rfl | (simp only [List.length_drop, List.length_take]; rfl)) ?_; (with_reducible refine (impl_StoreValid.calls k _ _ l0 true _ ?side1 ?side2 A3.out).mono ?_); (case side1 => repeat (first | exact HR0.out | (with_reducible refine Kd.C_alloc ?_ _) | (with_reducible refine Kd.C_drewN ?_ _) | (with_reducible refine Kd.C_drew ?_))); (case side2 => exact HC0.out); rintro e w14 ⟨rfl, hb⟩; refine ⟨_, rfl, ?_⟩; have n0_ := Aside0.mk (below_step (by repeat (first | (with_reducible first | exact HB.out | apply below_alloc | apply pw_below_drewN | apply below_drew1) | exact HB.out)) hb); clear HB; have HB := n0_; clear n0_; (try clear hb); (try clear hb2); (try clear hk); (try clear hi)) | ((with_reducible refine gate_callee (f := 68) rfl ?_); refine goesL_ (some 14) rfl rfl Try.func68 (by kernel_rfl) rfl #[.string a1] rfl (by (try simp only [List.map_toArray, List.map_cons, List.map_nil]); first | done | rfl | (simp only [List.length_drop, List.length_take]; rfl)) ?_; (with_reducible refine (impl_TextValid.calls k a1 true _ A5.out).mono ?_); rintro e w' ⟨rfl, ⟨nd, rfl⟩⟩; refine ⟨_, rfl, ?_⟩) | ((with_reducible refine gate_callee (f := 52) rfl ?_); refine goesL_ (some 19) rfl rfl Try.func52 (by kernel_rfl) rfl #[.string a1] rfl (by (try simp only [List.map_toArray, List.map_cons, List.map_nil]); first | done | rfl | (simp only [List.length_drop, List.length_take]; rfl)) ?_; (with_reducible refine (impl_PrintOf.calls k a1 t753 _ A7.out).mono ?_); rintro e w' ⟨rfl, ⟨nd, rfl⟩⟩; refine ⟨_, rfl, ?_⟩) | ((with_reducible refine gate_callee (f := 81) rfl ?_); refine goesL_ (some 23) rfl rfl Try.func81 (by kernel_rfl) rfl #[.slice A0 l0.length c0, .int .i64 t753] rfl (by (try simp only [List.map_toArray, List.map_cons, List.map_nil]); first | done | rfl | (simp only [List.length_drop, List.length_take]; rfl)) ?_; (with_reducible refine (impl_findPiece.calls k _ _ l0 t753 t754 true _ ?side1 ?side2 A8.out).mono ?_); (case side1 => repeat (first | exact (Kd.C_below HR0.out (by repeat (first | (with_reducible first | exact HB.out | apply below_alloc | apply pw_below_drewN | apply below_drew1) | exact HB.out))) | (with_reducible refine Kd.C_alloc ?_ _) | (with_reducible refine Kd.C_drewN ?_ _) | (with_reducible refine Kd.C_drew ?_))); (case side2 => exact HC0.out); rintro e w15 ⟨rfl, hb⟩; refine ⟨_, rfl, ?_⟩; have n0_ := Aside0.mk (below_step (by repeat (first | (with_reducible first | exact HB.out | apply below_alloc | apply pw_below_drewN | apply below_drew1) | exact HB.out)) hb); clear HB; have HB := n0_; clear n0_; (try clear hb); (try clear hb2); (try clear hk); (try clear hi); have p756 : 0 ≤ (t754 : Int) := of_decide_eq_true (by first | (with_reducible assumption) | assumption); have q756 : t754 < (l0.length : Int) := of_decide_eq_true (by first | (with_reducible assumption) | assumption); obtain ⟨ad756, e756, hx756_0, hx756_1⟩ := at_T65 HR0.out t754 p756 q756; cases e756; replace hx756_0 := (HB.out.cell (World.block_lt_of_cell? w _ hx756_0)).trans hx756_0; replace hx756_1 := (HB.out.cell (World.block_lt_of_cell? w _ hx756_1)).trans hx756_1; replace p756 := eq_true p756; replace q756 := eq_true q756) | ((with_reducible refine gate_callee (f := 80) rfl ?_); refine goesL_ (some 37) rfl rfl Try.func80 (by kernel_rfl) rfl #[.slice (some ad756) l0.length c0] rfl (by (try simp only [List.map_toArray, List.map_cons, List.map_nil]); first | done | rfl | (simp only [List.length_drop, List.length_take]; rfl)) ?_; (with_reducible refine (slices_Clone_Piece.calls _ _ l0 t757 _ ?side1 ?side2 A13.out).mono ?_); (case side1 => repeat (first | exact (Kd.C_below HR0.out HB.out) | (with_reducible refine Kd.C_alloc ?_ _) | (with_reducible refine Kd.C_drewN ?_ _) | (with_reducible refine Kd.C_drew ?_))); (case side2 => exact HC0.out); rintro e w16 ⟨v758, rfl, ho0, hb⟩; refine ⟨_, rfl, ?_⟩; have n0_ := Aside0.mk (Kd.R_lower ho0 (below_size (by repeat (first | (with_reducible first | exact HB.out | apply below_alloc | apply pw_below_drewN | apply below_drew1) | exact HB.out)))); have n1_ := Aside0.mk (below_step (by repeat (first | (with_reducible first | exact HB.out | apply below_alloc | apply pw_below_drewN | apply below_drew1) | exact HB.out)) hb); clear HB; have HO759 := n0_; have HB := n1_; clear n0_ n1_; (try clear hb); (try clear hb2); (try clear hk); (try clear hi); (try clear ho0)))
              go_ret3
              exact ⟨_, by first | rfl | (simp [errW_none, errW_some] <;> rfl) | (simp [*, errW_none, errW_some] <;> rfl), by (with_reducible repeat (first | apply Kd.R_alloc | apply Kd.R_drewN | apply Kd.R_drew)); exact HO759.out, by repeat (first | (with_reducible first | exact HB.out | apply below_alloc | apply pw_below_drewN | apply below_drew1) | exact HB.out)⟩
            · rw [if_neg c12] at H
              have c12b0 : (((rd_T65 l0 t754).f1).toList == a1.toList) = false := beq_eq_false_iff_ne.mpr c12
              have c12b1 : (((rd_T65 l0 t754).f1).toList != a1.toList) = true := bne_iff_ne.mpr c12
              replace H := Option.bind_eq_some_iff.mp H
              obtain ⟨t760, A170, H⟩ := H
              replace H : (some (t760, (-1), false)) = some (r1, r2, r3) := H
              have A17 := Aside0.mk A170
              clear A170
              simp only [Option.some.injEq, Prod.mk.injEq] at H
              obtain ⟨rfl, rfl, rfl⟩ := H
              go_enter Try.func56, Try.ntmps56
              go_wp2_with (first | ((with_reducible refine gate_callee (f := 53) rfl ?_); refine goesL_ (some 11) rfl rfl Try.func53 (by kernel_rfl) rfl #[.slice A0 l0.length c0] rfl (by (try simp only [List.map_toArray, List.map_cons, List.map_nil]); first | done | rfl | (simp only [List.length_drop, List.length_take]; rfl)) ?_; (with_reducible refine (impl_StoreValid.calls k _ _ l0 true _ ?side1 ?side2 A3.out).mono ?_); (case side1 => repeat (first | exact HR0.out | (with_reducible refine Kd.C_alloc ?_ _) | (with_reducible refine Kd.C_drewN ?_ _) | (with_reducible refine Kd.C_drew ?_))); (case side2 => exact HC0.out); rintro e w18 ⟨rfl, hb⟩; refine ⟨_, rfl, ?_⟩; have n0_ := Aside0.mk (below_step (by repeat (first | (with_reducible first | exact HB.out | apply below_alloc | apply pw_below_drewN | apply below_drew1) | exact HB.out)) hb); clear HB; have HB := n0_; clear n0_; (try clear hb); (try clear hb2); (try clear hk); (try clear hi)) | ((with_reducible refine gate_callee (f := 68) rfl ?_); refine goesL_ (some 14) rfl rfl Try.func68 (by kernel_rfl) rfl #[.string a1] rfl (by (try simp only [List.map_toArray, List.map_cons, List.map_nil]); first | done | rfl | (simp only [List.length_drop, List.length_take]; rfl)) ?_; (with_reducible refine (impl_TextValid.calls k a1 true _ A5.out).mono ?_); rintro e w' ⟨rfl, ⟨nd, rfl⟩⟩; refine ⟨_, rfl, ?_⟩) | ((with_reducible refine gate_callee (f := 52) rfl ?_); refine goesL_ (some 19) rfl rfl Try.func52 (by kernel_rfl) rfl #[.string a1] rfl (by (try simp only [List.map_toArray, List.map_cons, List.map_nil]); first | done | rfl | (simp only [List.length_drop, List.length_take]; rfl)) ?_; (with_reducible refine (impl_PrintOf.calls k a1 t753 _ A7.out).mono ?_); rintro e w' ⟨rfl, ⟨nd, rfl⟩⟩; refine ⟨_, rfl, ?_⟩) | ((with_reducible refine gate_callee (f := 81) rfl ?_); refine goesL_ (some 23) rfl rfl Try.func81 (by kernel_rfl) rfl #[.slice A0 l0.length c0, .int .i64 t753] rfl (by (try simp only [List.map_toArray, List.map_cons, List.map_nil]); first | done | rfl | (simp only [List.length_drop, List.length_take]; rfl)) ?_; (with_reducible refine (impl_findPiece.calls k _ _ l0 t753 t754 true _ ?side1 ?side2 A8.out).mono ?_); (case side1 => repeat (first | exact (Kd.C_below HR0.out (by repeat (first | (with_reducible first | exact HB.out | apply below_alloc | apply pw_below_drewN | apply below_drew1) | exact HB.out))) | (with_reducible refine Kd.C_alloc ?_ _) | (with_reducible refine Kd.C_drewN ?_ _) | (with_reducible refine Kd.C_drew ?_))); (case side2 => exact HC0.out); rintro e w19 ⟨rfl, hb⟩; refine ⟨_, rfl, ?_⟩; have n0_ := Aside0.mk (below_step (by repeat (first | (with_reducible first | exact HB.out | apply below_alloc | apply pw_below_drewN | apply below_drew1) | exact HB.out)) hb); clear HB; have HB := n0_; clear n0_; (try clear hb); (try clear hb2); (try clear hk); (try clear hi); have p756 : 0 ≤ (t754 : Int) := of_decide_eq_true (by first | (with_reducible assumption) | assumption); have q756 : t754 < (l0.length : Int) := of_decide_eq_true (by first | (with_reducible assumption) | assumption); obtain ⟨ad756, e756, hx756_0, hx756_1⟩ := at_T65 HR0.out t754 p756 q756; cases e756; replace hx756_0 := (HB.out.cell (World.block_lt_of_cell? w _ hx756_0)).trans hx756_0; replace hx756_1 := (HB.out.cell (World.block_lt_of_cell? w _ hx756_1)).trans hx756_1; replace p756 := eq_true p756; replace q756 := eq_true q756) | ((with_reducible refine gate_callee (f := 80) rfl ?_); refine goesL_ (some 35) rfl rfl Try.func80 (by kernel_rfl) rfl #[.slice (some ad756) l0.length c0] rfl (by (try simp only [List.map_toArray, List.map_cons, List.map_nil]); first | done | rfl | (simp only [List.length_drop, List.length_take]; rfl)) ?_; (with_reducible refine (slices_Clone_Piece.calls _ _ l0 t760 _ ?side1 ?side2 A17.out).mono ?_); (case side1 => repeat (first | exact (Kd.C_below HR0.out HB.out) | (with_reducible refine Kd.C_alloc ?_ _) | (with_reducible refine Kd.C_drewN ?_ _) | (with_reducible refine Kd.C_drew ?_))); (case side2 => exact HC0.out); rintro e w20 ⟨v761, rfl, ho0, hb⟩; refine ⟨_, rfl, ?_⟩; have n0_ := Aside0.mk (Kd.R_lower ho0 (below_size (by repeat (first | (with_reducible first | exact HB.out | apply below_alloc | apply pw_below_drewN | apply below_drew1) | exact HB.out)))); have n1_ := Aside0.mk (below_step (by repeat (first | (with_reducible first | exact HB.out | apply below_alloc | apply pw_below_drewN | apply below_drew1) | exact HB.out)) hb); clear HB; have HO762 := n0_; have HB := n1_; clear n0_ n1_; (try clear hb); (try clear hb2); (try clear hk); (try clear hi); (try clear ho0)))
              go_ret3
              exact ⟨_, by first | rfl | (simp [errW_none, errW_some] <;> rfl) | (simp [*, errW_none, errW_some] <;> rfl), by (with_reducible repeat (first | apply Kd.R_alloc | apply Kd.R_drewN | apply Kd.R_drew)); exact HO762.out, by repeat (first | (with_reducible first | exact HB.out | apply below_alloc | apply pw_below_drewN | apply below_drew1) | exact HB.out)⟩
          · rw [if_neg c11] at H
            exact absurd H (by simp)
        · rw [if_neg c10] at H
          exact absurd H (by simp)
      · replace c9 := Bool.eq_false_iff.mpr c9
        subst c9
        have H1 : (if (l0.length : Int) = 40 then ((slices_Clone_Piece.f l0).bind fun t763 => (some (t763, (-1), false))) else ((slices_Clone_Piece.f l0).bind fun t766 => ((slices_Insert_Piece.f t766 t754 (([(⟨t753, a1⟩ : S65)] : List (S65)))).bind fun t772 => (some (t772, t753, true))))) = some (r1, r2, r3) := by rw [if_neg (show ¬ (false = true) by decide)] at H; exact H
        clear H
        have H := H1
        clear H1
        by_cases c21 : (l0.length : Int) = 40
        · rw [if_pos c21] at H
          have c21b0 : ((l0.length : Int) == 40) = true := beq_iff_eq.mpr c21
          have c21b1 : ((l0.length : Int) != 40) = false := bne_eq_false_iff_eq.mpr c21
          clear c21
          replace H := Option.bind_eq_some_iff.mp H
          obtain ⟨t763, A220, H⟩ := H
          replace H : (some (t763, (-1), false)) = some (r1, r2, r3) := H
          have A22 := Aside0.mk A220
          clear A220
          simp only [Option.some.injEq, Prod.mk.injEq] at H
          obtain ⟨rfl, rfl, rfl⟩ := H
          go_enter Try.func56, Try.ntmps56
          go_wp2_with (first | ((with_reducible refine gate_callee (f := 53) rfl ?_); refine goesL_ (some 11) rfl rfl Try.func53 (by kernel_rfl) rfl #[.slice A0 l0.length c0] rfl (by (try simp only [List.map_toArray, List.map_cons, List.map_nil]); first | done | rfl | (simp only [List.length_drop, List.length_take]; rfl)) ?_; (with_reducible refine (impl_StoreValid.calls k _ _ l0 true _ ?side1 ?side2 A3.out).mono ?_); (case side1 => repeat (first | exact HR0.out | (with_reducible refine Kd.C_alloc ?_ _) | (with_reducible refine Kd.C_drewN ?_ _) | (with_reducible refine Kd.C_drew ?_))); (case side2 => exact HC0.out); rintro e w23 ⟨rfl, hb⟩; refine ⟨_, rfl, ?_⟩; have n0_ := Aside0.mk (below_step (by repeat (first | (with_reducible first | exact HB.out | apply below_alloc | apply pw_below_drewN | apply below_drew1) | exact HB.out)) hb); clear HB; have HB := n0_; clear n0_; (try clear hb); (try clear hb2); (try clear hk); (try clear hi)) | ((with_reducible refine gate_callee (f := 68) rfl ?_); refine goesL_ (some 14) rfl rfl Try.func68 (by kernel_rfl) rfl #[.string a1] rfl (by (try simp only [List.map_toArray, List.map_cons, List.map_nil]); first | done | rfl | (simp only [List.length_drop, List.length_take]; rfl)) ?_; (with_reducible refine (impl_TextValid.calls k a1 true _ A5.out).mono ?_); rintro e w' ⟨rfl, ⟨nd, rfl⟩⟩; refine ⟨_, rfl, ?_⟩) | ((with_reducible refine gate_callee (f := 52) rfl ?_); refine goesL_ (some 19) rfl rfl Try.func52 (by kernel_rfl) rfl #[.string a1] rfl (by (try simp only [List.map_toArray, List.map_cons, List.map_nil]); first | done | rfl | (simp only [List.length_drop, List.length_take]; rfl)) ?_; (with_reducible refine (impl_PrintOf.calls k a1 t753 _ A7.out).mono ?_); rintro e w' ⟨rfl, ⟨nd, rfl⟩⟩; refine ⟨_, rfl, ?_⟩) | ((with_reducible refine gate_callee (f := 81) rfl ?_); refine goesL_ (some 23) rfl rfl Try.func81 (by kernel_rfl) rfl #[.slice A0 l0.length c0, .int .i64 t753] rfl (by (try simp only [List.map_toArray, List.map_cons, List.map_nil]); first | done | rfl | (simp only [List.length_drop, List.length_take]; rfl)) ?_; (with_reducible refine (impl_findPiece.calls k _ _ l0 t753 t754 false _ ?side1 ?side2 A8.out).mono ?_); (case side1 => repeat (first | exact (Kd.C_below HR0.out (by repeat (first | (with_reducible first | exact HB.out | apply below_alloc | apply pw_below_drewN | apply below_drew1) | exact HB.out))) | (with_reducible refine Kd.C_alloc ?_ _) | (with_reducible refine Kd.C_drewN ?_ _) | (with_reducible refine Kd.C_drew ?_))); (case side2 => exact HC0.out); rintro e w24 ⟨rfl, hb⟩; refine ⟨_, rfl, ?_⟩; have n0_ := Aside0.mk (below_step (by repeat (first | (with_reducible first | exact HB.out | apply below_alloc | apply pw_below_drewN | apply below_drew1) | exact HB.out)) hb); clear HB; have HB := n0_; clear n0_; (try clear hb); (try clear hb2); (try clear hk); (try clear hi)) | ((with_reducible refine gate_callee (f := 80) rfl ?_); refine goesL_ (some 43) rfl rfl Try.func80 (by kernel_rfl) rfl #[.slice A0 l0.length c0] rfl (by (try simp only [List.map_toArray, List.map_cons, List.map_nil]); first | done | rfl | (simp only [List.length_drop, List.length_take]; rfl)) ?_; (with_reducible refine (slices_Clone_Piece.calls _ _ l0 t763 _ ?side1 ?side2 A22.out).mono ?_); (case side1 => repeat (first | exact (Kd.C_below HR0.out HB.out) | (with_reducible refine Kd.C_alloc ?_ _) | (with_reducible refine Kd.C_drewN ?_ _) | (with_reducible refine Kd.C_drew ?_))); (case side2 => exact HC0.out); rintro e w25 ⟨v764, rfl, ho0, hb⟩; refine ⟨_, rfl, ?_⟩; have n0_ := Aside0.mk (Kd.R_lower ho0 (below_size (by repeat (first | (with_reducible first | exact HB.out | apply below_alloc | apply pw_below_drewN | apply below_drew1) | exact HB.out)))); have n1_ := Aside0.mk (below_step (by repeat (first | (with_reducible first | exact HB.out | apply below_alloc | apply pw_below_drewN | apply below_drew1) | exact HB.out)) hb); clear HB; have HO765 := n0_; have HB := n1_; clear n0_ n1_; (try clear hb); (try clear hb2); (try clear hk); (try clear hi); (try clear ho0)))
          go_ret3
          exact ⟨_, by first | rfl | (simp [errW_none, errW_some] <;> rfl) | (simp [*, errW_none, errW_some] <;> rfl), by (with_reducible repeat (first | apply Kd.R_alloc | apply Kd.R_drewN | apply Kd.R_drew)); exact HO765.out, by repeat (first | (with_reducible first | exact HB.out | apply below_alloc | apply pw_below_drewN | apply below_drew1) | exact HB.out)⟩
        · rw [if_neg c21] at H
          have c21b0 : ((l0.length : Int) == 40) = false := beq_eq_false_iff_ne.mpr c21
          have c21b1 : ((l0.length : Int) != 40) = true := bne_iff_ne.mpr c21
          replace H := Option.bind_eq_some_iff.mp H
          obtain ⟨t766, A260, H⟩ := H
          replace H : ((slices_Insert_Piece.f t766 t754 (([(⟨t753, a1⟩ : S65)] : List (S65)))).bind fun t772 => (some (t772, t753, true))) = some (r1, r2, r3) := H
          have A26 := Aside0.mk A260
          clear A260
          obtain ⟨y769, hy769⟩ : ∃ y_ : List (S65), y_ = (([(⟨t753, a1⟩ : S65)] : List (S65))) := ⟨_, rfl⟩
          replace H : ((slices_Insert_Piece.f t766 t754 y769).bind fun t772 => (some (t772, t753, true))) = some (r1, r2, r3) := by first | (rw [hy769]; with_reducible exact H) | (have H2_ := (Option.bind_some _ _).symm.trans H; rw [hy769]; with_reducible exact H2_) | (have H2_ := (Option.bind_some _ _).symm.trans H; with_reducible exact H2_) | with_reducible exact H | (rw [hy769]; exact H) | exact H
          have Ny769 := Aside0.mk hy769
          clear hy769
          replace H := Option.bind_eq_some_iff.mp H
          obtain ⟨t772, A270, H⟩ := H
          replace H : (some (t772, t753, true)) = some (r1, r2, r3) := H
          have A27 := Aside0.mk A270
          clear A270
          simp only [Option.some.injEq, Prod.mk.injEq] at H
          obtain ⟨rfl, rfl, rfl⟩ := H
          go_enter Try.func56, Try.ntmps56
          go_wp2_with (first | ((with_reducible refine gate_callee (f := 53) rfl ?_); refine goesL_ (some 11) rfl rfl Try.func53 (by kernel_rfl) rfl #[.slice A0 l0.length c0] rfl (by (try simp only [List.map_toArray, List.map_cons, List.map_nil]); first | done | rfl | (simp only [List.length_drop, List.length_take]; rfl)) ?_; (with_reducible refine (impl_StoreValid.calls k _ _ l0 true _ ?side1 ?side2 A3.out).mono ?_); (case side1 => repeat (first | exact HR0.out | (with_reducible refine Kd.C_alloc ?_ _) | (with_reducible refine Kd.C_drewN ?_ _) | (with_reducible refine Kd.C_drew ?_))); (case side2 => exact HC0.out); rintro e w28 ⟨rfl, hb⟩; refine ⟨_, rfl, ?_⟩; have n0_ := Aside0.mk (below_step (by repeat (first | (with_reducible first | exact HB.out | apply below_alloc | apply pw_below_drewN | apply below_drew1) | exact HB.out)) hb); clear HB; have HB := n0_; clear n0_; (try clear hb); (try clear hb2); (try clear hk); (try clear hi)) | ((with_reducible refine gate_callee (f := 68) rfl ?_); refine goesL_ (some 14) rfl rfl Try.func68 (by kernel_rfl) rfl #[.string a1] rfl (by (try simp only [List.map_toArray, List.map_cons, List.map_nil]); first | done | rfl | (simp only [List.length_drop, List.length_take]; rfl)) ?_; (with_reducible refine (impl_TextValid.calls k a1 true _ A5.out).mono ?_); rintro e w' ⟨rfl, ⟨nd, rfl⟩⟩; refine ⟨_, rfl, ?_⟩) | ((with_reducible refine gate_callee (f := 52) rfl ?_); refine goesL_ (some 19) rfl rfl Try.func52 (by kernel_rfl) rfl #[.string a1] rfl (by (try simp only [List.map_toArray, List.map_cons, List.map_nil]); first | done | rfl | (simp only [List.length_drop, List.length_take]; rfl)) ?_; (with_reducible refine (impl_PrintOf.calls k a1 t753 _ A7.out).mono ?_); rintro e w' ⟨rfl, ⟨nd, rfl⟩⟩; refine ⟨_, rfl, ?_⟩) | ((with_reducible refine gate_callee (f := 81) rfl ?_); refine goesL_ (some 23) rfl rfl Try.func81 (by kernel_rfl) rfl #[.slice A0 l0.length c0, .int .i64 t753] rfl (by (try simp only [List.map_toArray, List.map_cons, List.map_nil]); first | done | rfl | (simp only [List.length_drop, List.length_take]; rfl)) ?_; (with_reducible refine (impl_findPiece.calls k _ _ l0 t753 t754 false _ ?side1 ?side2 A8.out).mono ?_); (case side1 => repeat (first | exact (Kd.C_below HR0.out (by repeat (first | (with_reducible first | exact HB.out | apply below_alloc | apply pw_below_drewN | apply below_drew1) | exact HB.out))) | (with_reducible refine Kd.C_alloc ?_ _) | (with_reducible refine Kd.C_drewN ?_ _) | (with_reducible refine Kd.C_drew ?_))); (case side2 => exact HC0.out); rintro e w29 ⟨rfl, hb⟩; refine ⟨_, rfl, ?_⟩; have n0_ := Aside0.mk (below_step (by repeat (first | (with_reducible first | exact HB.out | apply below_alloc | apply pw_below_drewN | apply below_drew1) | exact HB.out)) hb); clear HB; have HB := n0_; clear n0_; (try clear hb); (try clear hb2); (try clear hk); (try clear hi)) | ((with_reducible refine gate_callee (f := 80) rfl ?_); refine goesL_ (some 45) rfl rfl Try.func80 (by kernel_rfl) rfl #[.slice A0 l0.length c0] rfl (by (try simp only [List.map_toArray, List.map_cons, List.map_nil]); first | done | rfl | (simp only [List.length_drop, List.length_take]; rfl)) ?_; (with_reducible refine (slices_Clone_Piece.calls _ _ l0 t766 _ ?side1 ?side2 A26.out).mono ?_); (case side1 => repeat (first | exact (Kd.C_below HR0.out HB.out) | (with_reducible refine Kd.C_alloc ?_ _) | (with_reducible refine Kd.C_drewN ?_ _) | (with_reducible refine Kd.C_drew ?_))); (case side2 => exact HC0.out); rintro e w30 ⟨v767, rfl, ho0, hb⟩; refine ⟨_, rfl, ?_⟩; have n0_ := Aside0.mk (Kd.R_lower ho0 (below_size (by repeat (first | (with_reducible first | exact HB.out | apply below_alloc | apply pw_below_drewN | apply below_drew1) | exact HB.out)))); have n1_ := Aside0.mk (below_step (by repeat (first | (with_reducible first | exact HB.out | apply below_alloc | apply pw_below_drewN | apply below_drew1) | exact HB.out)) hb); clear HB; have HO768 := n0_; have HB := n1_; clear n0_ n1_; (try clear hb); (try clear hb2); (try clear hk); (try clear hi); (try clear ho0)) | ((with_reducible refine gate_dst (N := 50) rfl ?_); refine Kd.R_lit k65 _ 65 ?hg (N := 50) ?hd (xs := ([(⟨t753, a1⟩ : S65)] : List (S65))) (inner := [.int .i64 t753, .string a1]) (ok := fun _ => True) (okp := fun _ => True) ?hr ?hp (fun _ hk => hk) trivial (Below.refl _ _) (Nat.le_refl _) (by simp) ?_; (case hd => rfl); (case hg => rfl); (case hr => first | (go_simp; done) | (go_simp; rfl)); (case hp => exact (Reps.c2 (show Kd.M k65 _ _ _ (⟨t753, a1⟩ : S65) [.int .i64 t753, .string a1] from (k65_mkM _ _ _ (⟨t753, a1⟩ : S65) )) (Reps.none _ _))); intro v770 w31 ho32 hb hg_ hnew_; clear hg_ hnew_; (first | rw [← Ny769.out] at ho32 | (simp only [Int.reduceToNat] at ho32; rw [← Ny769.out] at ho32)); have n0_ := Aside0.mk (Kd.R_elder' (by (with_reducible repeat (first | apply Kd.R_alloc | apply Kd.R_drewN | apply Kd.R_drew)); exact HO768.out) (Kd.R_base ho32) hb); have n1_ := Aside0.mk (Kd.R_lower (Kd.R_new' ho32 (Kd.R_lt (by (with_reducible repeat (first | apply Kd.R_alloc | apply Kd.R_drewN | apply Kd.R_drew)); exact HO768.out))) (below_size (by repeat (first | (with_reducible first | exact HB.out | apply below_alloc | apply pw_below_drewN | apply below_drew1) | exact HB.out)))); have n2_ := Aside0.mk (below_step (by repeat (first | (with_reducible first | exact HB.out | apply below_alloc | apply pw_below_drewN | apply below_drew1) | exact HB.out)) hb); clear HO768; clear HB; have HO768 := n0_; have HO771 := n1_; have HB := n2_; clear n0_ n1_ n2_; clear hb ho32; obtain ⟨Ao33, co33, eo33⟩ := Kd.R_slice HO768.out; subst eo33; obtain ⟨Ao34, co34, eo34⟩ := Kd.R_slice HO771.out; subst eo34) | ((with_reducible refine gate_callee (f := 82) rfl ?_); refine goesL_ (some 51) rfl rfl Try.func82 (by kernel_rfl) rfl #[.slice Ao33 t766.length co33, .int .i64 t754, .slice Ao34 y769.length co34] rfl (by (try simp only [List.map_toArray, List.map_cons, List.map_nil]); first | done | rfl | (simp only [List.length_drop, List.length_take]; rfl)) ?_; (with_reducible refine (slices_Insert_Piece.calls (fun k_ => some k_ = (.slice Ao33 t766.length co33 : Value).ownBlock) (.slice Ao33 t766.length co33) t766 t754 (fun k_ => some k_ = (.slice Ao34 y769.length co34 : Value).ownBlock) (.slice Ao34 y769.length co34) y769 t772 w _ ?side1 ?side2 ?side3 ?side4 ?side5 A27.out).mono ?_); (case side1 => repeat (first | (with_reducible first | exact HB.out | apply below_alloc | apply pw_below_drewN | apply below_drew1) | exact HB.out)); (case side2 => exact Kd.R_tight rfl HO768.out); (case side3 => exact fun k_ e_ => (HO768.out.1 k_ e_.symm).2); (case side4 => exact Kd.R_tight rfl HO771.out); (case side5 => exact fun k_ e_ => (HO771.out.1 k_ e_.symm).2); rintro e w35 ⟨v773, rfl, ho0, hb, hkp⟩; refine ⟨_, rfl, ?_⟩; have n0_ := Aside0.mk (Kd.R_mono (ok' := fun k_ => True) ho0 (fun k_ hk_ => trivial)); have n1_ := Aside0.mk (hb); clear HB; clear HO768; clear HO771; have HO774 := n0_; have HB := n1_; clear n0_ n1_; (try clear hb); (try clear hkp); (try clear ho0)))
          go_ret3
          exact ⟨_, by first | rfl | (simp [errW_none, errW_some] <;> rfl) | (simp [*, errW_none, errW_some] <;> rfl), by (with_reducible repeat (first | apply Kd.R_alloc | apply Kd.R_drewN | apply Kd.R_drew)); exact HO774.out, by repeat (first | (with_reducible first | exact HB.out | apply below_alloc | apply pw_below_drewN | apply below_drew1) | exact HB.out)⟩
    · replace c6 := Bool.eq_false_iff.mpr c6
      subst c6
      have H1 : ((slices_Clone_Piece.f l0).bind fun t750 => (some (t750, (-1), false))) = some (r1, r2, r3) := by rw [if_neg (show ¬ (false = true) by decide)] at H; exact H
      clear H
      have H := H1
      clear H1
      replace H := Option.bind_eq_some_iff.mp H
      obtain ⟨t750, A360, H⟩ := H
      replace H : (some (t750, (-1), false)) = some (r1, r2, r3) := H
      have A36 := Aside0.mk A360
      clear A360
      simp only [Option.some.injEq, Prod.mk.injEq] at H
      obtain ⟨rfl, rfl, rfl⟩ := H
      go_enter Try.func56, Try.ntmps56
      go_wp2_with (first | ((with_reducible refine gate_callee (f := 53) rfl ?_); refine goesL_ (some 11) rfl rfl Try.func53 (by kernel_rfl) rfl #[.slice A0 l0.length c0] rfl (by (try simp only [List.map_toArray, List.map_cons, List.map_nil]); first | done | rfl | (simp only [List.length_drop, List.length_take]; rfl)) ?_; (with_reducible refine (impl_StoreValid.calls k _ _ l0 true _ ?side1 ?side2 A3.out).mono ?_); (case side1 => repeat (first | exact HR0.out | (with_reducible refine Kd.C_alloc ?_ _) | (with_reducible refine Kd.C_drewN ?_ _) | (with_reducible refine Kd.C_drew ?_))); (case side2 => exact HC0.out); rintro e w37 ⟨rfl, hb⟩; refine ⟨_, rfl, ?_⟩; have n0_ := Aside0.mk (below_step (by repeat (first | (with_reducible first | exact HB.out | apply below_alloc | apply pw_below_drewN | apply below_drew1) | exact HB.out)) hb); clear HB; have HB := n0_; clear n0_; (try clear hb); (try clear hb2); (try clear hk); (try clear hi)) | ((with_reducible refine gate_callee (f := 68) rfl ?_); refine goesL_ (some 14) rfl rfl Try.func68 (by kernel_rfl) rfl #[.string a1] rfl (by (try simp only [List.map_toArray, List.map_cons, List.map_nil]); first | done | rfl | (simp only [List.length_drop, List.length_take]; rfl)) ?_; (with_reducible refine (impl_TextValid.calls k a1 false _ A5.out).mono ?_); rintro e w' ⟨rfl, ⟨nd, rfl⟩⟩; refine ⟨_, rfl, ?_⟩) | ((with_reducible refine gate_callee (f := 80) rfl ?_); refine goesL_ (some 17) rfl rfl Try.func80 (by kernel_rfl) rfl #[.slice A0 l0.length c0] rfl (by (try simp only [List.map_toArray, List.map_cons, List.map_nil]); first | done | rfl | (simp only [List.length_drop, List.length_take]; rfl)) ?_; (with_reducible refine (slices_Clone_Piece.calls _ _ l0 t750 _ ?side1 ?side2 A36.out).mono ?_); (case side1 => repeat (first | exact (Kd.C_below HR0.out (by repeat (first | (with_reducible first | exact HB.out | apply below_alloc | apply pw_below_drewN | apply below_drew1) | exact HB.out))) | (with_reducible refine Kd.C_alloc ?_ _) | (with_reducible refine Kd.C_drewN ?_ _) | (with_reducible refine Kd.C_drew ?_))); (case side2 => exact HC0.out); rintro e w38 ⟨v751, rfl, ho0, hb⟩; refine ⟨_, rfl, ?_⟩; have n0_ := Aside0.mk (Kd.R_lower ho0 (below_size (by repeat (first | (with_reducible first | exact HB.out | apply below_alloc | apply pw_below_drewN | apply below_drew1) | exact HB.out)))); have n1_ := Aside0.mk (below_step (by repeat (first | (with_reducible first | exact HB.out | apply below_alloc | apply pw_below_drewN | apply below_drew1) | exact HB.out)) hb); clear HB; have HO752 := n0_; have HB := n1_; clear n0_ n1_; (try clear hb); (try clear hb2); (try clear hk); (try clear hi); (try clear ho0)))
      go_ret3
      exact ⟨_, by first | rfl | (simp [errW_none, errW_some] <;> rfl) | (simp [*, errW_none, errW_some] <;> rfl), by (with_reducible repeat (first | apply Kd.R_alloc | apply Kd.R_drewN | apply Kd.R_drew)); exact HO752.out, by repeat (first | (with_reducible first | exact HB.out | apply below_alloc | apply pw_below_drewN | apply below_drew1) | exact HB.out)⟩
  · replace c4 := Bool.eq_false_iff.mpr c4
    subst c4
    have H1 : (some (([] : List (S65)), (-1), false)) = some (r1, r2, r3) := by rw [if_neg (show ¬ (false = true) by decide)] at H; exact H
    clear H
    have H := H1
    clear H1
    simp only [Option.some.injEq, Prod.mk.injEq] at H
    obtain ⟨rfl, rfl, rfl⟩ := H
    go_enter Try.func56, Try.ntmps56
    go_wp2_with (first | ((with_reducible refine gate_callee (f := 53) rfl ?_); refine goesL_ (some 11) rfl rfl Try.func53 (by kernel_rfl) rfl #[.slice A0 l0.length c0] rfl (by (try simp only [List.map_toArray, List.map_cons, List.map_nil]); first | done | rfl | (simp only [List.length_drop, List.length_take]; rfl)) ?_; (with_reducible refine (impl_StoreValid.calls k _ _ l0 false _ ?side1 ?side2 A3.out).mono ?_); (case side1 => repeat (first | exact HR0.out | (with_reducible refine Kd.C_alloc ?_ _) | (with_reducible refine Kd.C_drewN ?_ _) | (with_reducible refine Kd.C_drew ?_))); (case side2 => exact HC0.out); rintro e w39 ⟨rfl, hb⟩; refine ⟨_, rfl, ?_⟩; have n0_ := Aside0.mk (below_step (by repeat (first | (with_reducible first | exact HB.out | apply below_alloc | apply pw_below_drewN | apply below_drew1) | exact HB.out)) hb); clear HB; have HB := n0_; clear n0_; (try clear hb); (try clear hb2); (try clear hk); (try clear hi)))
    go_ret3
    exact ⟨_, by first | rfl | (simp [errW_none, errW_some] <;> rfl) | (simp [*, errW_none, errW_some] <;> rfl), by first | exact Kd.R_nil _ _ _ _ _ | exact Kd.N_nil _ _ _ _ _ | exact Kd.V_nil _ _ _ _ _ | exact Kd.Q_nil _ _ _ _ _ | exact Kd.S_nil _ _ _ _ _, by repeat (first | (with_reducible first | exact HB.out | apply below_alloc | apply pw_below_drewN | apply below_drew1) | exact HB.out)⟩
/-! ### impl_RecoverStore: function 45 -/
def impl_RecoverStore.l0 : Nat → List (S65) → List ByteArray → Int → Int → Option ((List (S65)) × Bool)
  | 0, _, _, _, _ => none
  | k + 1, x4, x14, x15, x16 => if x16 < x15 then (if 0 ≤ x16 then (if x16 < (x14.length : Int) then ((impl_PutText.f k x4 (rdOf ByteArray.empty x14 x16)).bind fun bt780 => (if bt780.2.2 = true then (impl_RecoverStore.l0 k bt780.1 x14 x15 (wrap64 (x16 + 1))) else (some (([] : List (S65)), false)))) else (none)) else (none)) else (some (x4, true))
def impl_RecoverStore.f (k : Nat) (l0 : List (S39)) : Option ((List (S65)) × Bool) := (impl_LogValid.f k l0).bind fun t775 => (if t775 = true then ((impl_LogDone.f k l0).bind fun t776 => (impl_RecoverStore.l0 k ([] : List (S65)) t776 (t776.length : Int) 0)) else (some (([] : List (S65)), false)))
theorem impl_RecoverStore.mono_l : ∀ k, (∀ y0 y1 y2 y3, LeO (impl_RecoverStore.l0 k y0 y1 y2 y3) (impl_RecoverStore.l0 (k + 1) y0 y1 y2 y3))
  | 0 => fun _ _ _ _ r h => by simp [impl_RecoverStore.l0] at h
  | k + 1 => by
    have ih0 := impl_RecoverStore.mono_l k
    · intro y0 y1 y2 y3
      unfold impl_RecoverStore.l0
      repeat' first
      | (with_reducible exact ih0 _ _ _ _)
      | (with_reducible exact impl_LogDone.mono _ _)
      | (with_reducible exact impl_LogValid.mono _ _)
      | (with_reducible exact impl_PutText.mono _ _ _)
      | (with_reducible exact LeO.refl _)
      | (with_reducible exact LeO.none _)
      | (with_reducible refine LeO.ite ?_ ?_)
      | (with_reducible refine LeO.bind ?_ (fun _ => ?_))
      | exact ih0 _ _ _ _
      | exact impl_LogDone.mono _ _
      | exact impl_LogValid.mono _ _
      | exact impl_PutText.mono _ _ _
      | exact LeO.none _
      | refine LeO.ite ?_ ?_
      | refine LeO.bind ?_ (fun _ => ?_)
theorem impl_RecoverStore.mono : ∀ a0 k, LeO (impl_RecoverStore.f k a0) (impl_RecoverStore.f (k + 1) a0) := by
  intro a0 k
  have ih0 := impl_RecoverStore.mono_l k
  unfold impl_RecoverStore.f
  repeat' first
      | (with_reducible exact ih0 _ _ _ _)
      | (with_reducible exact impl_LogDone.mono _ _)
      | (with_reducible exact impl_LogValid.mono _ _)
      | (with_reducible exact impl_PutText.mono _ _ _)
      | (with_reducible exact LeO.refl _)
      | (with_reducible exact LeO.none _)
      | (with_reducible refine LeO.ite ?_ ?_)
      | (with_reducible refine LeO.bind ?_ (fun _ => ?_))
      | exact ih0 _ _ _ _
      | exact impl_LogDone.mono _ _
      | exact impl_LogValid.mono _ _
      | exact impl_PutText.mono _ _ _
      | exact LeO.none _
      | refine LeO.ite ?_ ?_
      | refine LeO.bind ?_ (fun _ => ?_)
set_option maxHeartbeats 8000000 in
set_option maxRecDepth 100000 in
theorem impl_RecoverStore.calls (k : Nat) (A0 : Option Addr) (c0 : Nat) (l0 : List (S39)) (r1 : List (S65)) (r2 : Bool) (w : World) (hr0 : Kd.C k39 w A0 l0.length l0) (hc0 : l0.length ≤ c0) (h : impl_RecoverStore.f k l0 = some (r1, r2)) :
    Calls Try.prog 45 #[.slice A0 l0.length c0] w fun e w' => ∃ v0_ : Value, e = .returned (.tuple #[v0_, .bool r2]) ∧ Kd.R k65 65 w' w.heap.size (fun _ => True) v0_ r1 ∧ Below w.heap.size w w' := by
  have HR0 := Aside0.mk hr0
  have HC0 := Aside0.mk hc0
  clear hr0 hc0
  have HB := Aside0.mk (Below.refl w.heap.size w)
  have H : ((impl_LogValid.f k l0).bind fun t775 => (if t775 = true then ((impl_LogDone.f k l0).bind fun t776 => (impl_RecoverStore.l0 k ([] : List (S65)) t776 (t776.length : Int) 0)) else (some (([] : List (S65)), false)))) = some (r1, r2) := h
  clear h
  replace H := Option.bind_eq_some_iff.mp H
  obtain ⟨t775, A20, H⟩ := H
  replace H : (if t775 = true then ((impl_LogDone.f k l0).bind fun t776 => (impl_RecoverStore.l0 k ([] : List (S65)) t776 (t776.length : Int) 0)) else (some (([] : List (S65)), false))) = some (r1, r2) := H
  have A2 := Aside0.mk A20
  clear A20
  by_cases c3 : t775 = true
  · subst c3
    have H1 : ((impl_LogDone.f k l0).bind fun t776 => (impl_RecoverStore.l0 k ([] : List (S65)) t776 (t776.length : Int) 0)) = some (r1, r2) := by rw [if_pos rfl] at H; exact H
    clear H
    have H := H1
    clear H1
    replace H := Option.bind_eq_some_iff.mp H
    obtain ⟨t776, A40, H⟩ := H
    replace H : (impl_RecoverStore.l0 k ([] : List (S65)) t776 (t776.length : Int) 0) = some (r1, r2) := H
    have A4 := Aside0.mk A40
    clear A40
    have H' := Aside0.mk H
    clear H
    go_enter Try.func45, Try.ntmps45
    go_wp2_with (first | ((with_reducible refine gate_callee (f := 29) rfl ?_); refine goesL_ (some 11) rfl rfl Try.func29 (by kernel_rfl) rfl #[.slice A0 l0.length c0] rfl (by (try simp only [List.map_toArray, List.map_cons, List.map_nil]); first | done | rfl | (simp only [List.length_drop, List.length_take]; rfl)) ?_; (with_reducible refine (impl_LogValid.calls k _ _ l0 true _ ?side1 ?side2 A2.out).mono ?_); (case side1 => repeat (first | exact HR0.out | (with_reducible refine Kd.C_alloc ?_ _) | (with_reducible refine Kd.C_drewN ?_ _) | (with_reducible refine Kd.C_drew ?_))); (case side2 => exact HC0.out); rintro e w5 ⟨rfl, hb⟩; refine ⟨_, rfl, ?_⟩; have n0_ := Aside0.mk (below_step (by repeat (first | (with_reducible first | exact HB.out | apply below_alloc | apply pw_below_drewN | apply below_drew1) | exact HB.out)) hb); clear HB; have HB := n0_; clear n0_; (try clear hb); (try clear hb2); (try clear hk); (try clear hi)) | ((with_reducible refine gate_callee (f := 22) rfl ?_); refine goesL_ (some 14) rfl rfl Try.func22 (by kernel_rfl) rfl #[.slice A0 l0.length c0] rfl (by (try simp only [List.map_toArray, List.map_cons, List.map_nil]); first | done | rfl | (simp only [List.length_drop, List.length_take]; rfl)) ?_; (with_reducible refine (impl_LogDone.calls k _ _ l0 t776 _ ?side1 ?side2 A4.out).mono ?_); (case side1 => repeat (first | exact (Kd.C_below HR0.out HB.out) | (with_reducible refine Kd.C_alloc ?_ _) | (with_reducible refine Kd.C_drewN ?_ _) | (with_reducible refine Kd.C_drew ?_))); (case side2 => exact HC0.out); rintro e w6 ⟨v777, rfl, ho0, hb⟩; refine ⟨_, rfl, ?_⟩; have n0_ := Aside0.mk (Kd.R_lower ho0 (below_size (by repeat (first | (with_reducible first | exact HB.out | apply below_alloc | apply pw_below_drewN | apply below_drew1) | exact HB.out)))); have n1_ := Aside0.mk (below_step (by repeat (first | (with_reducible first | exact HB.out | apply below_alloc | apply pw_below_drewN | apply below_drew1) | exact HB.out)) hb); clear HB; have HO778 := n0_; have HB := n1_; clear n0_ n1_; (try clear hb); (try clear hb2); (try clear hk); (try clear hi); (try clear ho0); obtain ⟨Ao7, co7, eo7⟩ := Kd.R_slice HO778.out; subst eo7))
    go_loopg [4, 16] k (fun kq v4 v16 w' => ∃ (x4_1 : List (S65)) (x16_1 : Int), v16 = .int .i64 x16_1 ∧ Aside0 (impl_RecoverStore.l0 kq x4_1 t776 (t776.length : Int) x16_1 = some (r1, r2)) ∧ Aside0 (kq ≤ k) ∧ Aside0 (Kd.R k65 65 w' w.heap.size (fun _ => True) v4 x4_1) ∧ Aside0 (Kd.R Kd.string 9 w' w.heap.size (fun _ => True) (.slice Ao7 t776.length co7) t776) ∧ Aside0 (Below w.heap.size w w'))
    case atStart => exact ⟨(([] : List (S65))), (0), (by first | rfl | (simp; done) | (simp [*]; done)), H', ⟨Nat.le_refl _⟩, ⟨by first | exact Kd.R_nil _ _ _ _ _ | exact Kd.N_nil _ _ _ _ _ | exact Kd.V_nil _ _ _ _ _ | exact Kd.Q_nil _ _ _ _ _ | exact Kd.S_nil _ _ _ _ _⟩, ⟨by (with_reducible repeat (first | apply Kd.R_alloc | apply Kd.R_drewN | apply Kd.R_drew)); exact HO778.out⟩, ⟨by repeat (first | (with_reducible first | exact HB.out | apply below_alloc | apply pw_below_drewN | apply below_drew1) | exact HB.out)⟩⟩
    case round =>
      clear H'
      try clear c2
      try clear p2
      try clear c3
      try clear c4
      obtain ⟨x4_1, x16_1, rfl, HA, HK1, HO_4, HO_14, HB⟩ := hrel
      cases gk with
      | zero => exact absurd HA.out (by simp [impl_RecoverStore.l0])
      | succ k1 =>
        have H := HA.out
        clear HA
        simp only [impl_RecoverStore.l0] at H
        by_cases c8 : x16_1 < (t776.length : Int)
        · rw [if_pos c8] at H
          have c8b0 : decide (x16_1 < (t776.length : Int)) = true := decide_eq_true c8
          clear c8
          by_cases c9 : 0 ≤ x16_1
          · rw [if_pos c9] at H
            have c9b0 : decide (0 ≤ x16_1) = true := decide_eq_true c9
            clear c9
            by_cases c10 : x16_1 < (t776.length : Int)
            · rw [if_pos c10] at H
              have c10b0 : decide (x16_1 < (t776.length : Int)) = true := decide_eq_true c10
              clear c10
              replace H := Option.bind_eq_some_iff.mp H
              obtain ⟨⟨t780, t781, t782⟩, A110, H⟩ := H
              replace H : (if t782 = true then (impl_RecoverStore.l0 k1 t780 t776 (t776.length : Int) (wrap64 (x16_1 + 1))) else (some (([] : List (S65)), false))) = some (r1, r2) := H
              have A11 := Aside0.mk A110
              clear A110
              by_cases c12 : t782 = true
              · subst c12
                have H1 : (impl_RecoverStore.l0 k1 t780 t776 (t776.length : Int) (wrap64 (x16_1 + 1))) = some (r1, r2) := by rw [if_pos rfl] at H; exact H
                clear H
                have H := H1
                clear H1
                have H' := Aside0.mk H
                clear H
                have p779 : 0 ≤ (x16_1 : Int) := of_decide_eq_true (by first | (with_reducible assumption) | assumption)
                have q779 : x16_1 < (t776.length : Int) := of_decide_eq_true (by first | (with_reducible assumption) | assumption)
                obtain ⟨ad779, e779, hx779_0⟩ := Kd.at_string (Kd.R_reads' HO_14.out).2.2 x16_1 p779 q779
                cases e779
                replace p779 := eq_true p779
                replace q779 := eq_true q779
                obtain ⟨Ao13, co13, eo13⟩ := Kd.R_slice HO_4.out
                subst eo13
                go_wp2_with (first | ((with_reducible refine gate_callee (f := 56) rfl ?_); refine goesL_ (some 23) rfl rfl Try.func56 (by kernel_rfl) rfl #[.slice Ao13 x4_1.length co13, .string (rdOf ByteArray.empty t776 x16_1)] rfl (by (try simp only [List.map_toArray, List.map_cons, List.map_nil]); first | done | rfl | (simp only [List.length_drop, List.length_take]; rfl)) ?_; (with_reducible refine (impl_PutText.calls k1 _ _ x4_1 (rdOf ByteArray.empty t776 x16_1) t780 t781 true _ ?side1 ?side2 A11.out).mono ?_); (case side1 => repeat (first | exact (Kd.R_reads' HO_4.out).2.2 | (with_reducible refine Kd.C_alloc ?_ _) | (with_reducible refine Kd.C_drewN ?_ _) | (with_reducible refine Kd.C_drew ?_))); (case side2 => exact (Kd.R_reads' HO_4.out).2.1); rintro e w14 ⟨v783, rfl, ho0, hb⟩; refine ⟨_, rfl, ?_⟩; have n0_ := Aside0.mk (Kd.R_elder' (by (with_reducible repeat (first | apply Kd.R_alloc | apply Kd.R_drewN | apply Kd.R_drew)); exact HO_4.out) (Kd.R_base ho0) hb); have n1_ := Aside0.mk (Kd.R_below (by (with_reducible repeat (first | apply Kd.R_alloc | apply Kd.R_drewN | apply Kd.R_drew)); exact HO_14.out) hb); have n2_ := Aside0.mk (Kd.R_lower (Kd.R_new' ho0 (Kd.R_lt (by (with_reducible repeat (first | apply Kd.R_alloc | apply Kd.R_drewN | apply Kd.R_drew)); exact HO_4.out))) (below_size (by repeat (first | (with_reducible first | exact HB.out | apply below_alloc | apply pw_below_drewN | apply below_drew1) | exact HB.out)))); have n3_ := Aside0.mk (below_step (by repeat (first | (with_reducible first | exact HB.out | apply below_alloc | apply pw_below_drewN | apply below_drew1) | exact HB.out)) hb); clear HO_4; clear HO_14; clear HB; have HO_4 := n0_; have HO_14 := n1_; have HO784 := n2_; have HB := n3_; clear n0_ n1_ n2_ n3_; (try clear hb); (try clear hb2); (try clear hk); (try clear hi); (try clear ho0)))
                go_roundg k1
                case measure => have := HK1.out; omega
                case rel => exact ⟨(t780), (wrap64 (x16_1 + 1)), (by first | rfl | (simp; done) | (simp [*]; done)), H', ⟨by have := HK1.out; omega⟩, ⟨by (with_reducible repeat (first | apply Kd.R_alloc | apply Kd.R_drewN | apply Kd.R_drew)); exact Kd.R_mono HO784.out (fun _ hk => trivial)⟩, ⟨by (with_reducible repeat (first | apply Kd.R_alloc | apply Kd.R_drewN | apply Kd.R_drew)); exact HO_14.out⟩, ⟨by repeat (first | (with_reducible first | exact HB.out | apply below_alloc | apply pw_below_drewN | apply below_drew1) | exact HB.out)⟩⟩
              · replace c12 := Bool.eq_false_iff.mpr c12
                subst c12
                have H1 : (some (([] : List (S65)), false)) = some (r1, r2) := by rw [if_neg (show ¬ (false = true) by decide)] at H; exact H
                clear H
                have H := H1
                clear H1
                simp only [Option.some.injEq, Prod.mk.injEq] at H
                obtain ⟨rfl, rfl⟩ := H
                have p779 : 0 ≤ (x16_1 : Int) := of_decide_eq_true (by first | (with_reducible assumption) | assumption)
                have q779 : x16_1 < (t776.length : Int) := of_decide_eq_true (by first | (with_reducible assumption) | assumption)
                obtain ⟨ad779, e779, hx779_0⟩ := Kd.at_string (Kd.R_reads' HO_14.out).2.2 x16_1 p779 q779
                cases e779
                replace p779 := eq_true p779
                replace q779 := eq_true q779
                obtain ⟨Ao15, co15, eo15⟩ := Kd.R_slice HO_4.out
                subst eo15
                go_wp2_with (first | ((with_reducible refine gate_callee (f := 56) rfl ?_); refine goesL_ (some 23) rfl rfl Try.func56 (by kernel_rfl) rfl #[.slice Ao15 x4_1.length co15, .string (rdOf ByteArray.empty t776 x16_1)] rfl (by (try simp only [List.map_toArray, List.map_cons, List.map_nil]); first | done | rfl | (simp only [List.length_drop, List.length_take]; rfl)) ?_; (with_reducible refine (impl_PutText.calls k1 _ _ x4_1 (rdOf ByteArray.empty t776 x16_1) t780 t781 false _ ?side1 ?side2 A11.out).mono ?_); (case side1 => repeat (first | exact (Kd.R_reads' HO_4.out).2.2 | (with_reducible refine Kd.C_alloc ?_ _) | (with_reducible refine Kd.C_drewN ?_ _) | (with_reducible refine Kd.C_drew ?_))); (case side2 => exact (Kd.R_reads' HO_4.out).2.1); rintro e w16 ⟨v783, rfl, ho0, hb⟩; refine ⟨_, rfl, ?_⟩; have n0_ := Aside0.mk (Kd.R_elder' (by (with_reducible repeat (first | apply Kd.R_alloc | apply Kd.R_drewN | apply Kd.R_drew)); exact HO_4.out) (Kd.R_base ho0) hb); have n1_ := Aside0.mk (Kd.R_below (by (with_reducible repeat (first | apply Kd.R_alloc | apply Kd.R_drewN | apply Kd.R_drew)); exact HO_14.out) hb); have n2_ := Aside0.mk (Kd.R_lower (Kd.R_new' ho0 (Kd.R_lt (by (with_reducible repeat (first | apply Kd.R_alloc | apply Kd.R_drewN | apply Kd.R_drew)); exact HO_4.out))) (below_size (by repeat (first | (with_reducible first | exact HB.out | apply below_alloc | apply pw_below_drewN | apply below_drew1) | exact HB.out)))); have n3_ := Aside0.mk (below_step (by repeat (first | (with_reducible first | exact HB.out | apply below_alloc | apply pw_below_drewN | apply below_drew1) | exact HB.out)) hb); clear HO_4; clear HO_14; clear HB; have HO_4 := n0_; have HO_14 := n1_; have HO784 := n2_; have HB := n3_; clear n0_ n1_ n2_ n3_; (try clear hb); (try clear hb2); (try clear hk); (try clear hi); (try clear ho0)))
                go_ret2
                exact ⟨_, by first | rfl | (simp [errW_none, errW_some] <;> rfl) | (simp [*, errW_none, errW_some] <;> rfl), by first | exact Kd.R_nil _ _ _ _ _ | exact Kd.N_nil _ _ _ _ _ | exact Kd.V_nil _ _ _ _ _ | exact Kd.Q_nil _ _ _ _ _ | exact Kd.S_nil _ _ _ _ _, by repeat (first | (with_reducible first | exact HB.out | apply below_alloc | apply pw_below_drewN | apply below_drew1) | exact HB.out)⟩
            · rw [if_neg c10] at H
              exact absurd H (by simp)
          · rw [if_neg c9] at H
            exact absurd H (by simp)
        · rw [if_neg c8] at H
          have c8b0 : decide (x16_1 < (t776.length : Int)) = false := decide_eq_false c8
          clear c8
          simp only [Option.some.injEq, Prod.mk.injEq] at H
          obtain ⟨rfl, rfl⟩ := H
          go_wp2
          go_ret2
          exact ⟨_, by first | rfl | (simp [errW_none, errW_some] <;> rfl) | (simp [*, errW_none, errW_some] <;> rfl), by (with_reducible repeat (first | apply Kd.R_alloc | apply Kd.R_drewN | apply Kd.R_drew)); exact HO_4.out, by repeat (first | (with_reducible first | exact HB.out | apply below_alloc | apply pw_below_drewN | apply below_drew1) | exact HB.out)⟩
  · replace c3 := Bool.eq_false_iff.mpr c3
    subst c3
    have H1 : (some (([] : List (S65)), false)) = some (r1, r2) := by rw [if_neg (show ¬ (false = true) by decide)] at H; exact H
    clear H
    have H := H1
    clear H1
    simp only [Option.some.injEq, Prod.mk.injEq] at H
    obtain ⟨rfl, rfl⟩ := H
    go_enter Try.func45, Try.ntmps45
    go_wp2_with (first | ((with_reducible refine gate_callee (f := 29) rfl ?_); refine goesL_ (some 11) rfl rfl Try.func29 (by kernel_rfl) rfl #[.slice A0 l0.length c0] rfl (by (try simp only [List.map_toArray, List.map_cons, List.map_nil]); first | done | rfl | (simp only [List.length_drop, List.length_take]; rfl)) ?_; (with_reducible refine (impl_LogValid.calls k _ _ l0 false _ ?side1 ?side2 A2.out).mono ?_); (case side1 => repeat (first | exact HR0.out | (with_reducible refine Kd.C_alloc ?_ _) | (with_reducible refine Kd.C_drewN ?_ _) | (with_reducible refine Kd.C_drew ?_))); (case side2 => exact HC0.out); rintro e w17 ⟨rfl, hb⟩; refine ⟨_, rfl, ?_⟩; have n0_ := Aside0.mk (below_step (by repeat (first | (with_reducible first | exact HB.out | apply below_alloc | apply pw_below_drewN | apply below_drew1) | exact HB.out)) hb); clear HB; have HB := n0_; clear n0_; (try clear hb); (try clear hb2); (try clear hk); (try clear hi)))
    go_ret2
    exact ⟨_, by first | rfl | (simp [errW_none, errW_some] <;> rfl) | (simp [*, errW_none, errW_some] <;> rfl), by first | exact Kd.R_nil _ _ _ _ _ | exact Kd.N_nil _ _ _ _ _ | exact Kd.V_nil _ _ _ _ _ | exact Kd.Q_nil _ _ _ _ _ | exact Kd.S_nil _ _ _ _ _, by repeat (first | (with_reducible first | exact HB.out | apply below_alloc | apply pw_below_drewN | apply below_drew1) | exact HB.out)⟩
end Go.Proofs.Ytcbmkonigclceaa.P
