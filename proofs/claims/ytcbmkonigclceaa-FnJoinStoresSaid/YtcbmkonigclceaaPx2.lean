-- The functions of the seat as plain Lean functions, made by the kit's print.py for all laws at once. Not trusted: Lean checks it.
import Derived.Test.YtcbmkonigclceaaPx0
import Derived.Test.YtcbmkonigclceaaPx1
namespace Go.Proofs.Ytcbmkonigclceaa.P
open Go.RowKit Go.Proofs.YtcbmkonigclceaaW.PrintWords Go.Proofs.YtcbmkonigclceaaW.PrintLast Go.Proofs.YtcbmkonigclceaaW.PrintMore
attribute [local go_sem] max2_int min2_int max_two min_two max_three min_three max_four min_four   -- for this text's walks alone
set_option linter.unusedVariables false
set_option linter.unusedSimpArgs false
/-! ### slices_Insert_Piece: function 82 (by a text of my own) -/
def slices_Insert_Piece.f (l0 : List S65) (a1 : Int) (l2 : List S65) : Option (List S65) := if l2.length = 1 ∧ 0 ≤ a1 ∧ a1 ≤ (l0.length : Int) ∧ (l0.length + 1) * 24 ≤ 140737488355328 then some (l0.take a1.toNat ++ l2 ++ l0.drop a1.toNat) else none
set_option maxHeartbeats 8000000 in
set_option maxRecDepth 100000 in
theorem slices_Insert_Piece.calls (P0_ : Nat → Prop) (u9000_ : Value) (l0 : List S65) (a1 : Int) (P2_ : Nat → Prop) (u9001_ : Value) (l2 : List S65) (r : List S65) (w0 w : World) (hB : Below w0.heap.size w0 w) (ho0 : Kd.R k65 65 w w0.heap.size P0_ u9000_ l0) (hp0_2 : ∀ k_, P0_ k_ → ¬ P2_ k_) (ho2 : Kd.R k65 65 w w0.heap.size P2_ u9001_ l2) (hp2_0 : ∀ k_, P2_ k_ → ¬ P0_ k_) (h : slices_Insert_Piece.f l0 a1 l2 = some r) :
  Calls Try.prog 82 #[u9000_, .int .i64 a1, u9001_] w fun e w' => ∃ v0_ : Value, e = .returned (v0_) ∧ Kd.R k65 65 w' w0.heap.size (fun k_ => ((P0_ k_ ∨ P2_ k_) ∨ w.heap.size ≤ k_)) v0_ r ∧ Below w0.heap.size w0 w' ∧ Kept w w' (fun k_ => P0_ k_ ∨ P2_ k_) := by
 unfold slices_Insert_Piece.f at h
 by_cases hc : l2.length = 1 ∧ 0 ≤ a1 ∧ a1 ≤ (l0.length : Int) ∧ (l0.length + 1) * 24 ≤ 140737488355328
 case neg => rw [if_neg hc] at h; cases h
 rw [if_pos hc] at h
 obtain rfl := Option.some.inj h
 clear h
 obtain ⟨hl1, h0, h1, hbig⟩ := hc
 obtain ⟨i, rfl⟩ := Int.eq_ofNat_of_zero_le h0
 simp only [Int.toNat_natCast]
 have hin : i ≤ l0.length := by omega
 obtain ⟨i0, hi, hz0, hz1, hz2⟩ := info_parts info65
 obtain ⟨A2, c2, eu2, hlc2, HR2⟩ := Kd.R_reads ho2
 by_cases hend : i = l0.length
 ·-- behind the last one
  subst hend
  have HO : Kd.R k65 65 w w0.heap.size (fun k_ => ((P0_ k_ ∨ P2_ k_) ∨ w.heap.size ≤ k_)) u9000_ l0 := Kd.R_mono ho0 (fun k hk => Or.inl (Or.inl hk))
  have el : l0.take l0.length ++ l2 ++ l0.drop l0.length = l0 ++ l2 := by simp
  rw [el]
  have hP := ho0.1
  obtain ⟨A0, c0, rfl, hlc0, HR0⟩ := Kd.R_reads ho0
  have H0 := Aside0.mk (And.intro HO (And.intro HR2 hP))
  rw [eu2, hl1]
  rw [hl1] at HR2
  have hc63 : c0 ≤ 9223372036854775807 := by
   obtain ⟨_, _, hown, _⟩ := ho0
   rcases hown.2 with ⟨h, _⟩ | ⟨_, _, _, h, _, _, _, hcm, _⟩
   ·injection h with h1 h2 h3; omega
   ·injection h with h1 h2 h3; rw [h3]; simpa [maxLen] using hcm
  have step : ∀ (ops : Array Oper) (rest : List Oper) (o : Oper) (a : Act) (Q : Exit → Act → World → Prop) (x y : Operand), o.guard = none → o.op = .call { callee := .builtin .append, args := #[x, y], argTypes := #[51, 51] } → a.eval x = .slice A0 l0.length c0 → a.eval y = .slice A2 1 c2 →
    (∀ v1 w1, Kd.R k65 65 w1 w0.heap.size (fun k_ => ((P0_ k_ ∨ P2_ k_) ∨ w.heap.size ≤ k_)) v1 (l0 ++ l2) → Below w0.heap.size w0 w1 → Kept w w1 (fun k_ => P0_ k_ ∨ P2_ k_) → wpList Try.prog ops Q rest (a.put o.dst v1) w1) → wpList Try.prog ops Q (o :: rest) a w := by
   intro ops rest o a Q x y hg ho hx hy hk
   refine Kd.R_append_rows k65 w0.heap.size hg x y 51 65 (.agg #[(.int .i64 0), (.string ⟨#[]⟩)]) 24 ho Try.underlying51 info65 rfl (by decide) (by decide) _ l0 l2 A2 1 c2 _ (fun _ => False) hx hy HO HR2 (fun _ _ h => h) (fun _ h => h.elim) (fun k h => Or.inr h) hB hB.size hbig ?_
   intro v1 w1 h1 h2 h3 _
   exact hk v1 w1 h1 h2 (Kept.of_grown h3 (Kept.refl w _) (fun k hk => Or.inl (Or.inl (hP k hk))))
  clear HO HR2 hP ho0 ho2 HR0 hp0_2 hp2_0 el eu2
  cases A0 with
  | none =>
   have h00 : l0.length = 0 ∧ c0 = 0 := by
    obtain ⟨hO, _, hP⟩ := H0.out
    obtain ⟨_, _, hown, _⟩ := hO
    rcases hown.2 with ⟨h, h'⟩ | ⟨_, _, _, h, _⟩
    ·injection h with h1 h2 h3; exact ⟨h', h3⟩
    ·injection h with h1 h2 h3; cases h1
   obtain ⟨h00, rfl⟩ := h00
   rw [h00] at step ⊢
   clear H0
   go_enter Try.func82, Try.ntmps82
   go_wp2_with (at_builtin; refine step _ _ _ _ _ _ _ rfl rfl rfl rfl ?_; intro v1 w1 h1 h2 h3)
   all_goals (go_ret; exact ⟨v1, rfl, h1, h2, h3⟩)
  | some ad =>
   obtain ⟨g, off, sp⟩ := ad
   go_enter Try.func82, Try.ntmps82
   go_wp2_with (at_builtin; refine step _ _ _ _ _ _ _ rfl rfl rfl rfl ?_; intro v1 w1 h1 h2 h3)
   all_goals (go_ret; exact ⟨v1, rfl, h1, h2, h3⟩)
 ·-- before another one: the row has a block
  obtain ⟨hP, inner, hown, hreps⟩ := ho0
  obtain ⟨hP2, news, hownv, hrepsv⟩ := ho2
  obtain ⟨hvl, hownv2⟩ := hownv
  rcases hownv2 with ⟨rfl, hn0⟩ | ⟨vb, vc, vcur, rfl, hbv, hgv, hvc, hvcm, hvcs, hvtake⟩
  ·exfalso; omega
  obtain ⟨hil, hown2⟩ := hown
  rcases hown2 with ⟨rfl, hn0⟩ | ⟨g, cap, cur, rfl, hbg, hg, hnc, hcm, hcs, htake⟩
  ·exfalso; omega
  have hnl : news.length = 2 := by rw [hvl, hl1]; rfl
  have hil' : inner.length = l0.length * 2 := hil
  have hcs' : cur.size = cap * 2 := hcs
  have htake' : cur.toList.take (l0.length * 2) = inner := htake
  have hcm' : cap ≤ 9223372036854775807 := by simpa [maxLen] using hcm
  have hv1 : ∀ u ∈ news, u.oneCell' = true := KdW.reps_one hrepsv (by decide) (fun _ _ h => Kd.K_one k65 (Kd.K_of_M k65 h))
  have hz1i : ∀ u ∈ inner, u.oneCell' = true := KdW.reps_one hreps (by decide) (fun _ _ h => Kd.K_one k65 (Kd.K_of_M k65 h))
  have hvcell : ∀ t u, news[t]? = some u → w.cell? ⟨vb, t, none⟩ = some u := by
   intro t u hu
   rw [cell_of_row w vb t vcur 65 (0, 0) hgv, ← Array.getElem?_toList]
   rw [← hvtake, List.getElem?_take] at hu
   split at hu
   ·exact hu
   ·cases hu
  have hcell : ∀ t u, inner[t]? = some u → w.cell? ⟨g, t, none⟩ = some u := by
   intro t u hu
   rw [cell_of_row w g t cur 65 (0, 0) hg, ← Array.getElem?_toList]
   rw [← htake', List.getElem?_take] at hu
   split at hu
   ·exact hu
   ·cases hu
  have hPg : P0_ g := hP g rfl
  have hPv : P2_ vb := hP2 vb rfl
  have hne : vb ≠ g := fun e => hp0_2 g hPg (e ▸ hPv)
  have hgl : g < w.heap.size := (Array.getElem?_eq_some_iff.1 hg).1
  have hvbl : vb < w.heap.size := (Array.getElem?_eq_some_iff.1 hgv).1
  rw [hl1]
  have mixed : Try.prog.follows Departure.mixedOrders = true := by kernel_rfl
  have hz2c : ¬ ((i : Int) = (l0.length : Int)) := by omega
  have hw1 : IntKind.i64.wrap ((i : Int) + (1 : Int)) = (i : Int) + (1 : Int) := by rw [IntKind.wrap_i64]; omega
  have htn : ((i : Int) + (1 : Int)).toNat = i + 1 := by omega
  have hdl : (inner.drop (i * 2)).length = (l0.length - i) * 2 := by rw [List.length_drop, hil']; omega
  have hin' : i < l0.length := by omega
  have hylen : (l0.take i ++ l2 ++ l0.drop i).length = l0.length + 1 := by rw [List.length_append, List.length_append, List.length_take, List.length_drop, hl1]; omega
  have hyreps : Reps (k65.M w w0.heap.size (fun _ => True)) k65.sz (l0.take i ++ l2 ++ l0.drop i) (inner.take (i * 2) ++ news ++ inner.drop (i * 2)) :=
   KdW.reps_append (KdW.reps_append (KdW.reps_take (R := k65.M w w0.heap.size (fun _ => True)) ⟨hreps.1, fun j p hj => hreps.2 j p hj⟩ i) ⟨hrepsv.1, fun j p hj => hrepsv.2 j p hj⟩) (KdW.reps_drop (R := k65.M w w0.heap.size (fun _ => True)) ⟨hreps.1, fun j p hj => hreps.2 j p hj⟩ i)
  by_cases hroom : l0.length + 1 ≤ cap
  ·-- in place
   obtain ⟨cur1, hcur1⟩ : ∃ cur1 : Array Value, cur1 = (cur.toList.take ((i + 1) * 2) ++ inner.drop (i * 2) ++ cur.toList.drop ((i + 1) * 2 + (inner.drop (i * 2)).length)).toArray := ⟨_, rfl⟩
   have hs1 : cur1.size = cap * 2 := by
    rw [hcur1]
    simp only [List.size_toArray, List.length_append, List.length_take, List.length_drop, Array.length_toList, hil', hcs']
    omega
   have hcp1 : ∀ ty dc sc, (Builtin.copy_ #[51, 51] ty #[.slice (some ⟨g, (i + 1) * 2, none⟩) (l0.length - i) dc, .slice (some ⟨g, i * 2, none⟩) (l0.length + 1 - i) sc]).run Try.prog w.drew = .ok (goInt (Nat.min (l0.length + 1 - i) (l0.length - i))) (w.drew.setRow g cur1) := fun ty dc sc => by
    rw [hcur1]
    exact KdW.run_copy_rowk w.drew 51 51 ty 65 g ((i + 1) * 2) (l0.length - i) dc ⟨g, i * 2, none⟩ (l0.length + 1 - i) sc cur 65 (inner.drop (i * 2)) i0 Try.underlying51 hi hg (by rw [hdl, hz1]; simp only [Nat.min_def]; split <;> omega)
     (fun j v hj => by rw [Addr.add_lit]; rw [List.getElem?_drop] at hj; exact hcell _ v hj) (by rw [hdl, hcs']; omega) (fun v hv => hz1i v (List.mem_of_mem_drop hv))
   obtain ⟨W1, hW1⟩ : ∃ W1, W1 = w.drew.setRow g cur1 := ⟨_, rfl⟩
   have hg1 : W1.heap[g]? = some (.cells cur1 65 (0, 0)) := by rw [hW1]; exact setRow_heap w.drew g cur _ 65 _ hg
   obtain ⟨cur2, hcur2⟩ : ∃ cur2 : Array Value, cur2 = (cur1.toList.take (i * 2) ++ news ++ cur1.toList.drop (i * 2 + news.length)).toArray := ⟨_, rfl⟩
   have hcp2 : ∀ ty dc, (Builtin.copy_ #[51, 51] ty #[.slice (some ⟨g, i * 2, none⟩) (l0.length + 1 - i) dc, .slice (some ⟨vb, 0, none⟩) 1 vc]).run Try.prog W1 = .ok (goInt (Nat.min 1 (l0.length + 1 - i))) (W1.setRow g cur2) := fun ty dc => by
    rw [hcur2]
    exact KdW.run_copy_rowk W1 51 51 ty 65 g (i * 2) (l0.length + 1 - i) dc ⟨vb, 0, none⟩ 1 vc cur1 65 news i0 Try.underlying51 hi hg1 (by rw [hnl, hz1]; simp only [Nat.min_def]; split <;> omega)
     (fun j v hj => by
      rw [Addr.add_lit, Nat.zero_add, hW1]
      have : (w.drew.setRow g cur1).heap[vb]? = w.heap[vb]? := setRow_other w.drew g vb _ hne
      rw [World.cell?_of_block (w := w) this]
      exact hvcell j v hj) (by rw [hnl, hs1]; omega) hv1
   have e1 : cur.toList.take (i * 2) = inner.take (i * 2) := by rw [← htake', List.take_take, Nat.min_eq_left (by omega)]
   have hcl : cur.toList.length = cap * 2 := by rw [Array.length_toList (xs := cur), hcs']
   have e3 : cur1.toList.take (i * 2) = inner.take (i * 2) := by
    rw [hcur1, List.toList_toArray, List.append_assoc, List.take_append_of_le_length (by rw [List.length_take, hcl]; omega), List.take_take, Nat.min_eq_left (by omega), e1]
   have e4 : cur1.toList.drop (i * 2 + news.length) = inner.drop (i * 2) ++ cur.toList.drop ((i + 1) * 2 + (inner.drop (i * 2)).length) := by
    rw [hcur1, List.toList_toArray, List.append_assoc, List.drop_left']
    rw [List.length_take, hcl, hnl]
    omega
   have ht2 : cur2.toList.take ((l0.length + 1) * 2) = inner.take (i * 2) ++ news ++ inner.drop (i * 2) := by
    rw [hcur2, List.toList_toArray, e3, e4, ← List.append_assoc, List.take_left']
    rw [List.length_append, List.length_append, List.length_take, hdl, hnl, hil']
    omega
   have hs2 : cur2.size = cap * 2 := by
    rw [hcur2]
    simp only [List.size_toArray, List.length_append, List.length_take, List.length_drop, Array.length_toList, hnl, hs1]
    omega
   rw [← hW1] at hcp1
   have hov : ∀ lb cb, (callFunc 94 #[.slice (some ⟨vb, 0, none⟩) 1 vc, .slice (some ⟨g, (i + 1) * 2, none⟩) lb cb]).run Try.prog w = .ok (.value (.bool false)) w := fun lb cb => by
    rw [run_callFunc_extern Try.func94 (by kernel_rfl) (by kernel_rfl) (by kernel_rfl) (e := Extern.SlicesOverlaps.overlaps #[51, 51] #[4]) (by kernel_rfl),
     Lib.run_overlaps_apart w 51 4 65 Try.underlying51 2 (fun w => by simp [sizeOf, typeInfo, hi, hz1]) ⟨vb, 0, none⟩ ⟨g, (i + 1) * 2, none⟩ 1 vc lb cb hne 65 65 vcur.size cur.size (by simp [World.shape?, hgv]) (by simp [World.shape?, hg]) (by omega) (by simp [World.frozen?, hgv]) (by simp [World.frozen?, hgv])]
    rfl
   have X := Aside0.mk (And.intro hW1 (And.intro hg1 (And.intro hg (And.intro ht2 (And.intro hs2 (And.intro hyreps hP))))))
   clear hW1 hg1 hg ht2 hs2 hyreps hP hcur1 hcur2 hvcell hcell htake htake' hv1 hz1i hreps hrepsv hvtake hgv hcs hvcs hdl hs1
   have hb1 : (0 : Int) ≤ (i : Int) + (1 : Int) := by omega
   have hb3 : (i : Int) ≤ (l0.length : Int) + 1 := by omega
   have hb2 : ¬ (cap = i + 1) := by omega
   clear eu2
   have hb4 : ¬ (cap = i) := by omega
   go_enter Try.func82, Try.ntmps82
   go_wp2_with (simp only [hov])
   go_region_law_o (refine KdW.step_copy_runK rfl _ _ 51 51 rfl _ _ (by simp [Act.eval, Act.put]) (by simp [Act.eval, Act.put]) (hcp1 _ _ _) ?_)
   go_wp2_with (at_builtin; refine KdW.wpList_copy_runK _ rfl _ _ 51 51 rfl _ _ rfl rfl (hcp2 _ _) ?_)
   go_ret
   obtain ⟨hW1, hg1, hg, ht2, hs2, hyreps, hP⟩ := X.out
   refine ⟨_, rfl, KdW.own_after (w := w) (P0 := P0_) (fun _ _ _ _ _ _ _ _ h => h) hbg hPg (setRow_heap W1 g cur1 cur2 65 _ hg1) hylen.symm (by omega) hcm (by rw [hs2]; rfl) (by rw [hylen]; exact ht2) hyreps (Or.inl (Or.inl hPg)), ?_, ?_⟩
   ·rw [hW1]
    exact KdW.below_row (KdW.below_row (w := w.drew) ⟨hB.os, hB.tape, hB.output, hB.size, hB.block⟩ hbg _) hbg _
   ·rw [hW1]
    exact KdW.kept_row (KdW.kept_row (W := w.drew) (Kept.drew (Kept.refl w _)) (Or.inl hPg) _) (Or.inl hPg) _
  ·-- a new row
   have hkk : (l0.length : Int) + 1 - (i : Int) = ((l0.length + 1 - i : Nat) : Int) := by omega
   have hik : i + (l0.length + 1 - i) = l0.length + 1 := by omega
   have hold : (Builtin.firstCells i0.size i (.slice (some ⟨g, 0, none⟩) i cap)).run Try.prog w.drew = .ok (inner.take (i * 2)).toArray w.drew := by
    rw [hz1]
    exact run_firstCells_some w.drew 2 i ⟨g, 0, none⟩ i cap (inner.take (i * 2)) (by rw [List.length_take, hil']; omega) (fun j v hj => by
     rw [Addr.add_lit, Nat.zero_add]
     rw [List.getElem?_take] at hj
     split at hj
     ·exact hcell j v hj
     ·cases hj)
   obtain ⟨G, hG⟩ : ∃ G, G = grownCap w (l0.length + 1) cap 65 := ⟨_, rfl⟩
   obtain ⟨ROW, hROW⟩ : ∃ ROW : Array Value, ROW = (inner.take (i * 2)).toArray ++ Builtin.zeroCells (Value.agg #[(.int .i64 0), (.string ⟨#[]⟩)]).cells (l0.length + 1 - i) ++ Builtin.zeroCells (Value.agg #[(.int .i64 0), (.string ⟨#[]⟩)]).cells (G - (l0.length + 1)) := ⟨_, rfl⟩
   have hrz : ∀ ty, (Builtin.append_ #[51, 3] ty #[.slice (some ⟨g, 0, none⟩) i cap, .int .i64 ((l0.length : Int) + 1 - (i : Int))]).run Try.prog w = .ok (.slice (some ⟨w.heap.size, 0, none⟩) (l0.length + 1) G) (w.drew.alloc (.cells ROW 65)) := fun ty => by
    have h := Lib.run_append_grow_zeros (P := Try.prog) w 51 3 ty 65 i0 _ .i64 .i64 Try.underlying51 Try.underlying3 hi hz0 (some ⟨g, 0, none⟩) i cap (inner.take (i * 2)) hold (l0.length + 1 - i) (by omega) (by rw [hz1]; omega) (by omega) (by omega) (by rw [hz2]; omega) (by rw [hz2, hik]; exact growslice_fits (by omega) hbig)
    rw [hik] at h
    rw [hkk, hROW, hG]
    exact h
   have hGn : l0.length + 1 ≤ G := by rw [hG]; exact grownCap_ge w _ _ _
   have hGm : G ≤ maxLen := by rw [hG]; exact grownCap_le_maxLen w _ _ _ (by simp only [maxLen]; omega)
   have hG63 : G ≤ 9223372036854775807 := by simpa [maxLen] using hGm
   have hRs : ROW.size = G * 2 := by
    rw [hROW]
    simp only [Array.size_append, List.size_toArray, size_zeroCells, List.length_take, hil']
    show _ + _ * 2 + _ * 2 = _
    omega
   obtain ⟨cA, hcA⟩ : ∃ cA : Array Value, cA = (ROW.toList.take (i * 2) ++ news ++ ROW.toList.drop (i * 2 + news.length)).toArray := ⟨_, rfl⟩
   have hsA : cA.size = G * 2 := by
    rw [hcA]
    simp only [List.size_toArray, List.length_append, List.length_take, List.length_drop, Array.length_toList, hnl, hRs]
    omega
   obtain ⟨cB, hcB⟩ : ∃ cB : Array Value, cB = (cA.toList.take ((i + 1) * 2) ++ inner.drop (i * 2) ++ cA.toList.drop ((i + 1) * 2 + (inner.drop (i * 2)).length)).toArray := ⟨_, rfl⟩
   have hsB : cB.size = G * 2 := by
    rw [hcB]
    simp only [List.size_toArray, List.length_append, List.length_take, List.length_drop, Array.length_toList, hil', hsA]
    omega
   have eR : ROW.toList.take (i * 2) = inner.take (i * 2) := by
    rw [hROW]
    simp only [Array.toList_append, List.append_assoc]
    rw [List.take_left']
    rw [List.length_take, hil']
    omega
   have hRl : ROW.toList.length = G * 2 := by rw [Array.length_toList (xs := ROW), hRs]
   have htB : cB.toList.take ((l0.length + 1) * 2) = inner.take (i * 2) ++ news ++ inner.drop (i * 2) := by
    have eA : cA.toList.take ((i + 1) * 2) = inner.take (i * 2) ++ news := by
     rw [hcA, List.toList_toArray, eR, List.take_left']
     rw [List.length_append, List.length_take, hnl, hil']
     omega
    rw [hcB, List.toList_toArray, eA, List.take_left']
    rw [List.length_append, List.length_append, List.length_take, hdl, hnl, hil']
    omega
   have hheap : ∀ (W : World), W.heap = (w.alloc (.cells ROW 65)).heap → W.heap[w.heap.size]? = some (.cells ROW 65 (0, 0)) := fun W hW => by rw [hW]; exact heap_alloc_new w _
   have hcpA : ∀ (W : World), W.heap = (w.alloc (.cells ROW 65)).heap → ∀ ty dc, (Builtin.copy_ #[51, 51] ty #[.slice (some ⟨w.heap.size, i * 2, none⟩) (l0.length + 1 - i) dc, .slice (some ⟨vb, 0, none⟩) 1 vc]).run Try.prog W = .ok (goInt (Nat.min 1 (l0.length + 1 - i))) (W.setRow w.heap.size cA) := fun W hW ty dc => by
    rw [hcA]
    exact KdW.run_copy_rowk W 51 51 ty 65 w.heap.size (i * 2) (l0.length + 1 - i) dc ⟨vb, 0, none⟩ 1 vc ROW 65 news i0 Try.underlying51 hi (hheap W hW) (by rw [hnl, hz1]; simp only [Nat.min_def]; split <;> omega)
     (fun j v hj => by
      rw [Addr.add_lit, Nat.zero_add]
      have : W.heap[vb]? = w.heap[vb]? := by rw [hW]; exact heap_alloc_old w _ hvbl
      rw [World.cell?_of_block (w := w) this]
      exact hvcell j v hj) (by rw [hnl, hRs]; omega) hv1
   have hcpB : ∀ (W : World), W.heap = ((w.alloc (.cells ROW 65)).setRow w.heap.size cA).heap → ∀ ty dc sc, (Builtin.copy_ #[51, 51] ty #[.slice (some ⟨w.heap.size, (i + 1) * 2, none⟩) (l0.length - i) dc, .slice (some ⟨g, i * 2, none⟩) (l0.length - i) sc]).run Try.prog W = .ok (goInt (Nat.min (l0.length - i) (l0.length - i))) (W.setRow w.heap.size cB) := fun W hW ty dc sc => by
    have hgW : W.heap[w.heap.size]? = some (.cells cA 65 (0, 0)) := by
     rw [hW]
     exact setRow_heap (w.alloc (.cells ROW 65)) w.heap.size ROW cA 65 _ (heap_alloc_new w _)
    rw [hcB]
    exact KdW.run_copy_rowk W 51 51 ty 65 w.heap.size ((i + 1) * 2) (l0.length - i) dc ⟨g, i * 2, none⟩ (l0.length - i) sc cA 65 (inner.drop (i * 2)) i0 Try.underlying51 hi hgW (by rw [hdl, hz1]; simp only [Nat.min_def]; split <;> omega)
     (fun j v hj => by
      rw [Addr.add_lit]
      rw [List.getElem?_drop] at hj
      have : W.heap[g]? = w.heap[g]? := by rw [hW, setRow_other _ w.heap.size g _ (by omega)]; exact heap_alloc_old w _ hgl
      rw [World.cell?_of_block (w := w) this]
      exact hcell _ v hj) (by rw [hdl, hsA]; omega) (fun v hv => hz1i v (List.mem_of_mem_drop hv))
   have X := Aside0.mk (And.intro htB (And.intro hsB hyreps))
   clear htB hsB hyreps hg hvcell hcell htake htake' hv1 hz1i hreps hrepsv hvtake hgv hcs hvcs hdl hsA eR hRl hRs hold hkk hik hheap hG hROW hcA hcB hP hP2
   have hGi : ¬ (G = i) := by omega
   have hGim : ¬ (G = i + 1) := by omega
   have hci : ¬ (cap = i) := by omega
   have hb1 : (0 : Int) ≤ (i : Int) + (1 : Int) := by omega
   have hb3 : (i : Int) ≤ (l0.length : Int) := by omega
   have hz3 : (cap : Int) < (l0.length : Int) + 1 := by omega
   clear eu2
   have hE1 : ((w.alloc (.cells ROW 65)).drew).heap = (w.alloc (.cells ROW 65)).heap := rfl
   go_enter Try.func82, Try.ntmps82
   go_wp2_with (first
    | (at_builtin; refine Lib.wpList_append_run _ rfl _ _ _ _ rfl _ _ rfl rfl _ _ (hrz _) ?_)
    | (at_builtin; refine KdW.wpList_copy_runK _ rfl _ _ 51 51 rfl _ _ rfl rfl (hcpA _ rfl _ _) ?_)
    | (at_builtin; refine KdW.wpList_copy_runK _ rfl _ _ 51 51 rfl _ _ rfl rfl (hcpB _ rfl _ _ _) ?_))
   go_region_law_o (refine KdW.step_copy_runK rfl _ _ 51 51 rfl (.slice (some ⟨w.heap.size, (i + 1) * 2, none⟩) (l0.length - i) (G - (i + 1))) (.slice (some ⟨g, i * 2, none⟩) (l0.length - i) (cap - i)) (by simp [Act.eval, Act.put]) (by simp [Act.eval, Act.put]) (hcpB (((w.alloc (.cells ROW 65)).drew.setRow w.heap.size cA).drew) rfl _ _ _) ?_)
   go_wp2
   go_ret
   obtain ⟨htB, hsB, hyreps⟩ := X.out
   have hg0 : ((w.alloc (.cells ROW 65)).drew.setRow w.heap.size cA).drew.heap[w.heap.size]? = some (.cells cA 65 (0, 0)) := setRow_heap (w.alloc (.cells ROW 65)).drew w.heap.size ROW cA 65 _ (heap_alloc_new w _)
   have hBa : Below w0.heap.size w0 (w.alloc (.cells ROW 65)) := hB.alloc hB.size _
   have hBA : Below w0.heap.size w0 ((w.alloc (.cells ROW 65)).drew.setRow w.heap.size cA) := KdW.below_row (w := (w.alloc (.cells ROW 65)).drew) ⟨hBa.os, hBa.tape, hBa.output, hBa.size, hBa.block⟩ hB.size _
   have hKa : Kept w (w.alloc (.cells ROW 65)) (fun k_ => (P0_ k_ ∨ P2_ k_) ∨ w.heap.size ≤ k_) := Kept.alloc (Kept.refl w _) _
   have hKA : Kept w ((w.alloc (.cells ROW 65)).drew.setRow w.heap.size cA) (fun k_ => (P0_ k_ ∨ P2_ k_) ∨ w.heap.size ≤ k_) := KdW.kept_row (W := (w.alloc (.cells ROW 65)).drew) (Kept.drew hKa) (Or.inr (Nat.le_refl _)) _
   have hKB := KdW.kept_row (W := ((w.alloc (.cells ROW 65)).drew.setRow w.heap.size cA).drew) (Kept.drew hKA) (Or.inr (Nat.le_refl _)) cB
   refine ⟨_, rfl, KdW.own_after (w := w) (P0 := fun _ => True) (fun _ _ _ _ _ _ _ _ h => h) hB.size trivial (setRow_heap _ w.heap.size cA cB 65 _ hg0) hylen.symm (by omega) hGm (by rw [hsB]; rfl) (by rw [hylen]; exact htB) hyreps (Or.inr (Nat.le_refl _)), ?_, ?_⟩
   ·exact KdW.below_row (w := ((w.alloc (.cells ROW 65)).drew.setRow w.heap.size cA).drew) ⟨hBA.os, hBA.tape, hBA.output, hBA.size, hBA.block⟩ hB.size _
   ·exact ⟨hKB.1, fun k hk hn => hKB.2 k hk (fun h => h.elim hn (fun h => by omega))⟩
attribute [local go_sem high] eqA65
/-! ### laws_samePieces: function 50 -/
def laws_samePieces.l0 : Nat → List (S65) → List (S65) → Int → Option (Bool)
 | 0, _, _, _ => none
 | k + 1, x0, x1, x5 => if x5 < (x0.length : Int) then (if 0 ≤ x5 then (if x5 < (x1.length : Int) then (if (!(((rd_T65 x0 x5).f0) == ((rd_T65 x1 x5).f0)) || (!((((rd_T65 x0 x5).f1).toList) == (((rd_T65 x1 x5).f1).toList)))) = true then (some false) else (laws_samePieces.l0 k x0 x1 (wrap64 (x5 + 1)))) else (none)) else (none)) else (some true)
def laws_samePieces.f (k : Nat) (l0 : List (S65)) (l1 : List (S65)) : Option (Bool) := if (l0.length : Int) = (l1.length : Int) then (laws_samePieces.l0 k l0 l1 0) else (some false)
set_option maxHeartbeats 8000000 in
set_option maxRecDepth 100000 in
theorem laws_samePieces.calls (k : Nat) (A0 : Option Addr) (c0 : Nat) (l0 : List (S65)) (A1 : Option Addr) (c1 : Nat) (l1 : List (S65)) (r : Bool) (w : World) (hr0 : Kd.C k65 w A0 l0.length l0) (hc0 : l0.length ≤ c0) (hr1 : Kd.C k65 w A1 l1.length l1) (hc1 : l1.length ≤ c1) (h : laws_samePieces.f k l0 l1 = some r) :
  Calls Try.prog 50 #[.slice A0 l0.length c0, .slice A1 l1.length c1] w fun e w' => e = .returned (.bool r) ∧ Drawn0 w w' := by
 have hu65 := Try.underlying65
 have HR0 := Aside0.mk hr0
 have HC0 := Aside0.mk hc0
 clear hr0 hc0
 have HR1 := Aside0.mk hr1
 have HC1 := Aside0.mk hc1
 clear hr1 hc1
 have H : (if (l0.length : Int) = (l1.length : Int) then (laws_samePieces.l0 k l0 l1 0) else (some false)) = some r := h
 clear h
 by_cases c3 : (l0.length : Int) = (l1.length : Int)
 ·rw [if_pos c3] at H
  have c3b0 : ((l0.length : Int) == (l1.length : Int)) = true := beq_iff_eq.mpr c3
  have c3b1 : ((l0.length : Int) != (l1.length : Int)) = false := bne_eq_false_iff_eq.mpr c3
  have c3b2 : (l0.length == l1.length) = true := by first | simpa using c3 | (simp at c3 ⊢; omega)
  clear c3
  have H' := Aside0.mk H
  clear H
  go_enter Try.func50, Try.ntmps50
  go_wp2
  repeat (go_quiet (fail); try go_wp2)
  go_loopg [5] k (fun kq v5 w' => ∃ (x5_1 : Int), v5 = .int .i64 x5_1 ∧ Aside0 (laws_samePieces.l0 kq l0 l1 x5_1 = some r) ∧ Aside0 (kq ≤ k) ∧ Drawn0 w w')
  case atStart => exact ⟨(0), rs_, H', ⟨Nat.le_refl _⟩, dw_⟩
  case round =>
   clear H'
   try clear c1
   try clear p2
   try clear c3
   try clear c3b0
   try clear c3b1
   try clear c3b2
   obtain ⟨x5_1, rfl, HA, HK1, ⟨m1, rfl⟩⟩ := hrel
   cases gk with
   | zero => exact absurd HA.out (by simp [laws_samePieces.l0])
   | succ k1 =>
    have H := HA.out
    clear HA
    simp only [laws_samePieces.l0] at H
    by_cases c4 : x5_1 < (l0.length : Int)
    ·rw [if_pos c4] at H
     have c4b0 : decide (x5_1 < (l0.length : Int)) = true := decide_eq_true c4
     clear c4
     by_cases c5 : 0 ≤ x5_1; rotate_left
     ·rw [if_neg c5] at H; exact absurd H (by simp)
     rw [if_pos c5] at H
     have c5b0 : decide (0 ≤ x5_1) = true := decide_eq_true c5
     clear c5
     by_cases c6 : x5_1 < (l1.length : Int); rotate_left
     ·rw [if_neg c6] at H; exact absurd H (by simp)
     rw [if_pos c6] at H
     have c6b0 : decide (x5_1 < (l1.length : Int)) = true := decide_eq_true c6
     clear c6
     by_cases c7 : (!(((rd_T65 l0 x5_1).f0) == ((rd_T65 l1 x5_1).f0)) || (!((((rd_T65 l0 x5_1).f1).toList) == (((rd_T65 l1 x5_1).f1).toList)))) = true
     ·rw [if_pos c7] at H
      have c7b0 : (!(((rd_T65 l0 x5_1).f0) == ((rd_T65 l1 x5_1).f0)) || (!((((rd_T65 l0 x5_1).f1).toList) == (((rd_T65 l1 x5_1).f1).toList)))) = true := c7
      clear c7
      obtain rfl := Option.some.inj H
      have p838 : 0 ≤ (x5_1 : Int) := dt_
      have q838 : x5_1 < (l0.length : Int) := dt_
      obtain ⟨ad838, e838, hx838_0, hx838_1⟩ := at_T65 HR0.out x5_1 p838 q838
      cases e838
      replace p838 := eq_true p838
      replace q838 := eq_true q838
      have p839 : 0 ≤ (x5_1 : Int) := dt_
      have q839 : x5_1 < (l1.length : Int) := dt_
      obtain ⟨ad839, e839, hx839_0, hx839_1⟩ := at_T65 HR1.out x5_1 p839 q839
      cases e839
      replace p839 := eq_true p839
      replace q839 := eq_true q839
      go_wp2
      repeat (go_quiet (fail); try go_wp2)
      go_ret
      exact ⟨rs_, dw_⟩
     ·rw [if_neg c7] at H
      have c7b0 : (!(((rd_T65 l0 x5_1).f0) == ((rd_T65 l1 x5_1).f0)) || (!((((rd_T65 l0 x5_1).f1).toList) == (((rd_T65 l1 x5_1).f1).toList)))) = false := by simpa using c7
      clear c7
      have H' := Aside0.mk H
      clear H
      have p838 : 0 ≤ (x5_1 : Int) := dt_
      have q838 : x5_1 < (l0.length : Int) := dt_
      obtain ⟨ad838, e838, hx838_0, hx838_1⟩ := at_T65 HR0.out x5_1 p838 q838
      cases e838
      replace p838 := eq_true p838
      replace q838 := eq_true q838
      have p839 : 0 ≤ (x5_1 : Int) := dt_
      have q839 : x5_1 < (l1.length : Int) := dt_
      obtain ⟨ad839, e839, hx839_0, hx839_1⟩ := at_T65 HR1.out x5_1 p839 q839
      cases e839
      replace p839 := eq_true p839
      replace q839 := eq_true q839
      go_wp2
      repeat (go_quiet (fail); try go_wp2)
      go_roundg k1
      case measure => have := HK1.out; omega
      case rel => exact ⟨(wrap64 (x5_1 + 1)), rs_, H', ⟨by have := HK1.out; omega⟩, dw_⟩
    ·rw [if_neg c4] at H
     have c4b0 : decide (x5_1 < (l0.length : Int)) = false := decide_eq_false c4
     clear c4
     obtain rfl := Option.some.inj H
     go_wp2
     repeat (go_quiet (fail); try go_wp2)
     go_ret
     exact ⟨rs_, dw_⟩
 ·rw [if_neg c3] at H
  have c3b0 : ((l0.length : Int) == (l1.length : Int)) = false := beq_eq_false_iff_ne.mpr c3
  have c3b1 : ((l0.length : Int) != (l1.length : Int)) = true := bne_iff_ne.mpr c3
  have c3b2 : (l0.length == l1.length) = false := by first | simpa using c3 | (simp at c3 ⊢; omega)
  obtain rfl := Option.some.inj H
  go_enter Try.func50, Try.ntmps50
  go_wp2
  repeat (go_quiet (fail); try go_wp2)
  go_ret
  exact ⟨rs_, dw_⟩
/-! ### impl_textOf: function 77 -/
def impl_textOf.f (k : Nat) (l0 : List (S65)) (a1 : Int) : Option (ByteArray × Bool) := (impl_findPiece.f k l0 a1).bind fun bt840 => (if bt840.2 = true then (if 0 ≤ bt840.1 then (if bt840.1 < (l0.length : Int) then (some ((rd_T65 l0 bt840.1).f1, true)) else (none)) else (none)) else (some ((⟨#[]⟩ : ByteArray), false)))
set_option maxHeartbeats 8000000 in
set_option maxRecDepth 100000 in
theorem impl_textOf.calls (k : Nat) (A0 : Option Addr) (c0 : Nat) (l0 : List (S65)) (a1 : Int) (r1 : ByteArray) (r2 : Bool) (w : World) (hr0 : Kd.C k65 w A0 l0.length l0) (hc0 : l0.length ≤ c0) (h : impl_textOf.f k l0 a1 = some (r1, r2)) :
  Calls Try.prog 77 #[.slice A0 l0.length c0, .int .i64 a1] w fun e w' => e = .returned (.tuple #[.string r1, .bool r2]) ∧ Below w.heap.size w w' := by
 have HR0 := Aside0.mk hr0
 have HC0 := Aside0.mk hc0
 clear hr0 hc0
 have HB := Aside0.mk (Below.refl w.heap.size w)
 have H : ((impl_findPiece.f k l0 a1).bind fun bt840 => (if bt840.2 = true then (if 0 ≤ bt840.1 then (if bt840.1 < (l0.length : Int) then (some ((rd_T65 l0 bt840.1).f1, true)) else (none)) else (none)) else (some ((⟨#[]⟩ : ByteArray), false)))) = some (r1, r2) := h
 clear h
 replace H := Option.bind_eq_some_iff.mp H
 obtain ⟨⟨t840, t841⟩, A30, H⟩ := H
 replace H : (if t841 = true then (if 0 ≤ t840 then (if t840 < (l0.length : Int) then (some ((rd_T65 l0 t840).f1, true)) else (none)) else (none)) else (some ((⟨#[]⟩ : ByteArray), false))) = some (r1, r2) := H
 have A3 := Aside0.mk A30
 clear A30
 by_cases c4 : t841 = true
 ·subst c4
  have H1 : (if 0 ≤ t840 then (if t840 < (l0.length : Int) then (some ((rd_T65 l0 t840).f1, true)) else (none)) else (none)) = some (r1, r2) := by rw [if_pos rfl] at H; exact H
  clear H
  have H := H1
  clear H1
  by_cases c5 : 0 ≤ t840; rotate_left
  ·rw [if_neg c5] at H; exact absurd H (by simp)
  rw [if_pos c5] at H
  have c5b0 : decide (0 ≤ t840) = true := decide_eq_true c5
  clear c5
  by_cases c6 : t840 < (l0.length : Int); rotate_left
  ·rw [if_neg c6] at H; exact absurd H (by simp)
  rw [if_pos c6] at H
  have c6b0 : decide (t840 < (l0.length : Int)) = true := decide_eq_true c6
  clear c6
  simp only [Option.some.injEq, Prod.mk.injEq] at H
  obtain ⟨rfl, rfl⟩ := H
  go_enter Try.func77, Try.ntmps77
  go_wp2_with (first | ((with_reducible refine gate_callee (f := 81) rfl ?_); refine gl_ (some 11) Try.func81 #[.slice A0 l0.length c0, .int .i64 a1] ?_; (with_reducible refine (impl_findPiece.calls k _ _ l0 a1 t840 true _ ?side1 ?side2 A3.out).mono ?_); (case side1 => exact kC_ HR0.out); (case side2 => exact HC0.out); rintro e w7 ⟨rfl, hb⟩; refine ⟨_, rfl, ?_⟩; replace HB := Aside0.mk (below_step hb_ hb); (try clear hb); have p842 : 0 ≤ (t840 : Int) := dt_; have q842 : t840 < (l0.length : Int) := dt_; obtain ⟨ad842, e842, hx842_0, hx842_1⟩ := at_T65 HR0.out t840 p842 q842; cases e842; replace hx842_0 := cb_ HB.out hx842_0; replace hx842_1 := cb_ HB.out hx842_1; replace p842 := eq_true p842; replace q842 := eq_true q842))
  go_ret2
  exact ⟨er_, hb_⟩
 ·replace c4 := Bool.eq_false_iff.mpr c4
  subst c4
  have H1 : (some ((⟨#[]⟩ : ByteArray), false)) = some (r1, r2) := by rw [if_neg (show ¬ (false = true) by decide)] at H; exact H
  clear H
  have H := H1
  clear H1
  simp only [Option.some.injEq, Prod.mk.injEq] at H
  obtain ⟨rfl, rfl⟩ := H
  go_enter Try.func77, Try.ntmps77
  go_wp2_with (first | ((with_reducible refine gate_callee (f := 81) rfl ?_); refine gl_ (some 11) Try.func81 #[.slice A0 l0.length c0, .int .i64 a1] ?_; (with_reducible refine (impl_findPiece.calls k _ _ l0 a1 t840 false _ ?side1 ?side2 A3.out).mono ?_); (case side1 => exact kC_ HR0.out); (case side2 => exact HC0.out); rintro e w8 ⟨rfl, hb⟩; refine ⟨_, rfl, ?_⟩; replace HB := Aside0.mk (below_step hb_ hb); (try clear hb)))
  go_ret2
  exact ⟨er_, hb_⟩
/-! ### impl_GetText: function 51 -/
def impl_GetText.f (k : Nat) (l0 : List (S65)) (a1 : Int) : Option (ByteArray × Bool) := (impl_StoreValid.f k l0).bind fun t843 => (if t843 = true then ((impl_textOf.f k l0 a1).bind fun bt844 => (some (bt844.1, bt844.2))) else (some ((⟨#[]⟩ : ByteArray), false)))
set_option maxHeartbeats 8000000 in
set_option maxRecDepth 100000 in
theorem impl_GetText.calls (k : Nat) (A0 : Option Addr) (c0 : Nat) (l0 : List (S65)) (a1 : Int) (r1 : ByteArray) (r2 : Bool) (w : World) (hr0 : Kd.C k65 w A0 l0.length l0) (hc0 : l0.length ≤ c0) (h : impl_GetText.f k l0 a1 = some (r1, r2)) :
  Calls Try.prog 51 #[.slice A0 l0.length c0, .int .i64 a1] w fun e w' => e = .returned (.tuple #[.string r1, .bool r2]) ∧ Below w.heap.size w w' := by
 have HR0 := Aside0.mk hr0
 have HC0 := Aside0.mk hc0
 clear hr0 hc0
 have HB := Aside0.mk (Below.refl w.heap.size w)
 have H : ((impl_StoreValid.f k l0).bind fun t843 => (if t843 = true then ((impl_textOf.f k l0 a1).bind fun bt844 => (some (bt844.1, bt844.2))) else (some ((⟨#[]⟩ : ByteArray), false)))) = some (r1, r2) := h
 clear h
 replace H := Option.bind_eq_some_iff.mp H
 obtain ⟨t843, A30, H⟩ := H
 replace H : (if t843 = true then ((impl_textOf.f k l0 a1).bind fun bt844 => (some (bt844.1, bt844.2))) else (some ((⟨#[]⟩ : ByteArray), false))) = some (r1, r2) := H
 have A3 := Aside0.mk A30
 clear A30
 by_cases c4 : t843 = true
 ·subst c4
  have H1 : ((impl_textOf.f k l0 a1).bind fun bt844 => (some (bt844.1, bt844.2))) = some (r1, r2) := by rw [if_pos rfl] at H; exact H
  clear H
  have H := H1
  clear H1
  replace H := Option.bind_eq_some_iff.mp H
  obtain ⟨⟨t844, t845⟩, A50, H⟩ := H
  replace H : (some (t844, t845)) = some (r1, r2) := H
  have A5 := Aside0.mk A50
  clear A50
  simp only [Option.some.injEq, Prod.mk.injEq] at H
  obtain ⟨rfl, rfl⟩ := H
  go_enter Try.func51, Try.ntmps51
  go_wp2_with (first | ((with_reducible refine gate_callee (f := 53) rfl ?_); refine gl_ (some 7) Try.func53 #[.slice A0 l0.length c0] ?_; (with_reducible refine (impl_StoreValid.calls k _ _ l0 true _ ?side1 ?side2 A3.out).mono ?_); (case side1 => exact kC_ HR0.out); (case side2 => exact HC0.out); rintro e w6 ⟨rfl, hb⟩; refine ⟨_, rfl, ?_⟩; replace HB := Aside0.mk (below_step hb_ hb); (try clear hb)) | ((with_reducible refine gate_callee (f := 77) rfl ?_); refine gl_ (some 11) Try.func77 #[.slice A0 l0.length c0, .int .i64 a1] ?_; (with_reducible refine (impl_textOf.calls k _ _ l0 a1 t844 t845 _ ?side1 ?side2 A5.out).mono ?_); (case side1 => exact kC_ (Kd.C_below HR0.out HB.out)); (case side2 => exact HC0.out); rintro e w7 ⟨rfl, hb⟩; refine ⟨_, rfl, ?_⟩; replace HB := Aside0.mk (below_step hb_ hb); (try clear hb)))
  go_ret2
  exact ⟨er_, hb_⟩
 ·replace c4 := Bool.eq_false_iff.mpr c4
  subst c4
  have H1 : (some ((⟨#[]⟩ : ByteArray), false)) = some (r1, r2) := by rw [if_neg (show ¬ (false = true) by decide)] at H; exact H
  clear H
  have H := H1
  clear H1
  simp only [Option.some.injEq, Prod.mk.injEq] at H
  obtain ⟨rfl, rfl⟩ := H
  go_enter Try.func51, Try.ntmps51
  go_wp2_with (first | ((with_reducible refine gate_callee (f := 53) rfl ?_); refine gl_ (some 7) Try.func53 #[.slice A0 l0.length c0] ?_; (with_reducible refine (impl_StoreValid.calls k _ _ l0 false _ ?side1 ?side2 A3.out).mono ?_); (case side1 => exact kC_ HR0.out); (case side2 => exact HC0.out); rintro e w8 ⟨rfl, hb⟩; refine ⟨_, rfl, ?_⟩; replace HB := Aside0.mk (below_step hb_ hb); (try clear hb)))
  go_ret2
  exact ⟨er_, hb_⟩
/-! ### spec_HexText: function 79 -/
def spec_HexText.l0 : Nat → Int → ByteArray → ByteArray → Option (ByteArray)
 | 0, _, _, _ => none
 | k + 1, x0, x3, x4 => if x0 ≥ 16 then (if 0 ≤ (Int.tmod (wrap64 (Int.tdiv x0 16)) 16) then (if (Int.tmod (wrap64 (Int.tdiv x0 16)) 16) ≤ (wrap64 ((Int.tmod (wrap64 (Int.tdiv x0 16)) 16) + 1)) then (if (wrap64 ((Int.tmod (wrap64 (Int.tdiv x0 16)) 16) + 1)) ≤ (x3.size : Int) then (if (x3.extract ((Int.tmod (wrap64 (Int.tdiv x0 16)) 16) : Int).toNat ((wrap64 ((Int.tmod (wrap64 (Int.tdiv x0 16)) 16) + 1)) : Int).toNat).size + x4.size ≤ 9223372036854775807 then (spec_HexText.l0 k (wrap64 (Int.tdiv x0 16)) x3 ((x3.extract ((Int.tmod (wrap64 (Int.tdiv x0 16)) 16) : Int).toNat ((wrap64 ((Int.tmod (wrap64 (Int.tdiv x0 16)) 16) + 1)) : Int).toNat) ++ x4)) else (none)) else (none)) else (none)) else (none)) else (some x4)
def spec_HexText.f (k : Nat) (a0 : Int) : Option (ByteArray) := (spec_l1In.f a0 0 16777212).bind fun t900 => (if t900 = true then (if 0 ≤ (Int.tmod a0 16) then (if (Int.tmod a0 16) ≤ (wrap64 ((Int.tmod a0 16) + 1)) then (if (wrap64 ((Int.tmod a0 16) + 1)) ≤ 16 then (spec_HexText.l0 k a0 (⟨#[48, 49, 50, 51, 52, 53, 54, 55, 56, 57, 97, 98, 99, 100, 101, 102]⟩ : ByteArray) ((⟨#[48, 49, 50, 51, 52, 53, 54, 55, 56, 57, 97, 98, 99, 100, 101, 102]⟩ : ByteArray).extract ((Int.tmod a0 16) : Int).toNat ((wrap64 ((Int.tmod a0 16) + 1)) : Int).toNat)) else (none)) else (none)) else (none)) else (some (⟨#[]⟩ : ByteArray)))
set_option maxHeartbeats 8000000 in
set_option maxRecDepth 100000 in
theorem spec_HexText.calls (k : Nat) (a0 : Int) (r : ByteArray) (w : World) (h : spec_HexText.f k a0 = some r) :
  Calls Try.prog 79 #[.int .i64 a0] w fun e w' => e = .returned (.string r) ∧ Drawn0 w w' := by
 have H : ((spec_l1In.f a0 0 16777212).bind fun t900 => (if t900 = true then (if 0 ≤ (Int.tmod a0 16) then (if (Int.tmod a0 16) ≤ (wrap64 ((Int.tmod a0 16) + 1)) then (if (wrap64 ((Int.tmod a0 16) + 1)) ≤ 16 then (spec_HexText.l0 k a0 (⟨#[48, 49, 50, 51, 52, 53, 54, 55, 56, 57, 97, 98, 99, 100, 101, 102]⟩ : ByteArray) ((⟨#[48, 49, 50, 51, 52, 53, 54, 55, 56, 57, 97, 98, 99, 100, 101, 102]⟩ : ByteArray).extract ((Int.tmod a0 16) : Int).toNat ((wrap64 ((Int.tmod a0 16) + 1)) : Int).toNat)) else (none)) else (none)) else (none)) else (some (⟨#[]⟩ : ByteArray)))) = some r := h
 clear h
 replace H := Option.bind_eq_some_iff.mp H
 obtain ⟨t900, A20, H⟩ := H
 replace H : (if t900 = true then (if 0 ≤ (Int.tmod a0 16) then (if (Int.tmod a0 16) ≤ (wrap64 ((Int.tmod a0 16) + 1)) then (if (wrap64 ((Int.tmod a0 16) + 1)) ≤ 16 then (spec_HexText.l0 k a0 (⟨#[48, 49, 50, 51, 52, 53, 54, 55, 56, 57, 97, 98, 99, 100, 101, 102]⟩ : ByteArray) ((⟨#[48, 49, 50, 51, 52, 53, 54, 55, 56, 57, 97, 98, 99, 100, 101, 102]⟩ : ByteArray).extract ((Int.tmod a0 16) : Int).toNat ((wrap64 ((Int.tmod a0 16) + 1)) : Int).toNat)) else (none)) else (none)) else (none)) else (some (⟨#[]⟩ : ByteArray))) = some r := H
 have A2 := Aside0.mk A20
 clear A20
 by_cases c3 : t900 = true
 ·subst c3
  have H1 : (if 0 ≤ (Int.tmod a0 16) then (if (Int.tmod a0 16) ≤ (wrap64 ((Int.tmod a0 16) + 1)) then (if (wrap64 ((Int.tmod a0 16) + 1)) ≤ 16 then (spec_HexText.l0 k a0 (⟨#[48, 49, 50, 51, 52, 53, 54, 55, 56, 57, 97, 98, 99, 100, 101, 102]⟩ : ByteArray) ((⟨#[48, 49, 50, 51, 52, 53, 54, 55, 56, 57, 97, 98, 99, 100, 101, 102]⟩ : ByteArray).extract ((Int.tmod a0 16) : Int).toNat ((wrap64 ((Int.tmod a0 16) + 1)) : Int).toNat)) else (none)) else (none)) else (none)) = some r := by rw [if_pos rfl] at H; exact H
  clear H
  have H := H1
  clear H1
  obtain ⟨ji4, hji4⟩ : ∃ j_ : Int, (Int.tmod a0 16) = j_ := ⟨_, rfl⟩
  replace H : (if 0 ≤ (ji4) then (if (ji4) ≤ (wrap64 ((ji4) + 1)) then (if (wrap64 ((ji4) + 1)) ≤ 16 then (spec_HexText.l0 k a0 (⟨#[48, 49, 50, 51, 52, 53, 54, 55, 56, 57, 97, 98, 99, 100, 101, 102]⟩ : ByteArray) ((⟨#[48, 49, 50, 51, 52, 53, 54, 55, 56, 57, 97, 98, 99, 100, 101, 102]⟩ : ByteArray).extract ((ji4) : Int).toNat ((wrap64 ((ji4) + 1)) : Int).toNat)) else (none)) else (none)) else (none)) = some r := by first | (rw [hji4] at H; exact H) | (simp only [hji4] at H ⊢; exact H)
  (try rw [hji4] at A2)
  by_cases c5 : 0 ≤ (ji4); rotate_left
  ·rw [if_neg c5] at H; exact absurd H (by simp)
  rw [if_pos c5] at H
  have c5b0 := eq_true c5
  have c5b1 : decide (0 ≤ (ji4)) = true := decide_eq_true c5
  clear c5
  by_cases c6 : (ji4) ≤ (wrap64 ((ji4) + 1)); rotate_left
  ·rw [if_neg c6] at H; exact absurd H (by simp)
  rw [if_pos c6] at H
  have c6b0 := eq_true c6
  have c6b1 : decide ((ji4) ≤ (wrap64 ((ji4) + 1))) = true := decide_eq_true c6
  by_cases c7 : (wrap64 ((ji4) + 1)) ≤ 16; rotate_left
  ·rw [if_neg c7] at H; exact absurd H (by simp)
  rw [if_pos c7] at H
  have c7b0 := eq_true c7
  have c7b1 : decide ((wrap64 ((ji4) + 1)) ≤ 16) = true := decide_eq_true c7
  have H' := Aside0.mk H
  clear H
  go_enter Try.func79, Try.ntmps79
  go_wp2_with (first | ((with_reducible refine gate_callee (f := 72) rfl ?_); refine gl_ (some 6) Try.func72 #[.int .i64 a0, .int .i64 0, .int .i64 16777212] ?_; (with_reducible refine (spec_l1In.calls a0 0 16777212 true _ A2.out).mono ?_); rintro e w' ⟨rfl, ⟨nd, rfl⟩⟩; refine ⟨_, rfl, ?_⟩))
  go_loopg [0, 4] k (fun kq v0 v4 w' => ∃ (x0_1 : Int) (x4_1 : ByteArray), v0 = .int .i64 x0_1 ∧ v4 = .string x4_1 ∧ Aside0 (spec_HexText.l0 kq x0_1 (⟨#[48, 49, 50, 51, 52, 53, 54, 55, 56, 57, 97, 98, 99, 100, 101, 102]⟩ : ByteArray) x4_1 = some r) ∧ Aside0 (kq ≤ k) ∧ Drawn0 w w')
  case atStart => exact ⟨(a0), ((⟨#[48, 49, 50, 51, 52, 53, 54, 55, 56, 57, 97, 98, 99, 100, 101, 102]⟩ : ByteArray).extract ((ji4) : Int).toNat ((wrap64 ((ji4) + 1)) : Int).toNat), rs_, (by first | rfl | (simp; done) | (simp only [← hji4] <;> (first | rfl | simp)) | (simp [*]; done)), H', ⟨Nat.le_refl _⟩, dw_⟩
  case round =>
   clear H'
   try clear p2
   try clear c3
   try clear c5
   try clear c5b0
   try clear c5b1
   try clear c6
   try clear c6b0
   try clear c6b1
   try clear p6
   try clear c7
   try clear c7b0
   try clear c7b1
   obtain ⟨x0_1, x4_1, rfl, rfl, HA, HK1, ⟨m1, rfl⟩⟩ := hrel
   cases gk with
   | zero => exact absurd HA.out (by simp [spec_HexText.l0])
   | succ k1 =>
    have H := HA.out
    clear HA
    simp only [spec_HexText.l0] at H
    by_cases c8 : x0_1 ≥ 16
    ·rw [if_pos c8] at H
     have c8b0 : decide (16 ≤ x0_1) = true := decide_eq_true c8
     clear c8
     obtain ⟨ji9, hji9⟩ : ∃ j_ : Int, (Int.tmod (wrap64 (Int.tdiv x0_1 16)) 16) = j_ := ⟨_, rfl⟩
     replace H : (if 0 ≤ (ji9) then (if (ji9) ≤ (wrap64 ((ji9) + 1)) then (if (wrap64 ((ji9) + 1)) ≤ ((⟨#[48, 49, 50, 51, 52, 53, 54, 55, 56, 57, 97, 98, 99, 100, 101, 102]⟩ : ByteArray).size : Int) then (if ((⟨#[48, 49, 50, 51, 52, 53, 54, 55, 56, 57, 97, 98, 99, 100, 101, 102]⟩ : ByteArray).extract ((ji9) : Int).toNat ((wrap64 ((ji9) + 1)) : Int).toNat).size + x4_1.size ≤ 9223372036854775807 then (spec_HexText.l0 k1 (wrap64 (Int.tdiv x0_1 16)) (⟨#[48, 49, 50, 51, 52, 53, 54, 55, 56, 57, 97, 98, 99, 100, 101, 102]⟩ : ByteArray) (((⟨#[48, 49, 50, 51, 52, 53, 54, 55, 56, 57, 97, 98, 99, 100, 101, 102]⟩ : ByteArray).extract ((ji9) : Int).toNat ((wrap64 ((ji9) + 1)) : Int).toNat) ++ x4_1)) else (none)) else (none)) else (none)) else (none)) = some r := by first | (rw [hji9] at H; exact H) | (simp only [hji9] at H ⊢; exact H)
     by_cases c10 : 0 ≤ (ji9); rotate_left
     ·rw [if_neg c10] at H; exact absurd H (by simp)
     rw [if_pos c10] at H
     have c10b0 := eq_true c10
     have c10b1 : decide (0 ≤ (ji9)) = true := decide_eq_true c10
     clear c10
     by_cases c11 : (ji9) ≤ (wrap64 ((ji9) + 1)); rotate_left
     ·rw [if_neg c11] at H; exact absurd H (by simp)
     rw [if_pos c11] at H
     have c11b0 := eq_true c11
     have c11b1 : decide ((ji9) ≤ (wrap64 ((ji9) + 1))) = true := decide_eq_true c11
     by_cases c12 : (wrap64 ((ji9) + 1)) ≤ ((⟨#[48, 49, 50, 51, 52, 53, 54, 55, 56, 57, 97, 98, 99, 100, 101, 102]⟩ : ByteArray).size : Int); rotate_left
     ·rw [if_neg c12] at H; exact absurd H (by simp)
     rw [if_pos c12] at H
     have c12b0 := eq_true c12
     have c12b1 : decide ((wrap64 ((ji9) + 1)) ≤ ((⟨#[48, 49, 50, 51, 52, 53, 54, 55, 56, 57, 97, 98, 99, 100, 101, 102]⟩ : ByteArray).size : Int)) = true := decide_eq_true c12
     try have c12b5 : ((wrap64 ((ji9) + 1)) ≤ (16 : Int)) = True := eq_true (by first | exact c12 | exact (by have h_ := c12; have hl0_ : (⟨#[48, 49, 50, 51, 52, 53, 54, 55, 56, 57, 97, 98, 99, 100, 101, 102]⟩ : ByteArray).size = 16 := rfl; simp only [ByteArray.size_append, ByteArray.size_extract] at h_ ⊢; omega))
     try have c12b6 : decide ((wrap64 ((ji9) + 1)) ≤ (16 : Int)) = true := decide_eq_true (of_eq_true c12b5)
     by_cases c13 : ((⟨#[48, 49, 50, 51, 52, 53, 54, 55, 56, 57, 97, 98, 99, 100, 101, 102]⟩ : ByteArray).extract ((ji9) : Int).toNat ((wrap64 ((ji9) + 1)) : Int).toNat).size + x4_1.size ≤ 9223372036854775807; rotate_left
     ·rw [if_neg c13] at H; exact absurd H (by simp)
     rw [if_pos c13] at H
     have c13b0 := eq_true c13
     have c13b1 : decide (((⟨#[48, 49, 50, 51, 52, 53, 54, 55, 56, 57, 97, 98, 99, 100, 101, 102]⟩ : ByteArray).extract ((ji9) : Int).toNat ((wrap64 ((ji9) + 1)) : Int).toNat).size + x4_1.size ≤ 9223372036854775807) = true := decide_eq_true c13
     try have c13b2 : (9223372036854775807 < ((⟨#[48, 49, 50, 51, 52, 53, 54, 55, 56, 57, 97, 98, 99, 100, 101, 102]⟩ : ByteArray).extract ((ji9) : Int).toNat ((wrap64 ((ji9) + 1)) : Int).toNat).size + x4_1.size) = False := eq_false (Nat.not_lt.2 c13)
     try have c13b5 : ((((wrap64 ((ji9) + 1)) : Int).toNat - ((ji9) : Int).toNat) + x4_1.size ≤ 9223372036854775807) = True := eq_true (by first | exact c13 | exact (by have h_ := c13; have hl0_ : (⟨#[48, 49, 50, 51, 52, 53, 54, 55, 56, 57, 97, 98, 99, 100, 101, 102]⟩ : ByteArray).size = 16 := rfl; simp only [ByteArray.size_append, ByteArray.size_extract] at h_ ⊢; omega))
     try have c13b6 : decide ((((wrap64 ((ji9) + 1)) : Int).toNat - ((ji9) : Int).toNat) + x4_1.size ≤ 9223372036854775807) = true := decide_eq_true (of_eq_true c13b5)
     try have c13b7 : (9223372036854775807 < (((wrap64 ((ji9) + 1)) : Int).toNat - ((ji9) : Int).toNat) + x4_1.size) = False := eq_false (Nat.not_lt.2 (of_eq_true c13b5))
     have H' := Aside0.mk H
     clear H
     go_wp2
     go_roundg k1
     case measure => have := HK1.out; omega
     case rel => exact ⟨(wrap64 (Int.tdiv x0_1 16)), (((⟨#[48, 49, 50, 51, 52, 53, 54, 55, 56, 57, 97, 98, 99, 100, 101, 102]⟩ : ByteArray).extract ((ji9) : Int).toNat ((wrap64 ((ji9) + 1)) : Int).toNat) ++ x4_1), rs_, (by first | rfl | (simp; done) | (simp only [← hji9] <;> (first | rfl | simp)) | (simp [*]; done)), H', ⟨by have := HK1.out; omega⟩, dw_⟩
    ·rw [if_neg c8] at H
     have c8b0 : decide (16 ≤ x0_1) = false := decide_eq_false c8
     clear c8
     obtain rfl := Option.some.inj H
     go_wp2
     go_ret
     exact ⟨by first | rfl | (simp; done) | (simp only [← hji4] <;> (first | rfl | simp)) | (simp [*]; done), dw_⟩
 ·replace c3 := Bool.eq_false_iff.mpr c3
  subst c3
  have H1 : (some (⟨#[]⟩ : ByteArray)) = some r := by rw [if_neg (show ¬ (false = true) by decide)] at H; exact H
  clear H
  have H := H1
  clear H1
  obtain rfl := Option.some.inj H
  go_enter Try.func79, Try.ntmps79
  go_wp2_with (first | ((with_reducible refine gate_callee (f := 72) rfl ?_); refine gl_ (some 6) Try.func72 #[.int .i64 a0, .int .i64 0, .int .i64 16777212] ?_; (with_reducible refine (spec_l1In.calls a0 0 16777212 false _ A2.out).mono ?_); rintro e w' ⟨rfl, ⟨nd, rfl⟩⟩; refine ⟨_, rfl, ?_⟩))
  go_ret
  exact ⟨rs_, dw_⟩
/-! ### spec_WordValid: function 112 -/
def spec_WordValid.l0 : Nat → ByteArray → Int → Option (Bool)
 | 0, _, _ => none
 | k + 1, x0, x3 => if x3 < (x0.size : Int) then (if 0 ≤ x3 then (if (bt x0 x3) ≥ 97 then (if ((bt x0 x3) ≤ 122) then (spec_WordValid.l0 k x0 (wrap64 (x3 + 1))) else (if x3 = 0 then (some false) else (if (bt x0 x3) < 48 then (some false) else (if (bt x0 x3) > 57 then (some false) else (spec_WordValid.l0 k x0 (wrap64 (x3 + 1))))))) else (if x3 = 0 then (some false) else (if (bt x0 x3) < 48 then (some false) else (if (bt x0 x3) > 57 then (some false) else (spec_WordValid.l0 k x0 (wrap64 (x3 + 1))))))) else (none)) else ((spec_l1In.f (x0.size : Int) 1 8).bind fun t901 => (some t901))
def spec_WordValid.f (k : Nat) (a0 : ByteArray) : Option (Bool) := spec_WordValid.l0 k a0 0
set_option maxHeartbeats 8000000 in
set_option maxRecDepth 100000 in
theorem spec_WordValid.calls (k : Nat) (a0 : ByteArray) (r : Bool) (w : World) (h : spec_WordValid.f k a0 = some r) :
  Calls Try.prog 112 #[.string a0] w fun e w' => e = .returned (.bool r) ∧ Drawn0 w w' := by
 have H : (spec_WordValid.l0 k a0 0) = some r := h
 clear h
 have H' := Aside0.mk H
 clear H
 go_enter Try.func112, Try.ntmps112
 go_wp2
 go_loopg [3] k (fun kq v3 w' => ∃ (x3_1 : Int), v3 = .int .i64 x3_1 ∧ Aside0 (spec_WordValid.l0 kq a0 x3_1 = some r) ∧ Aside0 (kq ≤ k) ∧ Drawn0 w w')
 case atStart => exact ⟨(0), rs_, H', ⟨Nat.le_refl _⟩, dw_⟩
 case round =>
  clear H'
  try clear c1
  obtain ⟨x3_1, rfl, HA, HK1, ⟨m1, rfl⟩⟩ := hrel
  cases gk with
  | zero => exact absurd HA.out (by simp [spec_WordValid.l0])
  | succ k1 =>
   have H := HA.out
   clear HA
   simp only [spec_WordValid.l0] at H
   by_cases c2 : x3_1 < (a0.size : Int)
   ·rw [if_pos c2] at H
    have c2b0 : decide (x3_1 < (a0.size : Int)) = true := decide_eq_true c2
    clear c2
    by_cases c3 : 0 ≤ x3_1; rotate_left
    ·rw [if_neg c3] at H; exact absurd H (by simp)
    rw [if_pos c3] at H
    have c3b0 : decide (0 ≤ x3_1) = true := decide_eq_true c3
    clear c3
    by_cases c5 : (bt a0 x3_1) ≥ 97
    ·rw [if_pos c5] at H
     have c5b0 : decide (97 ≤ (bt a0 x3_1)) = true := decide_eq_true c5
     clear c5
     by_cases c7 : ((bt a0 x3_1) ≤ 122)
     ·rw [if_pos c7] at H
      have c7b0 : decide ((bt a0 x3_1) ≤ 122) = true := decide_eq_true c7
      clear c7
      have H' := Aside0.mk H
      clear H
      have p4 : 0 ≤ (x3_1 : Int) := dt_
      have q4 : x3_1 < (a0.size : Int) := dt_
      have hx4 := bt_at a0 x3_1
      replace p4 := eq_true p4
      replace q4 := eq_true q4
      have p6 : 0 ≤ (x3_1 : Int) := dt_
      have q6 : x3_1 < (a0.size : Int) := dt_
      have hx6 := bt_at a0 x3_1
      replace p6 := eq_true p6
      replace q6 := eq_true q6
      go_wp2
      go_roundg k1
      case measure => have := HK1.out; omega
      case rel => exact ⟨(wrap64 (x3_1 + 1)), rs_, H', ⟨by have := HK1.out; omega⟩, dw_⟩
     ·rw [if_neg c7] at H
      have c7b0 : decide ((bt a0 x3_1) ≤ 122) = false := decide_eq_false c7
      clear c7
      by_cases c8 : x3_1 = 0
      ·rw [if_pos c8] at H
       have c8b0 : (x3_1 == 0) = true := beq_iff_eq.mpr c8
       have c8b1 : (x3_1 != 0) = false := bne_eq_false_iff_eq.mpr c8
       clear c8
       obtain rfl := Option.some.inj H
       have p4 : 0 ≤ (x3_1 : Int) := dt_
       have q4 : x3_1 < (a0.size : Int) := dt_
       have hx4 := bt_at a0 x3_1
       replace p4 := eq_true p4
       replace q4 := eq_true q4
       have p6 : 0 ≤ (x3_1 : Int) := dt_
       have q6 : x3_1 < (a0.size : Int) := dt_
       have hx6 := bt_at a0 x3_1
       replace p6 := eq_true p6
       replace q6 := eq_true q6
       go_wp2
       go_ret
       exact ⟨rs_, dw_⟩
      ·rw [if_neg c8] at H
       have c8b0 : (x3_1 == 0) = false := beq_eq_false_iff_ne.mpr c8
       have c8b1 : (x3_1 != 0) = true := bne_iff_ne.mpr c8
       by_cases c10 : (bt a0 x3_1) < 48
       ·rw [if_pos c10] at H
        have c10b0 : decide ((bt a0 x3_1) < 48) = true := decide_eq_true c10
        clear c10
        obtain rfl := Option.some.inj H
        have p4 : 0 ≤ (x3_1 : Int) := dt_
        have q4 : x3_1 < (a0.size : Int) := dt_
        have hx4 := bt_at a0 x3_1
        replace p4 := eq_true p4
        replace q4 := eq_true q4
        have p6 : 0 ≤ (x3_1 : Int) := dt_
        have q6 : x3_1 < (a0.size : Int) := dt_
        have hx6 := bt_at a0 x3_1
        replace p6 := eq_true p6
        replace q6 := eq_true q6
        have p9 : 0 ≤ (x3_1 : Int) := dt_
        have q9 : x3_1 < (a0.size : Int) := dt_
        have hx9 := bt_at a0 x3_1
        replace p9 := eq_true p9
        replace q9 := eq_true q9
        go_wp2
        go_ret
        exact ⟨rs_, dw_⟩
       ·rw [if_neg c10] at H
        have c10b0 : decide ((bt a0 x3_1) < 48) = false := decide_eq_false c10
        clear c10
        by_cases c12 : (bt a0 x3_1) > 57
        ·rw [if_pos c12] at H
         have c12b0 : decide (57 < (bt a0 x3_1)) = true := decide_eq_true c12
         clear c12
         obtain rfl := Option.some.inj H
         have p4 : 0 ≤ (x3_1 : Int) := dt_
         have q4 : x3_1 < (a0.size : Int) := dt_
         have hx4 := bt_at a0 x3_1
         replace p4 := eq_true p4
         replace q4 := eq_true q4
         have p6 : 0 ≤ (x3_1 : Int) := dt_
         have q6 : x3_1 < (a0.size : Int) := dt_
         have hx6 := bt_at a0 x3_1
         replace p6 := eq_true p6
         replace q6 := eq_true q6
         have p9 : 0 ≤ (x3_1 : Int) := dt_
         have q9 : x3_1 < (a0.size : Int) := dt_
         have hx9 := bt_at a0 x3_1
         replace p9 := eq_true p9
         replace q9 := eq_true q9
         have p11 : 0 ≤ (x3_1 : Int) := dt_
         have q11 : x3_1 < (a0.size : Int) := dt_
         have hx11 := bt_at a0 x3_1
         replace p11 := eq_true p11
         replace q11 := eq_true q11
         go_wp2
         go_ret
         exact ⟨rs_, dw_⟩
        ·rw [if_neg c12] at H
         have c12b0 : decide (57 < (bt a0 x3_1)) = false := decide_eq_false c12
         clear c12
         have H' := Aside0.mk H
         clear H
         have p4 : 0 ≤ (x3_1 : Int) := dt_
         have q4 : x3_1 < (a0.size : Int) := dt_
         have hx4 := bt_at a0 x3_1
         replace p4 := eq_true p4
         replace q4 := eq_true q4
         have p6 : 0 ≤ (x3_1 : Int) := dt_
         have q6 : x3_1 < (a0.size : Int) := dt_
         have hx6 := bt_at a0 x3_1
         replace p6 := eq_true p6
         replace q6 := eq_true q6
         have p9 : 0 ≤ (x3_1 : Int) := dt_
         have q9 : x3_1 < (a0.size : Int) := dt_
         have hx9 := bt_at a0 x3_1
         replace p9 := eq_true p9
         replace q9 := eq_true q9
         have p11 : 0 ≤ (x3_1 : Int) := dt_
         have q11 : x3_1 < (a0.size : Int) := dt_
         have hx11 := bt_at a0 x3_1
         replace p11 := eq_true p11
         replace q11 := eq_true q11
         go_wp2
         go_roundg k1
         case measure => have := HK1.out; omega
         case rel => exact ⟨(wrap64 (x3_1 + 1)), rs_, H', ⟨by have := HK1.out; omega⟩, dw_⟩
    ·rw [if_neg c5] at H
     have c5b0 : decide (97 ≤ (bt a0 x3_1)) = false := decide_eq_false c5
     clear c5
     by_cases c13 : x3_1 = 0
     ·rw [if_pos c13] at H
      have c13b0 : (x3_1 == 0) = true := beq_iff_eq.mpr c13
      have c13b1 : (x3_1 != 0) = false := bne_eq_false_iff_eq.mpr c13
      clear c13
      obtain rfl := Option.some.inj H
      have p4 : 0 ≤ (x3_1 : Int) := dt_
      have q4 : x3_1 < (a0.size : Int) := dt_
      have hx4 := bt_at a0 x3_1
      replace p4 := eq_true p4
      replace q4 := eq_true q4
      go_wp2
      go_ret
      exact ⟨rs_, dw_⟩
     ·rw [if_neg c13] at H
      have c13b0 : (x3_1 == 0) = false := beq_eq_false_iff_ne.mpr c13
      have c13b1 : (x3_1 != 0) = true := bne_iff_ne.mpr c13
      by_cases c15 : (bt a0 x3_1) < 48
      ·rw [if_pos c15] at H
       have c15b0 : decide ((bt a0 x3_1) < 48) = true := decide_eq_true c15
       clear c15
       obtain rfl := Option.some.inj H
       have p4 : 0 ≤ (x3_1 : Int) := dt_
       have q4 : x3_1 < (a0.size : Int) := dt_
       have hx4 := bt_at a0 x3_1
       replace p4 := eq_true p4
       replace q4 := eq_true q4
       have p14 : 0 ≤ (x3_1 : Int) := dt_
       have q14 : x3_1 < (a0.size : Int) := dt_
       have hx14 := bt_at a0 x3_1
       replace p14 := eq_true p14
       replace q14 := eq_true q14
       go_wp2
       go_ret
       exact ⟨rs_, dw_⟩
      ·rw [if_neg c15] at H
       have c15b0 : decide ((bt a0 x3_1) < 48) = false := decide_eq_false c15
       clear c15
       by_cases c17 : (bt a0 x3_1) > 57
       ·rw [if_pos c17] at H
        have c17b0 : decide (57 < (bt a0 x3_1)) = true := decide_eq_true c17
        clear c17
        obtain rfl := Option.some.inj H
        have p4 : 0 ≤ (x3_1 : Int) := dt_
        have q4 : x3_1 < (a0.size : Int) := dt_
        have hx4 := bt_at a0 x3_1
        replace p4 := eq_true p4
        replace q4 := eq_true q4
        have p14 : 0 ≤ (x3_1 : Int) := dt_
        have q14 : x3_1 < (a0.size : Int) := dt_
        have hx14 := bt_at a0 x3_1
        replace p14 := eq_true p14
        replace q14 := eq_true q14
        have p16 : 0 ≤ (x3_1 : Int) := dt_
        have q16 : x3_1 < (a0.size : Int) := dt_
        have hx16 := bt_at a0 x3_1
        replace p16 := eq_true p16
        replace q16 := eq_true q16
        go_wp2
        go_ret
        exact ⟨rs_, dw_⟩
       ·rw [if_neg c17] at H
        have c17b0 : decide (57 < (bt a0 x3_1)) = false := decide_eq_false c17
        clear c17
        have H' := Aside0.mk H
        clear H
        have p4 : 0 ≤ (x3_1 : Int) := dt_
        have q4 : x3_1 < (a0.size : Int) := dt_
        have hx4 := bt_at a0 x3_1
        replace p4 := eq_true p4
        replace q4 := eq_true q4
        have p14 : 0 ≤ (x3_1 : Int) := dt_
        have q14 : x3_1 < (a0.size : Int) := dt_
        have hx14 := bt_at a0 x3_1
        replace p14 := eq_true p14
        replace q14 := eq_true q14
        have p16 : 0 ≤ (x3_1 : Int) := dt_
        have q16 : x3_1 < (a0.size : Int) := dt_
        have hx16 := bt_at a0 x3_1
        replace p16 := eq_true p16
        replace q16 := eq_true q16
        go_wp2
        go_roundg k1
        case measure => have := HK1.out; omega
        case rel => exact ⟨(wrap64 (x3_1 + 1)), rs_, H', ⟨by have := HK1.out; omega⟩, dw_⟩
   ·rw [if_neg c2] at H
    have c2b0 : decide (x3_1 < (a0.size : Int)) = false := decide_eq_false c2
    clear c2
    replace H := Option.bind_eq_some_iff.mp H
    obtain ⟨t901, A180, H⟩ := H
    replace H : (some t901) = some r := H
    have A18 := Aside0.mk A180
    clear A180
    obtain rfl := Option.some.inj H
    go_wp2_with (first | ((with_reducible refine gate_callee (f := 72) rfl ?_); refine gl_ (some 41) Try.func72 #[.int .i64 (a0.size : Int), .int .i64 1, .int .i64 8] ?_; (with_reducible refine (spec_l1In.calls (a0.size : Int) 1 8 t901 _ A18.out).mono ?_); rintro e w' ⟨rfl, ⟨nd, rfl⟩⟩; refine ⟨_, rfl, ?_⟩))
    go_ret
    exact ⟨rs_, dw_⟩
/-! ### spec_EntriesValid: function 103 -/
def spec_EntriesValid.l0 : Nat → List (S109) → Int → Option (Bool)
 | 0, _, _ => none
 | k + 1, x0, x3 => if x3 < (x0.length : Int) then (if 0 ≤ x3 then ((spec_WordValid.f k ((rd_T109 x0 x3).f0)).bind fun t903 => (if t903 = true then ((spec_l1In.f ((rd_T109 x0 x3).f1) 0 16777212).bind fun t905 => (if t905 = true then (if x3 > 0 then (if 0 ≤ (wrap64 (x3 - 1)) then (if (wrap64 (x3 - 1)) < (x0.length : Int) then (if ((Op.bytesLess (((rd_T109 x0 (wrap64 (x3 - 1))).f0).toList) (((rd_T109 x0 x3).f0).toList)) = true) then (spec_EntriesValid.l0 k x0 (wrap64 (x3 + 1))) else (some false)) else (none)) else (none)) else (spec_EntriesValid.l0 k x0 (wrap64 (x3 + 1)))) else (some false))) else (some false))) else (none)) else (some (decide ((x0.length : Int) ≤ 3)))
def spec_EntriesValid.f (k : Nat) (l0 : List (S109)) : Option (Bool) := spec_EntriesValid.l0 k l0 0
def spec_EntriesValid.T4 : Bool × List (List Nat × List Nat) := (true, [([], []), ([], []), ([0, 1], [0, 1]), ([2], [2]), ([3], [3]), ([4], [4]), ([5], [5]), ([6, 5], [6]), ([7], [7]), ([7], [7]), ([8, 9, 7], [7, 8, 9]), ([10, 7], [7, 10]), ([11, 7], [7, 11]), ([12, 7, 7], [7, 12]), ([13, 7], [7, 13]), ([7, 14], [7, 14]), ([15, 13], [15]), ([16], [16]), ([17, 16], [16, 17]), ([18, 16, 16], [16, 18]), ([19], [19]), ([19], [19]), ([20, 21, 19], [19, 20, 21]), ([22, 19], [19, 22]), ([23, 19], [19, 23]), ([19], [19]), ([19], [19]), ([26, 19], [19, 26]), ([25, 27, 19], [19, 25, 27]), ([28, 19], [19, 28]), ([29, 19], [19, 29]), ([24, 30, 19], [19, 24, 30]), ([19, 31, 16], [16, 19, 31]), ([16, 32], [16, 32])])
def spec_EntriesValid.B4 : List Nat := [0, 0, 3, 7, 15, 31, 63, 127, 255, 255, 1023, 2047, 4095, 8191, 16383, 32767, 65535, 131071, 262143, 524287, 1048575, 1048575, 4194303, 8388607, 16777215, 1048575, 1048575, 68157439, 235929599, 504365055, 1041235967, 2147483647, 4294967295, 8589934591]
theorem spec_EntriesValid.tab4 : rtab .any (opsOf Try.f103 4) = spec_EntriesValid.T4 := by kernel_rfl
theorem spec_EntriesValid.bits4 : waitsOk spec_EntriesValid.T4.2 spec_EntriesValid.B4 = true := by kernel_rfl
set_option maxHeartbeats 8000000 in
set_option maxRecDepth 100000 in
theorem spec_EntriesValid.calls (k : Nat) (A0 : Option Addr) (c0 : Nat) (l0 : List (S109)) (r : Bool) (w : World) (hr0 : Kd.C k109 w A0 l0.length l0) (hc0 : l0.length ≤ c0) (h : spec_EntriesValid.f k l0 = some r) :
  Calls Try.prog 103 #[.slice A0 l0.length c0] w fun e w' => e = .returned (.bool r) ∧ Below w.heap.size w w' := by
 have HR0 := Aside0.mk hr0
 have HC0 := Aside0.mk hc0
 clear hr0 hc0
 have HB := Aside0.mk (Below.refl w.heap.size w)
 have H : (spec_EntriesValid.l0 k l0 0) = some r := h
 clear h
 have H' := Aside0.mk H
 clear H
 go_enter Try.func103, Try.ntmps103
 go_wp2
 go_loopg [3] k (fun kq v3 w' => ∃ (x3_1 : Int), v3 = .int .i64 x3_1 ∧ Aside0 (spec_EntriesValid.l0 kq l0 x3_1 = some r) ∧ Aside0 (kq ≤ k) ∧ Aside0 (Below w.heap.size w w'))
 case atStart => exact ⟨(0), rs_, H', ⟨Nat.le_refl _⟩, ⟨hb_⟩⟩
 case round =>
  clear H'
  try clear c1
  obtain ⟨x3_1, rfl, HA, HK1, HB⟩ := hrel
  cases gk with
  | zero => exact absurd HA.out (by simp [spec_EntriesValid.l0])
  | succ k1 =>
   have H := HA.out
   clear HA
   simp only [spec_EntriesValid.l0] at H
   by_cases c2 : x3_1 < (l0.length : Int)
   ·rw [if_pos c2] at H
    have c2b0 : decide (x3_1 < (l0.length : Int)) = true := decide_eq_true c2
    clear c2
    by_cases c3 : 0 ≤ x3_1; rotate_left
    ·rw [if_neg c3] at H; exact absurd H (by simp)
    rw [if_pos c3] at H
    have c3b0 : decide (0 ≤ x3_1) = true := decide_eq_true c3
    clear c3
    replace H := Option.bind_eq_some_iff.mp H
    obtain ⟨t903, A40, H⟩ := H
    replace H : (if t903 = true then ((spec_l1In.f ((rd_T109 l0 x3_1).f1) 0 16777212).bind fun t905 => (if t905 = true then (if x3_1 > 0 then (if 0 ≤ (wrap64 (x3_1 - 1)) then (if (wrap64 (x3_1 - 1)) < (l0.length : Int) then (if ((Op.bytesLess (((rd_T109 l0 (wrap64 (x3_1 - 1))).f0).toList) (((rd_T109 l0 x3_1).f0).toList)) = true) then (spec_EntriesValid.l0 k1 l0 (wrap64 (x3_1 + 1))) else (some false)) else (none)) else (none)) else (spec_EntriesValid.l0 k1 l0 (wrap64 (x3_1 + 1)))) else (some false))) else (some false)) = some r := H
    have A4 := Aside0.mk A40
    clear A40
    by_cases c5 : t903 = true
    ·subst c5
     have H1 : ((spec_l1In.f ((rd_T109 l0 x3_1).f1) 0 16777212).bind fun t905 => (if t905 = true then (if x3_1 > 0 then (if 0 ≤ (wrap64 (x3_1 - 1)) then (if (wrap64 (x3_1 - 1)) < (l0.length : Int) then (if ((Op.bytesLess (((rd_T109 l0 (wrap64 (x3_1 - 1))).f0).toList) (((rd_T109 l0 x3_1).f0).toList)) = true) then (spec_EntriesValid.l0 k1 l0 (wrap64 (x3_1 + 1))) else (some false)) else (none)) else (none)) else (spec_EntriesValid.l0 k1 l0 (wrap64 (x3_1 + 1)))) else (some false))) = some r := by rw [if_pos rfl] at H; exact H
     clear H
     have H := H1
     clear H1
     replace H := Option.bind_eq_some_iff.mp H
     obtain ⟨t905, A60, H⟩ := H
     replace H : (if t905 = true then (if x3_1 > 0 then (if 0 ≤ (wrap64 (x3_1 - 1)) then (if (wrap64 (x3_1 - 1)) < (l0.length : Int) then (if ((Op.bytesLess (((rd_T109 l0 (wrap64 (x3_1 - 1))).f0).toList) (((rd_T109 l0 x3_1).f0).toList)) = true) then (spec_EntriesValid.l0 k1 l0 (wrap64 (x3_1 + 1))) else (some false)) else (none)) else (none)) else (spec_EntriesValid.l0 k1 l0 (wrap64 (x3_1 + 1)))) else (some false)) = some r := H
     have A6 := Aside0.mk A60
     clear A60
     by_cases c7 : t905 = true
     ·subst c7
      have H1 : (if x3_1 > 0 then (if 0 ≤ (wrap64 (x3_1 - 1)) then (if (wrap64 (x3_1 - 1)) < (l0.length : Int) then (if ((Op.bytesLess (((rd_T109 l0 (wrap64 (x3_1 - 1))).f0).toList) (((rd_T109 l0 x3_1).f0).toList)) = true) then (spec_EntriesValid.l0 k1 l0 (wrap64 (x3_1 + 1))) else (some false)) else (none)) else (none)) else (spec_EntriesValid.l0 k1 l0 (wrap64 (x3_1 + 1)))) = some r := by rw [if_pos rfl] at H; exact H
      clear H
      have H := H1
      clear H1
      by_cases c8 : x3_1 > 0
      ·rw [if_pos c8] at H
       have c8b0 : decide (0 < x3_1) = true := decide_eq_true c8
       clear c8
       obtain ⟨ji9, hji9⟩ : ∃ j_ : Int, (wrap64 (x3_1 - 1)) = j_ := ⟨_, rfl⟩
       replace H : (if 0 ≤ (ji9) then (if (ji9) < (l0.length : Int) then (if ((Op.bytesLess (((rd_T109 l0 (ji9)).f0).toList) (((rd_T109 l0 x3_1).f0).toList)) = true) then (spec_EntriesValid.l0 k1 l0 (wrap64 (x3_1 + 1))) else (some false)) else (none)) else (none)) = some r := by first | (rw [hji9] at H; exact H) | (simp only [hji9] at H ⊢; exact H)
       (try rw [hji9] at A4)
       (try rw [hji9] at A6)
       have hji9w : (IntKind.i64.wrap (x3_1 - 1)) = ji9 := (i64_w _).trans hji9
       by_cases c10 : 0 ≤ (ji9); rotate_left
       ·rw [if_neg c10] at H; exact absurd H (by simp)
       rw [if_pos c10] at H
       have c10b0 : decide (0 ≤ (ji9)) = true := decide_eq_true c10
       clear c10
       by_cases c11 : (ji9) < (l0.length : Int); rotate_left
       ·rw [if_neg c11] at H; exact absurd H (by simp)
       rw [if_pos c11] at H
       have c11b0 : decide ((ji9) < (l0.length : Int)) = true := decide_eq_true c11
       clear c11
       by_cases c12 : ((Op.bytesLess (((rd_T109 l0 (ji9)).f0).toList) (((rd_T109 l0 x3_1).f0).toList)) = true)
       ·rw [if_pos c12] at H
        have c12b0 : (Op.bytesLess (((rd_T109 l0 (ji9)).f0).toList) (((rd_T109 l0 x3_1).f0).toList)) = true := c12
        clear c12
        have H' := Aside0.mk H
        clear H
        try go_wp2
        replace HB := Aside0.mk (below_drew1 HB.out)
        have p902 : 0 ≤ (x3_1 : Int) := dt_
        have q902 : x3_1 < (l0.length : Int) := dt_
        obtain ⟨ad902, e902, hx902_0, hx902_1⟩ := at_T109 HR0.out x3_1 p902 q902
        have hw902_1 := hx902_1
        have hw902_0 := hx902_0
        cases e902
        replace hx902_0 := cb_ HB.out hx902_0
        replace hx902_1 := cb_ HB.out hx902_1
        replace p902 := eq_true p902
        replace q902 := eq_true q902
        have p904 : 0 ≤ (x3_1 : Int) := dt_
        have q904 : x3_1 < (l0.length : Int) := dt_
        obtain ⟨ad904, e904, hx904_0, hx904_1⟩ := at_T109 HR0.out x3_1 p904 q904
        have hw904_1 := hx904_1
        have hw904_0 := hx904_0
        obtain rfl : ad902 = ad904 := (by injection e904)
        replace hx904_0 := cb_ HB.out hx904_0
        replace hx904_1 := cb_ HB.out hx904_1
        replace p904 := eq_true p904
        replace q904 := eq_true q904
        have p906 : 0 ≤ (x3_1 : Int) := dt_
        have q906 : x3_1 < (l0.length : Int) := dt_
        obtain ⟨ad906, e906, hx906_0, hx906_1⟩ := at_T109 HR0.out x3_1 p906 q906
        have hw906_1 := hx906_1
        have hw906_0 := hx906_0
        obtain rfl : ad902 = ad906 := (by injection e906)
        replace hx906_0 := cb_ HB.out hx906_0
        replace hx906_1 := cb_ HB.out hx906_1
        replace p906 := eq_true p906
        replace q906 := eq_true q906
        have p907 : 0 ≤ ((ji9) : Int) := dt_
        have q907 : (ji9) < (l0.length : Int) := dt_
        obtain ⟨ad907, e907, hx907_0, hx907_1⟩ := at_T109 HR0.out (ji9) p907 q907
        have hw907_1 := hx907_1
        have hw907_0 := hx907_0
        obtain rfl : ad902 = ad907 := (by injection e907)
        replace hx907_0 := cb_ HB.out hx907_0
        replace hx907_1 := cb_ HB.out hx907_1
        replace p907 := eq_true p907
        replace q907 := eq_true q907
        refine start_ (n := 34) (S := fun w' => w'.cell? (ad902.add ((x3_1).toNat * 2)) = some (.string ((rd_T109 l0 x3_1).f0)) ∧ w'.cell? ⟨(ad902.add ((x3_1).toNat * 2)).block, (ad902.add ((x3_1).toNat * 2)).off + 1, none⟩ = some (.int .i64 ((rd_T109 l0 x3_1).f1)) ∧ w'.cell? (ad902.add ((x3_1).toNat * 2)) = some (.string ((rd_T109 l0 x3_1).f0)) ∧ w'.cell? ⟨(ad902.add ((x3_1).toNat * 2)).block, (ad902.add ((x3_1).toNat * 2)).off + 1, none⟩ = some (.int .i64 ((rd_T109 l0 x3_1).f1)) ∧ w'.cell? (ad902.add ((x3_1).toNat * 2)) = some (.string ((rd_T109 l0 x3_1).f0)) ∧ w'.cell? ⟨(ad902.add ((x3_1).toNat * 2)).block, (ad902.add ((x3_1).toNat * 2)).off + 1, none⟩ = some (.int .i64 ((rd_T109 l0 x3_1).f1)) ∧ w'.cell? (ad902.add (((ji9)).toNat * 2)) = some (.string ((rd_T109 l0 (ji9)).f0)) ∧ w'.cell? ⟨(ad902.add (((ji9)).toNat * 2)).block, (ad902.add (((ji9)).toNat * 2)).off + 1, none⟩ = some (.int .i64 ((rd_T109 l0 (ji9)).f1))) (ds := []) (tf_ 0 34) (by kernel_rfl) rfl rfl ⟨(cb_ HB.out hw902_0), (cb_ HB.out hw902_1), (cb_ HB.out hw904_0), (cb_ HB.out hw904_1), (cb_ HB.out hw906_0), (cb_ HB.out hw906_1), (cb_ HB.out hw907_0), (cb_ HB.out hw907_1)⟩ (fun hHeld => ?_); refine with_tabW spec_EntriesValid.tab4 spec_EntriesValid.bits4 (fun HT_ HW_ => ?_)
        generalize wr.drew = w13 at HB hx902_0 hx902_1 hx904_0 hx904_1 hx906_0 hx906_1 hx907_0 hx907_1 hHeld ⊢
        refine paA_ 0 10 1 33 ?_
        refine paA_ 1 11 2 32 ?_
        refine paA_ 2 12 3 31 ?_
        refine paA_ 3 13 4 30 ?_
        refine ta8_ (i := 4) (N := some 14) (tf_ 5 29) ?_
        refine one_ (i := 5) (N := some 15) (tf_ 6 28) rfl rfl (one_of HT_.out (by kernel_rfl)) (by decide) (fun K hK => ?_)
        refine goes_ Try.func112 (by kernel_rfl) rfl #[.string ((rd_T109 l0 x3_1).f0)] (by rfl) rfl rfl sl_ ?_
        with_reducible refine (spec_WordValid.calls k1 ((rd_T109 l0 x3_1).f0) true _ A4.out).mono ?_
        rintro e w' ⟨rfl, ⟨nd, rfl⟩⟩
        refine ⟨_, rfl, ?_⟩
        refine hK.out _ _ ⟨(cb_ HB.out hw902_0), (cb_ HB.out hw902_1), (cb_ HB.out hw904_0), (cb_ HB.out hw904_1), (cb_ HB.out hw906_0), (cb_ HB.out hw906_1), (cb_ HB.out hw907_0), (cb_ HB.out hw907_1)⟩ (fun hHeld => ?_)
        clear hK K
        refine norm_ (a' := ?_) ?_ ?_
        rotate_left
        ·show Act.put _ (some 15) _ = _
         simp only [Act.put, List.setIfInBounds_toArray, List.set_cons_zero, List.set_cons_succ, i64_w, i32_w]
         rfl
        refine paA_ 6 16 7 27 ?_
        refine paA_ 7 17 8 26 ?_
        refine paA_ 8 18 9 25 ?_
        refine paA_ 9 19 10 24 ?_
        refine paA_ 10 20 11 23 ?_
        refine paA_ 11 21 12 22 ?_
        refine ta8_ (i := 12) (N := some 22) (tf_ 13 21) ?_
        refine one_ (i := 13) (N := some 23) (tf_ 14 20) rfl rfl (one_of HT_.out (by kernel_rfl)) (by decide) (fun K hK => ?_)
        refine goes_ Try.func72 (by kernel_rfl) rfl #[.int .i64 ((rd_T109 l0 x3_1).f1), .int .i64 0, .int .i64 16777212] (by rfl) rfl rfl sl_ ?_
        with_reducible refine (spec_l1In.calls ((rd_T109 l0 x3_1).f1) 0 16777212 true _ A6.out).mono ?_
        rintro e w' ⟨rfl, ⟨nd, rfl⟩⟩
        refine ⟨_, rfl, ?_⟩
        refine hK.out _ _ ⟨(cb_ HB.out hw902_0), (cb_ HB.out hw902_1), (cb_ HB.out hw904_0), (cb_ HB.out hw904_1), (cb_ HB.out hw906_0), (cb_ HB.out hw906_1), (cb_ HB.out hw907_0), (cb_ HB.out hw907_1)⟩ (fun hHeld => ?_)
        clear hK K
        refine norm_ (a' := ?_) ?_ ?_
        rotate_left
        ·show Act.put _ (some 23) _ = _
         simp only [Act.put, List.setIfInBounds_toArray, List.set_cons_zero, List.set_cons_succ, i64_w, i32_w]
         rfl
        refine paA_ 14 24 15 19 ?_
        refine paA_ 15 25 16 18 ?_
        refine paA_ 16 26 17 17 ?_
        refine paA_ 17 27 18 16 ?_
        refine paA_ 18 28 19 15 ?_
        refine paA_ 19 29 20 14 ?_
        refine paA_ 20 30 21 13 ?_
        refine paA_ 21 31 22 12 ?_
        refine paA_ 22 32 23 11 ?_
        refine paA_ 23 33 24 10 ?_
        refine pa_ (i := 25) (N := some 35) (tb_ 34 50331647) ?_
        refine pa_ (i := 26) (N := some 36) (tb_ 34 117440511) ?_
        refine pa_ (i := 27) (N := some 37) (tb_ 34 251658239) ?_
        refine pa_ (i := 28) (N := some 38) (tb_ 34 520093695) ?_
        refine pa_ (i := 29) (N := some 39) (tb_ 34 1056964607) ?_
        refine ta8_ (i := 24) (N := some 34) (tf_ 30 4) ?_
        refine ta8_ (i := 30) (N := some 40) (tf_ 31 3) ?_
        refine paA_ 31 41 32 2 ?_
        refine paA_ 32 42 33 1 ?_
        refine paA_ 33 43 34 0 ?_
        refine done_ (done_of HT_.out (by kernel_rfl)) ?_
        try go_wp2
        go_roundg k1
        case measure => have := HK1.out; omega
        case rel => exact ⟨(wrap64 (x3_1 + 1)), rs_, H', ⟨by have := HK1.out; omega⟩, ⟨hb_⟩⟩
       ·rw [if_neg c12] at H
        have c12b0 : (Op.bytesLess (((rd_T109 l0 (ji9)).f0).toList) (((rd_T109 l0 x3_1).f0).toList)) = false := by simpa using c12
        clear c12
        obtain rfl := Option.some.inj H
        try go_wp2
        replace HB := Aside0.mk (below_drew1 HB.out)
        have p902 : 0 ≤ (x3_1 : Int) := dt_
        have q902 : x3_1 < (l0.length : Int) := dt_
        obtain ⟨ad902, e902, hx902_0, hx902_1⟩ := at_T109 HR0.out x3_1 p902 q902
        have hw902_1 := hx902_1
        have hw902_0 := hx902_0
        cases e902
        replace hx902_0 := cb_ HB.out hx902_0
        replace hx902_1 := cb_ HB.out hx902_1
        replace p902 := eq_true p902
        replace q902 := eq_true q902
        have p904 : 0 ≤ (x3_1 : Int) := dt_
        have q904 : x3_1 < (l0.length : Int) := dt_
        obtain ⟨ad904, e904, hx904_0, hx904_1⟩ := at_T109 HR0.out x3_1 p904 q904
        have hw904_1 := hx904_1
        have hw904_0 := hx904_0
        obtain rfl : ad902 = ad904 := (by injection e904)
        replace hx904_0 := cb_ HB.out hx904_0
        replace hx904_1 := cb_ HB.out hx904_1
        replace p904 := eq_true p904
        replace q904 := eq_true q904
        have p906 : 0 ≤ (x3_1 : Int) := dt_
        have q906 : x3_1 < (l0.length : Int) := dt_
        obtain ⟨ad906, e906, hx906_0, hx906_1⟩ := at_T109 HR0.out x3_1 p906 q906
        have hw906_1 := hx906_1
        have hw906_0 := hx906_0
        obtain rfl : ad902 = ad906 := (by injection e906)
        replace hx906_0 := cb_ HB.out hx906_0
        replace hx906_1 := cb_ HB.out hx906_1
        replace p906 := eq_true p906
        replace q906 := eq_true q906
        have p907 : 0 ≤ ((ji9) : Int) := dt_
        have q907 : (ji9) < (l0.length : Int) := dt_
        obtain ⟨ad907, e907, hx907_0, hx907_1⟩ := at_T109 HR0.out (ji9) p907 q907
        have hw907_1 := hx907_1
        have hw907_0 := hx907_0
        obtain rfl : ad902 = ad907 := (by injection e907)
        replace hx907_0 := cb_ HB.out hx907_0
        replace hx907_1 := cb_ HB.out hx907_1
        replace p907 := eq_true p907
        replace q907 := eq_true q907
        refine start_ (n := 34) (S := fun w' => w'.cell? (ad902.add ((x3_1).toNat * 2)) = some (.string ((rd_T109 l0 x3_1).f0)) ∧ w'.cell? ⟨(ad902.add ((x3_1).toNat * 2)).block, (ad902.add ((x3_1).toNat * 2)).off + 1, none⟩ = some (.int .i64 ((rd_T109 l0 x3_1).f1)) ∧ w'.cell? (ad902.add ((x3_1).toNat * 2)) = some (.string ((rd_T109 l0 x3_1).f0)) ∧ w'.cell? ⟨(ad902.add ((x3_1).toNat * 2)).block, (ad902.add ((x3_1).toNat * 2)).off + 1, none⟩ = some (.int .i64 ((rd_T109 l0 x3_1).f1)) ∧ w'.cell? (ad902.add ((x3_1).toNat * 2)) = some (.string ((rd_T109 l0 x3_1).f0)) ∧ w'.cell? ⟨(ad902.add ((x3_1).toNat * 2)).block, (ad902.add ((x3_1).toNat * 2)).off + 1, none⟩ = some (.int .i64 ((rd_T109 l0 x3_1).f1)) ∧ w'.cell? (ad902.add (((ji9)).toNat * 2)) = some (.string ((rd_T109 l0 (ji9)).f0)) ∧ w'.cell? ⟨(ad902.add (((ji9)).toNat * 2)).block, (ad902.add (((ji9)).toNat * 2)).off + 1, none⟩ = some (.int .i64 ((rd_T109 l0 (ji9)).f1))) (ds := []) (tf_ 0 34) (by kernel_rfl) rfl rfl ⟨(cb_ HB.out hw902_0), (cb_ HB.out hw902_1), (cb_ HB.out hw904_0), (cb_ HB.out hw904_1), (cb_ HB.out hw906_0), (cb_ HB.out hw906_1), (cb_ HB.out hw907_0), (cb_ HB.out hw907_1)⟩ (fun hHeld => ?_); refine with_tabW spec_EntriesValid.tab4 spec_EntriesValid.bits4 (fun HT_ HW_ => ?_)
        generalize wr.drew = w14 at HB hx902_0 hx902_1 hx904_0 hx904_1 hx906_0 hx906_1 hx907_0 hx907_1 hHeld ⊢
        refine paA_ 0 10 1 33 ?_
        refine paA_ 1 11 2 32 ?_
        refine paA_ 2 12 3 31 ?_
        refine paA_ 3 13 4 30 ?_
        refine ta8_ (i := 4) (N := some 14) (tf_ 5 29) ?_
        refine one_ (i := 5) (N := some 15) (tf_ 6 28) rfl rfl (one_of HT_.out (by kernel_rfl)) (by decide) (fun K hK => ?_)
        refine goes_ Try.func112 (by kernel_rfl) rfl #[.string ((rd_T109 l0 x3_1).f0)] (by rfl) rfl rfl sl_ ?_
        with_reducible refine (spec_WordValid.calls k1 ((rd_T109 l0 x3_1).f0) true _ A4.out).mono ?_
        rintro e w' ⟨rfl, ⟨nd, rfl⟩⟩
        refine ⟨_, rfl, ?_⟩
        refine hK.out _ _ ⟨(cb_ HB.out hw902_0), (cb_ HB.out hw902_1), (cb_ HB.out hw904_0), (cb_ HB.out hw904_1), (cb_ HB.out hw906_0), (cb_ HB.out hw906_1), (cb_ HB.out hw907_0), (cb_ HB.out hw907_1)⟩ (fun hHeld => ?_)
        clear hK K
        refine norm_ (a' := ?_) ?_ ?_
        rotate_left
        ·show Act.put _ (some 15) _ = _
         simp only [Act.put, List.setIfInBounds_toArray, List.set_cons_zero, List.set_cons_succ, i64_w, i32_w]
         rfl
        refine paA_ 6 16 7 27 ?_
        refine paA_ 7 17 8 26 ?_
        refine paA_ 8 18 9 25 ?_
        refine paA_ 9 19 10 24 ?_
        refine paA_ 10 20 11 23 ?_
        refine paA_ 11 21 12 22 ?_
        refine ta8_ (i := 12) (N := some 22) (tf_ 13 21) ?_
        refine one_ (i := 13) (N := some 23) (tf_ 14 20) rfl rfl (one_of HT_.out (by kernel_rfl)) (by decide) (fun K hK => ?_)
        refine goes_ Try.func72 (by kernel_rfl) rfl #[.int .i64 ((rd_T109 l0 x3_1).f1), .int .i64 0, .int .i64 16777212] (by rfl) rfl rfl sl_ ?_
        with_reducible refine (spec_l1In.calls ((rd_T109 l0 x3_1).f1) 0 16777212 true _ A6.out).mono ?_
        rintro e w' ⟨rfl, ⟨nd, rfl⟩⟩
        refine ⟨_, rfl, ?_⟩
        refine hK.out _ _ ⟨(cb_ HB.out hw902_0), (cb_ HB.out hw902_1), (cb_ HB.out hw904_0), (cb_ HB.out hw904_1), (cb_ HB.out hw906_0), (cb_ HB.out hw906_1), (cb_ HB.out hw907_0), (cb_ HB.out hw907_1)⟩ (fun hHeld => ?_)
        clear hK K
        refine norm_ (a' := ?_) ?_ ?_
        rotate_left
        ·show Act.put _ (some 23) _ = _
         simp only [Act.put, List.setIfInBounds_toArray, List.set_cons_zero, List.set_cons_succ, i64_w, i32_w]
         rfl
        refine paA_ 14 24 15 19 ?_
        refine paA_ 15 25 16 18 ?_
        refine paA_ 16 26 17 17 ?_
        refine paA_ 17 27 18 16 ?_
        refine paA_ 18 28 19 15 ?_
        refine paA_ 19 29 20 14 ?_
        refine paA_ 20 30 21 13 ?_
        refine paA_ 21 31 22 12 ?_
        refine paA_ 22 32 23 11 ?_
        refine paA_ 23 33 24 10 ?_
        refine pa_ (i := 25) (N := some 35) (tb_ 34 50331647) ?_
        refine pa_ (i := 26) (N := some 36) (tb_ 34 117440511) ?_
        refine pa_ (i := 27) (N := some 37) (tb_ 34 251658239) ?_
        refine pa_ (i := 28) (N := some 38) (tb_ 34 520093695) ?_
        refine pa_ (i := 29) (N := some 39) (tb_ 34 1056964607) ?_
        refine ta8_ (i := 24) (N := some 34) (tf_ 30 4) ?_
        refine ta8_ (i := 30) (N := some 40) (tf_ 31 3) ?_
        refine paA_ 31 41 32 2 ?_
        refine paA_ 32 42 33 1 ?_
        refine paA_ 33 43 34 0 ?_
        refine done_ (done_of HT_.out (by kernel_rfl)) ?_
        try go_wp2
        go_ret
        exact ⟨by first | rfl | (simp [errW_none, errW_some] <;> rfl) | (simp only [← hji9]; first | rfl | (simp [errW_none, errW_some] <;> rfl)) | (simp [*, errW_none, errW_some] <;> rfl), hb_⟩
      ·rw [if_neg c8] at H
       have c8b0 : decide (0 < x3_1) = false := decide_eq_false c8
       clear c8
       have H' := Aside0.mk H
       clear H
       try go_wp2
       replace HB := Aside0.mk (below_drew1 HB.out)
       have p902 : 0 ≤ (x3_1 : Int) := dt_
       have q902 : x3_1 < (l0.length : Int) := dt_
       obtain ⟨ad902, e902, hx902_0, hx902_1⟩ := at_T109 HR0.out x3_1 p902 q902
       have hw902_1 := hx902_1
       have hw902_0 := hx902_0
       cases e902
       replace hx902_0 := cb_ HB.out hx902_0
       replace hx902_1 := cb_ HB.out hx902_1
       replace p902 := eq_true p902
       replace q902 := eq_true q902
       have p904 : 0 ≤ (x3_1 : Int) := dt_
       have q904 : x3_1 < (l0.length : Int) := dt_
       obtain ⟨ad904, e904, hx904_0, hx904_1⟩ := at_T109 HR0.out x3_1 p904 q904
       have hw904_1 := hx904_1
       have hw904_0 := hx904_0
       obtain rfl : ad902 = ad904 := (by injection e904)
       replace hx904_0 := cb_ HB.out hx904_0
       replace hx904_1 := cb_ HB.out hx904_1
       replace p904 := eq_true p904
       replace q904 := eq_true q904
       refine start_ (n := 34) (S := fun w' => w'.cell? (ad902.add ((x3_1).toNat * 2)) = some (.string ((rd_T109 l0 x3_1).f0)) ∧ w'.cell? ⟨(ad902.add ((x3_1).toNat * 2)).block, (ad902.add ((x3_1).toNat * 2)).off + 1, none⟩ = some (.int .i64 ((rd_T109 l0 x3_1).f1)) ∧ w'.cell? (ad902.add ((x3_1).toNat * 2)) = some (.string ((rd_T109 l0 x3_1).f0)) ∧ w'.cell? ⟨(ad902.add ((x3_1).toNat * 2)).block, (ad902.add ((x3_1).toNat * 2)).off + 1, none⟩ = some (.int .i64 ((rd_T109 l0 x3_1).f1))) (ds := []) (tf_ 0 34) (by kernel_rfl) rfl rfl ⟨(cb_ HB.out hw902_0), (cb_ HB.out hw902_1), (cb_ HB.out hw904_0), (cb_ HB.out hw904_1)⟩ (fun hHeld => ?_); refine with_tabW spec_EntriesValid.tab4 spec_EntriesValid.bits4 (fun HT_ HW_ => ?_)
       generalize wr.drew = w15 at HB hx902_0 hx902_1 hx904_0 hx904_1 hHeld ⊢
       refine paA_ 0 10 1 33 ?_
       refine paA_ 1 11 2 32 ?_
       refine paA_ 2 12 3 31 ?_
       refine paA_ 3 13 4 30 ?_
       refine ta4_ (i := 4) (N := some 14) (tf_ 5 29) ?_
       refine one_ (i := 5) (N := some 15) (tf_ 6 28) rfl rfl (one_of HT_.out (by kernel_rfl)) (by decide) (fun K hK => ?_)
       refine goes_ Try.func112 (by kernel_rfl) rfl #[.string ((rd_T109 l0 x3_1).f0)] (by rfl) rfl rfl sl_ ?_
       with_reducible refine (spec_WordValid.calls k1 ((rd_T109 l0 x3_1).f0) true _ A4.out).mono ?_
       rintro e w' ⟨rfl, ⟨nd, rfl⟩⟩
       refine ⟨_, rfl, ?_⟩
       refine hK.out _ _ ⟨(cb_ HB.out hw902_0), (cb_ HB.out hw902_1), (cb_ HB.out hw904_0), (cb_ HB.out hw904_1)⟩ (fun hHeld => ?_)
       clear hK K
       refine norm_ (a' := ?_) ?_ ?_
       rotate_left
       ·show Act.put _ (some 15) _ = _
        simp only [Act.put, List.setIfInBounds_toArray, List.set_cons_zero, List.set_cons_succ, i64_w, i32_w]
        rfl
       refine paA_ 6 16 7 27 ?_
       refine paA_ 7 17 8 26 ?_
       refine paA_ 8 18 9 25 ?_
       refine paA_ 9 19 10 24 ?_
       refine paA_ 10 20 11 23 ?_
       refine paA_ 11 21 12 22 ?_
       refine ta4_ (i := 12) (N := some 22) (tf_ 13 21) ?_
       refine one_ (i := 13) (N := some 23) (tf_ 14 20) rfl rfl (one_of HT_.out (by kernel_rfl)) (by decide) (fun K hK => ?_)
       refine goes_ Try.func72 (by kernel_rfl) rfl #[.int .i64 ((rd_T109 l0 x3_1).f1), .int .i64 0, .int .i64 16777212] (by rfl) rfl rfl sl_ ?_
       with_reducible refine (spec_l1In.calls ((rd_T109 l0 x3_1).f1) 0 16777212 true _ A6.out).mono ?_
       rintro e w' ⟨rfl, ⟨nd, rfl⟩⟩
       refine ⟨_, rfl, ?_⟩
       refine hK.out _ _ ⟨(cb_ HB.out hw902_0), (cb_ HB.out hw902_1), (cb_ HB.out hw904_0), (cb_ HB.out hw904_1)⟩ (fun hHeld => ?_)
       clear hK K
       refine norm_ (a' := ?_) ?_ ?_
       rotate_left
       ·show Act.put _ (some 23) _ = _
        simp only [Act.put, List.setIfInBounds_toArray, List.set_cons_zero, List.set_cons_succ, i64_w, i32_w]
        rfl
       refine paA_ 14 24 15 19 ?_
       refine paA_ 15 25 16 18 ?_
       refine paA_ 16 26 17 17 ?_
       refine paA_ 17 27 18 16 ?_
       refine paA_ 18 28 19 15 ?_
       refine paA_ 19 29 20 14 ?_
       refine pnA_ 20 30 21 13 ?_
       refine pnA_ 21 31 22 12 ?_
       refine pnA_ 22 32 23 11 ?_
       refine pnA_ 23 33 24 10 ?_
       refine pnA_ 24 34 25 9 ?_
       refine pnA_ 25 35 26 8 ?_
       refine pnA_ 26 36 27 7 ?_
       refine pnA_ 27 37 28 6 ?_
       refine pnA_ 28 38 29 5 ?_
       refine pnA_ 29 39 30 4 ?_
       refine pnA_ 30 40 31 3 ?_
       refine pnA_ 31 41 32 2 ?_
       refine paA_ 32 42 33 1 ?_
       refine paA_ 33 43 34 0 ?_
       refine done_ (done_of HT_.out (by kernel_rfl)) ?_
       try go_wp2
       go_roundg k1
       case measure => have := HK1.out; omega
       case rel => exact ⟨(wrap64 (x3_1 + 1)), rs_, H', ⟨by have := HK1.out; omega⟩, ⟨hb_⟩⟩
     ·replace c7 := Bool.eq_false_iff.mpr c7
      subst c7
      have H1 : (some false) = some r := by rw [if_neg (show ¬ (false = true) by decide)] at H; exact H
      clear H
      have H := H1
      clear H1
      obtain rfl := Option.some.inj H
      try go_wp2
      replace HB := Aside0.mk (below_drew1 HB.out)
      have p902 : 0 ≤ (x3_1 : Int) := dt_
      have q902 : x3_1 < (l0.length : Int) := dt_
      obtain ⟨ad902, e902, hx902_0, hx902_1⟩ := at_T109 HR0.out x3_1 p902 q902
      have hw902_1 := hx902_1
      have hw902_0 := hx902_0
      cases e902
      replace hx902_0 := cb_ HB.out hx902_0
      replace hx902_1 := cb_ HB.out hx902_1
      replace p902 := eq_true p902
      replace q902 := eq_true q902
      have p904 : 0 ≤ (x3_1 : Int) := dt_
      have q904 : x3_1 < (l0.length : Int) := dt_
      obtain ⟨ad904, e904, hx904_0, hx904_1⟩ := at_T109 HR0.out x3_1 p904 q904
      have hw904_1 := hx904_1
      have hw904_0 := hx904_0
      obtain rfl : ad902 = ad904 := (by injection e904)
      replace hx904_0 := cb_ HB.out hx904_0
      replace hx904_1 := cb_ HB.out hx904_1
      replace p904 := eq_true p904
      replace q904 := eq_true q904
      refine start_ (n := 34) (S := fun w' => w'.cell? (ad902.add ((x3_1).toNat * 2)) = some (.string ((rd_T109 l0 x3_1).f0)) ∧ w'.cell? ⟨(ad902.add ((x3_1).toNat * 2)).block, (ad902.add ((x3_1).toNat * 2)).off + 1, none⟩ = some (.int .i64 ((rd_T109 l0 x3_1).f1)) ∧ w'.cell? (ad902.add ((x3_1).toNat * 2)) = some (.string ((rd_T109 l0 x3_1).f0)) ∧ w'.cell? ⟨(ad902.add ((x3_1).toNat * 2)).block, (ad902.add ((x3_1).toNat * 2)).off + 1, none⟩ = some (.int .i64 ((rd_T109 l0 x3_1).f1))) (ds := []) (tf_ 0 34) (by kernel_rfl) rfl rfl ⟨(cb_ HB.out hw902_0), (cb_ HB.out hw902_1), (cb_ HB.out hw904_0), (cb_ HB.out hw904_1)⟩ (fun hHeld => ?_); refine with_tabW spec_EntriesValid.tab4 spec_EntriesValid.bits4 (fun HT_ HW_ => ?_)
      generalize wr.drew = w16 at HB hx902_0 hx902_1 hx904_0 hx904_1 hHeld ⊢
      refine paA_ 0 10 1 33 ?_
      refine paA_ 1 11 2 32 ?_
      refine paA_ 2 12 3 31 ?_
      refine paA_ 3 13 4 30 ?_
      refine ta4_ (i := 4) (N := some 14) (tf_ 5 29) ?_
      refine one_ (i := 5) (N := some 15) (tf_ 6 28) rfl rfl (one_of HT_.out (by kernel_rfl)) (by decide) (fun K hK => ?_)
      refine goes_ Try.func112 (by kernel_rfl) rfl #[.string ((rd_T109 l0 x3_1).f0)] (by rfl) rfl rfl sl_ ?_
      with_reducible refine (spec_WordValid.calls k1 ((rd_T109 l0 x3_1).f0) true _ A4.out).mono ?_
      rintro e w' ⟨rfl, ⟨nd, rfl⟩⟩
      refine ⟨_, rfl, ?_⟩
      refine hK.out _ _ ⟨(cb_ HB.out hw902_0), (cb_ HB.out hw902_1), (cb_ HB.out hw904_0), (cb_ HB.out hw904_1)⟩ (fun hHeld => ?_)
      clear hK K
      refine norm_ (a' := ?_) ?_ ?_
      rotate_left
      ·show Act.put _ (some 15) _ = _
       simp only [Act.put, List.setIfInBounds_toArray, List.set_cons_zero, List.set_cons_succ, i64_w, i32_w]
       rfl
      refine paA_ 6 16 7 27 ?_
      refine paA_ 7 17 8 26 ?_
      refine paA_ 8 18 9 25 ?_
      refine paA_ 9 19 10 24 ?_
      refine paA_ 10 20 11 23 ?_
      refine paA_ 11 21 12 22 ?_
      refine ta4_ (i := 12) (N := some 22) (tf_ 13 21) ?_
      refine one_ (i := 13) (N := some 23) (tf_ 14 20) rfl rfl (one_of HT_.out (by kernel_rfl)) (by decide) (fun K hK => ?_)
      refine goes_ Try.func72 (by kernel_rfl) rfl #[.int .i64 ((rd_T109 l0 x3_1).f1), .int .i64 0, .int .i64 16777212] (by rfl) rfl rfl sl_ ?_
      with_reducible refine (spec_l1In.calls ((rd_T109 l0 x3_1).f1) 0 16777212 false _ A6.out).mono ?_
      rintro e w' ⟨rfl, ⟨nd, rfl⟩⟩
      refine ⟨_, rfl, ?_⟩
      refine hK.out _ _ ⟨(cb_ HB.out hw902_0), (cb_ HB.out hw902_1), (cb_ HB.out hw904_0), (cb_ HB.out hw904_1)⟩ (fun hHeld => ?_)
      clear hK K
      refine norm_ (a' := ?_) ?_ ?_
      rotate_left
      ·show Act.put _ (some 23) _ = _
       simp only [Act.put, List.setIfInBounds_toArray, List.set_cons_zero, List.set_cons_succ, i64_w, i32_w]
       rfl
      refine paA_ 14 24 15 19 ?_
      refine paA_ 15 25 16 18 ?_
      refine paA_ 16 26 17 17 ?_
      refine pnA_ 17 27 18 16 ?_
      refine pnA_ 18 28 19 15 ?_
      refine pnA_ 19 29 20 14 ?_
      refine pnA_ 20 30 21 13 ?_
      refine pnA_ 21 31 22 12 ?_
      refine pnA_ 22 32 23 11 ?_
      refine pnA_ 23 33 24 10 ?_
      refine pnA_ 24 34 25 9 ?_
      refine pnA_ 25 35 26 8 ?_
      refine pnA_ 26 36 27 7 ?_
      refine pnA_ 27 37 28 6 ?_
      refine pnA_ 28 38 29 5 ?_
      refine pnA_ 29 39 30 4 ?_
      refine pnA_ 30 40 31 3 ?_
      refine pnA_ 31 41 32 2 ?_
      refine pnA_ 32 42 33 1 ?_
      refine paA_ 33 43 34 0 ?_
      refine done_ (done_of HT_.out (by kernel_rfl)) ?_
      try go_wp2
      go_ret
      exact ⟨er_, hb_⟩
    ·replace c5 := Bool.eq_false_iff.mpr c5
     subst c5
     have H1 : (some false) = some r := by rw [if_neg (show ¬ (false = true) by decide)] at H; exact H
     clear H
     have H := H1
     clear H1
     obtain rfl := Option.some.inj H
     try go_wp2
     replace HB := Aside0.mk (below_drew1 HB.out)
     have p902 : 0 ≤ (x3_1 : Int) := dt_
     have q902 : x3_1 < (l0.length : Int) := dt_
     obtain ⟨ad902, e902, hx902_0, hx902_1⟩ := at_T109 HR0.out x3_1 p902 q902
     have hw902_1 := hx902_1
     have hw902_0 := hx902_0
     cases e902
     replace hx902_0 := cb_ HB.out hx902_0
     replace hx902_1 := cb_ HB.out hx902_1
     replace p902 := eq_true p902
     replace q902 := eq_true q902
     refine start_ (n := 34) (S := fun w' => w'.cell? (ad902.add ((x3_1).toNat * 2)) = some (.string ((rd_T109 l0 x3_1).f0)) ∧ w'.cell? ⟨(ad902.add ((x3_1).toNat * 2)).block, (ad902.add ((x3_1).toNat * 2)).off + 1, none⟩ = some (.int .i64 ((rd_T109 l0 x3_1).f1))) (ds := []) (tf_ 0 34) (by kernel_rfl) rfl rfl ⟨(cb_ HB.out hw902_0), (cb_ HB.out hw902_1)⟩ (fun hHeld => ?_); refine with_tabW spec_EntriesValid.tab4 spec_EntriesValid.bits4 (fun HT_ HW_ => ?_)
     generalize wr.drew = w17 at HB hx902_0 hx902_1 hHeld ⊢
     refine paA_ 0 10 1 33 ?_
     refine paA_ 1 11 2 32 ?_
     refine paA_ 2 12 3 31 ?_
     refine paA_ 3 13 4 30 ?_
     refine ta2_ (i := 4) (N := some 14) (tf_ 5 29) ?_
     refine one_ (i := 5) (N := some 15) (tf_ 6 28) rfl rfl (one_of HT_.out (by kernel_rfl)) (by decide) (fun K hK => ?_)
     refine goes_ Try.func112 (by kernel_rfl) rfl #[.string ((rd_T109 l0 x3_1).f0)] (by rfl) rfl rfl sl_ ?_
     with_reducible refine (spec_WordValid.calls k1 ((rd_T109 l0 x3_1).f0) false _ A4.out).mono ?_
     rintro e w' ⟨rfl, ⟨nd, rfl⟩⟩
     refine ⟨_, rfl, ?_⟩
     refine hK.out _ _ ⟨(cb_ HB.out hw902_0), (cb_ HB.out hw902_1)⟩ (fun hHeld => ?_)
     clear hK K
     refine norm_ (a' := ?_) ?_ ?_
     rotate_left
     ·show Act.put _ (some 15) _ = _
      simp only [Act.put, List.setIfInBounds_toArray, List.set_cons_zero, List.set_cons_succ, i64_w, i32_w]
      rfl
     refine paA_ 6 16 7 27 ?_
     refine paA_ 7 17 8 26 ?_
     refine pnA_ 8 18 9 25 ?_
     refine pnA_ 9 19 10 24 ?_
     refine pnA_ 10 20 11 23 ?_
     refine pnA_ 11 21 12 22 ?_
     refine pnA_ 12 22 13 21 ?_
     refine pnA_ 13 23 14 20 ?_
     refine pnA_ 14 24 15 19 ?_
     refine paA_ 15 25 16 18 ?_
     refine paA_ 16 26 17 17 ?_
     refine pnA_ 17 27 18 16 ?_
     refine pnA_ 18 28 19 15 ?_
     refine pnA_ 19 29 20 14 ?_
     refine pnA_ 20 30 21 13 ?_
     refine pnA_ 21 31 22 12 ?_
     refine pnA_ 22 32 23 11 ?_
     refine pnA_ 23 33 24 10 ?_
     refine pnA_ 24 34 25 9 ?_
     refine pnA_ 25 35 26 8 ?_
     refine pnA_ 26 36 27 7 ?_
     refine pnA_ 27 37 28 6 ?_
     refine pnA_ 28 38 29 5 ?_
     refine pnA_ 29 39 30 4 ?_
     refine pnA_ 30 40 31 3 ?_
     refine pnA_ 31 41 32 2 ?_
     refine pnA_ 32 42 33 1 ?_
     refine paA_ 33 43 34 0 ?_
     refine done_ (done_of HT_.out (by kernel_rfl)) ?_
     try go_wp2
     go_ret
     exact ⟨er_, hb_⟩
   ·rw [if_neg c2] at H
    have c2b0 : decide (x3_1 < (l0.length : Int)) = false := decide_eq_false c2
    clear c2
    obtain rfl := Option.some.inj H
    go_wp2
    go_ret
    exact ⟨er_, hb_⟩
/-! ### spec_FolderText: function 96 -/
def spec_FolderText.l0 : Nat → List (S109) → ByteArray → Int → Option (ByteArray)
 | 0, _, _, _ => none
 | k + 1, x0, x3, x4 => if x4 < (x0.length : Int) then (if 0 ≤ x4 then (if x3.size + ((rd_T109 x0 x4).f0).size ≤ 9223372036854775807 then (if (x3 ++ ((rd_T109 x0 x4).f0)).size + 1 ≤ 9223372036854775807 then ((spec_HexText.f k ((rd_T109 x0 x4).f1)).bind fun t911 => (if ((x3 ++ ((rd_T109 x0 x4).f0)) ++ (⟨#[61]⟩ : ByteArray)).size + t911.size ≤ 9223372036854775807 then (if (((x3 ++ ((rd_T109 x0 x4).f0)) ++ (⟨#[61]⟩ : ByteArray)) ++ t911).size + 1 ≤ 9223372036854775807 then (spec_FolderText.l0 k x0 ((((x3 ++ ((rd_T109 x0 x4).f0)) ++ (⟨#[61]⟩ : ByteArray)) ++ t911) ++ (⟨#[59]⟩ : ByteArray)) (wrap64 (x4 + 1))) else (none)) else (none))) else (none)) else (none)) else (none)) else (some x3)
def spec_FolderText.f (k : Nat) (l0 : List (S109)) : Option (ByteArray) := (spec_EntriesValid.f k l0).bind fun t908 => (if t908 = true then (spec_FolderText.l0 k l0 (⟨#[100]⟩ : ByteArray) 0) else (some (⟨#[]⟩ : ByteArray)))
set_option maxHeartbeats 8000000 in
set_option maxRecDepth 100000 in
theorem spec_FolderText.calls (k : Nat) (A0 : Option Addr) (c0 : Nat) (l0 : List (S109)) (r : ByteArray) (w : World) (hr0 : Kd.C k109 w A0 l0.length l0) (hc0 : l0.length ≤ c0) (h : spec_FolderText.f k l0 = some r) :
  Calls Try.prog 96 #[.slice A0 l0.length c0] w fun e w' => e = .returned (.string r) ∧ Below w.heap.size w w' := by
 have HR0 := Aside0.mk hr0
 have HC0 := Aside0.mk hc0
 clear hr0 hc0
 have HB := Aside0.mk (Below.refl w.heap.size w)
 have H : ((spec_EntriesValid.f k l0).bind fun t908 => (if t908 = true then (spec_FolderText.l0 k l0 (⟨#[100]⟩ : ByteArray) 0) else (some (⟨#[]⟩ : ByteArray)))) = some r := h
 clear h
 replace H := Option.bind_eq_some_iff.mp H
 obtain ⟨t908, A20, H⟩ := H
 replace H : (if t908 = true then (spec_FolderText.l0 k l0 (⟨#[100]⟩ : ByteArray) 0) else (some (⟨#[]⟩ : ByteArray))) = some r := H
 have A2 := Aside0.mk A20
 clear A20
 by_cases c3 : t908 = true
 ·subst c3
  have H1 : (spec_FolderText.l0 k l0 (⟨#[100]⟩ : ByteArray) 0) = some r := by rw [if_pos rfl] at H; exact H
  clear H
  have H := H1
  clear H1
  have H' := Aside0.mk H
  clear H
  go_enter Try.func96, Try.ntmps96
  go_wp2_with (first | (go_at_call 103; (with_reducible refine (spec_EntriesValid.calls k _ _ l0 true _ ?side1 ?side2 A2.out).mono ?_); (case side1 => exact kC_ HR0.out); (case side2 => exact HC0.out); rintro e w4 ⟨rfl, hb⟩; replace HB := Aside0.mk (below_step hb_ hb); (try clear hb)))
  repeat (go_quiet (first | (go_at_call 103; (with_reducible refine (spec_EntriesValid.calls k _ _ l0 true _ ?side1 ?side2 A2.out).mono ?_); (case side1 => exact kC_ HR0.out); (case side2 => exact HC0.out); rintro e w4 ⟨rfl, hb⟩; replace HB := Aside0.mk (below_step hb_ hb); (try clear hb))); try go_wp2_with (first | (go_at_call 103; (with_reducible refine (spec_EntriesValid.calls k _ _ l0 true _ ?side1 ?side2 A2.out).mono ?_); (case side1 => exact kC_ HR0.out); (case side2 => exact HC0.out); rintro e w4 ⟨rfl, hb⟩; replace HB := Aside0.mk (below_step hb_ hb); (try clear hb))))
  go_loopg [3, 4] k (fun kq v3 v4 w' => ∃ (x3_1 : ByteArray) (x4_1 : Int), v3 = .string x3_1 ∧ v4 = .int .i64 x4_1 ∧ Aside0 (spec_FolderText.l0 kq l0 x3_1 x4_1 = some r) ∧ Aside0 (kq ≤ k) ∧ Aside0 (Below w.heap.size w w'))
  case atStart => exact ⟨((⟨#[100]⟩ : ByteArray)), (0), rs_, rs_, H', ⟨Nat.le_refl _⟩, ⟨hb_⟩⟩
  case round =>
   clear H'
   try clear p2
   try clear c3
   obtain ⟨x3_1, x4_1, rfl, rfl, HA, HK1, HB⟩ := hrel
   cases gk with
   | zero => exact absurd HA.out (by simp [spec_FolderText.l0])
   | succ k1 =>
    have H := HA.out
    clear HA
    simp only [spec_FolderText.l0] at H
    by_cases c5 : x4_1 < (l0.length : Int)
    ·rw [if_pos c5] at H
     have c5b0 : decide (x4_1 < (l0.length : Int)) = true := decide_eq_true c5
     clear c5
     by_cases c6 : 0 ≤ x4_1; rotate_left
     ·rw [if_neg c6] at H; exact absurd H (by simp)
     rw [if_pos c6] at H
     have c6b0 : decide (0 ≤ x4_1) = true := decide_eq_true c6
     clear c6
     by_cases c7 : x3_1.size + ((rd_T109 l0 x4_1).f0).size ≤ 9223372036854775807; rotate_left
     ·rw [if_neg c7] at H; exact absurd H (by simp)
     rw [if_pos c7] at H
     have c7b0 := eq_true c7
     have c7b1 : decide (x3_1.size + ((rd_T109 l0 x4_1).f0).size ≤ 9223372036854775807) = true := decide_eq_true c7
     try have c7b2 : (9223372036854775807 < x3_1.size + ((rd_T109 l0 x4_1).f0).size) = False := eq_false (Nat.not_lt.2 c7)
     by_cases c8 : (x3_1 ++ ((rd_T109 l0 x4_1).f0)).size + 1 ≤ 9223372036854775807; rotate_left
     ·rw [if_neg c8] at H; exact absurd H (by simp)
     rw [if_pos c8] at H
     have c8b0 := eq_true c8
     have c8b1 : decide ((x3_1 ++ ((rd_T109 l0 x4_1).f0)).size + 1 ≤ 9223372036854775807) = true := decide_eq_true c8
     try have c8b2 : (9223372036854775807 < (x3_1 ++ ((rd_T109 l0 x4_1).f0)).size + 1) = False := eq_false (Nat.not_lt.2 c8)
     try have c8b5 : (x3_1.size + ((rd_T109 l0 x4_1).f0).size + 1 ≤ 9223372036854775807) = True := eq_true (by first | exact c8 | exact (by have h_ := c8; simp only [ByteArray.size_append, ByteArray.size_extract] at h_ ⊢; omega))
     try have c8b6 : decide (x3_1.size + ((rd_T109 l0 x4_1).f0).size + 1 ≤ 9223372036854775807) = true := decide_eq_true (of_eq_true c8b5)
     try have c8b7 : (9223372036854775807 < x3_1.size + ((rd_T109 l0 x4_1).f0).size + 1) = False := eq_false (Nat.not_lt.2 (of_eq_true c8b5))
     replace H := Option.bind_eq_some_iff.mp H
     obtain ⟨t911, A90, H⟩ := H
     replace H : (if ((x3_1 ++ ((rd_T109 l0 x4_1).f0)) ++ (⟨#[61]⟩ : ByteArray)).size + t911.size ≤ 9223372036854775807 then (if (((x3_1 ++ ((rd_T109 l0 x4_1).f0)) ++ (⟨#[61]⟩ : ByteArray)) ++ t911).size + 1 ≤ 9223372036854775807 then (spec_FolderText.l0 k1 l0 ((((x3_1 ++ ((rd_T109 l0 x4_1).f0)) ++ (⟨#[61]⟩ : ByteArray)) ++ t911) ++ (⟨#[59]⟩ : ByteArray)) (wrap64 (x4_1 + 1))) else (none)) else (none)) = some r := H
     have A9 := Aside0.mk A90
     clear A90
     by_cases c10 : ((x3_1 ++ ((rd_T109 l0 x4_1).f0)) ++ (⟨#[61]⟩ : ByteArray)).size + t911.size ≤ 9223372036854775807; rotate_left
     ·rw [if_neg c10] at H; exact absurd H (by simp)
     rw [if_pos c10] at H
     have c10b0 := eq_true c10
     have c10b1 : decide (((x3_1 ++ ((rd_T109 l0 x4_1).f0)) ++ (⟨#[61]⟩ : ByteArray)).size + t911.size ≤ 9223372036854775807) = true := decide_eq_true c10
     try have c10b2 : (9223372036854775807 < ((x3_1 ++ ((rd_T109 l0 x4_1).f0)) ++ (⟨#[61]⟩ : ByteArray)).size + t911.size) = False := eq_false (Nat.not_lt.2 c10)
     try have c10b5 : (x3_1.size + ((rd_T109 l0 x4_1).f0).size + 1 + t911.size ≤ 9223372036854775807) = True := eq_true (by first | exact c10 | exact (by have h_ := c10; have hl0_ : (⟨#[61]⟩ : ByteArray).size = 1 := rfl; simp only [ByteArray.size_append, ByteArray.size_extract] at h_ ⊢; omega))
     try have c10b6 : decide (x3_1.size + ((rd_T109 l0 x4_1).f0).size + 1 + t911.size ≤ 9223372036854775807) = true := decide_eq_true (of_eq_true c10b5)
     try have c10b7 : (9223372036854775807 < x3_1.size + ((rd_T109 l0 x4_1).f0).size + 1 + t911.size) = False := eq_false (Nat.not_lt.2 (of_eq_true c10b5))
     by_cases c11 : (((x3_1 ++ ((rd_T109 l0 x4_1).f0)) ++ (⟨#[61]⟩ : ByteArray)) ++ t911).size + 1 ≤ 9223372036854775807; rotate_left
     ·rw [if_neg c11] at H; exact absurd H (by simp)
     rw [if_pos c11] at H
     have c11b0 := eq_true c11
     have c11b1 : decide ((((x3_1 ++ ((rd_T109 l0 x4_1).f0)) ++ (⟨#[61]⟩ : ByteArray)) ++ t911).size + 1 ≤ 9223372036854775807) = true := decide_eq_true c11
     try have c11b2 : (9223372036854775807 < (((x3_1 ++ ((rd_T109 l0 x4_1).f0)) ++ (⟨#[61]⟩ : ByteArray)) ++ t911).size + 1) = False := eq_false (Nat.not_lt.2 c11)
     try have c11b5 : (x3_1.size + ((rd_T109 l0 x4_1).f0).size + 1 + t911.size + 1 ≤ 9223372036854775807) = True := eq_true (by first | exact c11 | exact (by have h_ := c11; have hl0_ : (⟨#[61]⟩ : ByteArray).size = 1 := rfl; simp only [ByteArray.size_append, ByteArray.size_extract] at h_ ⊢; omega))
     try have c11b6 : decide (x3_1.size + ((rd_T109 l0 x4_1).f0).size + 1 + t911.size + 1 ≤ 9223372036854775807) = true := decide_eq_true (of_eq_true c11b5)
     try have c11b7 : (9223372036854775807 < x3_1.size + ((rd_T109 l0 x4_1).f0).size + 1 + t911.size + 1) = False := eq_false (Nat.not_lt.2 (of_eq_true c11b5))
     have H' := Aside0.mk H
     clear H
     have p909 : 0 ≤ (x4_1 : Int) := dt_
     have q909 : x4_1 < (l0.length : Int) := dt_
     obtain ⟨ad909, e909, hx909_0, hx909_1⟩ := at_T109 HR0.out x4_1 p909 q909
     cases e909
     replace hx909_0 := cb_ HB.out hx909_0
     replace hx909_1 := cb_ HB.out hx909_1
     replace p909 := eq_true p909
     replace q909 := eq_true q909
     have p910 : 0 ≤ (x4_1 : Int) := dt_
     have q910 : x4_1 < (l0.length : Int) := dt_
     obtain ⟨ad910, e910, hx910_0, hx910_1⟩ := at_T109 HR0.out x4_1 p910 q910
     obtain rfl : ad909 = ad910 := (by injection e910)
     replace hx910_0 := cb_ HB.out hx910_0
     replace hx910_1 := cb_ HB.out hx910_1
     replace p910 := eq_true p910
     replace q910 := eq_true q910
     go_wp2_with (first | (go_at_call 79; (with_reducible refine (spec_HexText.calls k1 ((rd_T109 l0 x4_1).f1) t911 _ A9.out).mono ?_); rintro e w' ⟨rfl, ⟨nd, rfl⟩⟩; (try first | exact ⟨rfl, _, World.drewN_drewN _ _ _⟩ | exact ⟨rfl, _, Eq.trans (World.drewN_drewN _ _ _) (congrArg (World.drewN _) (Nat.add_assoc _ _ _))⟩)))
     repeat (go_quiet (first | (go_at_call 79; (with_reducible refine (spec_HexText.calls k1 ((rd_T109 l0 x4_1).f1) t911 _ A9.out).mono ?_); rintro e w' ⟨rfl, ⟨nd, rfl⟩⟩; (try first | exact ⟨rfl, _, World.drewN_drewN _ _ _⟩ | exact ⟨rfl, _, Eq.trans (World.drewN_drewN _ _ _) (congrArg (World.drewN _) (Nat.add_assoc _ _ _))⟩))); try go_wp2_with (first | (go_at_call 79; (with_reducible refine (spec_HexText.calls k1 ((rd_T109 l0 x4_1).f1) t911 _ A9.out).mono ?_); rintro e w' ⟨rfl, ⟨nd, rfl⟩⟩; (try first | exact ⟨rfl, _, World.drewN_drewN _ _ _⟩ | exact ⟨rfl, _, Eq.trans (World.drewN_drewN _ _ _) (congrArg (World.drewN _) (Nat.add_assoc _ _ _))⟩))))
     go_roundg k1
     case measure => have := HK1.out; omega
     case rel => exact ⟨((((x3_1 ++ ((rd_T109 l0 x4_1).f0)) ++ (⟨#[61]⟩ : ByteArray)) ++ t911) ++ (⟨#[59]⟩ : ByteArray)), (wrap64 (x4_1 + 1)), rs_, rs_, H', ⟨by have := HK1.out; omega⟩, ⟨hb_⟩⟩
    ·rw [if_neg c5] at H
     have c5b0 : decide (x4_1 < (l0.length : Int)) = false := decide_eq_false c5
     clear c5
     obtain rfl := Option.some.inj H
     go_wp2
     repeat (go_quiet (fail); try go_wp2)
     go_ret
     exact ⟨er_, hb_⟩
 ·replace c3 := Bool.eq_false_iff.mpr c3
  subst c3
  have H1 : (some (⟨#[]⟩ : ByteArray)) = some r := by rw [if_neg (show ¬ (false = true) by decide)] at H; exact H
  clear H
  have H := H1
  clear H1
  obtain rfl := Option.some.inj H
  go_enter Try.func96, Try.ntmps96
  go_wp2_with (first | (go_at_call 103; (with_reducible refine (spec_EntriesValid.calls k _ _ l0 false _ ?side1 ?side2 A2.out).mono ?_); (case side1 => exact kC_ HR0.out); (case side2 => exact HC0.out); rintro e w12 ⟨rfl, hb⟩; replace HB := Aside0.mk (below_step hb_ hb); (try clear hb)))
  repeat (go_quiet (first | (go_at_call 103; (with_reducible refine (spec_EntriesValid.calls k _ _ l0 false _ ?side1 ?side2 A2.out).mono ?_); (case side1 => exact kC_ HR0.out); (case side2 => exact HC0.out); rintro e w12 ⟨rfl, hb⟩; replace HB := Aside0.mk (below_step hb_ hb); (try clear hb))); try go_wp2_with (first | (go_at_call 103; (with_reducible refine (spec_EntriesValid.calls k _ _ l0 false _ ?side1 ?side2 A2.out).mono ?_); (case side1 => exact kC_ HR0.out); (case side2 => exact HC0.out); rintro e w12 ⟨rfl, hb⟩; replace HB := Aside0.mk (below_step hb_ hb); (try clear hb))))
  go_ret
  exact ⟨er_, hb_⟩
/-! ### spec_EmptyRoot: function 89 -/
def spec_EmptyRoot.f (k : Nat) (l0 : List (S65)) : Option ((List (S65)) × Int × Bool) := (spec_FolderText.f k (([] : List (S109)))).bind fun t915 => ((spec_PutText.f k l0 t915).bind fun bt916 => (some (bt916.1, bt916.2.1, bt916.2.2)))
set_option maxHeartbeats 8000000 in
set_option maxRecDepth 100000 in
theorem spec_EmptyRoot.calls (k : Nat) (A0 : Option Addr) (c0 : Nat) (l0 : List (S65)) (r1 : List (S65)) (r2 : Int) (r3 : Bool) (w : World) (hr0 : Kd.C k65 w A0 l0.length l0) (hc0 : l0.length ≤ c0) (h : spec_EmptyRoot.f k l0 = some (r1, r2, r3)) :
  Calls Try.prog 89 #[.slice A0 l0.length c0] w fun e w' => ∃ v0_ : Value, e = .returned (.tuple #[v0_, .int .i64 r2, .bool r3]) ∧ Kd.R k65 65 w' w.heap.size (fun _ => True) v0_ r1 ∧ Below w.heap.size w w' := by
 have HR0 := Aside0.mk hr0
 have HC0 := Aside0.mk hc0
 clear hr0 hc0
 have HB := Aside0.mk (Below.refl w.heap.size w)
 have H : ((spec_FolderText.f k (([] : List (S109)))).bind fun t915 => ((spec_PutText.f k l0 t915).bind fun bt916 => (some (bt916.1, bt916.2.1, bt916.2.2)))) = some (r1, r2, r3) := h
 clear h
 obtain ⟨y912, hy912⟩ : ∃ y_ : List (S109), y_ = (([] : List (S109))) := ⟨_, rfl⟩
 replace H : ((spec_FolderText.f k y912).bind fun t915 => ((spec_PutText.f k l0 t915).bind fun bt916 => (some (bt916.1, bt916.2.1, bt916.2.2)))) = some (r1, r2, r3) := hq_ hy912 H
 have Ny912 := Aside0.mk hy912
 clear hy912
 replace H := Option.bind_eq_some_iff.mp H
 obtain ⟨t915, A20, H⟩ := H
 replace H : ((spec_PutText.f k l0 t915).bind fun bt916 => (some (bt916.1, bt916.2.1, bt916.2.2))) = some (r1, r2, r3) := H
 have A2 := Aside0.mk A20
 clear A20
 replace H := Option.bind_eq_some_iff.mp H
 obtain ⟨⟨t916, t917, t918⟩, A30, H⟩ := H
 replace H : (some (t916, t917, t918)) = some (r1, r2, r3) := H
 have A3 := Aside0.mk A30
 clear A30
 simp only [Option.some.injEq, Prod.mk.injEq] at H
 obtain ⟨rfl, rfl, rfl⟩ := H
 go_enter Try.func89, Try.ntmps89
 go_wp2_with (first | ((with_reducible refine gate_dst (N := 6) rfl ?_); refine Kd.R_lit k109 _ 109 ?hg (N := 6) ?hd (xs := ([] : List (S109))) (inner := []) (ok := fun _ => True) (okp := fun _ => True) ?hr ?hp (fun _ hk => hk) trivial (Below.refl _ _) (Nat.le_refl _) (by simp) ?_; (case hd => rfl); (case hg => rfl); (case hr => first | (go_simp; done) | (go_simp; rfl)); (case hp => exact (Reps.none _ _)); intro v913 w4 ho5 hb hg_ hnew_; clear hg_ hnew_; (first | rw [← Ny912.out] at ho5 | (simp only [Int.reduceToNat] at ho5; rw [← Ny912.out] at ho5)); have HO914 := Aside0.mk (Kd.R_lower ho5 (below_size hb_)); replace HB := Aside0.mk (below_step hb_ hb); clear hb ho5; obtain ⟨Ao6, co6, eo6⟩ := Kd.R_slice HO914.out; subst eo6) | ((with_reducible refine gate_callee (f := 96) rfl ?_); refine gl_ (some 7) Try.func96 #[.slice Ao6 y912.length co6] ?_; (with_reducible refine (spec_FolderText.calls k _ _ y912 t915 _ ?side1 ?side2 A2.out).mono ?_); (case side1 => exact kC_ ((Kd.R_reads' HO914.out).2.2)); (case side2 => exact (Kd.R_reads' HO914.out).2.1); rintro e w7 ⟨rfl, hb⟩; refine ⟨_, rfl, ?_⟩; replace HO914 := Aside0.mk (Kd.R_below (kR_ HO914.out) hb); replace HB := Aside0.mk (below_step hb_ hb); (try clear hb); (try clear hk)) | ((with_reducible refine gate_callee (f := 57) rfl ?_); refine gl_ (some 8) Try.func57 #[.slice A0 l0.length c0, .string t915] ?_; (with_reducible refine (spec_PutText.calls k _ _ l0 t915 t916 t917 t918 _ ?side1 ?side2 A3.out).mono ?_); (case side1 => exact kC_ (Kd.C_below HR0.out HB.out)); (case side2 => exact HC0.out); rintro e w8 ⟨v919, rfl, ho0, hb⟩; refine ⟨_, rfl, ?_⟩; replace HO914 := Aside0.mk (Kd.R_below (kR_ HO914.out) hb); have HO920 := Aside0.mk (Kd.R_lower ho0 (below_size hb_)); replace HB := Aside0.mk (below_step hb_ hb); (try clear hb); (try clear hk); (try clear ho0)))
 go_ret3
 exact ⟨_, er_, by refine kR_ ?_; exact HO920.out, hb_⟩
end Go.Proofs.Ytcbmkonigclceaa.P
