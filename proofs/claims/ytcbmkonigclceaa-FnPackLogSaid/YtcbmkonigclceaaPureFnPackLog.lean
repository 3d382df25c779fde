/- The pure statement of FnPackLog: proved. -/
import Derived.Test.YtcbmkonigclceaaStmtFnPackLog
import Derived.Test.YtcbmkonigclceaaRecAllP
namespace Go.Proofs.Ytcbmkonigclceaa.Pure
open Go.RowKit Go.Proofs.Ytcbmkonigclceaa.P Go.Proofs.Ytcbmkonigclceaa.EvK Go.Proofs.Ytcbmkonigclceaa.Mod Go.Proofs.YtcbmkonigclceaaW.PrintWords
theorem drawPack_p (l : List Int) (hl : ∀ x ∈ l, 0 ≤ x ∧ x ≤ 255) : EvP (fun k => spec_DrawPackLog.f k l) (fun r => DrawnL r) := by
  obtain ⟨bs, ho, h0⟩ := open_ev l hl
  unfold spec_DrawPackLog.f
  simp only [ho, Option.bind_some]
  refine EvP_bp (log_p h0 (by omega) 9 (by omega)) ?_
  rintro ⟨x, q⟩ ⟨h, h1, h2⟩
  exact EvP_some.mpr h
theorem doneP_ones : ∀ (ts : List ByteArray) (d p : List ByteArray), doneL (d, p, true) (ts.map fun t => (⟨1, t⟩ : S39)) = (d, p ++ ts, true)
  | [], d, p => by simp [doneL]
  | t :: ts, d, p => by
    rw [List.map_cons, doneL_cons]
    have : stepD (d, p, true) ⟨1, t⟩ = (d, p ++ [t], true) := by simp [stepD]
    rw [this, doneP_ones ts]
    simp
theorem doneP_tail (s : DoneS) (ts : List ByteArray) : (doneL s (addTail ts)).1 = s.1 ++ ts := by
  unfold addTail
  rw [List.cons_append, doneL_cons]
  have : stepD s ⟨0, ⟨#[]⟩⟩ = (s.1, [], true) := by simp [stepD]
  rw [this, doneL_append, doneP_ones]
  simp [doneL, stepD]
theorem ones_tail (ts : List ByteArray) : ones (addTail ts) = ts.length := by
  unfold addTail
  rw [List.cons_append, ones_cons, if_neg (by simp)]
  induction ts with
  | nil => rfl
  | cons t ts ih =>
    rw [List.map_cons, List.cons_append, ones_cons, if_pos rfl, ih]
    simp
open Classical in
/-- What is new among texts. -/
noncomputable def fresh : List ByteArray → List ByteArray → List ByteArray
  | _, [] => []
  | acc, t :: ts => if t ∈ acc then fresh acc ts else t :: fresh (acc ++ [t]) ts
theorem dedup_fresh : ∀ (ts acc : List ByteArray), dedupT acc ts = acc ++ fresh acc ts
  | [], acc => by simp [dedupT, fresh]
  | t :: ts, acc => by
    rw [dedupT_cons, fresh]
    by_cases h : t ∈ acc
    · rw [if_pos h, if_pos h, dedup_fresh ts acc]
    · rw [if_neg h, if_neg h, dedup_fresh ts (acc ++ [t])]
      simp
theorem fresh_rec : ∀ (ts acc : List ByteArray) (s : List S65), storeValid s = true → (∀ a ∈ acc, textValid a = true ∧ (⟨printOf a, a⟩ : S65) ∈ s) → recL s (fresh acc ts) = recL s ts
  | [], acc, s, _, _ => rfl
  | t :: ts, acc, s, hs, ha => by
    rw [fresh]
    by_cases h : t ∈ acc
    · have := ha t h
      rw [if_pos h, recL, putT_again hs this.1 this.2, if_pos rfl]
      exact fresh_rec ts acc s hs ha
    · rw [if_neg h, recL, recL]
      by_cases hp : (putT s t).2.2 = true
      · rw [if_pos hp, if_pos hp]
        obtain ⟨-, p2, p3, p4, p5, -, -, -⟩ := putT_ok hp
        refine fresh_rec ts (acc ++ [t]) _ p3 (fun a hm => ?_)
        rcases List.mem_append.1 hm with hm | hm
        · exact ⟨(ha a hm).1, p5 _ (ha a hm).2⟩
        · rw [List.mem_singleton.1 hm]
          exact ⟨p2, p4⟩
      · rw [if_neg hp, if_neg hp]
theorem fresh_not : ∀ (ts acc : List ByteArray), ∀ t ∈ fresh acc ts, t ∉ acc
  | [], acc, t, h => by simp [fresh] at h
  | u :: ts, acc, t, h => by
    rw [fresh] at h
    by_cases hu : u ∈ acc
    · rw [if_pos hu] at h
      exact fresh_not ts acc t h
    · rw [if_neg hu] at h
      rcases List.mem_cons.1 h with rfl | h
      · exact hu
      · exact fun g => fresh_not ts (acc ++ [u]) t h (List.mem_append_left _ g)
theorem fresh_fresh : ∀ (ts acc acc2 : List ByteArray), (∀ a, a ∈ acc2 → a ∈ acc) → fresh acc2 (fresh acc ts) = fresh acc ts
  | [], acc, acc2, _ => rfl
  | t :: ts, acc, acc2, h => by
    rw [fresh]
    by_cases ht : t ∈ acc
    · rw [if_pos ht]
      exact fresh_fresh ts acc acc2 h
    · rw [if_neg ht, fresh, if_neg (fun g => ht (h t g)), fresh_fresh ts (acc ++ [t]) (acc2 ++ [t]) (fun a ha => ?_)]
      rcases List.mem_append.1 ha with ha | ha
      · exact List.mem_append_left _ (h a ha)
      · exact List.mem_append_right _ ha
theorem FnPackLog : laws_FnPackLog.Stmt := by
  intro l hl hq
  refine Ev.rounds (g := fun k => laws_FnPackLog.f k l) ?_
  obtain ⟨x, hd, hx⟩ := drawPack_p l (fun z h => wf_u8 (hq z h))
  have hs := hx.sized
  have hlen := hx.len
  have hpl := packLog_len x
  have hrl := recS_len x
  unfold laws_FnPackLog.f
  rw [Ev_ite]
  split
  · exact Ev_some.mpr rfl
  rw [Ev_bd hd, Ev_bd (impl_pack_ev x hs), Ev_bd (spec_pack_ev x hs), Ev_bd (sameLog_ev _ _ (by omega)), Ev_pos (eqb_self _), Ev_ite]
  by_cases h0 : ((packLog x).length : Int) = 0
  · rw [if_pos h0, Ev_bd alive_ev]
    exact Ev_some.mpr rfl
  rw [if_neg h0]
  have hv : logValid x = true := by
    unfold packLog at h0
    by_cases h : logValid x = true
    · exact h
    · rw [if_neg h] at h0
      simp at h0
  have nilV : logValid ([] : List S39) = true := logValid_mem.2 ⟨fun v hv => by simp at hv, by simp⟩
  obtain ⟨ts, hts⟩ : ∃ ts, ts = fresh [] (logDone x) := ⟨_, rfl⟩
  have edd : dedupT [] (logDone x) = ts := by rw [dedup_fresh, hts]; rfl
  have hok : logValid (addTail ts) = true ∧ packLog x = addTail ts := by
    unfold packLog at h0 ⊢
    rw [if_pos hv, edd] at h0 ⊢
    unfold logAdd at h0 ⊢
    rw [if_pos nilV, List.nil_append] at h0 ⊢
    by_cases h2 : logValid (addTail ts) = true
    · rw [if_pos h2, if_pos rfl]
      exact ⟨h2, rfl⟩
    · rw [if_neg h2, if_neg (by simp)] at h0
      simp at h0
  obtain ⟨hyv, hy⟩ := hok
  have hys := logValid_sized hyv
  have hyd : logDone (addTail ts) = ts := by
    unfold logDone
    rw [if_pos hyv, doneP_tail]
    rfl
  have hrec : recS (addTail ts) = recS x := by
    unfold recS
    rw [if_pos hyv, if_pos hv, hyd, hts]
    exact fresh_rec (logDone x) [] [] storeNil (fun a ha => by simp at ha)
  have hpack : packLog (addTail ts) = addTail ts := by
    have e2 : dedupT [] ts = ts := by
      rw [dedup_fresh, hts, fresh_fresh _ _ _ (fun a ha => ha)]
      rfl
    unfold packLog logAdd
    rw [if_pos hyv, hyd, e2, if_pos nilV, List.nil_append, if_pos hyv, if_pos rfl]
  have hlost : logLost (addTail ts) = 0 := by
    unfold logLost
    rw [if_pos hyv, hyd, ones_tail]
    omega
  rw [hy] at hpl ⊢
  rw [Ev_bd (impl_rec_ev x hs), Ev_bd (impl_rec_ev _ hys), hrec, Ev_pos (by simp), Ev_bd (samePieces_ev _ _ (by omega)), Ev_pos (eqb_self _), Ev_bd (impl_pack_ev _ hys), hpack, Ev_bd (sameLog_ev _ _ (by omega)), Ev_pos (eqb_self _), Ev_bd (impl_lost_ev _ hys), hlost]
  exact Ev_some.mpr rfl
end Go.Proofs.Ytcbmkonigclceaa.Pure
