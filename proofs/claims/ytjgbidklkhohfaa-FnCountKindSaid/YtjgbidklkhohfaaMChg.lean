/- What the functions over files come to. -/
import Derived.Test.YtjgbidklkhohfaaPx0
import Derived.Test.YtjgbidklkhohfaaPx11
import Derived.Test.YtjgbidklkhohfaaFilesS
import Derived.Test.YtjgbidklkhohfaaTexts
import Derived.Test.YtjgbidklkhohfaaWalk
namespace Go.Proofs.Ytjgbidklkhohfaa.Mod
open Go.RowKit Go.Proofs.Ytjgbidklkhohfaa.P Go.Proofs.Ytjgbidklkhohfaa.EvK Go.Proofs.YtjgbidklkhohfaaW.PrintWords Go.Proofs.YtjgbidklkhohfaaW.PrintLast
set_option linter.all false
noncomputable def gone (l : List S45) (r2 : Int) : List ByteArray → List S37
 | [] => []
 | p :: F => if (readAt l r2 p).2 = true then gone l r2 F else ⟨p, 2⟩ :: gone l r2 F
open Classical in
noncomputable def fresh (l : List S45) (r1 r2 : Int) : List ByteArray → List S37
 | [] => []
 | p :: F => if (readAt l r1 p).2 = true then (if (readAt l r1 p).1 = (readAt l r2 p).1 then fresh l r1 r2 F else ⟨p, 1⟩ :: fresh l r1 r2 F) else ⟨p, 0⟩ :: fresh l r1 r2 F
noncomputable def changesOf (l : List S45) (r1 r2 : Int) : List S37 := gone l r2 (allFiles l r1) ++ fresh l r1 r2 (allFiles l r2)
theorem gone_len (l : List S45) (r2 : Int) : ∀ F, (gone l r2 F).length ≤ F.length := by
 intro F
 induction F with
 | nil => simp [gone]
 | cons p F ih =>
  unfold gone
  split <;> simp <;> omega
theorem fresh_len (l : List S45) (r1 r2 : Int) : ∀ F, (fresh l r1 r2 F).length ≤ F.length := by
 intro F
 induction F with
 | nil => simp [fresh]
 | cons p F ih =>
  unfold fresh
  split
  ·split <;> simp <;> omega
  ·simp; omega
theorem changesOf_len (l : List S45) (r1 r2 : Int) : (changesOf l r1 r2).length ≤ 54 := by
 have h1 := gone_len l r2 (allFiles l r1)
 have h2 := fresh_len l r1 r2 (allFiles l r2)
 have h3 := allFiles_len l r1
 have h4 := allFiles_len l r2
 unfold changesOf
 rw [List.length_append]
 omega
theorem spec_changes_ev (l : List S45) (r1 r2 : Int) (hl : StoreSized l) : Ev (fun k => spec_ChangesOf.f k l r1 r2) (changesOf l r1 r2) := by
 unfold spec_ChangesOf.f changesOf
 have h27 := allFiles_len l r1
 have h28 := allFiles_size l r1
 have h27' := allFiles_len l r2
 have h28' := allFiles_size l r2
 rw [Ev_bd (spec_files_ev l r1 hl), Ev_bd (spec_files_ev l r2 hl)]
 generalize allFiles l r1 = F at *
 generalize allFiles l r2 = G at *
 have key2 : ∀ d i (acc : List S37), i + d = G.length → acc.length ≤ 27 + i → Ev (fun k => spec_ChangesOf.l1 k l r1 r2 acc G (i : Int)) (acc ++ fresh l r1 r2 (G.drop i)) := by
  intro d
  induction d with
  | zero =>
   intro i acc hi ha
   refine Ev_succ.mpr ?_
   simp only [spec_ChangesOf.l1]
   rw [Ev_neg (by omega), List.drop_eq_nil_of_le (by omega), fresh]
   exact Ev_some.mpr (by simp)
  | succ d ih =>
   intro i acc hi ha
   have hs := h28' _ (mem_getD G ByteArray.empty i (by omega))
   refine Ev_succ.mpr ?_
   simp only [spec_ChangesOf.l1, rdT_nat, w64s i (by omega)]
   rw [Ev_pos (by omega), Ev_pos (by omega), Ev_bd (spec_readAt_ev l r2 _ hl (by omega)), Ev_bd (spec_readAt_ev l r1 _ hl (by omega)), drop_cons G ByteArray.empty i (by omega), fresh, Ev_ite]
   by_cases hb : (readAt l r1 (G.getD i ByteArray.empty)).2 = true
   ·rw [if_pos hb, if_pos hb, Ev_ite]
    by_cases hc : (readAt l r1 (G.getD i ByteArray.empty)).1 = (readAt l r2 (G.getD i ByteArray.empty)).1
    ·rw [if_pos (by rw [hc]), if_pos hc]
     exact ih (i + 1) acc (by omega) (by omega)
    ·rw [if_neg (fun g => hc (toList_iff.1 g)), if_neg hc, Ev_pos (by omega)]
     have := ih (i + 1) (acc ++ [⟨G.getD i ByteArray.empty, 1⟩]) (by omega) (by simp; omega)
     simpa using this
   ·rw [if_neg hb, if_neg hb, Ev_pos (by omega)]
    have := ih (i + 1) (acc ++ [⟨G.getD i ByteArray.empty, 0⟩]) (by omega) (by simp; omega)
    simpa using this
 have key : ∀ d i (acc : List S37), i + d = F.length → acc.length ≤ i → Ev (fun k => spec_ChangesOf.l0 k l r1 r2 acc F G (i : Int)) (acc ++ (gone l r2 (F.drop i) ++ fresh l r1 r2 G)) := by
  intro d
  induction d with
  | zero =>
   intro i acc hi ha
   refine Ev_succ.mpr ?_
   simp only [spec_ChangesOf.l0]
   rw [Ev_neg (by omega), List.drop_eq_nil_of_le (by omega), gone, List.nil_append]
   exact key2 G.length 0 acc (by omega) (by omega)
  | succ d ih =>
   intro i acc hi ha
   have hs := h28 _ (mem_getD F ByteArray.empty i (by omega))
   refine Ev_succ.mpr ?_
   simp only [spec_ChangesOf.l0, rdT_nat, w64s i (by omega)]
   rw [Ev_pos (by omega), Ev_pos (by omega), Ev_bd (spec_readAt_ev l r2 _ hl (by omega)), drop_cons F ByteArray.empty i (by omega), gone, Ev_ite]
   by_cases hb : (readAt l r2 (F.getD i ByteArray.empty)).2 = true
   ·rw [if_pos hb, if_pos hb]
    exact ih (i + 1) acc (by omega) (by omega)
   ·rw [if_neg hb, if_neg hb, Ev_pos (by omega)]
    have := ih (i + 1) (acc ++ [⟨F.getD i ByteArray.empty, 2⟩]) (by omega) (by simp; omega)
    simpa using this
 have := key F.length 0 [] (by omega) (by simp)
 simpa using this
end Go.Proofs.Ytjgbidklkhohfaa.Mod
