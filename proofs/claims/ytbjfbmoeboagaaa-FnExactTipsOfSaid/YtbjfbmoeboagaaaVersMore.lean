/- What valid versions are. -/
import Derived.Test.YtbjfbmoeboagaaaVers
namespace Go.Proofs.Ytbjfbmoeboagaaa.Mod
open Go.RowKit Go.Proofs.Ytbjfbmoeboagaaa.P Go.Proofs.Ytbjfbmoeboagaaa.EvK Go.Proofs.YtbjfbmoeboagaaaW.PrintWords Go.Proofs.YtbjfbmoeboagaaaW.PrintLast
set_option linter.unusedVariables false
set_option linter.unusedSimpArgs false
theorem versionsValid_len {l : List S25} (h : versionsValid l = true) : l.length ≤ 12 := by
  unfold versionsValid at h
  simp only [Bool.and_eq_true, decide_eq_true_eq] at h
  omega
theorem versionsValid_at {l : List S25} (h : versionsValid l = true) {i : Nat} (hi : i < l.length) : versOk i (l.getD i z25) = true := by
  unfold versionsValid at h
  simp only [Bool.and_eq_true] at h
  exact allN_iff.1 h.1 i hi
theorem wordValid_size {s : ByteArray} (h : wordValid s = true) : s.size ≤ 8 := by
  unfold wordValid at h
  simp only [Bool.and_eq_true] at h
  have := (inB_iff.1 h.2).2
  omega
theorem versionsValid_sized {l : List S25} (h : versionsValid l = true) : VersSized l := by
  refine ⟨by have := versionsValid_len h; omega, fun v hv => ?_⟩
  obtain ⟨i, hi, rfl⟩ := List.getElem_of_mem hv
  have := versionsValid_at h hi
  rw [List.getD_eq_getElem?_getD, List.getElem?_eq_getElem hi] at this
  unfold versOk at this
  simp only [Option.getD_some, Bool.and_eq_true] at this
  have := wordValid_size this.2
  omega
end Go.Proofs.Ytbjfbmoeboagaaa.Mod
