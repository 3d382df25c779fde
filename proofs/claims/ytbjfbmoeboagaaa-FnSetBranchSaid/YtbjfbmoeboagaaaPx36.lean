-- The functions of the seat as plain Lean functions, made by the kit's print.py for all laws at once. Not trusted: Lean checks it.
import Derived.Test.YtbjfbmoeboagaaaPx0
import Derived.Test.YtbjfbmoeboagaaaPx35
namespace Go.Proofs.Ytbjfbmoeboagaaa.P
open Go.RowKit Go.Proofs.YtbjfbmoeboagaaaW.PrintWords Go.Proofs.YtbjfbmoeboagaaaW.PrintLast Go.Proofs.YtbjfbmoeboagaaaW.PrintMore
attribute [local go_sem] max2_int min2_int max_two min_two max_three min_three max_four min_four   -- for this text's walks alone
set_option linter.unusedVariables false
set_option linter.unusedSimpArgs false

/-! ### impl_findBranch: function 69, with its search and its comparison (by a text of my own) -/
def impl_findBranch.l0 : Nat → List (S64) → ByteArray → Int → Int → Option Int
  | 0, _, _, _, _ => none
  | k + 1, xs, t, i, j => if i < j then (if 0 ≤ i then (if j ≤ (xs.length : Int) ∧ (xs.length : Int) ≤ 4611686018427387903 then ((impl_findBranch_1.f (rd_T64 xs ((i + j) / 2)).f0 (rd_T64 xs ((i + j) / 2)).f1 t).bind fun c => (if c < 0 then impl_findBranch.l0 k xs t ((i + j) / 2 + 1) j else impl_findBranch.l0 k xs t i ((i + j) / 2))) else none) else none) else some i
def impl_findBranch.f (k : Nat) (xs : List (S64)) (t : ByteArray) : Option (Int × Bool) := (impl_findBranch.l0 k xs t 0 (xs.length : Int)).bind fun i => (if 0 ≤ i then (if i < (xs.length : Int) then ((impl_findBranch_1.f (rd_T64 xs i).f0 (rd_T64 xs i).f1 t).bind fun c => some (i, c == 0)) else some (i, false)) else none)
theorem impl_findBranch.mono_l : ∀ k, (∀ y0 y1 y2 y3, LeO (impl_findBranch.l0 k y0 y1 y2 y3) (impl_findBranch.l0 (k + 1) y0 y1 y2 y3))
  | 0 => fun _ _ _ _ r h => by simp [impl_findBranch.l0] at h
  | k + 1 => by
    have ih0 := impl_findBranch.mono_l k
    intro y0 y1 y2 y3
    unfold impl_findBranch.l0
    repeat' first
      | (with_reducible exact ih0 _ _ _ _)
      | (with_reducible exact LeO.refl _)
      | (with_reducible exact LeO.none _)
      | (with_reducible refine LeO.ite ?_ ?_)
      | (with_reducible refine LeO.bind ?_ (fun _ => ?_))
theorem impl_findBranch.mono : ∀ a0 a1 k, LeO (impl_findBranch.f k a0 a1) (impl_findBranch.f (k + 1) a0 a1) := by
  intro a0 a1 k
  have ih0 := impl_findBranch.mono_l k
  unfold impl_findBranch.f
  repeat' first
      | (with_reducible exact ih0 _ _ _ _)
      | (with_reducible exact LeO.refl _)
      | (with_reducible exact LeO.none _)
      | (with_reducible refine LeO.ite ?_ ?_)
      | (with_reducible refine LeO.bind ?_ (fun _ => ?_))
set_option maxHeartbeats 8000000 in
set_option maxRecDepth 100000 in
theorem impl_findBranch.search (k : Nat) (A0 : Option Addr) (c0 : Nat) (l0 : List (S64)) (t : ByteArray) (r1 : Int) (r2 : Bool) (w : World) (hr0 : Kd.C k64 w A0 l0.length l0) (hc0 : l0.length ≤ c0) (h : impl_findBranch.f k l0 t = some (r1, r2)) :
    Calls Try.prog 84 #[.slice A0 l0.length c0, .string t, .func (.func 85) #[] #[]] w fun e w' => e = .returned (.tuple #[.int .i64 r1, .bool r2]) ∧ Below w.heap.size w w' := by
  have hn := hr0.2.1
  have HR0 := Aside0.mk hr0
  have HC0 := Aside0.mk hc0
  clear hr0 hc0
  have HB := Aside0.mk (Below.refl w.heap.size w)
  unfold impl_findBranch.f at h
  replace h := Option.bind_eq_some_iff.mp h
  obtain ⟨res, hl, hres⟩ := h
  have HL := Aside0.mk hl
  have HE := Aside0.mk hres
  clear hl hres
  go_enter Try.func84, Try.ntmps84
  go_wp2
  go_loopg [9, 10] k (fun kq s9 s10 w' => ∃ (i j : Int), s9 = .int .i64 i ∧ s10 = .int .i64 j ∧ Aside0 (impl_findBranch.l0 kq l0 t i j = some res) ∧ Aside0 (kq ≤ k) ∧ Aside0 (Below w.heap.size w w'))
  case atStart => exact ⟨0, l0.length, rfl, rfl, HL, ⟨Nat.le_refl _⟩, HB⟩
  case round =>
    clear HL HB
    obtain ⟨i, j, rfl, rfl, HA, HK, HB⟩ := hrel
    cases gk with
    | zero => exact absurd HA.out (by simp [impl_findBranch.l0])
    | succ k1 =>
      have H := HA.out
      clear HA
      simp only [impl_findBranch.l0] at H
      by_cases hij : i < j
      · rw [if_pos hij] at H
        by_cases h0 : 0 ≤ i
        case neg => rw [if_neg h0] at H; cases H
        rw [if_pos h0] at H
        by_cases h1 : j ≤ (l0.length : Int) ∧ (l0.length : Int) ≤ 4611686018427387903
        case neg => rw [if_neg h1] at H; cases H
        rw [if_pos h1] at H
        replace H := Option.bind_eq_some_iff.mp H
        obtain ⟨c, hc, H⟩ := H
        have hw : wrap64 (i + j) = i + j := by unfold wrap64; omega
        obtain ⟨ad, e, hx0, hx1⟩ := at_T64 HR0.out ((i + j) / 2) (by omega) (by omega)
        cases e
        replace hx0 := (HB.out.cell (World.block_lt_of_cell? w _ hx0)).trans hx0
        replace hx1 := (HB.out.cell (World.block_lt_of_cell? w _ hx1)).trans hx1
        have HC := Aside0.mk hc
        clear hc
        have lo2 : 0 ≤ (i + j) / 2 := by omega
        have hi2 : (i + j) / 2 < (l0.length : Int) := by omega
        by_cases hcz : c < 0
        · rw [if_pos hcz] at H
          have HH := Aside0.mk H
          clear H
          go_wp2_with fail
          refine (impl_findBranch_1.calls _ _ _  c _ HC.out).mono ?_
          rintro e w' ⟨rfl, hb⟩
          have HB2 := Aside0.mk (below_step HB.out hb)
          clear HB hb
          have HB := HB2
          clear HB2
          go_wp2
          go_roundg k1
          case measure => have := HK.out; omega
          case rel => exact ⟨(i + j) / 2 + 1, j, rfl, rfl, HH, ⟨by have := HK.out; omega⟩, HB⟩
        · rw [if_neg hcz] at H
          have HH := Aside0.mk H
          clear H
          go_wp2_with fail
          refine (impl_findBranch_1.calls _ _ _  c _ HC.out).mono ?_
          rintro e w' ⟨rfl, hb⟩
          have HB2 := Aside0.mk (below_step HB.out hb)
          clear HB hb
          have HB := HB2
          clear HB2
          go_wp2
          go_roundg k1
          case measure => have := HK.out; omega
          case rel => exact ⟨i, (i + j) / 2, rfl, rfl, HH, ⟨by have := HK.out; omega⟩, HB⟩
      · rw [if_neg hij] at H
        obtain rfl := Option.some.inj H
        have E := HE.out
        clear HE H
        by_cases h0 : 0 ≤ i
        case neg => rw [if_neg h0] at E; cases E
        rw [if_pos h0] at E
        by_cases hin : i < (l0.length : Int)
        · rw [if_pos hin] at E
          replace E := Option.bind_eq_some_iff.mp E
          obtain ⟨c, hc, E⟩ := E
          obtain ⟨rfl, rfl⟩ := Prod.mk.inj (Option.some.inj E)
          obtain ⟨ad, e, hx0, hx1⟩ := at_T64 HR0.out i h0 hin
          cases e
          replace hx0 := (HB.out.cell (World.block_lt_of_cell? w _ hx0)).trans hx0
          replace hx1 := (HB.out.cell (World.block_lt_of_cell? w _ hx1)).trans hx1
          have HC := Aside0.mk hc
          clear hc E
          go_wp2_with fail
          refine (impl_findBranch_1.calls _ _ _  c _ HC.out).mono ?_
          rintro e w' ⟨rfl, hb⟩
          have HB2 := Aside0.mk (below_step HB.out hb)
          clear HB hb
          have HB := HB2
          clear HB2
          go_wp2
          go_ret2
          exact ⟨rfl, HB.out⟩
        · rw [if_neg hin] at E
          obtain ⟨rfl, rfl⟩ := Prod.mk.inj (Option.some.inj E)
          clear E
          go_wp2
          go_ret2
          exact ⟨rfl, HB.out⟩
set_option maxHeartbeats 4000000 in
theorem impl_findBranch.calls (k : Nat) (A0 : Option Addr) (c0 : Nat) (l0 : List (S64)) (a1 : ByteArray) (r1 : Int) (r2 : Bool) (w : World) (hr0 : Kd.C k64 w A0 l0.length l0) (hc0 : l0.length ≤ c0) (h : impl_findBranch.f k l0 a1 = some (r1, r2)) :
    Calls Try.prog 69 #[.slice A0 l0.length c0, .string a1] w fun e w' => e = .returned (.tuple #[.int .i64 r1, .bool r2]) ∧ Below w.heap.size w w' := by
  go_enter Try.func69, Try.ntmps69
  go_wp2_with fail
  refine (impl_findBranch.search k _ _ _ _ _ _ _ hr0 hc0 h).mono ?_
  rintro e w' ⟨rfl, hb⟩
  have HB := Aside0.mk hb
  clear hb
  go_wp2
  go_ret2
  exact ⟨rfl, HB.out⟩

end Go.Proofs.Ytbjfbmoeboagaaa.P
