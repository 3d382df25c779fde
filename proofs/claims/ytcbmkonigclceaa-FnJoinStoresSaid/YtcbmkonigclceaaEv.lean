/- Small laws on answers that come from some number of rounds on ('Ev'), and on loops over lists. Plain Lean; no program in it. -/
import Derived.Test.YtcbmkonigclceaaVMore
import Derived.WideShapes
import Derived.Laws.Strings
namespace Go.Proofs.Ytcbmkonigclceaa.EvK
open Go.RowKit Go.Proofs.YtcbmkonigclceaaW.PrintWords
set_option linter.all false

theorem Ev_some {α : Type} {a r : α} : Ev (fun _ => some a) r ↔ a = r := by
 constructor
 ·rintro ⟨K, h⟩
  exact Option.some.inj (h K (Nat.le_refl _))
 ·rintro rfl
  exact ⟨0, fun _ _ => rfl⟩
theorem Ev_none {α : Type} {r : α} : Ev (fun _ => (none : Option α)) r ↔ False := by
 constructor
 ·rintro ⟨K, h⟩
  exact absurd (h K (Nat.le_refl _)) (by simp)
 ·exact False.elim
theorem Ev_ite {α : Type} {c : Prop} [Decidable c] {A B : Nat → Option α} {r : α} : Ev (fun k => if c then A k else B k) r ↔ (if c then Ev A r else Ev B r) := by
 by_cases h : c <;> simp [h]
theorem Ev_pos {α : Type} {c : Prop} [Decidable c] (h : c) {A B : Nat → Option α} {r : α} : Ev (fun k => if c then A k else B k) r ↔ Ev A r := by simp [h]
theorem Ev_neg {α : Type} {c : Prop} [Decidable c] (h : ¬ c) {A B : Nat → Option α} {r : α} : Ev (fun k => if c then A k else B k) r ↔ Ev B r := by simp [h]
theorem Ev_uniq {α : Type} {g : Nat → Option α} {a b : α} (h : Ev g a) (h' : Ev g b) : a = b := by
 obtain ⟨K, h⟩ := h
 obtain ⟨K', h'⟩ := h'
 have h1 := h (max K K') (by omega)
 rw [h' (max K K') (by omega)] at h1
 exact (Option.some.inj h1).symm
theorem Ev_bs {α β : Type} {a : α} {f : Nat → α → Option β} {r : β} : Ev (fun k => (some a).bind (f k)) r ↔ Ev (fun k => f k a) r := by simp
theorem Ev_bd {α β : Type} {g : Nat → Option α} {f : Nat → α → Option β} {a : α} {r : β} (h : Ev g a) : Ev (fun k => (g k).bind (f k)) r ↔ Ev (fun k => f k a) r := by
 constructor
 ·rintro ⟨K, k⟩
  obtain ⟨K', h⟩ := h
  refine ⟨max K K', fun n hn => ?_⟩
  have h1 := h n (by omega)
  have h2 := k n (by omega)
  simp only [h1, Option.bind_some] at h2
  exact h2
 ·exact fun k => h.bind k
theorem Ev_b0 {α β : Type} {o : Option α} {f : Nat → α → Option β} {a : α} {r : β} (h : o = some a) : Ev (fun k => o.bind (f k)) r ↔ Ev (fun k => f k a) r := by simp [h]
theorem Ev_succ {α : Type} {g : Nat → Option α} {r : α} : Ev g r ↔ Ev (fun k => g (k + 1)) r := by
 constructor
 ·rintro ⟨K, h⟩
  exact ⟨K, fun n hn => h (n + 1) (by omega)⟩
 ·exact fun h => Ev.step (fun _ => rfl) h
theorem Ev_const {α : Type} {o : Option α} {r : α} : Ev (fun _ => o) r ↔ o = some r := by
 constructor
 ·rintro ⟨K, h⟩
  exact h K (Nat.le_refl _)
 ·exact fun h => ⟨0, fun _ _ => h⟩
theorem Ev_as {α : Type} {g f : Nat → Option α} {r : α} (h : Ev f r) (e : ∀ k, g (k + 1) = f k) : Ev g r := Ev.step e h

theorem w64 {x : Int} (h0 : -9223372036854775808 ≤ x) (h1 : x ≤ 9223372036854775807) : wrap64 x = x := by
 unfold wrap64
 omega
theorem w64s (i : Nat) (h : i < 9223372036854775807) : wrap64 ((i : Int) + 1) = ((i + 1 : Nat) : Int) := by
 rw [w64 (by omega) (by omega)]
 omega
theorem rd_nat (xs : List Int) (i : Nat) : rd xs (i : Int) = xs.getD i 0 := by simp [rd]
theorem drop_cons {α : Type} (xs : List α) (z : α) (i : Nat) (h : i < xs.length) : xs.drop i = xs.getD i z :: xs.drop (i + 1) := by
 rw [List.drop_eq_getElem_cons h]
 simp [List.getD_eq_getElem?_getD, List.getElem?_eq_getElem h]

def runL {α σ ρ : Type} (step : α → σ → σ ⊕ ρ) (fin : σ → ρ) : List α → σ → ρ
 | [], s => fin s
 | x :: xs, s => match step x s with
  | .inl s' => runL step fin xs s'
  | .inr r => r
theorem ev_loop {α σ ρ : Type} (xs : List α) (z : α) (g : Nat → σ → Int → Option ρ) (step : α → σ → σ ⊕ ρ) (fin : σ → ρ) (hn : xs.length ≤ 9223372036854775807)
  (hs : ∀ (i : Nat) (s : σ), i < xs.length → ∀ r, (match step (xs.getD i z) s with | .inl s' => Ev (fun k => g k s' ((i + 1 : Nat) : Int)) r | .inr r' => r' = r) → Ev (fun k => g k s (i : Int)) r)
  (he : ∀ s, Ev (fun k => g k s (xs.length : Int)) (fin s)) : ∀ (d i : Nat) (s : σ), i + d = xs.length → Ev (fun k => g k s (i : Int)) (runL step fin (xs.drop i) s) := by
 intro d
 induction d with
 | zero =>
  intro i s hi
  obtain rfl : i = xs.length := by omega
  rw [List.drop_length]
  exact he s
 | succ d ih =>
  intro i s hi
  have hlt : i < xs.length := by omega
  refine hs i s hlt _ ?_
  rw [drop_cons xs z i hlt]
  unfold runL
  split
  ·rename_i s' h
   simp only [h]
   exact ih (i + 1) s' (by omega)
  ·rename_i r h
   simp only [h]
theorem ev_loop0 {α σ ρ : Type} (xs : List α) (z : α) (g : Nat → σ → Int → Option ρ) (step : α → σ → σ ⊕ ρ) (fin : σ → ρ) (hn : xs.length ≤ 9223372036854775807)
  (hs : ∀ (i : Nat) (s : σ), i < xs.length → ∀ r, (match step (xs.getD i z) s with | .inl s' => Ev (fun k => g k s' ((i + 1 : Nat) : Int)) r | .inr r' => r' = r) → Ev (fun k => g k s (i : Int)) r)
  (he : ∀ s, Ev (fun k => g k s (xs.length : Int)) (fin s)) (s : σ) : Ev (fun k => g k s 0) (runL step fin xs s) :=
 ev_loop xs z g step fin hn hs he xs.length 0 s (by omega)
theorem ev_all {α : Type} (xs : List α) (z : α) (g : Nat → Int → Option Bool) (p : α → Bool) (hn : xs.length ≤ 9223372036854775807)
  (hs : ∀ (i : Nat), i < xs.length → ∀ r, (if p (xs.getD i z) = true then Ev (fun k => g k ((i + 1 : Nat) : Int)) r else false = r) → Ev (fun k => g k (i : Int)) r)
  (he : Ev (fun k => g k (xs.length : Int)) true) : Ev (fun k => g k 0) (xs.all p) := by
 have h := ev_loop0 (σ := Unit) xs z (fun k _ i => g k i) (fun x _ => if p x = true then .inl () else .inr false) (fun _ => true) hn (fun i _ hi r hr => hs i hi r (by
  by_cases hp : p (xs.getD i z) = true
  ·rw [if_pos hp]
   simp only [hp, if_true] at hr
   exact hr
  ·rw [if_neg hp]
   rw [if_neg hp] at hr
   exact hr)) (fun _ => he) ()
 have e : ∀ ys : List α, runL (fun x (_ : Unit) => if p x = true then Sum.inl () else Sum.inr false) (fun _ => true) ys () = ys.all p := by
  intro ys
  induction ys with
  | nil => rfl
  | cons y ys ih =>
   unfold runL
   by_cases hp : p y = true
   ·simp [hp, ih]
   ·simp [hp]
 rw [e] at h
 exact h
theorem ev_fold {α σ : Type} (xs : List α) (z : α) (g : Nat → σ → Int → Option σ) (f : σ → α → σ) (hn : xs.length ≤ 9223372036854775807)
  (hs : ∀ (i : Nat) (s : σ), i < xs.length → ∀ r, Ev (fun k => g k (f s (xs.getD i z)) ((i + 1 : Nat) : Int)) r → Ev (fun k => g k s (i : Int)) r)
  (he : ∀ s, Ev (fun k => g k s (xs.length : Int)) s) (s : σ) : Ev (fun k => g k s 0) (xs.foldl f s) := by
 have h := ev_loop0 xs z g (fun x s => .inl (f s x)) (fun s => s) hn (fun i s hi r hr => hs i s hi r hr) he s
 have e : ∀ (ys : List α) (s : σ), runL (fun x (s : σ) => (Sum.inl (f s x) : σ ⊕ σ)) (fun s => s) ys s = ys.foldl f s := by
  intro ys
  induction ys with
  | nil => intro s; rfl
  | cons y ys ih => intro s; exact ih (f s y)
 rw [e] at h
 exact h
def allN (n : Nat) (p : Nat → Bool) : Bool := (List.range n).all p
theorem allN_iff {n : Nat} {p : Nat → Bool} : allN n p = true ↔ ∀ i, i < n → p i = true := by simp [allN, List.all_eq_true]
theorem allN_congr {n : Nat} {p q : Nat → Bool} (h : ∀ i, i < n → p i = q i) : allN n p = allN n q := by
 rw [Bool.eq_iff_iff, allN_iff, allN_iff]
 exact ⟨fun g i hi => by rw [← h i hi]; exact g i hi, fun g i hi => by rw [h i hi]; exact g i hi⟩
theorem ev_allN (n : Nat) (g : Nat → Int → Option Bool) (p : Nat → Bool) (e : Bool)
  (hs : ∀ (i : Nat), i < n → ∀ r, (if p i = true then Ev (fun k => g k ((i + 1 : Nat) : Int)) r else false = r) → Ev (fun k => g k (i : Int)) r)
  (he : Ev (fun k => g k (n : Int)) e) : Ev (fun k => g k 0) (allN n p && e) := by
 classical
 have key : ∀ d i, i + d = n → Ev (fun k => g k (i : Int)) ((decide (∀ j, i ≤ j → j < n → p j = true)) && e) := by
  intro d
  induction d with
  | zero =>
   intro i hi
   obtain rfl : i = n := by omega
   have : decide (∀ j, i ≤ j → j < i → p j = true) = true := decide_eq_true (fun j h1 h2 => by omega)
   rw [this, Bool.true_and]
   exact he
  | succ d ih =>
   intro i hi
   refine hs i (by omega) _ ?_
   by_cases hp : p i = true
   ·rw [if_pos hp]
    have h := ih (i + 1) (by omega)
    have e1 : decide (∀ j, i + 1 ≤ j → j < n → p j = true) = decide (∀ j, i ≤ j → j < n → p j = true) := by
     rw [decide_eq_decide]
     refine ⟨fun q j h1 h2 => ?_, fun q j h1 h2 => q j (by omega) h2⟩
     rcases Nat.eq_or_lt_of_le h1 with rfl | h3
     ·exact hp
     ·exact q j h3 h2
    rw [e1] at h
    exact h
   ·rw [if_neg hp]
    have : decide (∀ j, i ≤ j → j < n → p j = true) = false := decide_eq_false (fun q => hp (q i (Nat.le_refl _) (by omega)))
    rw [this, Bool.false_and]
 have h := key n 0 (by omega)
 have e2 : decide (∀ j, 0 ≤ j → j < n → p j = true) = allN n p := by
  rw [Bool.eq_iff_iff, decide_eq_true_iff, allN_iff]
  exact ⟨fun q j h => q j (Nat.zero_le _) h, fun q j _ h => q j h⟩
 rw [e2] at h
 exact h
theorem ev_fill {α β : Type} (xs : List α) (z : α) (c : α → β) (g : Nat → List β → Int → Option (List β))
  (hs : ∀ (i : Nat) (acc : List β), i < xs.length → acc.length = xs.length → ∀ r, Ev (fun k => g k (acc.set i (c (xs.getD i z))) ((i + 1 : Nat) : Int)) r → Ev (fun k => g k acc (i : Int)) r)
  (he : ∀ acc : List β, acc.length = xs.length → Ev (fun k => g k acc (xs.length : Int)) acc) (acc : List β) (hl : acc.length = xs.length) : Ev (fun k => g k acc 0) (xs.map c) := by
 have key : ∀ d i (acc : List β), i + d = xs.length → acc.length = xs.length → acc.take i = (xs.map c).take i → Ev (fun k => g k acc (i : Int)) (xs.map c) := by
  intro d
  induction d with
  | zero =>
   intro i acc hi hl ht
   obtain rfl : i = xs.length := by omega
   have : acc = xs.map c := by
    rw [List.take_of_length_le (by omega), List.take_of_length_le (by simp)] at ht
    exact ht
   rw [← this]
   exact he acc hl
  | succ d ih =>
   intro i acc hi hl ht
   refine hs i acc (by omega) hl _ (ih (i + 1) _ (by omega) (by simpa using hl) ?_)
   apply List.ext_getElem?
   intro j
   have hj := congrArg (fun l => l[j]?) ht
   simp only [List.getElem?_take] at hj ⊢
   by_cases h1 : j < i
   ·rw [if_pos h1, if_pos h1] at hj
    rw [if_pos (by omega), if_pos (by omega), List.getElem?_set_ne (by omega)]
    exact hj
   ·by_cases h2 : j = i
    ·subst h2
     rw [if_pos (by omega), if_pos (by omega), List.getElem?_set_self (by omega)]
     simp [List.getD_eq_getElem?_getD, List.getElem?_eq_getElem (show j < xs.length by omega)]
    ·rw [if_neg (by omega), if_neg (by omega)]
 exact key xs.length 0 acc (by omega) hl (by simp)
def EvP {α : Type} (g : Nat → Option α) (P : α → Prop) : Prop := ∃ r, Ev g r ∧ P r
theorem EvP_of {α : Type} {g : Nat → Option α} {P : α → Prop} {r : α} (h : Ev g r) (hp : P r) : EvP g P := ⟨r, h, hp⟩
theorem EvP_mono {α : Type} {g : Nat → Option α} {P Q : α → Prop} (h : EvP g P) (hq : ∀ r, P r → Q r) : EvP g Q := by
 obtain ⟨r, h, hp⟩ := h
 exact ⟨r, h, hq r hp⟩
theorem EvP_some {α : Type} {a : α} {P : α → Prop} : EvP (fun _ => some a) P ↔ P a := by
 constructor
 ·rintro ⟨r, h, hp⟩
  rw [Ev_some.mp h]
  exact hp
 ·exact fun h => ⟨a, Ev_some.mpr rfl, h⟩
theorem EvP_ite {α : Type} {c : Prop} [Decidable c] {A B : Nat → Option α} {P : α → Prop} : EvP (fun k => if c then A k else B k) P ↔ (if c then EvP A P else EvP B P) := by
 by_cases h : c <;> simp [h]
theorem EvP_pos {α : Type} {c : Prop} [Decidable c] (h : c) {A B : Nat → Option α} {P : α → Prop} : EvP (fun k => if c then A k else B k) P ↔ EvP A P := by simp [h]
theorem EvP_neg {α : Type} {c : Prop} [Decidable c] (h : ¬ c) {A B : Nat → Option α} {P : α → Prop} : EvP (fun k => if c then A k else B k) P ↔ EvP B P := by simp [h]
theorem EvP_bd {α β : Type} {g : Nat → Option α} {f : Nat → α → Option β} {a : α} {P : β → Prop} (h : Ev g a) : EvP (fun k => (g k).bind (f k)) P ↔ EvP (fun k => f k a) P := by
 unfold EvP
 simp only [Ev_bd h]
theorem EvP_b0 {α β : Type} {o : Option α} {f : Nat → α → Option β} {a : α} {P : β → Prop} (h : o = some a) : EvP (fun k => o.bind (f k)) P ↔ EvP (fun k => f k a) P := by simp [h]
theorem EvP_bp {α β : Type} {g : Nat → Option α} {f : Nat → α → Option β} {Q : α → Prop} {P : β → Prop} (h : EvP g Q) (k : ∀ a, Q a → EvP (fun k => f k a) P) : EvP (fun k => (g k).bind (f k)) P := by
 obtain ⟨a, h, hq⟩ := h
 exact (EvP_bd h).mpr (k a hq)
theorem EvP_succ {α : Type} {g : Nat → Option α} {P : α → Prop} : EvP g P ↔ EvP (fun k => g (k + 1)) P := by
 unfold EvP
 simp only [← Ev_succ]
theorem EvP_rounds {g : Nat → Option Bool} (h : EvP g (· = true)) : ∃ k, g k = some true := by
 obtain ⟨r, h, rfl⟩ := h
 exact h.rounds
theorem ev_sz {α : Type} (xs : List α) (z : α) (sz : α → Nat) (g : Nat → Int → Int → Option Int)
  (hs : ∀ (i : Nat) (left : Int), i < xs.length → 0 ≤ left → left ≤ 1048576 → ∀ r, (if left - (sz (xs.getD i z) : Int) < 0 then (-1 : Int) = r else Ev (fun k => g k (left - (sz (xs.getD i z) : Int)) ((i + 1 : Nat) : Int)) r) → Ev (fun k => g k left (i : Int)) r)
  (he : ∀ left, Ev (fun k => g k left (xs.length : Int)) left) (left : Int) (h0 : 0 ≤ left) (h1 : left ≤ 1048576) :
  ∃ t, Ev (fun k => g k left 0) t ∧ t ≤ left ∧ (0 ≤ t → ∀ x ∈ xs, (sz x : Int) ≤ left) := by
 have key : ∀ d i (left : Int), i + d = xs.length → 0 ≤ left → left ≤ 1048576 → ∃ t, Ev (fun k => g k left (i : Int)) t ∧ t ≤ left ∧ (0 ≤ t → ∀ x ∈ xs.drop i, (sz x : Int) ≤ left) := by
  intro d
  induction d with
  | zero =>
   intro i left hi h0 h1
   obtain rfl : i = xs.length := by omega
   exact ⟨left, he left, by omega, fun _ x hx => by simp at hx⟩
  | succ d ih =>
   intro i left hi h0 h1
   by_cases hn : left - (sz (xs.getD i z) : Int) < 0
   ·exact ⟨-1, hs i left (by omega) h0 h1 _ (by rw [if_pos hn]), by omega, fun h => by omega⟩
   ·obtain ⟨t, ht, hle, hall⟩ := ih (i + 1) (left - (sz (xs.getD i z) : Int)) (by omega) (by omega) (by omega)
    refine ⟨t, hs i left (by omega) h0 h1 _ (by rw [if_neg hn]; exact ht), by omega, fun h x hx => ?_⟩
    rw [drop_cons xs z i (by omega)] at hx
    rcases List.mem_cons.1 hx with rfl | hx
    ·omega
    ·have := hall h x hx
     omega
 obtain ⟨t, ht, hle, hall⟩ := key xs.length 0 left (by omega) h0 h1
 exact ⟨t, ht, hle, fun h x hx => hall h x (by simpa using hx)⟩
noncomputable def eqb {α : Type} (a b : α) : Bool := @decide (a = b) (Classical.propDecidable _)
theorem eqb_iff {α : Type} {a b : α} : eqb a b = true ↔ a = b := by
 unfold eqb
 exact @decide_eq_true_iff _ (Classical.propDecidable _)
theorem eqb_self {α : Type} (a : α) : eqb a a = true := eqb_iff.2 rfl
theorem eqb_ne {α : Type} {a b : α} (h : a ≠ b) : eqb a b = false := by
 rw [Bool.eq_false_iff]
 exact fun g => h (eqb_iff.1 g)
theorem allN_eqb {α : Type} (a b : List α) (z : α) (h : a.length = b.length) : allN a.length (fun i => eqb (a.getD i z) (b.getD i z)) = eqb a b := by
 rw [Bool.eq_iff_iff, allN_iff, eqb_iff]
 constructor
 ·intro q
  apply List.ext_getElem h
  intro i h1 h2
  have := eqb_iff.1 (q i h1)
  simpa [List.getD_eq_getElem?_getD, List.getElem?_eq_getElem h1, List.getElem?_eq_getElem h2] using this
 ·rintro rfl i hi
  exact eqb_self _
theorem ev_eqS {α : Type} (a b : List α) (z : α) (g : Nat → Int → Option Bool) (h : a.length = b.length)
  (hs : ∀ (i : Nat), i < a.length → ∀ r, (if eqb (a.getD i z) (b.getD i z) = true then Ev (fun k => g k ((i + 1 : Nat) : Int)) r else false = r) → Ev (fun k => g k (i : Int)) r)
  (he : Ev (fun k => g k (a.length : Int)) true) : Ev (fun k => g k 0) (eqb a b) := by
 have := ev_allN a.length g (fun i => eqb (a.getD i z) (b.getD i z)) true hs he
 rw [Bool.and_true, allN_eqb a b z h] at this
 exact this
theorem toList_iff {a b : ByteArray} : a.toList = b.toList ↔ a = b := by
 rw [ByteArray.toList_eq, ByteArray.toList_eq]
 exact ⟨Go.WideShapes.bytes_inj, fun h => by rw [h]⟩
theorem toList_nil {a : ByteArray} : a.toList = ([] : List UInt8) ↔ a = (⟨#[]⟩ : ByteArray) := by
 rw [← toList_iff, ByteArray.toList_eq, ByteArray.toList_eq]
/-! bytes -/
theorem bytesOf_len (s : ByteArray) : (bytesOf s).length = s.size := by simp [bytesOf]
theorem bt_getD (s : ByteArray) (i : Nat) : bt s (i : Int) = (bytesOf s).getD i 0 := by
 unfold bt bytesOf
 simp only [Int.toNat_natCast]
 by_cases h : i < s.size
 ·rw [dif_pos h]
  simp [List.getD_eq_getElem?_getD, List.getElem?_eq_getElem (show i < s.data.toList.length by simpa using h)]
  rfl
 ·rw [dif_neg h]
  simp [List.getD_eq_getElem?_getD, List.getElem?_eq_none (show s.data.toList.length ≤ i by simpa using h)]
end Go.Proofs.Ytcbmkonigclceaa.EvK
