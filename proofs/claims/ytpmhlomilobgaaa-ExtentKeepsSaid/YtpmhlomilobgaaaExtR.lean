/- The reference's Both, what two sets are together. Plain lists. -/
import Derived.Test.YtpmhlomilobgaaaExtQ
import Derived.Test.YtpmhlomilobgaaaPExtx7
set_option linter.unusedVariables false
set_option linter.unusedSimpArgs false
namespace Go.Proofs.Ytpmhlomilobgaaa.ExtP
open Go.RowKit Go.Proofs.Ytpmhlomilobgaaa.PExt Go.Proofs.YtpmhlomilobgaaaW.PrintWords Go.Proofs.Ytpmhlomilobgaaa.ExtM Go.Proofs.Ytpmhlomilobgaaa.Base

def kindB (kind : Int) (x y : Bool) : Bool := (kind == 0 && (x && y)) || (kind == 1 && (x && !y)) || (kind == 2 && (x || y))
def bothP (a b : List S65) (kind : Int) (q : Int) : Bool := kindB kind (decide (mem a q)) (decide (mem b q))
theorem both_step (a b m o) (k : Nat) (kind : Int) (hk : kind = 0 ∨ kind = 1 ∨ kind = 2) (i : Nat) (hm : m.length < 1000000) (ho : o.length < 1000000) (hlt : i + 1 < m.length) (ha : a.length < k) (hb : b.length < k) (ha2 : a.length < 100000) (hb2 : b.length < 100000) :
    fettleref03_Both.l0 (k + 1) a b kind m o (i : Int) = if bothP a b kind m[i] then fettleref03_Both.l0 k a b kind m (o ++ [⟨m[i], m[i + 1]⟩]) ((i + 1 : Nat) : Int) else fettleref03_Both.l0 k a b kind m o ((i + 1 : Nat) : Int) := by
  simp only [fettleref03_Both.l0]
  rw [w1 i (by omega), if_pos (by omega), if_pos (by omega), if_pos (by omega), rdI m i (by omega), has_ok _ (by omega) ha, obind, has_ok _ (by omega) hb, obind, rdI m (i + 1) hlt]
  unfold bothP
  obtain ⟨j, hj⟩ : ∃ j : Int, ((i + 1 : Nat) : Int) = j := ⟨_, rfl⟩
  have h1 : 0 ≤ j := by omega
  rw [hj]
  clear hj
  have h2 : o.length < 8796093022208 := by omega
  generalize decide (mem a m[i]) = x
  generalize decide (mem b m[i]) = y
  rcases hk with rfl | rfl | rfl <;> cases x <;> cases y <;> simp [kindB, h1, h2]
theorem both_l (a b : List S65) (m : List Int) (kind : Int) (hk : kind = 0 ∨ kind = 1 ∨ kind = 2) (ha : a.length < 100000) (hb : b.length < 100000) (hm : m.length < 1000000) : ∀ (k : Nat) (o : List S65) (i : Nat), i ≤ m.length → o.length ≤ i → (m.length - i) + a.length + b.length + m.length + 2 < k →
    fettleref03_Both.l0 k a b kind m o (i : Int) = some (joinL (o ++ selP (bothP a b kind) (m.drop i)))
  | 0, _, _, _, _, h => by omega
  | k + 1, o, i, hi, ho, h => by
    by_cases hlt : i + 1 < m.length
    · rw [both_step a b m o k kind hk i hm (by omega) hlt (by omega) (by omega) ha hb]
      have hd : m.drop i = m[i] :: m[i + 1] :: m.drop (i + 2) := by rw [List.drop_eq_getElem_cons (by omega), List.drop_eq_getElem_cons hlt]
      have hd2 : m.drop (i + 1) = m[i + 1] :: m.drop (i + 2) := List.drop_eq_getElem_cons hlt
      rw [hd, selP, ← hd2]
      split
      · rw [both_l a b m kind hk ha hb hm k _ (i + 1) (by omega) (by simp; omega) (by omega)]
        simp
      · exact both_l a b m kind hk ha hb hm k o (i + 1) (by omega) (by omega) (by omega)
    · simp only [fettleref03_Both.l0]
      rw [w1 i (by omega), if_neg (by omega), joined_ok (by omega) (by omega), obind]
      have : selP (bothP a b kind) (m.drop i) = [] := by
        have hl : (m.drop i).length ≤ 1 := by rw [List.length_drop]; omega
        rcases h5 : m.drop i with _ | ⟨x, _ | ⟨y, r⟩⟩
        · rfl
        · rfl
        · rw [h5] at hl; simp at hl
      rw [this, List.append_nil]
/-- The list in its one form of what meets P. -/
theorem both_ok {a b : List S65} {k : Nat} (kind : Int) (hk : kind = 0 ∨ kind = 1 ∨ kind = 2) (ha : a.length < 1000) (hb : b.length < 1000) (hK : 20 * (a.length + b.length) + 20 < k) :
    ∃ L, fettleref03_Both.f k a b kind = some L ∧ NF L ∧ ∀ q, mem L q ↔ bothP a b kind q = true := by
  unfold fettleref03_Both.f
  have hm := marksL_length [a, b]
  have hf : ([a, b] : List (List S65)).flatten = a ++ b := by simp
  rw [marks_ok (ls := [a, b]) (by rw [hf, List.length_append]; omega) (by simp) (by simp; omega) (by rw [hf, List.length_append]; simp; omega), obind]
  rw [hf, List.length_append] at hm
  have := both_l a b (marksL [a, b]) kind hk (by omega) (by omega) (by omega) k [] 0 (Nat.zero_le _) (Nat.le_refl _) (by omega)
  simp only [List.nil_append, List.drop_zero] at this
  rw [show ((0 : Nat) : Int) = 0 from rfl] at this
  rw [this]
  have hma : ∀ x, x ∈ a → x.f0 ∈ marksL [a, b] ∧ x.f1 ∈ marksL [a, b] := fun x hx => marksL_mem (by simp) x hx
  have hmb : ∀ x, x ∈ b → x.f0 ∈ marksL [a, b] ∧ x.f1 ∈ marksL [a, b] := fun x hx => marksL_mem (by simp) x hx
  have hA : Alike (bothP a b kind) (marksL [a, b]) := fun q s hs hq ht => by
    have h1 := mem_alike hma q s hs hq ht
    have h2 := mem_alike hmb q s hs hq ht
    simp only [bothP] at *
    rw [h1, h2]
  have hB : ∀ q, bothP a b kind q = true → mem a q ∨ mem b q := fun q h => by
    unfold bothP at h
    by_cases h1 : mem a q
    · exact .inl h1
    · by_cases h2 : mem b q
      · exact .inr h2
      · simp [kindB, h1, h2] at h
  obtain ⟨h1, h2⟩ := sel_form (bothP a b kind) (marksL [a, b]) (marksL_rise _) hA (fun q hq => (hB q hq).elim (mem_between hma) (mem_between hmb))
  exact ⟨_, rfl, h1, h2⟩
theorem bothP0 (a b : List S65) (q : Int) : bothP a b 0 q = true ↔ mem a q ∧ mem b q := by simp [bothP, kindB]
theorem bothP1 (a b : List S65) (q : Int) : bothP a b 1 q = true ↔ mem a q ∧ ¬ mem b q := by simp [bothP, kindB]
theorem bothP2 (a b : List S65) (q : Int) : bothP a b 2 q = true ↔ mem a q ∨ mem b q := by simp [bothP, kindB]

/-! ### the program's Meet and Minus -/
theorem mem_meetX (x : S65) (b : List S65) (q : Int) : mem (meetX x b) q ↔ inS x q ∧ mem b q := by
  simp only [mem, meetX, List.mem_map]
  constructor
  · rintro ⟨z, ⟨y, hy, rfl⟩, k1, k2⟩
    simp only [mx, mn] at k1 k2
    have : (x.f0 ≤ q ∧ y.f0 ≤ q) ∧ q < x.f1 ∧ q < y.f1 := by
      split at k1 <;> split at k2 <;> omega
    exact ⟨⟨this.1.1, this.2.1⟩, y, hy, this.1.2, this.2.2⟩
  · rintro ⟨⟨k1, k2⟩, y, hy, k3, k4⟩
    refine ⟨_, ⟨y, hy, rfl⟩, ?_, ?_⟩
    · simp only [mx]; split <;> omega
    · simp only [mn]; split <;> omega
theorem mem_meetL (a b : List S65) (q : Int) : mem (meetL a b) q ↔ mem a q ∧ mem b q := by
  rw [meetL, mem_flatMap]
  constructor
  · rintro ⟨x, hx, h⟩
    obtain ⟨h1, h2⟩ := (mem_meetX x b q).1 h
    exact ⟨⟨x, hx, h1⟩, h2⟩
  · rintro ⟨⟨x, hx, h1⟩, h2⟩
    exact ⟨x, hx, (mem_meetX x b q).2 ⟨h1, h2⟩⟩
/-- What the inner loop of Minus leaves: of what is from 'at' on, and ahead of the end, that which isn't in b. -/
theorem minusGo_ok (x1 : Int) : ∀ (b : List S65) (a : Int) (o : List S65), NF b → ∀ q, mem ((minusGo x1 a o b).2 ++ [⟨(minusGo x1 a o b).1, x1⟩]) q ↔ mem o q ∨ (a ≤ q ∧ q < x1 ∧ ¬ mem b q)
  | [], a, o, _, q => by simp [minusGo, inS]
  | y :: b, a, o, hb, q => by
    have hy := hb.head
    have hfar : ∀ p, mem b p → y.f1 < p := fun p hp => hb.beyond hp
    unfold minusGo
    split
    · rename_i h1
      rw [minusGo_ok x1 b a o hb.tail q, mem_cons]
      constructor
      · rintro (k | ⟨k1, k2, k3⟩)
        · exact .inl k
        · exact .inr ⟨k1, k2, fun h => h.elim (fun h => by have := h.2; omega) k3⟩
      · rintro (k | ⟨k1, k2, k3⟩)
        · exact .inl k
        · exact .inr ⟨k1, k2, fun h => k3 (.inr h)⟩
    · rename_i h1
      split
      · rename_i h2
        rw [minusGo_ok x1 b a o hb.tail q, mem_cons]
        constructor
        · rintro (k | ⟨k1, k2, k3⟩)
          · exact .inl k
          · exact .inr ⟨k1, k2, fun h => h.elim (fun h => by have := h.1; omega) k3⟩
        · rintro (k | ⟨k1, k2, k3⟩)
          · exact .inl k
          · exact .inr ⟨k1, k2, fun h => k3 (.inr h)⟩
      · rename_i h2
        rw [minusGo_ok x1 b y.f1 _ hb.tail q, mem_append, mem_cons y b]
        constructor
        · rintro ((k | k) | ⟨k1, k2, k3⟩)
          · exact .inl k
          · have k : inS ⟨a, y.f0⟩ q := ((mem_cons _ _ _).1 k).elim id (fun h => by simp at h)
            have k1 := k.1
            have k2 := k.2
            simp only at k1 k2
            exact .inr ⟨k1, by omega, fun h => h.elim (fun h => by have := h.1; omega) (fun h => by have := hfar q h; omega)⟩
          · exact .inr ⟨by omega, k2, fun h => h.elim (fun h => by have := h.2; omega) k3⟩
        · rintro (k | ⟨k1, k2, k3⟩)
          · exact .inl (.inl k)
          · by_cases hq : q < y.f0
            · exact .inl (.inr ((mem_cons _ _ _).2 (.inl ⟨k1, hq⟩)))
            · refine .inr ⟨?_, k2, fun h => k3 (.inr h)⟩
              have : ¬ inS y q := fun h => k3 (.inl h)
              have h3 : ¬ (y.f0 ≤ q ∧ q < y.f1) := this
              omega
theorem mem_minusL {a b : List S65} (hb : NF b) (q : Int) : mem (minusL a b) q ↔ mem a q ∧ ¬ mem b q := by
  have hx : ∀ x : S65, mem (minusX x b) q ↔ inS x q ∧ ¬ mem b q := fun x => by
    rw [minusX, minusGo_ok x.f1 b x.f0 [] hb q]
    constructor
    · rintro (k | ⟨k1, k2, k3⟩)
      · simp at k
      · exact ⟨⟨k1, k2⟩, k3⟩
    · rintro ⟨k1, k2⟩
      exact .inr ⟨k1.1, k1.2, k2⟩
  rw [minusL, mem_flatMap]
  constructor
  · rintro ⟨x, hx', h⟩
    obtain ⟨h1, h2⟩ := (hx x).1 h
    exact ⟨⟨x, hx', h1⟩, h2⟩
  · rintro ⟨⟨x, hx', h1⟩, h2⟩
    exact ⟨x, hx', (hx x).2 ⟨h1, h2⟩⟩
theorem meet_ok {a b : List S65} (ha : a.length ≤ 1000000) (hb : b.length ≤ 1000000) : ∃ L, meetF a b = some L ∧ NF L ∧ ∀ q, mem L q ↔ mem a q ∧ mem b q := by
  unfold meetF
  rw [if_pos ⟨ha, hb⟩]
  exact ⟨_, rfl, normL_nf _, fun q => by rw [mem_normL, mem_meetL, mem_normL, mem_normL]⟩
theorem minus_ok {a b : List S65} (ha : a.length ≤ 1000000) (hb : b.length ≤ 1000000) : ∃ L, minusF a b = some L ∧ NF L ∧ ∀ q, mem L q ↔ mem a q ∧ ¬ mem b q := by
  unfold minusF
  rw [if_pos ⟨ha, hb⟩]
  exact ⟨_, rfl, normL_nf _, fun q => by rw [mem_normL, mem_minusL (normL_nf b), mem_normL, mem_normL]⟩
theorem NF.empty {l : List S65} (h : NF l) (hm : ∀ q, ¬ mem l q) : l = [] := NF.unique h NF.nil fun p => by simp [hm p]
theorem len_iff {a b : List S65} (ha : NF a) (hb : NF b) (h : ∀ q, mem a q ↔ mem b q) : a = b := NF.unique ha hb h

/-! ### joined -/
theorem more_of {α : Type} {f : Nat → Option α} (h : ∀ k, LeO (f k) (f (k + 1))) {k m : Nat} (hk : k ≤ m) {r : α} (hr : f k = some r) : f m = some r := by
  induction m with
  | zero => obtain rfl : k = 0 := by omega
            exact hr
  | succ m ih =>
    by_cases hm : k ≤ m
    · exact h m _ (ih hm)
    · obtain rfl : k = m + 1 := by omega
      exact hr
theorem joined_true {k : Nat} (hk : 10 ≤ k) : fettlelaw03_joined.f k = some true := by
  have h : fettlelaw03_joined.f 10 = some true := by decide +kernel
  exact more_of fettlelaw03_joined.mono hk h
end Go.Proofs.Ytpmhlomilobgaaa.ExtP
