import Derived.Test.YtjccknmgmommcaaSxL1
set_option linter.unusedVariables false
set_option linter.unusedSimpArgs false
set_option maxRecDepth 10000
namespace Go.Proofs.Ytjccknmgmommcaa.Sx
open Go.RowKit Go.Proofs.Ytjccknmgmommcaa.Sx.Tb
theorem crashL_nil : ∀ (b : List Int) (its : List (Bool × Int × List Int)), crashL b its [] = b
  | b, [] => by simp [crashL]
  | b, it :: r => by simp [crashL, crashL_nil b r]
/-- Whether the n-th is kept. -/
theorem crashL_append : ∀ (its : List (Bool × Int × List Int)) (b : List Int) (it : Bool × Int × List Int) (ks : List Bool),
    crashL b (its ++ [it]) ks = if ks.getD its.length false = true then layL (crashL b its ks) it.1 it.2.1 it.2.2 else crashL b its ks
  | [], b, it, ks => by
    cases ks with
    | nil => simp [crashL]
    | cons k ks => cases k <;> simp [crashL]
  | x :: r, b, it, ks => by
    cases ks with
    | nil => simp [crashL_nil]
    | cons k ks =>
      cases k
      · simp only [List.cons_append, crashL, List.length_cons, List.getD_cons_succ]
        exact crashL_append r b it ks
      · simp only [List.cons_append, crashL, List.length_cons, List.getD_cons_succ]
        exact crashL_append r _ it ks
/-- A byte of what a write makes. -/
theorem layL_get (b : List Int) (at_ : Int) (xs : List Int) (j : Nat) (h : 0 ≤ at_) (h1 : at_ + xs.length ≤ b.length) :
    (layL b false at_ xs).getD j 0 = if at_.toNat ≤ j ∧ j < at_.toNat + xs.length then xs.getD (j - at_.toNat) 0 else b.getD j 0 := by
  have e : layL b false at_ xs = b.take at_.toNat ++ xs ++ b.drop (at_.toNat + xs.length) := by
    unfold layL
    rw [layP_id _ _ (by omega)]
    rfl
  rw [e, List.getD_eq_getElem?_getD, List.getD_eq_getElem?_getD, List.getD_eq_getElem?_getD]
  by_cases h2 : j < at_.toNat
  · rw [if_neg (by omega), List.append_assoc, List.getElem?_append_left (by rw [List.length_take]; omega), List.getElem?_take, if_pos h2]
  · by_cases h3 : j < at_.toNat + xs.length
    · rw [if_pos ⟨by omega, h3⟩, List.append_assoc, List.getElem?_append_right (by rw [List.length_take]; omega), List.getElem?_append_left (by rw [List.length_take]; omega), List.length_take, show min at_.toNat b.length = at_.toNat by omega]
    · rw [if_neg (by omega), List.getElem?_append_right (by rw [List.length_append, List.length_take]; omega), List.getElem?_drop, List.length_append, List.length_take, show at_.toNat + xs.length + (j - (min at_.toNat b.length + xs.length)) = j by omega]
/-- A write within a sector. -/
theorem wrote1_one (s : DF) (at_ : Int) (xs : List Int) (h : 0 ≤ at_) (h1 : at_ / 512 = (at_ + xs.length) / 512) :
    s.wrote1 at_ xs = (if xs = [] then { s with ops := s.ops + 1, wrote := s.wrote + 1 } else { s with ops := s.ops + 1, wrote := s.wrote + 1, now := layL s.now false at_ xs, items := s.items ++ [(false, at_, xs)] }) := by
  unfold DF.wrote1
  cases xs with
  | nil => rw [if_pos rfl]; rfl
  | cons x r =>
    rw [if_neg (by simp)]
    rw [List.length_cons, wrN, if_neg (by simp)]
    have hs : secN at_ (r.length + 1) = (x :: r).length := by
      rw [List.length_cons] at h1 ⊢
      unfold secN
      omega
    rw [List.length_cons, hs, List.take_length, List.drop_length]
    cases r.length with
    | zero => rfl
    | succ m => rw [wrN, if_pos rfl]
/-- What is known of the file and the states so far. -/
structure Sec (b : List Int) (i : Nat) (s : DF) (sts : List (List Int)) : Prop where
  safe : s.safe = b
  ops : s.ops = s.wrote ∧ 0 ≤ s.ops ∧ s.ops ≤ i
  live : s.fail = 0 ∧ s.stop = 0
  len : s.now.length = b.length
  its : s.items.length ≤ i
  all : ∀ it ∈ s.items, it.1 = false ∧ 0 ≤ it.2.1 ∧ it.2.1 + it.2.2.length ≤ b.length
  lens : ∀ st ∈ sts, st.length = b.length
  cl : ∀ ks, (crashL s.safe s.items ks).length = b.length
  cov : ∀ ks j, j < b.length → ∃ st ∈ sts, (crashL s.safe s.items ks).getD j 0 = st.getD j 0
theorem Sec.zero (b : List Int) : Sec b 0 (DF.mk0 b) [b] := by
  refine ⟨rfl, ⟨rfl, Int.le_refl _, Int.le_refl _⟩, ⟨rfl, rfl⟩, rfl, Nat.le_refl _, fun it h => (by cases h), fun st h => (by simp at h; rw [h]), fun ks => (by simp [DF.mk0, crashL]), fun ks j hj => ⟨b, by simp, by simp [DF.mk0, crashL]⟩⟩
theorem Sec.mono {b : List Int} {i : Nat} {s : DF} {sts : List (List Int)} (h : Sec b i s sts) : Sec b (i + 1) s sts :=
  ⟨h.safe, ⟨h.ops.1, h.ops.2.1, by have := h.ops.2.2; omega⟩, h.live, h.len, Nat.le_succ_of_le h.its, h.all, h.lens, h.cl, h.cov⟩
theorem Sec.step {b : List Int} {i : Nat} {s : DF} {sts : List (List Int)} (h : Sec b i s sts) (hnow : s.now ∈ sts) {at_ : Int} {xs : List Int} (h0 : 0 ≤ at_) (h1 : at_ + xs.length ≤ b.length) (h2 : at_ / 512 = (at_ + xs.length) / 512) :
    Sec b (i + 1) (s.wrote1 at_ xs) (sts ++ [(s.wrote1 at_ xs).now]) ∧ (s.wrote1 at_ xs).now ∈ sts ++ [(s.wrote1 at_ xs).now] := by
  refine ⟨?_, by simp⟩
  rw [wrote1_one s at_ xs h0 h2]
  by_cases hx : xs = []
  · rw [if_pos hx]
    refine ⟨h.safe, ⟨?_, ?_, ?_⟩, h.live, h.len, Nat.le_succ_of_le h.its, h.all, fun st hst => ?_, h.cl, fun ks j hj => ?_⟩
    · have := h.ops.1; show s.ops + 1 = s.wrote + 1; omega
    · have := h.ops.2.1; show 0 ≤ s.ops + 1; omega
    · have := h.ops.2.2; show s.ops + 1 ≤ _; omega
    · rcases List.mem_append.1 hst with hst | hst
      · exact h.lens st hst
      · simp at hst; rw [hst]; exact h.len
    · obtain ⟨st, h3, h4⟩ := h.cov ks j hj
      exact ⟨st, List.mem_append_left _ h3, h4⟩
  · rw [if_neg hx]
    have hll : (layL s.now false at_ xs).length = b.length := by rw [layL_len _ _ _ h0, h.len]; omega
    refine ⟨h.safe, ⟨?_, ?_, ?_⟩, h.live, hll, ?_, fun it hit => ?_, fun st hst => ?_, fun ks => ?_, fun ks j hj => ?_⟩
    · have := h.ops.1; show s.ops + 1 = s.wrote + 1; omega
    · have := h.ops.2.1; show 0 ≤ s.ops + 1; omega
    · have := h.ops.2.2; show s.ops + 1 ≤ _; omega
    · have := h.its; show (s.items ++ [_]).length ≤ i + 1; rw [List.length_append]; simp; omega
    · rcases List.mem_append.1 hit with hit | hit
      · exact h.all it hit
      · simp at hit; subst hit; exact ⟨rfl, h0, h1⟩
    · rcases List.mem_append.1 hst with hst | hst
      · exact h.lens st hst
      · simp at hst; rw [hst]; exact hll
    · show (crashL s.safe (s.items ++ [(false, at_, xs)]) ks).length = b.length
      rw [crashL_append]
      split
      · simp only
        rw [layL_len _ _ _ h0, h.cl]; omega
      · exact h.cl ks
    · show ∃ st ∈ _, (crashL s.safe (s.items ++ [(false, at_, xs)]) ks).getD j 0 = _
      rw [crashL_append]
      obtain ⟨st, h3, h4⟩ := h.cov ks j hj
      split
      · simp only
        rw [layL_get _ _ _ _ h0 (by rw [h.cl]; exact h1)]
        by_cases hin : at_.toNat ≤ j ∧ j < at_.toNat + xs.length
        · rw [if_pos hin]
          refine ⟨layL s.now false at_ xs, by simp, ?_⟩
          rw [layL_get _ _ _ _ h0 (by rw [h.len]; exact h1), if_pos hin]
        · rw [if_neg hin]
          exact ⟨st, List.mem_append_left _ h3, h4⟩
      · exact ⟨st, List.mem_append_left _ h3, h4⟩
end Go.Proofs.Ytjccknmgmommcaa.Sx

