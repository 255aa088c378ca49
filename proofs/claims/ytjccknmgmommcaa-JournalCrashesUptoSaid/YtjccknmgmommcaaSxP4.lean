import Derived.Test.YtjccknmgmommcaaSxP3
set_option linter.unusedVariables false
set_option linter.unusedSimpArgs false
set_option maxRecDepth 10000
namespace Go.Proofs.Ytjccknmgmommcaa.Sx
/-! ### Crashes, plainly -/
theorem getD_of_le {l : List Int} {i : Nat} (h : l.length ≤ i) : l.getD i 0 = 0 := by
  rw [List.getD_eq_getElem?_getD, List.getElem?_eq_none h]; rfl
theorem ext_getD {l m : List Int} (h : l.length = m.length) (h1 : ∀ i, i < l.length → l.getD i 0 = m.getD i 0) : l = m := by
  refine List.ext_getElem h (fun i hi hj => ?_)
  have := h1 i hi
  rwa [List.getD_eq_getElem?_getD, List.getElem?_eq_getElem hi, List.getD_eq_getElem?_getD, List.getElem?_eq_getElem hj] at this
theorem layP_get (b : List Int) (e : Int) (i : Nat) : (layP b e).getD i 0 = b.getD i 0 := by
  unfold layP
  by_cases h : i < b.length
  · rw [List.getD_eq_getElem?_getD, List.getElem?_append_left h, ← List.getD_eq_getElem?_getD]
  · rw [getD_of_le (l := b) (by omega)]
    rw [List.getD_eq_getElem?_getD, List.getElem?_append_right (by omega)]
    by_cases h2 : i - b.length < e.toNat - b.length
    · rw [List.getElem?_replicate, if_pos h2]; rfl
    · rw [List.getElem?_replicate, if_neg h2]; rfl
theorem layP_length (b : List Int) (e : Int) : (layP b e).length = max b.length e.toNat := by
  unfold layP; simp only [List.length_append, List.length_replicate]; omega
theorem layL_eq {b : List Int} {at_ : Int} {xs : List Int} (h0 : 0 ≤ at_) : layL b false at_ xs = putG (layP b (at_ + xs.length)) at_.toNat xs := by
  unfold layL putG
  simp only [Bool.false_eq_true, if_false, List.append_assoc]
theorem layL_length {b : List Int} {at_ : Int} {xs : List Int} (h0 : 0 ≤ at_) : (layL b false at_ xs).length = max b.length (at_.toNat + xs.length) := by
  rw [layL_eq h0, putG_length (by rw [layP_length]; omega), layP_length]; omega
theorem layL_at {b : List Int} {at_ : Int} {xs : List Int} (h0 : 0 ≤ at_) (i : Nat) : (layL b false at_ xs).getD i 0 = if at_.toNat ≤ i ∧ i < at_.toNat + xs.length then xs.getD (i - at_.toNat) 0 else b.getD i 0 := by
  rw [layL_eq h0, putG_get (by rw [layP_length]; omega), layP_get]
theorem crash_keeps (Q : List Int → Prop) : ∀ (its : List (Bool × Int × List Int)) (C : List Int) (ks : List Bool), (∀ it ∈ its, ∀ C, Q C → Q (layL C it.1 it.2.1 it.2.2)) → Q C → Q (crashL C its ks)
  | [], C, ks, h, hC => by simpa [crashL] using hC
  | it :: r, C, [], h, hC => by rw [crashL]; exact crash_keeps Q r C [] (fun x hx => h x (List.mem_cons_of_mem _ hx)) hC
  | it :: r, C, true :: ks, h, hC => by rw [crashL]; exact crash_keeps Q r _ ks (fun x hx => h x (List.mem_cons_of_mem _ hx)) (h it (List.mem_cons_self ..) C hC)
  | it :: r, C, false :: ks, h, hC => by rw [crashL]; exact crash_keeps Q r C ks (fun x hx => h x (List.mem_cons_of_mem _ hx)) hC
/-- A write's items lie within it. -/
theorem segs_in : ∀ (n : Nat) (at_ : Int) (xs : List Int) (it : Bool × Int × List Int), it ∈ segs n at_ xs → it.1 = false ∧ at_ ≤ it.2.1 ∧ it.2.1 + it.2.2.length ≤ at_ + xs.length ∧ (B8 xs → B8 it.2.2)
  | 0, at_, xs, it, h => by cases h
  | n + 1, at_, xs, it, h => by
    rw [segs] at h
    split at h
    · cases h
    · rename_i hx
      have hp : 0 < xs.length := List.length_pos_iff.2 hx
      obtain ⟨c1, c2⟩ : 0 < secN at_ xs.length ∧ secN at_ xs.length ≤ xs.length := by unfold secN; omega
      generalize secN at_ xs.length = d at c1 c2 h
      rcases List.mem_cons.1 h with rfl | h
      · refine ⟨rfl, Int.le_refl _, ?_, fun h8 => h8.take _⟩
        simp only [List.length_take]; omega
      · obtain ⟨i1, i2, i3, i4⟩ := segs_in n _ _ it h
        simp only [List.length_drop] at i3
        exact ⟨i1, by omega, by omega, fun h8 => i4 (h8.drop _)⟩
/-- A sector's write is one item. -/
theorem segs_one (at_ : Int) (xs : List Int) (h : xs.length = 512) (ha : at_ % 512 = 0) : segs xs.length at_ xs = [(false, at_, xs)] := by
  have hx : xs ≠ [] := fun e => by rw [e] at h; cases h
  have hs : secN at_ xs.length = 512 := by unfold secN; omega
  obtain ⟨n, hn⟩ : ∃ n, xs.length = n + 1 := ⟨xs.length - 1, by omega⟩
  rw [hn, segs, if_neg hx, hs, List.take_of_length_le (by omega), List.drop_eq_nil_of_le (by omega)]
  cases n with
  | zero => rfl
  | succ n => rw [segs, if_pos rfl]
/-! ### Records are done -/
def covers (r : RecR) (i : Nat) : Prop := r.1.toNat ≤ i ∧ i < r.1.toNat + r.2.length
instance (r : RecR) (i : Nat) : Decidable (covers r i) := by unfold covers; infer_instance
def doneL (rs : List RecR) (C : List Int) : List Int := rs.foldl (fun c r => putG c r.1.toNat r.2) C
def endL (rs : List RecR) (n : Nat) : Nat := rs.foldl (fun m r => max m (r.1.toNat + r.2.length)) n
theorem doneL_length : ∀ (rs : List RecR) (C : List Int), (∀ r ∈ rs, r.1.toNat ≤ C.length) → (doneL rs C).length = endL rs C.length
  | [], C, h => rfl
  | r :: rs, C, h => by
    have h1 := putG_length (xs := r.2) (h r (List.mem_cons_self ..))
    have h2 := doneL_length rs (putG C r.1.toNat r.2) (fun q hq => by have := h q (List.mem_cons_of_mem _ hq); omega)
    rw [h1] at h2
    exact h2
theorem endL_ge : ∀ (rs : List RecR) (n : Nat), n ≤ endL rs n
  | [], n => Nat.le_refl _
  | r :: rs, n => Nat.le_trans (by omega) (endL_ge rs (max n (r.1.toNat + r.2.length)))
theorem endL_mem : ∀ (rs : List RecR) (n : Nat), ∀ r ∈ rs, r.1.toNat + r.2.length ≤ endL rs n
  | q :: rs, n, r, h => by
    rcases List.mem_cons.1 h with rfl | h
    · exact Nat.le_trans (Nat.le_max_right n _) (endL_ge rs _)
    · exact endL_mem rs _ r h
theorem endL_idem : ∀ (rs : List RecR) (n m : Nat), n ≤ m → m ≤ endL rs n → endL rs m = endL rs n
  | [], n, m, h1, h2 => Nat.le_antisymm h2 h1
  | r :: rs, n, m, h1, h2 => by
    show endL rs (max m _) = endL rs (max n _)
    have h2 : m ≤ endL rs (max n (r.1.toNat + r.2.length)) := h2
    refine endL_idem rs _ _ (by omega) ?_
    have := endL_ge rs (max n (r.1.toNat + r.2.length))
    omega
/-- Where a record covers, the old bytes don't count. -/
theorem doneL_same : ∀ (rs : List RecR) (C D : List Int) (i : Nat), (∀ r ∈ rs, r.1.toNat ≤ C.length) → (∀ r ∈ rs, r.1.toNat ≤ D.length) → ((∀ r ∈ rs, ¬ covers r i) → C.getD i 0 = D.getD i 0) → (doneL rs C).getD i 0 = (doneL rs D).getD i 0
  | [], C, D, i, _, _, h => h (fun r hr => by cases hr)
  | r :: rs, C, D, i, hC, hD, h => by
    have c1 := hC r (List.mem_cons_self ..)
    have d1 := hD r (List.mem_cons_self ..)
    refine doneL_same rs _ _ i (fun q hq => by rw [putG_length c1]; have := hC q (List.mem_cons_of_mem _ hq); omega) (fun q hq => by rw [putG_length d1]; have := hD q (List.mem_cons_of_mem _ hq); omega) (fun hn => ?_)
    rw [putG_get c1, putG_get d1]
    by_cases hc : r.1.toNat ≤ i ∧ i < r.1.toNat + r.2.length
    · rw [if_pos hc, if_pos hc]
    · rw [if_neg hc, if_neg hc]
      exact h (fun q hq => by rcases List.mem_cons.1 hq with rfl | hq; exact hc; exact hn q hq)
theorem doneL_off : ∀ (rs : List RecR) (C : List Int) (i : Nat), (∀ r ∈ rs, r.1.toNat ≤ C.length) → (∀ r ∈ rs, ¬ covers r i) → (doneL rs C).getD i 0 = C.getD i 0
  | [], C, i, _, _ => rfl
  | r :: rs, C, i, hC, h => by
    have c1 := hC r (List.mem_cons_self ..)
    refine (doneL_off rs _ i (fun q hq => by rw [putG_length c1]; have := hC q (List.mem_cons_of_mem _ hq); omega) (fun q hq => h q (List.mem_cons_of_mem _ hq))).trans ?_
    rw [putG_get c1]
    exact if_neg (h r (List.mem_cons_self ..))
end Go.Proofs.Ytjccknmgmommcaa.Sx

