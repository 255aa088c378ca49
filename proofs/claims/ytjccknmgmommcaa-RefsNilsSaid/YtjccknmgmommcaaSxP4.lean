import Derived.Test.YtjccknmgmommcaaSxP3
set_option linter.unusedVariables false
set_option linter.unusedSimpArgs false
set_option maxRecDepth 10000
namespace Go.Proofs.Ytjccknmgmommcaa.Sx
/-! ### Crashes, plainly -/
theorem getD_of_le {l : List Int} {i : Nat} (h : l.length ≤ i) : l.getD i 0 = 0 := by
  rw [List.getD_eq_getElem?_getD, List.getElem?_eq_none h]; rfl
theorem ext_getD {l m : List Int} (h : l.length = m.length) (h1 : ∀ i, i < l.length → l.getD i 0 = m.getD i 0) : l = m := by
  refine List.ext_getElem h (fun i hi hj => ?_)
  have := h1 i hi
  rwa [List.getD_eq_getElem?_getD, List.getElem?_eq_getElem hi, List.getD_eq_getElem?_getD, List.getElem?_eq_getElem hj] at this
/-! ### Records are done -/
def covers (r : RecR) (i : Nat) : Prop := r.1.toNat ≤ i ∧ i < r.1.toNat + r.2.length
instance (r : RecR) (i : Nat) : Decidable (covers r i) := by unfold covers; infer_instance
def doneL (rs : List RecR) (C : List Int) : List Int := rs.foldl (fun c r => putG c r.1.toNat r.2) C
def endL (rs : List RecR) (n : Nat) : Nat := rs.foldl (fun m r => max m (r.1.toNat + r.2.length)) n
theorem doneL_length : ∀ (rs : List RecR) (C : List Int), (∀ r ∈ rs, r.1.toNat ≤ C.length) → (doneL rs C).length = endL rs C.length
  | [], C, h => rfl
  | r :: rs, C, h => by
    have h1 := putG_length (xs := r.2) (h r (List.mem_cons_self ..))
    have h2 := doneL_length rs (putG C r.1.toNat r.2) (fun q hq => by have := h q (List.mem_cons_of_mem _ hq); omega)
    rw [h1] at h2
    exact h2
theorem endL_ge : ∀ (rs : List RecR) (n : Nat), n ≤ endL rs n
  | [], n => Nat.le_refl _
  | r :: rs, n => Nat.le_trans (by omega) (endL_ge rs (max n (r.1.toNat + r.2.length)))
theorem endL_idem : ∀ (rs : List RecR) (n m : Nat), n ≤ m → m ≤ endL rs n → endL rs m = endL rs n
  | [], n, m, h1, h2 => Nat.le_antisymm h2 h1
  | r :: rs, n, m, h1, h2 => by
    show endL rs (max m _) = endL rs (max n _)
    have h2 : m ≤ endL rs (max n (r.1.toNat + r.2.length)) := h2
    refine endL_idem rs _ _ (by omega) ?_
    have := endL_ge rs (max n (r.1.toNat + r.2.length))
    omega
/-- Where a record covers, the old bytes don't count. -/
theorem doneL_same : ∀ (rs : List RecR) (C D : List Int) (i : Nat), (∀ r ∈ rs, r.1.toNat ≤ C.length) → (∀ r ∈ rs, r.1.toNat ≤ D.length) → ((∀ r ∈ rs, ¬ covers r i) → C.getD i 0 = D.getD i 0) → (doneL rs C).getD i 0 = (doneL rs D).getD i 0
  | [], C, D, i, _, _, h => h (fun r hr => by cases hr)
  | r :: rs, C, D, i, hC, hD, h => by
    have c1 := hC r (List.mem_cons_self ..)
    have d1 := hD r (List.mem_cons_self ..)
    refine doneL_same rs _ _ i (fun q hq => by rw [putG_length c1]; have := hC q (List.mem_cons_of_mem _ hq); omega) (fun q hq => by rw [putG_length d1]; have := hD q (List.mem_cons_of_mem _ hq); omega) (fun hn => ?_)
    rw [putG_get c1, putG_get d1]
    by_cases hc : r.1.toNat ≤ i ∧ i < r.1.toNat + r.2.length
    · rw [if_pos hc, if_pos hc]
    · rw [if_neg hc, if_neg hc]
      exact h (fun q hq => by rcases List.mem_cons.1 hq with rfl | hq; exact hc; exact hn q hq)
end Go.Proofs.Ytjccknmgmommcaa.Sx

