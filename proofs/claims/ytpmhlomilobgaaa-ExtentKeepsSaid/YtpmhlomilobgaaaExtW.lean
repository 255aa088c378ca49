/- extent's functions that range over All: their contracts in the print's form. -/
import Derived.Test.YtpmhlomilobgaaaExtF
import Derived.Test.YtpmhlomilobgaaaExtG
set_option linter.unusedVariables false
set_option linter.unusedSimpArgs false
namespace Go.Proofs.Ytpmhlomilobgaaa.ExtW
open Go.RowKit Go.Shelf Go.Proofs.Ytpmhlomilobgaaa.PExt Go.Proofs.YtpmhlomilobgaaaW.PrintWords Go.Proofs.Ytpmhlomilobgaaa.ExtA
theorem nl {l : List S65} {n : Nat} (h : l.length ≤ n) : (ExtM.normL l).length ≤ n := Nat.le_trans (ExtM.normL_length l) h
theorem norm_at {l : List S65} (h : l.length ≤ 8000000000000) : extent_Norm.f (l.length + 1) l = some (ExtM.normL l) := norm_eq (by omega) (by omega)
theorem bytes_calls (A0 : Option Addr) (c0 : Nat) (l0 : List S65) (r : Int) (w : World) (hr0 : Kd.C k65 w A0 l0.length l0) (hc0 : l0.length ≤ c0) (h : ExtM.bytesF l0 = some r) :
    Calls Try.prog 38 #[.slice A0 l0.length c0] w fun e w' => e = .returned (.int .i64 r) ∧ Below w.heap.size w w' := by
  unfold ExtM.bytesF at h
  split at h
  · rename_i hl
    obtain rfl := Option.some.inj h
    exact callsIn_wide.1 (bytes_in A0 c0 _ l0 (ExtM.normL l0) w hr0 hc0 (norm_at (by omega)) (by have := nl hl; omega))
  · simp at h
theorem meet_calls (A0 : Option Addr) (c0 : Nat) (l0 : List S65) (A1 : Option Addr) (c1 : Nat) (l1 : List S65) (r : List S65) (w : World) (hr0 : Kd.C k65 w A0 l0.length l0) (hc0 : l0.length ≤ c0) (hr1 : Kd.C k65 w A1 l1.length l1) (hc1 : l1.length ≤ c1) (h : ExtM.meetF l0 l1 = some r) :
    Calls Try.prog 46 #[.slice A0 l0.length c0, .slice A1 l1.length c1] w fun e w' => ∃ v0_ : Value, e = .returned (v0_) ∧ Kd.R k65 65 w' w.heap.size (fun _ => True) v0_ r ∧ Below w.heap.size w w' := by
  unfold ExtM.meetF at h
  split at h
  · rename_i hl
    obtain rfl := Option.some.inj h
    have h0 := nl hl.1
    have h1 := nl hl.2
    exact callsIn_wide.1 (meet_in A0 A1 c0 c1 _ _ l0 (ExtM.normL l0) l1 (ExtM.normL l1) _ w hr0 hc0 hr1 hc1 (norm_at (by omega)) (norm_at (by omega)) h0 h1 _ (norm_at (by
      rw [meetL_length]
      have := Nat.mul_le_mul h0 h1
      omega)))
  · simp at h
theorem minus_calls (A0 : Option Addr) (c0 : Nat) (l0 : List S65) (A1 : Option Addr) (c1 : Nat) (l1 : List S65) (r : List S65) (w : World) (hr0 : Kd.C k65 w A0 l0.length l0) (hc0 : l0.length ≤ c0) (hr1 : Kd.C k65 w A1 l1.length l1) (hc1 : l1.length ≤ c1) (h : ExtM.minusF l0 l1 = some r) :
    Calls Try.prog 48 #[.slice A0 l0.length c0, .slice A1 l1.length c1] w fun e w' => ∃ v0_ : Value, e = .returned (v0_) ∧ Kd.R k65 65 w' w.heap.size (fun _ => True) v0_ r ∧ Below w.heap.size w w' := by
  unfold ExtM.minusF at h
  split at h
  · rename_i hl
    obtain rfl := Option.some.inj h
    have h0 := nl hl.1
    have h1 := nl hl.2
    exact callsIn_wide.1 (minus_in A0 A1 c0 c1 _ _ l0 (ExtM.normL l0) l1 (ExtM.normL l1) _ w hr0 hc0 hr1 hc1 (norm_at (by omega)) (norm_at (by omega)) h0 h1 _ (norm_at (by
      have h2 := minusL_length (ExtM.normL l0) (ExtM.normL l1)
      have := Nat.mul_le_mul h0 (Nat.succ_le_succ h1)
      simp only [Nat.succ_eq_add_one] at this
      omega)))
  · simp at h
theorem inward_calls (A0 : Option Addr) (c0 : Nat) (l0 : List S65) (a1 : Int) (r1 : List S65) (r2 : Int) (w : World) (hr0 : Kd.C k65 w A0 l0.length l0) (hc0 : l0.length ≤ c0) (h : ExtM.inwardF l0 a1 = some (r1, r2)) :
    Calls Try.prog 72 #[.slice A0 l0.length c0, .int .i64 a1] w fun e w' => ∃ v0_ : Value, e = .returned (.tuple #[v0_, .int .i64 r2]) ∧ Kd.R k65 65 w' w.heap.size (fun _ => True) v0_ r1 ∧ Below w.heap.size w w' := by
  unfold ExtM.inwardF at h
  split at h
  · rename_i hl
    simp only [Option.some.injEq, Prod.mk.injEq] at h
    obtain ⟨rfl, rfl⟩ := h
    have h0 := nl hl.2
    exact callsIn_wide.1 (inward_in A0 c0 _ l0 (ExtM.normL l0) _ a1 hl.1 w hr0 hc0 (norm_at (by omega)) h0 _ (norm_at (by rw [List.length_map]; omega)))
  · simp at h
end Go.Proofs.Ytpmhlomilobgaaa.ExtW
