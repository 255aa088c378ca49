import Derived.Test.YtjccknmgmommcaaSxM9
set_option linter.unusedVariables false
set_option linter.unusedSimpArgs false
set_option maxRecDepth 10000
namespace Go.Proofs.Ytjccknmgmommcaa.Sx
open Go.RowKit Go.Proofs.Ytjccknmgmommcaa.Sx.Tb
/-! ### The law MapsTables -/
theorem encV_e (x : ER) : (encV x).2 = 0 ∨ (encV x).2 = 11 := by
  unfold encV
  repeat' split
  all_goals first | exact .inl rfl | exact .inr rfl
theorem decV_encV {x : ER} (h : (encV x).2 = 0) : decV (encV x).1 = (x, 0) := by
  obtain ⟨a, b, c⟩ := x
  by_cases h1 : a = 0 ∨ a = 1
  · by_cases h2 : b ≠ 0 ∨ c = true
    · exfalso; simp [encV, h1, h2] at h
    · have e : encV ⟨a, b, c⟩ = (a, 0) := by unfold encV; rw [if_pos h1, if_neg h2]
      have hb : b = 0 := Decidable.not_not.1 (fun q => h2 (.inl q))
      have hc : c = false := by cases c; rfl; exact absurd (.inr rfl) h2
      rw [e]; unfold decV; rw [if_pos h1, hb, hc]
  · by_cases h2 : a ≠ 2 ∨ b < 1 ∨ 8192 ≤ b
    · exfalso; simp [encV, h1, h2] at h
    · have ha : a = 2 := by omega
      cases c with
      | true =>
        have e : encV ⟨a, b, true⟩ = (9223372036854775808 + b * 256, 0) := by unfold encV; rw [if_neg h1, if_neg h2, if_pos rfl]
        rw [e]
        have d : decE (9223372036854775808 + b * 256) = ⟨a, b, true⟩ := by
          unfold decE
          rw [if_neg (by omega), ha, show (9223372036854775808 + b * 256 - 9223372036854775808) / 256 = b by omega, decide_eq_true (by omega)]
        unfold decV; rw [if_neg (by simp only; omega), d, e, if_pos rfl]
      | false =>
        have e : encV ⟨a, b, false⟩ = (b * 256, 0) := by unfold encV; rw [if_neg h1, if_neg h2, if_neg (fun q => by cases q)]
        rw [e]
        have d : decE (b * 256) = ⟨a, b, false⟩ := by
          unfold decE
          rw [if_pos (by omega), ha, show b * 256 / 256 = b by omega, decide_eq_false (by omega)]
        unfold decV; rw [if_neg (by simp only; omega), d, e, if_pos rfl]
/-- What stands in a table. -/
def TabV (t : TR) (now : List Int) (a : Nat) (M : List ER) : Prop := M.length = 64 ∧ ∀ i, i < 64 → (encV (M.getD i ⟨0, 0, false⟩)).2 = 0 ∧ t.rd now (a + 8 * i) 8 = leB 8 (encV (M.getD i ⟨0, 0, false⟩)).1
theorem TabV.dec {t : TR} {now : List Int} {a : Nat} {M : List ER} (h : TabV t now a M) (i : Nat) (hi : i < 64) : decV (leV (t.rd now (a + 8 * i) 8)) = (M.getD i ⟨0, 0, false⟩, 0) := by
  obtain ⟨h1, h2⟩ := h.2 i hi
  have b := encV_b (M.getD i ⟨0, 0, false⟩)
  rw [h2, leV_leB 8 _ b.1 (by simpa using b.2)]
  exact decV_encV h1
theorem TabV.put {t : TR} {now : List Int} {a : Nat} {M : List ER} (h : TabV t now a M) (ht : t.Ok) (i : Nat) (hi : i < 64) {x : ER} (hx : (encV x).2 = 0) : TabV (t.put now (a + 8 * i) (leB 8 (encV x).1)) now a (M.set i x) := by
  refine ⟨by rw [List.length_set]; exact h.1, fun q hq => ?_⟩
  by_cases hqi : q = i
  · subst hqi
    have e : (M.set q x).getD q ⟨0, 0, false⟩ = x := by
      rw [List.getD_eq_getElem?_getD, List.getElem?_set_self (by rw [h.1]; exact hq)]; rfl
    rw [e]
    refine ⟨hx, ?_⟩
    have := put_rd ht now (a + 8 * q) (leB 8 (encV x).1)
    rw [leB_length] at this
    exact this
  · have e : (M.set i x).getD q ⟨0, 0, false⟩ = M.getD q ⟨0, 0, false⟩ := by
      rw [List.getD_eq_getElem?_getD, List.getElem?_set_ne (fun e => hqi e.symm), List.getD_eq_getElem?_getD]
    rw [e]
    refine ⟨(h.2 q hq).1, ?_⟩
    rw [← (h.2 q hq).2]
    refine rd_congr (fun b hb => ?_)
    rw [(put_V ht now _ _).2.2.2.2, leB_length, if_neg (by omega)]
theorem TabV.zero {now : List Int} (hz : ∀ x ∈ now, x = 0) (a : Nat) : TabV TR.zero now a (List.replicate 64 ⟨0, 0, false⟩) := by
  have z : ∀ i, TR.zero.V now i = 0 := by
    intro i
    rw [zero_V, List.getD_eq_getElem?_getD]
    cases e : now[i]? with
    | none => rfl
    | some v => exact hz _ (List.mem_of_getElem? e)
  refine ⟨List.length_replicate .., fun i hi => ?_⟩
  have e : (List.replicate 64 (⟨0, 0, false⟩ : ER)).getD i ⟨0, 0, false⟩ = ⟨0, 0, false⟩ := by
    rw [List.getD_eq_getElem?_getD, List.getElem?_replicate]; split <;> rfl
  rw [e]
  refine ⟨rfl, ?_⟩
  show List.map _ _ = _
  have : (fun q => TR.zero.V now (a + 8 * i + q)) = fun _ => 0 := funext (fun q => z _)
  rw [this]
  decide
/-- A list of a table's entries, decoded. -/
theorem TabV.list {t : TR} {now : List Int} {a : Nat} {M : List ER} (h : TabV t now a M) {r : List ER × Int} (hr : LRel (t.rd now a 512) r) : r = (M, 0) := by
  have hl : (t.rd now a 512).length = 512 := TR.rd_length ..
  have w : ∀ q, q < 64 → decV (word (t.rd now a 512) q) = (M.getD q ⟨0, 0, false⟩, 0) := by
    intro q hq
    rw [← h.dec q hq]
    unfold word
    refine congrArg decV (congrArg leV ?_)
    refine ext_getD (by rw [List.length_take, List.length_drop, hl, TR.rd_length]; omega) (fun i hi => ?_)
    rw [List.length_take, List.length_drop, hl] at hi
    rw [TR.rd_get _ _ _ _ _ (by omega), List.getD_eq_getElem?_getD, List.getElem?_take, if_pos (by omega), List.getElem?_drop, ← List.getD_eq_getElem?_getD, TR.rd_get _ _ _ _ _ (by omega), show a + (8 * q + i) = a + 8 * q + i by omega]
  obtain ⟨es, e⟩ := r
  rcases hr with ⟨e1, e2, -⟩ | ⟨-, -, q, q1, q2⟩
  · have e1 : e = 0 := e1
    have e2 : es = decT _ := e2
    subst e1
    refine Prod.ext ?_ rfl
    show es = M
    refine Eq.trans e2 ?_
    unfold decT
    rw [hl]
    apply List.ext_getElem?
    intro q
    by_cases hq : q < 64
    · rw [List.getElem?_map, List.getElem?_range (by omega)]
      show some (decV _).1 = _
      rw [w q hq, List.getD_eq_getElem?_getD, List.getElem?_eq_getElem (by rw [h.1]; exact hq)]; rfl
    · rw [List.getElem?_eq_none (by rw [List.length_map, List.length_range]; omega), List.getElem?_eq_none (by rw [h.1]; omega)]
  · rw [hl] at q1
    rw [w q (by omega)] at q2
    exact absurd rfl q2
end Go.Proofs.Ytjccknmgmommcaa.Sx

