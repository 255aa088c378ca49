/- The reference's bytes, and octet's other functions: what the printed functions answer. -/
import Derived.Test.YtpmhlomilobgaaaOctUHdr
import Derived.Test.YtpmhlomilobgaaaPHdrx10
import Derived.Test.YtpmhlomilobgaaaPHdrx12
import Derived.Test.YtpmhlomilobgaaaPHdrx6
set_option linter.unusedVariables false
set_option linter.unusedSimpArgs false
namespace Go.Proofs.Ytpmhlomilobgaaa.OctRHdr
open Go.RowKit Go.Proofs.Ytpmhlomilobgaaa.PHdr Go.Proofs.Ytpmhlomilobgaaa.Base Go.Proofs.Ytpmhlomilobgaaa.OctUHdr Go.Proofs.YtpmhlomilobgaaaW.PrintWords Go.Proofs.YtpmhlomilobgaaaW.PrintLast

theorem more_of {α : Type} {f : Nat → Option α} (h : ∀ k, LeO (f k) (f (k + 1))) {k m : Nat} (hk : k ≤ m) {r : α} (hr : f k = some r) : f m = some r := by
  induction m with
  | zero => obtain rfl : k = 0 := by omega
            exact hr
  | succ m ih =>
    by_cases e : k = m + 1
    · subst e; exact hr
    · exact h m _ (ih (by omega))
theorem strOfNums_inj : ∀ {l m : List Int}, B8 l → B8 m → (l.map fun n => UInt8.ofNat n.toNat) = (m.map fun n => UInt8.ofNat n.toNat) → l = m := by
  intro l
  induction l with
  | nil => intro m _ _ h; cases m with
    | nil => rfl
    | cons b m => simp at h
  | cons a l ih =>
    intro m hl hm h
    cases m with
    | nil => simp at h
    | cons b m =>
      simp only [List.map_cons, List.cons.injEq] at h
      have ha := hl a (by simp)
      have hb := hm b (by simp)
      have e : a = b := by
        have := congrArg UInt8.toNat h.1
        simp only [UInt8.toNat_ofNat'] at this
        omega
      rw [e, ih (fun x hx => hl x (by simp [hx])) (fun x hx => hm x (by simp [hx])) h.2]
theorem Same_eq {l m : List Int} (hl : B8 l) (hm : B8 m) : fettleref01_Same.f l m = some (decide (l = m)) := by
  unfold fettleref01_Same.f
  congr 1
  by_cases e : l = m
  · subst e
    simp
  · rw [decide_eq_false e, Bool.eq_false_iff]
    intro h
    have h3 := eq_of_beq h
    rw [ByteArray.toList_eq, ByteArray.toList_eq, strOfNums_data, strOfNums_data] at h3
    exact e (strOfNums_inj hl hm h3)
theorem Part_eq {l : List Int} {p n : Int} (h : inb l p n = true) (hl : (l.length : Int) ≤ 140737488355327) : fettleref01_Part.f l p n = some ((l.drop p.toNat).take n.toNat) := by
  have h' := inb_iff.1 h
  unfold fettleref01_Part.f
  rw [w64 (by omega) (by omega), if_pos h'.1, if_pos (by omega), if_pos h'.2.2]
  have e : (l.take (p + n).toNat).drop p.toNat = (l.drop p.toNat).take n.toNat := by
    rw [List.take_drop, show (p + n).toNat = p.toNat + n.toNat by omega]
  rw [e, if_pos (by simp; omega), List.nil_append]
theorem Part_all {l : List Int} (hl : (l.length : Int) ≤ 140737488355327) : fettleref01_Part.f l 0 l.length = some l := by
  rw [Part_eq (by rw [inb_iff]; omega) hl]
  simp
theorem Zeros_eq {n : Int} (h0 : 0 ≤ n) (h1 : n ≤ 281474976710656) : fettleref01_Zeros.f n = some (List.replicate n.toNat 0) := by
  unfold fettleref01_Zeros.f
  rw [if_pos h0, if_pos (by omega)]
theorem rd_drop {l : List Int} {i : Nat} (h : i < l.length) : l.drop i = rd l i :: l.drop (i + 1) := by
  rw [List.drop_eq_getElem_cons h]
  congr 1
  show _ = l.getD (i : Int).toNat 0
  simp [List.getD_eq_getElem?_getD, List.getElem?_eq_getElem h]
theorem IsZero_loop (l : List Int) (hl : (l.length : Int) ≤ 4611686018427387904) : ∀ (d k i : Nat), i + d = l.length → d < k → fettleref01_IsZero.l0 k l i = some ((l.drop i).all (· == 0)) := by
  intro d
  induction d with
  | zero =>
    intro k i hi hk
    obtain ⟨k, rfl⟩ : ∃ m, k = m + 1 := ⟨k - 1, by omega⟩
    rw [fettleref01_IsZero.l0, if_neg (by omega), List.drop_eq_nil_of_le (by omega)]
    rfl
  | succ d ih =>
    intro k i hi hk
    obtain ⟨k, rfl⟩ : ∃ m, k = m + 1 := ⟨k - 1, by omega⟩
    rw [fettleref01_IsZero.l0, if_pos (by omega), if_pos (by omega), rd_drop (by omega)]
    by_cases e : rd l i = 0
    · have := ih k (i + 1) (by omega) (by omega)
      rw [show (((i + 1 : Nat) : Int)) = (i : Int) + 1 by omega] at this
      rw [if_pos e, w64 (by omega) (by omega), this]
      simp [e]
    · rw [if_neg e]
      simp [e]
theorem IsZero_eq (k : Nat) (l : List Int) (hl : (l.length : Int) ≤ 4611686018427387904) (hk : l.length < k) : fettleref01_IsZero.f k l = some (l.all (· == 0)) := by
  have := IsZero_loop l hl l.length k 0 (by omega) hk
  simpa [fettleref01_IsZero.f] using this
theorem Zero_loop (l : List Int) (hl : (l.length : Int) ≤ 4611686018427387904) : ∀ (d k i : Nat), i + d = l.length → d < k → octet_Zero.l0 k l l.length i = some ((l.drop i).all (· == 0)) := by
  intro d
  induction d with
  | zero =>
    intro k i hi hk
    obtain ⟨k, rfl⟩ : ∃ m, k = m + 1 := ⟨k - 1, by omega⟩
    rw [octet_Zero.l0, if_neg (by omega), List.drop_eq_nil_of_le (by omega)]
    rfl
  | succ d ih =>
    intro k i hi hk
    obtain ⟨k, rfl⟩ : ∃ m, k = m + 1 := ⟨k - 1, by omega⟩
    rw [octet_Zero.l0, if_pos (by omega), if_pos (by omega), if_pos (by omega), rd_drop (by omega)]
    by_cases e : rd l i = 0
    · have := ih k (i + 1) (by omega) (by omega)
      rw [show (((i + 1 : Nat) : Int)) = (i : Int) + 1 by omega] at this
      rw [if_pos e, w64 (by omega) (by omega), this]
      simp [e]
    · rw [if_neg e]
      simp [e]
theorem Zero_eq (k : Nat) (l : List Int) (hl : (l.length : Int) ≤ 4611686018427387904) (hk : l.length < k) : octet_Zero.f k l = some (l.all (· == 0)) := by
  have := Zero_loop l hl l.length k 0 (by omega) hk
  simpa [octet_Zero.f] using this
theorem Slice_eq {l : List Int} {p n : Int} (hl : (l.length : Int) ≤ 140737488355327) : octet_Slice.f l p n = some (if inb l p n = true then ((l.drop p.toNat).take n.toNat, true) else ([], false)) := by
  unfold octet_Slice.f
  rw [in_eq l p n (by omega)]
  by_cases h : inb l p n = true
  · have h' := inb_iff.1 h
    simp only [obind, h, if_true]
    have e : (l.take (p + n).toNat).drop p.toNat = (l.drop p.toNat).take n.toNat := by
      rw [List.take_drop, show (p + n).toNat = p.toNat + n.toNat by omega]
    rw [w64 (by omega) (by omega), if_pos h'.1, if_pos (by omega), if_pos h'.2.2, e, if_pos (by simp; omega), List.nil_append]
  · have h' : inb l p n = false := by simpa using h
    simp [h']
end Go.Proofs.Ytpmhlomilobgaaa.OctRHdr
