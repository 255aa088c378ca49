/- The reference's bytes, and octet's other functions: what the printed functions answer. -/
import Derived.Test.YtjhijdkliepkpaaOctUMap
import Derived.Test.YtjhijdkliepkpaaPMapx6
set_option linter.unusedVariables false
set_option linter.unusedSimpArgs false
namespace Go.Proofs.Ytjhijdkliepkpaa.OctRMap
open Go.RowKit Go.Proofs.Ytjhijdkliepkpaa.PMap Go.Proofs.Ytjhijdkliepkpaa.Base Go.Proofs.Ytjhijdkliepkpaa.OctUMap Go.Proofs.YtjhijdkliepkpaaW.PrintWords Go.Proofs.YtjhijdkliepkpaaW.PrintLast

theorem more_of {α : Type} {f : Nat → Option α} (h : ∀ k, LeO (f k) (f (k + 1))) {k m : Nat} (hk : k ≤ m) {r : α} (hr : f k = some r) : f m = some r := by
  induction m with
  | zero => obtain rfl : k = 0 := by omega
            exact hr
  | succ m ih =>
    by_cases e : k = m + 1
    · subst e; exact hr
    · exact h m _ (ih (by omega))
theorem strOfNums_inj : ∀ {l m : List Int}, B8 l → B8 m → (l.map fun n => UInt8.ofNat n.toNat) = (m.map fun n => UInt8.ofNat n.toNat) → l = m := by
  intro l
  induction l with
  | nil => intro m _ _ h; cases m with
    | nil => rfl
    | cons b m => simp at h
  | cons a l ih =>
    intro m hl hm h
    cases m with
    | nil => simp at h
    | cons b m =>
      simp only [List.map_cons, List.cons.injEq] at h
      have ha := hl a (by simp)
      have hb := hm b (by simp)
      have e : a = b := by
        have := congrArg UInt8.toNat h.1
        simp only [UInt8.toNat_ofNat'] at this
        omega
      rw [e, ih (fun x hx => hl x (by simp [hx])) (fun x hx => hm x (by simp [hx])) h.2]
theorem Same_eq {l m : List Int} (hl : B8 l) (hm : B8 m) : fettleref01_Same.f l m = some (decide (l = m)) := by
  unfold fettleref01_Same.f
  congr 1
  by_cases e : l = m
  · subst e
    simp
  · rw [decide_eq_false e, Bool.eq_false_iff]
    intro h
    have h3 := eq_of_beq h
    rw [ByteArray.toList_eq, ByteArray.toList_eq, strOfNums_data, strOfNums_data] at h3
    exact e (strOfNums_inj hl hm h3)
theorem rd_drop {l : List Int} {i : Nat} (h : i < l.length) : l.drop i = rd l i :: l.drop (i + 1) := by
  rw [List.drop_eq_getElem_cons h]
  congr 1
  show _ = l.getD (i : Int).toNat 0
  simp [List.getD_eq_getElem?_getD, List.getElem?_eq_getElem h]
end Go.Proofs.Ytjhijdkliepkpaa.OctRMap
