/- The pure statement of the law OctetSames: for all arguments as Go can hand them in, the printed law answers true. -/
import Derived.Test.YtjhijdkliepkpaaOctROct
import Derived.Test.YtjhijdkliepkpaaPOctx2
namespace Go.Proofs.Ytjhijdkliepkpaa.Pure
open Go.RowKit Go.Proofs.Ytjhijdkliepkpaa.POct Go.Proofs.Ytjhijdkliepkpaa.Base Go.Proofs.Ytjhijdkliepkpaa.OctUOct Go.Proofs.Ytjhijdkliepkpaa.OctROct Go.Proofs.YtjhijdkliepkpaaW.PrintWords Go.Proofs.YtjhijdkliepkpaaW.PrintLast

/-- How many are alike from a place on. -/
def alike : List Int → List Int → Nat
  | a :: l, b :: m => if a = b then alike l m + 1 else 0
  | _, _ => 0
theorem alike_self : ∀ l : List Int, alike l l = l.length
  | [] => rfl
  | a :: l => by simp [alike, alike_self l]
theorem rd_drop' {l : List Int} {i : Nat} (h : i < l.length) : l.drop i = rd l i :: l.drop (i + 1) := rd_drop h
theorem same_loop (l m : List Int) (hl : (l.length : Int) ≤ 300) (hm : (m.length : Int) ≤ 300) : ∀ (d k i : Nat), i + d = l.length → d < k → octet_Same.l0 k l m i = some ((i : Int) + alike (l.drop i) (m.drop i)) := by
  intro d
  induction d with
  | zero =>
    intro k i hi hk
    obtain ⟨k, rfl⟩ : ∃ m, k = m + 1 := ⟨k - 1, by omega⟩
    rw [octet_Same.l0, if_neg (by omega), List.drop_eq_nil_of_le (by omega : l.length ≤ i)]
    simp [alike]
  | succ d ih =>
    intro k i hi hk
    obtain ⟨k, rfl⟩ : ∃ m, k = m + 1 := ⟨k - 1, by omega⟩
    rw [octet_Same.l0, if_pos (by omega), rd_drop (l := l) (by omega)]
    by_cases c : (i : Int) < m.length
    · rw [if_pos c, if_pos (by omega), rd_drop (l := m) (by omega)]
      by_cases e : rd l i = rd m i
      · have := ih k (i + 1) (by omega) (by omega)
        rw [show (((i + 1 : Nat) : Int)) = (i : Int) + 1 by omega] at this
        rw [if_pos e, w64 (by omega) (by omega), this]
        simp [alike, e]
        omega
      · rw [if_neg e]
        simp [alike, e]
    · rw [if_neg c, List.drop_eq_nil_of_le (by omega : m.length ≤ i)]
      simp [alike]
theorem common_loop (l m : List Int) (hl : (l.length : Int) ≤ 300) (hm : (m.length : Int) ≤ 300) : ∀ (d k i : Nat), i ≤ m.length → i + d = l.length → 2 * d + 1 < k → fettleref01_Common.l0 k l m i = some ((i : Int) + alike (l.drop i) (m.drop i)) := by
  intro d
  induction d with
  | zero =>
    intro k i him hi hk
    obtain ⟨k, rfl⟩ : ∃ m, k = m + 2 := ⟨k - 2, by omega⟩
    rw [fettleref01_Common.l0, if_neg (by omega), fettleref01_Common.j1, if_neg (by simp), List.drop_eq_nil_of_le (by omega : l.length ≤ i)]
    simp only [alike]
    split
    · simp; omega
    · simp; omega
  | succ d ih =>
    intro k i him hi hk
    obtain ⟨k, rfl⟩ : ∃ m, k = m + 2 := ⟨k - 2, by omega⟩
    rw [fettleref01_Common.l0, if_pos (by omega), fettleref01_Common.j1, rd_drop (l := l) (by omega)]
    by_cases c : (i : Int) < m.length
    · rw [if_pos (by simpa using c), if_pos (by omega), if_pos (by omega), if_pos c, rd_drop (l := m) (by omega)]
      by_cases e : rd l i = rd m i
      · have := ih k (i + 1) (by omega) (by omega) (by omega)
        rw [show (((i + 1 : Nat) : Int)) = (i : Int) + 1 by omega] at this
        rw [if_pos e, w64 (by omega) (by omega), this]
        simp [alike, e]
        omega
      · rw [if_neg e]
        simp [alike, e]
    · rw [if_neg (by simpa using c), List.drop_eq_nil_of_le (by omega : m.length ≤ i)]
      simp only [alike]
      split
      · omega
      · simp; omega
theorem OctetSames : fettlelaw01_OctetSames.Pure := by
  intro l m hm hy hw hm' hy' hw'
  refine ⟨1000, ?_⟩
  unfold fettlelaw01_OctetSames.f
  by_cases h : (l.length : Int) > 300
  · rw [if_pos h, fettlelaw01_OctetSames.j0, if_pos rfl, low_eq 989]; rfl
  · rw [if_neg h, fettlelaw01_OctetSames.j0]
    by_cases h' : (m.length : Int) > 300
    · rw [if_pos (by simpa using h'), low_eq 989]; rfl
    · rw [if_neg (by simpa using h'), low_eq 989]
      have a := same_loop l m (by omega) (by omega) l.length 999 0 (by omega) (by omega)
      have b := common_loop l m (by omega) (by omega) l.length 999 0 (by omega) (by omega) (by omega)
      have c := same_loop l l (by omega) (by omega) l.length 999 0 (by omega) (by omega)
      simp only [octet_Same.f, fettleref01_Common.f, obind, if_true]
      rw [show ((0 : Nat) : Int) = 0 from rfl] at a b c
      rw [a, b, c]
      simp [alike_self]

end Go.Proofs.Ytjhijdkliepkpaa.Pure
