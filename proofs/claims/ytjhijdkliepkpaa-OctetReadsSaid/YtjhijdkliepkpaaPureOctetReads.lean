/- The pure statement of the law OctetReads: for all arguments as Go can hand them in, the printed law answers true. -/
import Derived.Test.YtjhijdkliepkpaaOctROct
import Derived.Test.YtjhijdkliepkpaaPOctx2
namespace Go.Proofs.Ytjhijdkliepkpaa.Pure
open Go.RowKit Go.Proofs.Ytjhijdkliepkpaa.POct Go.Proofs.Ytjhijdkliepkpaa.Base Go.Proofs.Ytjhijdkliepkpaa.OctUOct Go.Proofs.Ytjhijdkliepkpaa.OctROct Go.Proofs.YtjhijdkliepkpaaW.PrintWords Go.Proofs.YtjhijdkliepkpaaW.PrintLast

theorem rdn_bound {l : List Int} (hb : B8 l) (p : Int) (n : Nat) : 0 ≤ (rdn l p n).1 ∧ (rdn l p n).1 < 256 ^ n := by
  unfold rdn
  split
  · exact num_bound hb p n
  · exact ⟨Int.le_refl 0, pow_pos' n⟩

theorem OctetReads : fettlelaw01_OctetReads.Pure := by
  intro l p hm hy hw hp
  have hb := B8.of_wf hw
  have hl : (l.length : Int) ≤ 4611686018427387904 := by omega
  refine ⟨20, ?_⟩
  unfold fettlelaw01_OctetReads.f
  rw [low_eq 10]
  by_cases h : (l.length : Int) > 300
  · rw [if_pos h]; rfl
  · have n2 := Num_eq 20 l p 2 hb hl (by omega) (by omega)
    have n4 := Num_eq 20 l p 4 hb hl (by omega) (by omega)
    have n8 := Num_eq 20 l p 8 hb hl (by omega) (by omega)
    rw [show ((2 : Nat) : Int) = 2 from rfl] at n2
    rw [show ((4 : Nat) : Int) = 4 from rfl] at n4
    rw [show ((8 : Nat) : Int) = 8 from rfl] at n8
    rw [if_neg h, U16_eq 17 l p hb hl, U32_eq 15 l p hb hl, U64_eq 11 l p hb hl, n2, n4, n8]
    have h2 := rdn_bound hb p 2
    have h4 := rdn_bound hb p 4
    simp only [obind, if_true]
    rw [wu64, wu64, Int.emod_eq_of_lt h2.1 (by omega), Int.emod_eq_of_lt h4.1 (by omega)]
    simp

end Go.Proofs.Ytjhijdkliepkpaa.Pure
