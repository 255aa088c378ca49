/- The pure statement of the law OctetHalves: for all arguments as Go can hand them in, the printed law answers true. -/
import Derived.Test.YtjhijdkliepkpaaOctROct
import Derived.Test.YtjhijdkliepkpaaOctPOct
import Derived.Test.YtjhijdkliepkpaaPOctx3
namespace Go.Proofs.Ytjhijdkliepkpaa.Pure
open Go.RowKit Go.Proofs.Ytjhijdkliepkpaa.POct Go.Proofs.Ytjhijdkliepkpaa.Base Go.Proofs.Ytjhijdkliepkpaa.OctUOct Go.Proofs.Ytjhijdkliepkpaa.OctPOct Go.Proofs.Ytjhijdkliepkpaa.OctROct Go.Proofs.YtjhijdkliepkpaaW.PrintWords Go.Proofs.YtjhijdkliepkpaaW.PrintLast

theorem halves_put (v : Int) : octet_Put64.f 20 (List.replicate 8 0) 0 v = some (true, leb 8 v) := by
  rw [Put64_eq 11 _ _ _ (by simp), if_pos (by rw [inb_iff]; simp)]
  simp
theorem halves_end (v : Int) (h0 : 0 ≤ v) (h1 : v < 18446744073709551616) : fettlelaw01_OctetHalves.j0 20 v (leb 8 v) false = some true := by
  have hb : B8 (leb 8 v) := leb_b8 8 v
  have hl : ((leb 8 v).length : Int) ≤ 4611686018427387904 := by rw [leb_length]; omega
  have i1 : ∀ p n : Int, 0 ≤ p → 0 ≤ n → p + n ≤ 8 → inb (leb 8 v) p n = true := fun p n a b c => by rw [inb_iff, leb_length]; omega
  have e1 : num (leb 8 v) 0 4 = v % 4294967296 := by have := num_leb_part 8 v 0 4 (by omega); simpa using this
  have e2 : num (leb 8 v) 4 4 = v / 4294967296 := by have := num_leb_part 8 v 4 4 (by omega); simp at this; omega
  have e3 : num (leb 8 v) 4 2 = v / 4294967296 % 65536 := by have := num_leb_part 8 v 4 2 (by omega); simpa using this
  have e4 : num (leb 8 v) 6 2 = v / 281474976710656 := by have := num_leb_part 8 v 6 2 (by omega); simp at this; omega
  have r1 : rdn (leb 8 v) 0 4 = (v % 4294967296, true) := by unfold rdn; rw [if_pos (i1 _ _ (by omega) (by omega) (by omega)), e1]
  have r2 : rdn (leb 8 v) 4 4 = (v / 4294967296, true) := by unfold rdn; rw [if_pos (i1 _ _ (by omega) (by omega) (by omega)), e2]
  have r3 : rdn (leb 8 v) 4 2 = (v / 4294967296 % 65536, true) := by unfold rdn; rw [if_pos (i1 _ _ (by omega) (by omega) (by omega)), e3]
  have r4 : rdn (leb 8 v) 6 2 = (v / 281474976710656, true) := by unfold rdn; rw [if_pos (i1 _ _ (by omega) (by omega) (by omega)), e4]
  rw [fettlelaw01_OctetHalves.j0, if_neg (by simp), U32_eq 14 _ _ hb hl, U32_eq 14 _ _ hb hl, U16_eq 16 _ _ hb hl, U16_eq 16 _ _ hb hl, r1, r2, r3, r4]
  simp only [obind, if_true]
  rw [wu64, wu64, wu64, wu64]
  have a : ((v % 4294967296) % 18446744073709551616 + ((v / 4294967296) % 18446744073709551616 * 4294967296) % 18446744073709551616) % 18446744073709551616 = v := by omega
  have b : ((v / 4294967296 % 65536) % 4294967296 + ((v / 281474976710656) % 4294967296 * 65536) % 4294967296) % 4294967296 = v / 4294967296 := by omega
  rw [if_pos a, b]
  simp
theorem OctetHalves : fettlelaw01_OctetHalves.Pure := by
  intro v hv
  have hv := wf_u64.1 hv
  refine ⟨20, ?_⟩
  unfold fettlelaw01_OctetHalves.f
  rw [if_pos (by omega)]
  generalize hy : List.replicate 8 (0 : Int) = y
  have hp := halves_put v
  rw [hy] at hp
  simp only [obind]
  rw [low_eq 10]
  simp only [obind, if_true]
  rw [hp]
  simp only [obind, Bool.not_true]
  exact halves_end v hv.1 hv.2

end Go.Proofs.Ytjhijdkliepkpaa.Pure
