/- The pure statement of the law OctetBack: for all arguments as Go can hand them in, the printed law answers true. -/
import Derived.Test.YtjhijdkliepkpaaOctROct
import Derived.Test.YtjhijdkliepkpaaOctPOct
import Derived.Test.YtjhijdkliepkpaaPOctx5
set_option linter.unusedVariables false
namespace Go.Proofs.Ytjhijdkliepkpaa.Pure
open Go.RowKit Go.Proofs.Ytjhijdkliepkpaa.POct Go.Proofs.Ytjhijdkliepkpaa.Base Go.Proofs.Ytjhijdkliepkpaa.OctUOct Go.Proofs.Ytjhijdkliepkpaa.OctPOct Go.Proofs.Ytjhijdkliepkpaa.OctROct Go.Proofs.YtjhijdkliepkpaaW.PrintWords Go.Proofs.YtjhijdkliepkpaaW.PrintLast

/-- The number that was put is read. -/
theorem num_put (l r : List Int) (n : Nat) (v : Int) : num (l ++ leb n v ++ r) l.length n = v % 256 ^ n := by
  rw [← num_leb n v]
  refine num_congr n fun j hj => ?_
  rw [List.append_assoc, rd_append_right (by omega), rd_append_left (by rw [leb_length]; omega)]
  congr 1
  omega
theorem num_left (l r : List Int) (p : Int) (n : Nat) (h0 : 0 ≤ p) (h : p + n ≤ l.length) : num (l ++ r) p n = num l p n :=
  num_congr n fun j hj => rd_append_left (by omega)
theorem back_end (p v : Int) (c d : List Int) (q : Nat) (hq : p = q) (hb : B8 d) (hl : (d.length : Int) ≤ 400) (hin : q + 6 ≤ d.length) (h1 : num d p 4 = v % 4294967296) (h2 : num d (p + 4) 2 = v % 65536) :
    fettlelaw01_OctetBack.j1 20 p v d v true false = some true := by
  rw [fettlelaw01_OctetBack.j1, if_neg (by simp), U32_eq 14 _ _ hb (by omega), w64 (by omega) (by omega), U16_eq 16 _ _ hb (by omega)]
  have r1 : rdn d p 4 = (v % 4294967296, true) := by unfold rdn; rw [if_pos (by rw [inb_iff]; omega), h1]
  have r2 : rdn d (p + 4) 2 = (v % 65536, true) := by unfold rdn; rw [if_pos (by rw [inb_iff]; omega), h2]
  rw [r1, r2]
  simp only [obind, if_true]
  rw [wu16]
  simp
theorem OctetBack : fettlelaw01_OctetBack.Pure := by
  intro l a v hm hy hw ha hv
  have hb := B8.of_wf hw
  have hv := wf_u64.1 hv
  have ha := wf_i64.1 ha
  refine ⟨21, ?_⟩
  unfold fettlelaw01_OctetBack.f
  rw [low_eq 11]
  simp only [obind, if_true]
  rw [fettlelaw01_OctetBack.j0]
  by_cases h : (l.length : Int) > 300
  · rw [if_pos (by simpa using h), low_eq 10]; rfl
  · rw [if_neg (by simpa using h), Part_all (by omega)]
    simp only [obind]
    rw [Zeros_eq (by omega) (by omega)]
    simp only [obind]
    rw [if_pos (by simp; omega), w64 (by omega) (by omega), wu64, if_neg (by omega)]
    have hq : ∃ q : Nat, wrap64 (Int.tmod (IntKind.u64.wrap a) (((l.length : Int) + 1) % 18446744073709551616)) = q ∧ q ≤ l.length := by
      rw [wu64, Int.tmod_eq_emod_of_nonneg (by omega), Int.emod_eq_of_lt (a := (l.length : Int) + 1) (by omega) (by omega)]
      have h0 := Int.emod_nonneg (a % 18446744073709551616) (show ((l.length : Int) + 1) ≠ 0 by omega)
      have h1 := Int.emod_lt_of_pos (a % 18446744073709551616) (show 0 < ((l.length : Int) + 1) by omega)
      generalize (a % 18446744073709551616) % ((l.length : Int) + 1) = x at *
      refine ⟨x.toNat, ?_, by omega⟩
      rw [w64 (by omega) (by omega)]
      omega
    obtain ⟨q, hq, hql⟩ := hq
    rw [hq]
    have hz : B8 (List.replicate (8 : Int).toNat 0) := B8.replicate _
    generalize hc : l ++ List.replicate (8 : Int).toNat 0 = c
    have hcb : B8 c := by rw [← hc]; exact hb.append hz
    have hcl : c.length = l.length + 8 := by rw [← hc]; simp
    have ht : (c.take q).length = q := by rw [List.length_take]; omega
    rw [Put64_eq 11 _ _ _ (by omega), if_pos (by rw [inb_iff]; omega)]
    simp only [obind, if_true]
    rw [show ((q : Nat) : Int).toNat = q by omega]
    generalize hd : c.take q ++ leb 8 v ++ c.drop (q + 8) = d
    have hdb : B8 d := by rw [← hd]; exact ((hcb.take _).append (leb_b8 _ _)).append (hcb.drop _)
    have hdl : d.length = c.length := by rw [← hd]; simp [leb_length, ht]; omega
    have hd8 : num d q 8 = v := by
      have := num_put (c.take q) (c.drop (q + 8)) 8 v
      rw [hd, ht] at this
      rw [this]
      omega
    have r8 : rdn d q 8 = (v, true) := by unfold rdn; rw [if_pos (by rw [inb_iff]; omega), hd8]
    have htd : (d.take q).length = q := by rw [List.length_take]; omega
    rw [U64_eq 11 _ _ hdb (by omega), r8, Put32_eq 15 _ _ _ (by omega), if_pos (by rw [inb_iff]; omega)]
    simp only [obind, if_true]
    rw [show ((q : Nat) : Int).toNat = q by omega, leb_mod 4 v 4294967296 ⟨1, by decide, rfl⟩]
    generalize he : d.take q ++ leb 4 v ++ d.drop (q + 4) = e
    have heb : B8 e := by rw [← he]; exact ((hdb.take _).append (leb_b8 _ _)).append (hdb.drop _)
    have hel : e.length = d.length := by rw [← he]; simp [leb_length, htd]; omega
    have hte : (e.take (q + 4)).length = q + 4 := by rw [List.length_take]; omega
    rw [w64 (by omega) (by omega), Put16_eq 17 _ _ _ (by omega), if_pos (by rw [inb_iff]; omega)]
    simp only [obind, Bool.not_true]
    rw [wu16, leb_mod 2 v 65536 ⟨1, by decide, rfl⟩, show ((q : Int) + 4).toNat = q + 4 by omega]
    generalize hf : e.take (q + 4) ++ leb 2 v ++ e.drop (q + 4 + 2) = f
    have hfb : B8 f := by rw [← hf]; exact ((heb.take _).append (leb_b8 _ _)).append (heb.drop _)
    have hfl : f.length = e.length := by rw [← hf]; simp [leb_length, hte]; omega
    refine back_end q v e f q rfl hfb (by omega) (by omega) ?_ ?_
    · have e4 : e.take (q + 4) = d.take q ++ leb 4 v := by
        rw [← he, List.take_append_of_le_length (by simp [leb_length, htd]), List.take_of_length_le (by simp [leb_length, htd])]
      have := num_put (d.take q) (leb 2 v ++ e.drop (q + 4 + 2)) 4 v
      rw [htd, ← List.append_assoc, ← e4, hf] at this
      rw [this]
      rfl
    · have := num_put (e.take (q + 4)) (e.drop (q + 4 + 2)) 2 v
      rw [hf, hte] at this
      rw [show ((q : Int) + 4) = ((q + 4 : Nat) : Int) by omega, this]
      rfl

end Go.Proofs.Ytjhijdkliepkpaa.Pure
