/- The pure statement of the law OctetWrites: for all arguments as Go can hand them in, the printed law answers true. -/
import Derived.Test.YtjhijdkliepkpaaOctROct
import Derived.Test.YtjhijdkliepkpaaOctPOct
import Derived.Test.YtjhijdkliepkpaaPOctx4
set_option linter.unusedVariables false
namespace Go.Proofs.Ytjhijdkliepkpaa.Pure
open Go.RowKit Go.Proofs.Ytjhijdkliepkpaa.POct Go.Proofs.Ytjhijdkliepkpaa.Base Go.Proofs.Ytjhijdkliepkpaa.OctUOct Go.Proofs.Ytjhijdkliepkpaa.OctPOct Go.Proofs.Ytjhijdkliepkpaa.OctROct Go.Proofs.YtjhijdkliepkpaaW.PrintWords Go.Proofs.YtjhijdkliepkpaaW.PrintLast

theorem put_eq (k : Nat) (l : List Int) (p v : Int) (n : Nat) (hn : n = 2 ∨ n = 4 ∨ n = 8) (hl : (l.length : Int) ≤ 4611686018427387904) (h0 : 0 ≤ v) (h1 : v < 18446744073709551616) :
    fettlelaw01_put.f (k + 20) l p n v = some (if inb l p n = true then (true, l.take p.toNat ++ leb n v ++ l.drop (p.toNat + n)) else (false, l)) := by
  unfold fettlelaw01_put.f
  rcases hn with rfl | rfl | rfl
  · rw [if_pos (by omega), Put16_eq (k + 17) l p _ hl, wu16, leb_mod 2 v 65536 ⟨1, by decide, rfl⟩]
    rfl
  · rw [if_neg (by omega), if_pos (by omega), Put32_eq (k + 15) l p _ hl, leb_mod 4 v 4294967296 ⟨1, by decide, rfl⟩]
    rfl
  · rw [if_neg (by omega), if_neg (by omega), Put64_eq (k + 11) l p _ hl]
    rfl
/-- The body behind the loop. -/
theorem writes_end (k : Nat) (n : Nat) (i : Int) (l : List Int) (p s v : Int) (hn : n = 2 ∨ n = 4 ∨ n = 8) (hb : B8 l) (hl : l.length ≤ 300) (h0 : 0 ≤ v) (h1 : v < 18446744073709551616)
    (hi : ¬ i < wrap64 (Int.tmod (IntKind.u64.wrap s) 3)) : fettlelaw01_OctetWrites.l0 (k + 21) n i l p s v = some true := by
  rw [fettlelaw01_OctetWrites.l0, if_neg hi, Part_all (by omega)]
  simp only [obind]
  rw [put_eq k l p v n hn (by omega) h0 h1, In_eq l p n (by omega)]
  simp only [obind]
  by_cases h : inb l p n = true
  · have h' := inb_iff.1 h
    rw [if_pos h]
    simp only [h, bne_self_eq_false, Bool.false_eq_true, if_false, if_true]
    rw [low_eq (k + 10)]
    simp only [obind, if_true]
    rw [Bytes_eq (k + 20) v n h0 h1 (by omega) (by omega)]
    simp only [obind]
    rw [With_eq h'.1 (by rw [leb_length]; omega) (by omega)]
    simp only [obind]
    rw [leb_length, Same_eq (((hb.take _).append (leb_b8 _ _)).append (hb.drop _)) (((hb.take _).append (leb_b8 _ _)).append (hb.drop _))]
    simp
  · rw [if_neg h]
    have h' : inb l p n = false := by simpa using h
    simp only [h', bne_self_eq_false, Bool.false_eq_true, if_false]
    rw [low_eq (k + 10)]
    simp only [obind, if_true]
    rw [Same_eq hb hb]
    simp
theorem OctetWrites : fettlelaw01_OctetWrites.Pure := by
  intro l p s v hm hw hp hs hv
  have hb := B8.of_wf hw
  have hv := wf_u64.1 hv
  have hs := wf_i64.1 hs
  refine ⟨40, ?_⟩
  unfold fettlelaw01_OctetWrites.f
  by_cases h : (l.length : Int) > 300
  · rw [if_pos h, low_eq 30]; rfl
  · rw [if_neg h]
    have hl : l.length ≤ 300 := by omega
    have ht : ∃ t : Int, wrap64 (Int.tmod (IntKind.u64.wrap s) 3) = t ∧ 0 ≤ t ∧ t ≤ 2 := by
      refine ⟨_, rfl, ?_⟩
      rw [wu64, Int.tmod_eq_emod_of_nonneg (by omega), w64 (by omega) (by omega)]
      omega
    obtain ⟨t, ht, t0, t2⟩ := ht
    have step : ∀ (k : Nat) (n i : Int), i < t → 0 ≤ i → 0 ≤ n → n < 100 → fettlelaw01_OctetWrites.l0 (k + 1) n i l p s v = fettlelaw01_OctetWrites.l0 k (n * 2) (i + 1) l p s v := by
      intro k n i hi h0 n0 n1
      rw [fettlelaw01_OctetWrites.l0, ht, if_pos hi, w64 (by omega) (by omega), w64 (by omega) (by omega)]
    have e2 := fun (hi : ¬ (0 : Int) < t) => writes_end 19 2 0 l p s v (.inl rfl) hb hl hv.1 hv.2 (by rw [ht]; exact hi)
    have e4 := fun (hi : ¬ (1 : Int) < t) => writes_end 18 4 1 l p s v (.inr (.inl rfl)) hb hl hv.1 hv.2 (by rw [ht]; exact hi)
    have e8 := fun (hi : ¬ (2 : Int) < t) => writes_end 17 8 2 l p s v (.inr (.inr rfl)) hb hl hv.1 hv.2 (by rw [ht]; exact hi)
    by_cases a : (0 : Int) < t
    · rw [step 39 2 0 a (by omega) (by omega) (by omega)]
      by_cases b : (1 : Int) < t
      · rw [show (2 : Int) * 2 = 4 from rfl, show (0 : Int) + 1 = 1 from rfl, step 38 4 1 b (by omega) (by omega) (by omega)]
        exact e8 (by omega)
      · exact e4 b
    · exact e2 a

end Go.Proofs.Ytjhijdkliepkpaa.Pure
