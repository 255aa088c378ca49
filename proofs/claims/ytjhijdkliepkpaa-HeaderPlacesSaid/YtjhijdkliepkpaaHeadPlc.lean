/- A header's numbers, plainly; and what the printed functions of package header, and the reference's, answer. -/
import Derived.Test.YtjhijdkliepkpaaHeadP
import Derived.Test.YtjhijdkliepkpaaWMore
import Derived.Test.YtjhijdkliepkpaaPPlcx2
import Derived.Test.YtjhijdkliepkpaaPPlcx3
import Derived.Test.YtjhijdkliepkpaaPPlcx4
import Derived.Test.YtjhijdkliepkpaaPPlcx5
import Derived.Test.YtjhijdkliepkpaaPPlcx6
set_option linter.unusedVariables false
set_option linter.unusedSimpArgs false
namespace Go.Proofs.Ytjhijdkliepkpaa.HeadPlc
open Go.RowKit Go.Proofs.Ytjhijdkliepkpaa.HeadP Go.Proofs.Ytjhijdkliepkpaa.PPlc Go.Proofs.Ytjhijdkliepkpaa.Base Go.Proofs.YtjhijdkliepkpaaW.PrintWords Go.Proofs.YtjhijdkliepkpaaW.PrintLast Go.Proofs.YtjhijdkliepkpaaW.PrintMore

theorem mxmn (x m : Int) (hm : 0 ≤ m) : mx 0 (mn x m) = clp x m := by unfold mx mn clp; split <;> split <;> (try split) <;> omega
section
variable (b s h j : Int) (k : Bool)
theorem Cluster_eq : header_Header_Cluster.f b s h j k = some (csz b) := by
  unfold header_Header_Cluster.f csz
  by_cases h1 : b < 9
  · rw [if_pos h1, if_neg (by omega), if_neg (by omega), if_neg (by omega)]
  · rw [if_neg h1]
    by_cases h2 : b > 12
    · rw [if_pos h2, if_neg (by omega), if_neg (by omega), if_neg (by omega)]
    · rw [if_neg h2, if_pos (by omega)]
      have : b = 9 ∨ b = 10 ∨ b = 11 ∨ b = 12 := by omega
      rcases this with rfl | rfl | rfl | rfl <;> decide +kernel
theorem up_eq {n u : Int} (hu : u = 512 ∨ u = 1024 ∨ u = 2048 ∨ u = 4096) (h0 : 0 ≤ n) (h1 : n ≤ 1000000000000) : header_up.f n u = some (upn n u) := by
  unfold header_up.f upn
  rw [if_neg (by omega), w64 (x := n + u) (by omega) (by omega), w64 (x := n + u - 1) (by omega) (by omega), Int.tdiv_eq_ediv_of_nonneg (by omega)]
  rcases hu with rfl | rfl | rfl | rfl <;> rw [w64 (by omega) (by omega)]
theorem Entries_eq : header_Header_Entries.f b s h j k = some (csz b / 8) := by
  unfold header_Header_Entries.f
  rw [Cluster_eq]
  simp only [obind]
  rcases csz_cases b with e | e | e | e <;> rw [e] <;> decide +kernel
theorem Guest_eq : header_Header_Guest.f b s h j k = some (guestn b s) := by
  unfold header_Header_Guest.f
  have := clp_range s (m := 16777216) (by omega)
  rw [Cluster_eq, mxmn _ _ (by omega)]
  simp only [obind]
  rw [up_eq (csz_cases b) (by omega) (by omega)]
  rfl
theorem refs_eq : header_Header_refs.f b s h j k = some (refsn b h) := by
  unfold header_Header_refs.f
  have := clp_range h (m := 8192) (by omega)
  have e : wrap64 (2 * clp h 8192) = 2 * clp h 8192 := w64 (by omega) (by omega)
  rw [Cluster_eq, mxmn _ _ (by omega)]
  simp only [obind, e]
  rw [up_eq (csz_cases b) (by omega) (by omega)]
  rfl
theorem JournalAt_eq : header_Header_JournalAt.f b s h j k = some (csz b, csz b * at2 j) := by
  unfold header_Header_JournalAt.f at2
  have hc := clp_range j (m := 8192) (by omega)
  rw [Cluster_eq, mxmn _ _ (by omega)]
  simp only [obind]
  have e : wrap64 (1 + clp j 8192) = 1 + clp j 8192 := w64 (by omega) (by omega)
  rw [e]
  congr 2
  rcases csz_cases b with e | e | e | e <;> rw [e] <;> exact w64 (by omega) (by omega)
theorem RefsAt_eq : header_Header_RefsAt.f b s h j k = some (csz b * at2 j, csz b * at3 b h j) := by
  unfold header_Header_RefsAt.f
  have ha := at_range b h j
  have hr := refsn_range b h
  have e3 : at3 b h j = at2 j + refsn b h := rfl
  rw [JournalAt_eq, refs_eq, Cluster_eq]
  simp only [obind]
  congr 2
  generalize refsn b h = r at *
  generalize at2 j = a at *
  rw [e3]
  rcases csz_cases b with e | e | e | e <;> rw [e, w64 (x := r * _) (by omega) (by omega), w64 (by omega) (by omega)] <;> omega
theorem SnapsAt_eq : header_Header_SnapsAt.f b s h j k = some (csz b * at3 b h j, csz b * (at3 b h j + 1)) := by
  unfold header_Header_SnapsAt.f
  have ha := at_range b h j
  rw [RefsAt_eq, Cluster_eq]
  simp only [obind]
  congr 2
  generalize at3 b h j = a at *
  rcases csz_cases b with e | e | e | e <;> rw [e, w64 (by omega) (by omega)] <;> omega
theorem TopAt_eq : header_Header_TopAt.f b s h j k = some (csz b * (at3 b h j + 1), csz b * at5 b h j) := by
  unfold header_Header_TopAt.f
  have ha := at_range b h j
  have e5 : at5 b h j = at3 b h j + 2 := rfl
  rw [SnapsAt_eq, Cluster_eq]
  simp only [obind]
  congr 2
  rw [e5]
  generalize at3 b h j = a at *
  rcases csz_cases b with e | e | e | e <;> rw [e, w64 (by omega) (by omega)] <;> omega
theorem First_eq : header_Header_First.f b s h j k = some (at5 b h j) := by
  unfold header_Header_First.f
  have ha := at_range b h j
  have e5 : at5 b h j = at3 b h j + 2 := rfl
  rw [TopAt_eq, Cluster_eq]
  simp only [obind]
  rw [e5]
  generalize at3 b h j = a at *
  rcases csz_cases b with e | e | e | e <;> rw [e, if_neg (by omega), Int.tdiv_eq_ediv_of_nonneg (by omega), w64 (by omega) (by omega)] <;> congr 1 <;> omega
theorem Least_eq : header_Header_Least.f b s h j k = some (leastn b h) := by
  unfold header_Header_Least.f
  have hr := refsn_range b h
  rw [refs_eq, Cluster_eq]
  simp only [obind]
  have e1 : wrap64 (refsn b h + 18) = refsn b h + 18 := w64 (by omega) (by omega)
  have e2 : wrap64 ((refsn b h + 18) * csz b) = (refsn b h + 18) * csz b := by rcases csz_cases b with e | e | e | e <;> rw [e] <;> exact w64 (by omega) (by omega)
  have e3 : 0 ≤ (refsn b h + 18) * csz b ∧ (refsn b h + 18) * csz b ≤ 1000000 := by rcases csz_cases b with e | e | e | e <;> rw [e] <;> omega
  rw [e1, e2, w64 (x := _ + 4096) (by omega) (by omega), w64 (by omega) (by omega), up_eq (csz_cases b) (by omega) (by omega)]
  simp only [obind]
  unfold leastn
  congr 2
  omega
theorem Check_eq (hs0 : -9223372036854775808 ≤ s) (hs1 : s < 9223372036854775808) (n : Nat) : header_Header_Check.f (n + 4) b s h j k = some (checkn b s h j) := by
  unfold header_Header_Check.f checkn
  have j0t : header_Header_Check.j0 (n + 4) true b s h j k = some 11 := by rw [header_Header_Check.j0, if_pos rfl]
  by_cases h1 : b < 9
  · rw [if_pos h1, j0t, if_pos (.inl h1)]
  · rw [if_neg h1]
    by_cases h2 : b > 12
    · rw [decide_eq_true h2, j0t, if_pos (.inr h2)]
    · rw [decide_eq_false h2, if_neg (by omega), header_Header_Check.j0, if_neg (by simp)]
      have j1t : header_Header_Check.j1 (n + 3) true b s h j k = some 11 := by rw [header_Header_Check.j1, if_pos rfl]
      by_cases s1 : s < 512
      · rw [if_pos s1, j1t, if_pos (.inl s1)]
      · rw [if_neg s1]
        by_cases s2 : s > 16777216
        · rw [if_pos s2, j1t, if_pos (.inr (.inl s2))]
        · rw [if_neg s2, Int.tmod_eq_emod_of_nonneg (by omega)]
          by_cases s3 : s % 512 = 0
          · rw [if_neg (by omega), s3, header_Header_Check.j1, if_neg (by simp), Guest_eq, Entries_eq]
            simp only [obind]
            have hg := guestn_range b s
            have ee : wrap64 (csz b / 8 * (csz b / 8)) = csz b / 8 * (csz b / 8) := by rcases csz_cases b with e | e | e | e <;> rw [e] <;> decide +kernel
            rw [ee]
            have j2t : header_Header_Check.j2 (n + 2) true b s h j k = some 20 := by rw [header_Header_Check.j2, if_pos rfl]
            by_cases g1 : guestn b s > csz b / 8 * (csz b / 8)
            · rw [if_pos g1, if_pos g1]
            · rw [if_neg g1, if_neg g1]
              by_cases g2 : h < 1
              · rw [if_pos g2, j2t, if_pos (.inl g2)]
              · rw [if_neg g2]
                by_cases g3 : h > 8192
                · rw [if_pos g3, j2t, if_pos (.inr (.inl g3))]
                · have hm : wrap64 (h * csz b) = h * csz b := by rcases csz_cases b with e | e | e | e <;> rw [e] <;> exact w64 (by omega) (by omega)
                  rw [if_neg g3, Cluster_eq]
                  simp only [obind]
                  rw [hm]
                  by_cases g4 : h * csz b > 4194304
                  · rw [decide_eq_true g4, j2t, if_pos (.inr (.inr g4))]
                  · rw [decide_eq_false g4, if_neg (by omega), header_Header_Check.j2, if_neg (by simp), Least_eq]
                    simp only [obind]
                    by_cases l1 : j < leastn b h
                    · rw [if_pos l1, if_pos (.inl l1)]
                    · rw [if_neg l1]
                      by_cases l2 : j > 8192
                      · rw [if_pos l2, if_pos (.inr (.inl l2))]
                      · rw [if_neg l2, First_eq]
                        simp only [obind]
                        by_cases l3 : at5 b h j > h
                        · rw [if_pos l3, if_pos (.inr (.inr l3))]
                        · rw [if_neg l3, if_neg (by omega)]
          · have : (s % 512 != 0) = true := by simpa using s3
            rw [this, j1t, if_pos (.inr (.inr s3))]
theorem rCluster_eq (n : Nat) : fettleref07_Head_Cluster.f (n + 6) b s h j k = some (csz b) := by
  have step : ∀ (m : Nat) (c i : Int), i < b → 0 ≤ i → i < 100 → 0 ≤ c → c < 100000 → fettleref07_Head_Cluster.l0 (m + 1) c i b s h j k = fettleref07_Head_Cluster.l0 m (c * 2) (i + 1) b s h j k := by
    intro m c i h0 h1 h2 h3 h4
    rw [fettleref07_Head_Cluster.l0, if_pos h0, w64 (by omega) (by omega), w64 (by omega) (by omega)]
  have stop : ∀ (m : Nat) (c i : Int), ¬ i < b → fettleref07_Head_Cluster.l0 (m + 1) c i b s h j k = some c := by
    intro m c i h0
    rw [fettleref07_Head_Cluster.l0, if_neg h0]
  unfold fettleref07_Head_Cluster.f csz
  by_cases h1 : b < 9
  · rw [if_pos h1, fettleref07_Head_Cluster.j0, if_pos rfl, if_neg (by omega), if_neg (by omega), if_neg (by omega)]
  · rw [if_neg h1, fettleref07_Head_Cluster.j0]
    by_cases h2 : b > 12
    · rw [if_pos (by simpa using h2), if_neg (by omega), if_neg (by omega), if_neg (by omega)]
    · rw [if_neg (by simpa using h2)]
      have : b = 9 ∨ b = 10 ∨ b = 11 ∨ b = 12 := by omega
      rcases this with e | e | e | e
      · rw [stop _ _ _ (by omega), if_neg (by omega), if_neg (by omega), if_neg (by omega)]
      · rw [step _ _ _ (by omega) (by omega) (by omega) (by omega) (by omega), stop _ _ _ (by omega), if_pos e]; rfl
      · rw [step _ _ _ (by omega) (by omega) (by omega) (by omega) (by omega), step _ _ _ (by omega) (by omega) (by omega) (by omega) (by omega), stop _ _ _ (by omega), if_neg (by omega), if_pos e]; rfl
      · rw [step _ _ _ (by omega) (by omega) (by omega) (by omega) (by omega), step _ _ _ (by omega) (by omega) (by omega) (by omega) (by omega), step _ _ _ (by omega) (by omega) (by omega) (by omega) (by omega), stop _ _ _ (by omega), if_neg (by omega), if_neg (by omega), if_pos e]; rfl
theorem units_eq {n u : Int} (hu : u = 512 ∨ u = 1024 ∨ u = 2048 ∨ u = 4096) (h0 : 0 ≤ n) (h1 : n ≤ 1000000000000) : fettleref07_units.f n u = some (upn n u) := by
  unfold fettleref07_units.f upn
  rw [if_neg (by omega), Int.tdiv_eq_ediv_of_nonneg h0, Int.tmod_eq_emod_of_nonneg h0]
  rcases hu with rfl | rfl | rfl | rfl <;> (rw [w64 (x := n / _) (by omega) (by omega), w64 (by omega) (by omega)]; split <;> congr 1 <;> omega)
theorem between_eq (x m : Int) : fettleref07_between.f x 0 m = some (clp x m) := by
  unfold fettleref07_between.f clp
  split <;> (try split) <;> rfl
theorem rGuest_eq (n : Nat) : fettleref07_Head_Guest.f (n + 6) b s h j k = some (guestn b s) := by
  unfold fettleref07_Head_Guest.f
  have := clp_range s (m := 16777216) (by omega)
  rw [between_eq, rCluster_eq]
  simp only [obind]
  rw [units_eq (csz_cases b) (by omega) (by omega)]
  rfl
theorem rRefs_eq (n : Nat) : fettleref07_Head_Refs.f (n + 6) b s h j k = some (refsn b h) := by
  unfold fettleref07_Head_Refs.f
  have := clp_range h (m := 8192) (by omega)
  have e : wrap64 (2 * clp h 8192) = 2 * clp h 8192 := w64 (by omega) (by omega)
  rw [between_eq, rCluster_eq]
  simp only [obind, e]
  rw [units_eq (csz_cases b) (by omega) (by omega)]
  rfl
theorem rAt_eq (n : Nat) (w : Int) (hw0 : 0 ≤ w) : fettleref07_Head_At.f (n + 10) b s h j k w = some (atn b h j w) := by
  have ha := at_range b h j
  have hr := refsn_range b h
  have hc := clp_range j (m := 8192) (by omega)
  have e2 : at2 j = 1 + clp j 8192 := rfl
  have e3 : at3 b h j = at2 j + refsn b h := rfl
  have e5 : at5 b h j = at3 b h j + 2 := rfl
  have E2 : wrap64 (0 + 1 + clp j 8192) = at2 j := by rw [w64 (by omega) (by omega)]; omega
  have E3 : wrap64 (at2 j + refsn b h) = at3 b h j := by rw [w64 (by omega) (by omega)]; omega
  have E4 : wrap64 (at3 b h j + 1) = at3 b h j + 1 := w64 (by omega) (by omega)
  have E5 : wrap64 (at3 b h j + 1 + 1) = at5 b h j := by rw [w64 (by omega) (by omega)]; omega
  unfold fettleref07_Head_At.f atn
  have n0 : ∀ {a b : Option Int} (m : Int), w > m → (if w ≤ m then a else b) = b := fun m h => if_neg (by omega)
  by_cases w0 : w > 0
  · rw [if_pos w0, if_neg (show ¬ w ≤ 0 by omega), fettleref07_Head_At.j0]
    by_cases w1 : w > 1
    · rw [if_pos w1, if_neg (show ¬ w ≤ 1 by omega), between_eq]
      simp only [obind]
      rw [E2, fettleref07_Head_At.j1]
      by_cases w2 : w > 2
      · rw [if_pos w2, if_neg (show ¬ w ≤ 2 by omega), rRefs_eq b s h j k (n + 2)]
        simp only [obind]
        rw [E3, fettleref07_Head_At.j2]
        by_cases w3 : w > 3
        · rw [if_pos w3, if_neg (show ¬ w ≤ 3 by omega), E4]
          by_cases w4 : w > 4
          · rw [if_pos w4, if_neg (show ¬ w ≤ 4 by omega), E5]
          · rw [if_neg w4, if_pos (show w ≤ 4 by omega)]
        · rw [if_neg w3, if_neg (show ¬ w > 4 by omega), if_pos (show w ≤ 3 by omega)]
      · rw [if_neg w2, if_pos (show w ≤ 2 by omega), fettleref07_Head_At.j2, if_neg (show ¬ w > 3 by omega), if_neg (show ¬ w > 4 by omega)]
    · rw [if_neg w1, if_pos (show w ≤ 1 by omega), fettleref07_Head_At.j1, if_neg (show ¬ w > 2 by omega), fettleref07_Head_At.j2, if_neg (show ¬ w > 3 by omega), if_neg (show ¬ w > 4 by omega)]
      rfl
  · rw [if_neg w0, if_pos (show w ≤ 0 by omega), fettleref07_Head_At.j0, if_neg (show ¬ w > 1 by omega), fettleref07_Head_At.j1, if_neg (show ¬ w > 2 by omega), fettleref07_Head_At.j2, if_neg (show ¬ w > 3 by omega), if_neg (show ¬ w > 4 by omega)]
theorem rLeast_eq (n : Nat) : fettleref07_Head_Least.f (n + 6) b s h j k = some (leastn b h) := by
  unfold fettleref07_Head_Least.f
  have hr := refsn_range b h
  rw [rRefs_eq, rCluster_eq]
  simp only [obind]
  have e1 : wrap64 (refsn b h + 18) = refsn b h + 18 := w64 (by omega) (by omega)
  have e2 : wrap64 ((refsn b h + 18) * csz b) = (refsn b h + 18) * csz b := by rcases csz_cases b with e | e | e | e <;> rw [e] <;> exact w64 (by omega) (by omega)
  have e3 : 0 ≤ (refsn b h + 18) * csz b ∧ (refsn b h + 18) * csz b ≤ 1000000 := by rcases csz_cases b with e | e | e | e <;> rw [e] <;> omega
  rw [e1, e2, w64 (by omega) (by omega), units_eq (csz_cases b) (by omega) (by omega)]
  simp only [obind]
  unfold leastn
  congr 2
  omega
theorem laid10 : fettlelaw07_laid.f 10 = some true := by decide +kernel
end
end Go.Proofs.Ytjhijdkliepkpaa.HeadPlc
