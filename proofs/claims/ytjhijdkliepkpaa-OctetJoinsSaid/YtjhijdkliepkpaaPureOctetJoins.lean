/- The pure statement of the law OctetJoins: for all arguments as Go can hand them in, the printed law answers true. -/
import Derived.Test.YtjhijdkliepkpaaOctROct
import Derived.Test.YtjhijdkliepkpaaPOctx6
set_option linter.unusedVariables false
set_option linter.unusedSimpArgs false
namespace Go.Proofs.Ytjhijdkliepkpaa.Pure
open Go.RowKit Go.Proofs.Ytjhijdkliepkpaa.POct Go.Proofs.Ytjhijdkliepkpaa.Base Go.Proofs.Ytjhijdkliepkpaa.OctUOct Go.Proofs.Ytjhijdkliepkpaa.OctROct Go.Proofs.YtjhijdkliepkpaaW.PrintWords Go.Proofs.YtjhijdkliepkpaaW.PrintLast

theorem rdL_drop {l : List (List Int)} {i : Nat} (h : i < l.length) : l.drop i = rd_L1 l i :: l.drop (i + 1) := by
  rw [List.drop_eq_getElem_cons h]
  congr 1
  show _ = l.getD (i : Int).toNat []
  simp [List.getD_eq_getElem?_getD, List.getElem?_eq_getElem h]
theorem rdL_mem {l : List (List Int)} {i : Nat} (h : i < l.length) : rd_L1 l i ∈ l := by
  have : rd_L1 l i = l[i] := by
    show l.getD (i : Int).toNat [] = l[i]
    simp [List.getD_eq_getElem?_getD, List.getElem?_eq_getElem h]
  rw [this]
  exact List.getElem_mem h
theorem join_loop (l : List (List Int)) (hl : l.length ≤ 20) (h3 : ∀ x ∈ l, x.length ≤ 300) : ∀ (d k i : Nat) (acc : List Int), i + d = l.length → d < k → acc.length ≤ 300 * i → octet_Join.l0 k acc l l.length i = some (acc ++ (l.drop i).flatten) := by
  intro d
  induction d with
  | zero =>
    intro k i acc hi hk ha
    obtain ⟨k, rfl⟩ : ∃ m, k = m + 1 := ⟨k - 1, by omega⟩
    rw [octet_Join.l0, if_neg (by omega), List.drop_eq_nil_of_le (by omega)]
    simp
  | succ d ih =>
    intro k i acc hi hk ha
    obtain ⟨k, rfl⟩ : ∃ m, k = m + 1 := ⟨k - 1, by omega⟩
    have hlt : i < l.length := by omega
    have h4 := h3 _ (rdL_mem hlt)
    rw [octet_Join.l0, if_pos (by omega), if_pos (by omega), if_pos (by omega), if_pos (by omega), w64 (by omega) (by omega)]
    have := ih k (i + 1) (acc ++ rd_L1 l i) (by omega) (by omega) (by simp; omega)
    rw [show (((i + 1 : Nat) : Int)) = (i : Int) + 1 by omega] at this
    rw [this, rdL_drop hlt]
    simp
theorem pad_loop (p : Int) (hp : 1 < p) (h4 : p ≤ 4096) : ∀ (d k : Nat) (acc : List Int), (acc.length : Int) + d ≤ 20000 → (d : Int) < p → ((acc.length : Int) + d) % p = 0 → d < k → octet_Pad.l0 k p acc = some (acc ++ List.replicate d 0) := by
  intro d
  induction d with
  | zero =>
    intro k acc ha hd hm hk
    obtain ⟨k, rfl⟩ : ∃ m, k = m + 1 := ⟨k - 1, by omega⟩
    rw [octet_Pad.l0, if_pos hp, if_neg (by omega), if_pos (by simpa using hm)]
    simp
  | succ d ih =>
    intro k acc ha hd hm hk
    obtain ⟨k, rfl⟩ : ∃ m, k = m + 1 := ⟨k - 1, by omega⟩
    have hne : ¬ ((acc.length : Int) % p) = 0 := by
      intro h0
      have h1 := Int.emod_eq_of_lt (a := ((d + 1 : Nat) : Int)) (b := p) (by omega) (by omega)
      rw [Int.add_emod, h0, Int.zero_add, Int.emod_emod_of_dvd _ (Int.dvd_refl p)] at hm
      omega
    rw [octet_Pad.l0, if_pos hp, if_neg (by omega), if_neg hne, if_pos (by omega)]
    have := ih k (acc ++ [0]) (by simp; omega) (by omega) (by rw [← hm]; congr 1; simp; omega) (by omega)
    rw [this]
    simp [List.replicate_succ]
/-- How many noughts are wanted. -/
theorem pads (l : List Int) (p : Int) (h6 : l.length ≤ 6000) (h4 : p ≤ 4096) : ∃ r, (∀ k, 5000 ≤ k → octet_Pad.f k l p = some r) ∧ fettleref01_Pad.f l p = some r ∧ ∃ n, r = l ++ List.replicate n 0 := by
  by_cases h : p < 2
  · refine ⟨l, fun k hk => ?_, ?_, 0, by simp⟩
    · obtain ⟨k, rfl⟩ : ∃ m, k = m + 1 := ⟨k - 1, by omega⟩
      rw [octet_Pad.f, if_pos (by simp; omega), octet_Pad.l0, if_neg (by omega)]
      simp
    · rw [fettleref01_Pad.f, if_pos (by simp; omega)]
      simp only [obind]
      rw [if_pos h]
      simp
  · have e0 := Int.emod_nonneg (l.length : Int) (show p ≠ 0 by omega)
    have e1 := Int.emod_lt_of_pos (l.length : Int) (show 0 < p by omega)
    by_cases hz : ((l.length : Int) % p) = 0
    · refine ⟨l, fun k hk => ?_, ?_, 0, by simp⟩
      · rw [octet_Pad.f, if_pos (by simp; omega), List.nil_append, pad_loop p (by omega) h4 0 k l (by omega) (by omega) (by simpa using hz) (by omega)]
        simp
      · rw [fettleref01_Pad.f, if_pos (by simp; omega)]
        simp only [obind]
        rw [if_neg h, if_neg (by omega), if_pos hz]
        simp
    · have hd : ∃ d : Nat, (d : Int) = p - (l.length : Int) % p := ⟨(p - (l.length : Int) % p).toNat, by omega⟩
      obtain ⟨d, hd⟩ := hd
      have hm : ((l.length : Int) + d) % p = 0 := by
        have := Int.emod_add_mul_ediv (l.length : Int) p
        have e : (l.length : Int) + d = p * ((l.length : Int) / p + 1) := by rw [Int.mul_add]; omega
        rw [e]
        exact Int.mul_emod_right p _
      refine ⟨l ++ List.replicate d 0, fun k hk => ?_, ?_, d, rfl⟩
      · rw [octet_Pad.f, if_pos (by simp; omega), List.nil_append, pad_loop p (by omega) h4 d k l (by omega) (by omega) hm (by omega)]
      · rw [fettleref01_Pad.f, if_pos (by simp; omega)]
        simp only [obind]
        rw [if_neg h, if_neg (by omega), if_neg hz, w64 (by omega) (by omega), Zeros_eq (by omega) (by omega)]
        simp only [obind]
        rw [if_pos (by simp; omega), ← hd]
        simp
theorem joins_loop (l : List (List Int)) (p : Int) (hl : l.length ≤ 20) (hb : ∀ x ∈ l, B8 x) (h4 : p ≤ 4096) : ∀ (d k i : Nat) (acc : List Int), i + d = l.length → d + 20000 < k → acc = (l.take i).flatten → (∀ j, j < i → (rd_L1 l (j : Nat)).length ≤ 300) → acc.length ≤ 300 * i → B8 acc → fettlelaw01_OctetJoins.l0 k l p acc i = some true := by
  intro d
  induction d with
  | zero =>
    intro k i acc hi hk ha h3 hal hba
    obtain ⟨k, rfl⟩ : ∃ m, k = m + 20001 := ⟨k - 20001, by omega⟩
    have h3' : ∀ x ∈ l, x.length ≤ 300 := fun x hx => by
      obtain ⟨j, hj, rfl⟩ := List.getElem_of_mem hx
      have := h3 j (by omega)
      have e : rd_L1 l j = l[j] := by
        show l.getD (j : Int).toNat [] = l[j]
        simp [List.getD_eq_getElem?_getD, List.getElem?_eq_getElem hj]
      rwa [e] at this
    have hj := join_loop l hl h3' l.length (k + 20000) 0 [] (by omega) (by omega) (by simp)
    have hacc : acc = l.flatten := by rw [ha, List.take_of_length_le (by omega)]
    obtain ⟨r, hr1, hr2, n, hr⟩ := pads acc p (by omega) h4
    rw [fettlelaw01_OctetJoins.l0, if_neg (by omega), low_eq (k + 19990)]
    simp only [obind, if_true]
    rw [octet_Join.f, show (0 : Int) = ((0 : Nat) : Int) from rfl, hj]
    simp only [obind, List.nil_append, List.drop_zero]
    rw [← hacc, Same_eq hba hba]
    simp only [obind, decide_true, if_true]
    rw [hr1 (k + 20000) (by omega), hr2]
    have hbr : B8 r := by rw [hr]; exact hba.append (B8.replicate n)
    simp only [obind]
    rw [Same_eq hbr hbr]
    simp only [obind, decide_true, if_true]
    rw [Zero_eq (k + 20000) acc (by omega) (by omega), IsZero_eq (k + 20000) acc (by omega) (by omega)]
    simp
  | succ d ih =>
    intro k i acc hi hk ha h3 hal hba
    obtain ⟨k, rfl⟩ : ∃ m, k = m + 20001 := ⟨k - 20001, by omega⟩
    have hlt : i < l.length := by omega
    rw [fettlelaw01_OctetJoins.l0, if_pos (by omega), if_pos (by omega)]
    by_cases c : ((rd_L1 l i).length : Int) > 300
    · rw [if_pos c, low_eq (k + 19990)]; rfl
    · rw [if_neg c, if_pos (by omega), w64 (by omega) (by omega)]
      have := ih (k + 20000) (i + 1) (acc ++ rd_L1 l i) (by omega) (by omega) (by
        rw [ha, List.take_succ_eq_append_getElem hlt]
        have e : rd_L1 l i = l[i] := by
          show l.getD (i : Int).toNat [] = l[i]
          simp [List.getD_eq_getElem?_getD, List.getElem?_eq_getElem hlt]
        rw [e]; simp only [List.flatten_append, List.flatten_cons, List.flatten_nil, List.append_nil]) (fun j hj => by
        rcases Nat.lt_succ_iff_lt_or_eq.1 hj with hj | rfl
        · exact h3 j hj
        · omega) (by simp; omega) (hba.append (hb _ (rdL_mem hlt)))
      rw [show (((i + 1 : Nat) : Int)) = (i : Int) + 1 by omega] at this
      exact this
theorem OctetJoins : fettlelaw01_OctetJoins.Pure := by
  intro l p hm hg hp
  refine ⟨30000, ?_⟩
  unfold fettlelaw01_OctetJoins.f
  by_cases h : (l.length : Int) > 20
  · rw [if_pos h, fettlelaw01_OctetJoins.j0, if_pos rfl, low_eq 29989]; rfl
  · rw [if_neg h, fettlelaw01_OctetJoins.j0]
    by_cases h4 : p > 4096
    · rw [if_pos (by simpa using h4), low_eq 29989]; rfl
    · rw [if_neg (by simpa using h4)]
      have := joins_loop l p (by omega) (fun x hx => B8.of_wf (hg x hx).2) (by omega) l.length 29999 0 [] (by omega) (by omega) (by simp) (fun j hj => by omega) (by simp) B8.nil
      exact this
end Go.Proofs.Ytjhijdkliepkpaa.Pure
