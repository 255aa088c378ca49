/- The one form of every set, and how many bytes it has, are what the chapter says. -/
import Derived.Test.YtpmhlomilobgaaaExtY
import Derived.Test.YtpmhlomilobgaaaPExtx8
set_option linter.unusedVariables false
set_option linter.unusedSimpArgs false
namespace Go.Proofs.Ytpmhlomilobgaaa.Pure
open Go.RowKit Go.Proofs.Ytpmhlomilobgaaa.PExt Go.Proofs.YtpmhlomilobgaaaW.PrintWords Go.Proofs.YtpmhlomilobgaaaW.PrintLast Go.Proofs.Ytpmhlomilobgaaa.ExtM Go.Proofs.Ytpmhlomilobgaaa.ExtP Go.Proofs.Ytpmhlomilobgaaa.Base

theorem refbytes_l (l : List S65) (hl : l.length < 1000000) : ∀ (k : Nat) (n : Int) (i : Nat), i ≤ l.length → l.length - i < k → fettleref03_Bytes.l0 k n l (i : Int) = some ((l.drop i).foldl bytesStep n)
  | 0, _, _, _, h => by omega
  | k + 1, n, i, hi, h => by
    simp only [fettleref03_Bytes.l0]
    by_cases hlt : i < l.length
    · rw [if_pos (by omega), if_pos (by omega), rdT l i hlt, w1 i (by omega), refbytes_l l hl k _ (i + 1) (by omega) (by omega), List.drop_eq_getElem_cons hlt, List.foldl_cons]
      congr 2
      unfold bytesStep wrap64
      omega
    · rw [if_neg (by omega), List.drop_of_length_le (by omega)]
      rfl
theorem refbytes_ok {l : List S65} {k : Nat} (hl : l.length < 1000) (hk : 20 * l.length + 20 < k) : fettleref03_Bytes.f k l = some (bytesL (normL l)) := by
  unfold fettleref03_Bytes.f
  have hn := normL_length l
  rw [refnorm_ok hl hk, obind]
  have := refbytes_l (normL l) (by omega) k 0 0 (Nat.zero_le _) (by omega)
  simpa [bytesL] using this
theorem len50 {x : S65} (h : Lit50 x) : mx 0 (wrap64 (x.f1 - x.f0)) = len x := by
  obtain ⟨h1, h2, h3, h4⟩ := h
  unfold mx len wrap64
  split <;> split <;> omega
theorem apart_l (s l : List S65) (hs : s.length ≤ 1000000) (hl : l.length < 1000000) (h50 : ∀ x, x ∈ l → Lit50 x) : ∀ (k : Nat) (n : Int) (i : Nat), i ≤ l.length → l.length - i + s.length + 1 < k →
    extent_Apart.l0 k s (wrap64 n) l (l.length : Int) (i : Int) = some (wrap64 (tot (normL s)) == wrap64 (n + tot (l.drop i)))
  | 0, _, _, _, h => by omega
  | k + 1, n, i, hi, h => by
    simp only [extent_Apart.l0]
    by_cases hlt : i < l.length
    · have hd : tot (l.drop i) = len l[i] + tot (l.drop (i + 1)) := by rw [List.drop_eq_getElem_cons hlt, tot]
      have hx : wrap64 (wrap64 n + len l[i]) = wrap64 (n + len l[i]) := by unfold wrap64; omega
      rw [if_pos (by omega), if_pos (by omega), if_pos (by omega), rdT l i hlt, w1 i (by omega), len50 (h50 _ (List.getElem_mem hlt)), hx, apart_l s l hs hl h50 k _ (i + 1) (by omega) (by omega), hd, Int.add_assoc]
    · have hn := normL_length s
      rw [if_neg (by omega), norm_eq (by omega) (by omega), obind, bytes_ok (by omega), obind, normL_of_nf (normL_nf s), List.drop_of_length_le (by omega)]
      simp [tot]
theorem apart_ok {l : List S65} {k : Nat} (hl : l.length ≤ 30) (h50 : ∀ x, x ∈ l → Lit50 x) (hk : 100 < k) : ∃ b, extent_Apart.f k l = some b ∧ (b = true ↔ PD l) := by
  unfold extent_Apart.f
  have := apart_l l l (by omega) (by omega) h50 k 0 0 (Nat.zero_le _) (by omega)
  rw [List.drop_zero, Int.zero_add] at this
  rw [show ((0 : Nat) : Int) = 0 from rfl, show wrap64 0 = 0 from by unfold wrap64; omega] at this
  refine ⟨_, this, ?_⟩
  have hb : ∀ (m : List S65), (∀ x, x ∈ m → Lit50 x) → 0 ≤ tot m ∧ tot m ≤ 2251799813685248 * m.length := by
    intro m
    induction m with
    | nil => intro _; simp [tot]
    | cons x r ih =>
      intro h
      obtain ⟨h1, h2⟩ := ih (fun y hy => h y (List.mem_cons_of_mem _ hy))
      obtain ⟨g1, g2, g3, g4⟩ := h x (List.mem_cons_self ..)
      simp only [tot, len, List.length_cons]
      split <;> omega
  have h1 := hb l h50
  obtain ⟨h2, h3⟩ := tot_normL l
  have h0 : ∀ (m : List S65), 0 ≤ tot m := by
    intro m
    induction m with
    | nil => simp [tot]
    | cons x r ih => simp only [tot, len]; split <;> omega
  have h4 := h0 (normL l)
  have e : (wrap64 (tot (normL l)) = wrap64 (tot l)) ↔ tot (normL l) = tot l := by unfold wrap64; omega
  rw [beq_iff_eq, e, h3]
theorem disj_both (x y : S65) {L : List S65} (h : NF L) (hm : ∀ q, mem L q ↔ bothP [x] [y] 0 q = true) : L = [] ↔ Disj x y := by
  have hm2 : ∀ q, mem L q ↔ inS x q ∧ inS y q := fun q => by
    rw [hm q, bothP0, mem_cons, mem_cons]
    simp
  constructor
  · intro e q k
    have := (hm2 q).2 k
    rw [e] at this
    simp at this
  · exact fun k => NF.empty h fun q hq => k q ((hm2 q).1 hq)
def restP (l : List S65) (i : Nat) : Prop := ∀ a b (ha : a < l.length) (hb : b < l.length), i ≤ a → b < a → Disj l[a] l[b]
theorem refapart_l (l : List S65) (hl : l.length ≤ 30) : ∀ (k : Nat),
    (∀ i, i ≤ l.length → (l.length - i) * 40 + 200 < k → ∃ b, fettleref03_Apart.l0 k l (i : Int) = some b ∧ (b = true ↔ restP l i)) ∧
    (∀ i j (hi : i < l.length), j ≤ i → (l.length - i) * 40 + (i - j) + 165 < k → ∃ b, fettleref03_Apart.l1 k l (i : Int) (j : Int) = some b ∧ (b = true ↔ (∀ j' (hj : j' < l.length), j ≤ j' → j' < i → Disj l[i] l[j']) ∧ restP l (i + 1)))
  | 0 => ⟨fun _ _ h => by omega, fun _ _ _ _ h => by omega⟩
  | k + 1 => by
    obtain ⟨ih0, ih1⟩ := refapart_l l hl k
    constructor
    · intro i hi hk
      simp only [fettleref03_Apart.l0]
      by_cases hlt : i < l.length
      · rw [if_pos (by omega)]
        obtain ⟨b, h1, h2⟩ := ih1 i 0 hlt (Nat.zero_le _) (by omega)
        refine ⟨b, h1, h2.trans ?_⟩
        constructor
        · rintro ⟨k1, k2⟩ a c ha hc hia hca
          rcases Nat.eq_or_lt_of_le hia with rfl | h
          · exact k1 c hc (Nat.zero_le _) hca
          · exact k2 a c ha hc h hca
        · intro k1
          exact ⟨fun j' hj _ hji => k1 i j' hlt hj (Nat.le_refl _) hji, fun a c ha hc hia hca => k1 a c ha hc (by omega) hca⟩
      · rw [if_neg (by omega)]
        exact ⟨true, rfl, by simp only [true_iff]; intro a b ha hb hia hba; omega⟩
    · intro i j hi hj hk
      simp only [fettleref03_Apart.l1]
      by_cases hlt : j < i
      · rw [if_pos (by omega), if_pos (by omega), if_pos (by omega), if_pos (by omega), if_pos (by omega), rdT l i hi, rdT l j (by omega)]
        obtain ⟨L, h1, h2, h3⟩ := both_ok (a := [l[i]]) (b := [l[j]]) (k := k) 0 (by simp) (by simp) (by simp) (by simp; omega)
        rw [show fettleref03_Both.f k [⟨l[i].f0, l[i].f1⟩] [⟨l[j].f0, l[j].f1⟩] 0 = some L from h1, obind, w1 j (by omega)]
        have hd := disj_both l[i] l[j] h2 h3
        by_cases hL : L = []
        · subst hL
          rw [if_neg (by simp)]
          obtain ⟨b, g1, g2⟩ := ih1 i (j + 1) hi (by omega) (by omega)
          refine ⟨b, g1, g2.trans ⟨fun ⟨k1, k2⟩ => ⟨fun j' hj' h h' => ?_, k2⟩, fun ⟨k1, k2⟩ => ⟨fun j' hj' h h' => k1 j' hj' (by omega) h', k2⟩⟩⟩
          rcases Nat.eq_or_lt_of_le h with rfl | h
          · exact hd.1 rfl
          · exact k1 j' hj' h h'
        · have : 0 < L.length := List.length_pos_iff.2 hL
          rw [if_pos (by omega)]
          exact ⟨false, rfl, by
            constructor
            · intro h; cases h
            · rintro ⟨k1, _⟩
              exact absurd (hd.2 (k1 j (by omega) (Nat.le_refl _) hlt)) hL⟩
      · rw [if_neg (by omega), w1 i (by omega)]
        obtain ⟨b, g1, g2⟩ := ih0 (i + 1) (by omega) (by omega)
        refine ⟨b, g1, g2.trans ⟨fun k1 => ⟨fun j' hj' h h' => by omega, k1⟩, fun k1 => k1.2⟩⟩
theorem refapart_ok {l : List S65} {k : Nat} (hl : l.length ≤ 30) (hk : 2000 < k) : ∃ b, fettleref03_Apart.f k l = some b ∧ (b = true ↔ PD l) := by
  obtain ⟨b, h1, h2⟩ := (refapart_l l hl k).1 0 (Nat.zero_le _) (by omega)
  refine ⟨b, h1, h2.trans ?_⟩
  unfold PD
  rw [List.pairwise_iff_getElem]
  constructor
  · intro k1 i j hi hj hij
    exact (k1 j i hj hi (Nat.zero_le _) hij).symm
  · intro k1 a b ha hb _ hba
    exact (k1 b a hb ha hba).symm
theorem ExtentNorms : fettlelaw03_ExtentNorms.Pure := by
  intro s hl _
  have hl2 : s.length < 9223372036854775808 := by simp only [maxLen] at hl; omega
  refine ⟨2 * s.length + 10000, ?_⟩
  unfold fettlelaw03_ExtentNorms.f
  obtain ⟨b, h1, h2⟩ := near_ok (k := 2 * s.length + 10000) hl2 (by omega)
  rw [h1, obind]
  cases b with
  | false => rw [if_neg (by simp), joined_true (by omega), obind]
  | true =>
    obtain ⟨hs, h50⟩ := h2 rfl
    have hn := normL_length s
    rw [if_pos rfl, joined_true (by omega), obind, if_pos rfl, norm_eq (by omega) (by omega), obind, refnorm_ok (by omega) (by omega), obind, same_ok (by omega) (by omega), obind, if_pos rfl, bytes_ok (by omega), obind, refbytes_ok (by omega) (by omega), obind,
      if_pos (by rw [bytesL_nf (normL_nf s)])]
    obtain ⟨x, hx, hx2⟩ := apart_ok (k := 2 * s.length + 10000) hs h50 (by omega)
    obtain ⟨y, hy, hy2⟩ := refapart_ok (k := 2 * s.length + 10000) hs (by omega)
    rw [hx, obind, hy, obind]
    have : x = y := by
      have := hx2.trans hy2.symm
      cases x <;> cases y <;> simp_all
    rw [this]
    simp
end Go.Proofs.Ytpmhlomilobgaaa.Pure
