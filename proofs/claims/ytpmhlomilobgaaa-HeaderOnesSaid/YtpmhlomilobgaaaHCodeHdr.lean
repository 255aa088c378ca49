/- A header's cluster: as bytes, and back; what the printed functions answer. -/
import Derived.Test.YtpmhlomilobgaaaHeadHdr
import Derived.Test.YtpmhlomilobgaaaOctPHdr
import Derived.Test.YtpmhlomilobgaaaOctRHdr
import Derived.Test.YtpmhlomilobgaaaPHdrx10
import Derived.Test.YtpmhlomilobgaaaPHdrx12
import Derived.Test.YtpmhlomilobgaaaPHdrx6
set_option linter.unusedVariables false
set_option linter.unusedSimpArgs false
namespace Go.Proofs.Ytpmhlomilobgaaa.HCodeHdr
open Go.RowKit Go.Proofs.Ytpmhlomilobgaaa.PHdr Go.Proofs.Ytpmhlomilobgaaa.Base Go.Proofs.Ytpmhlomilobgaaa.HeadP Go.Proofs.Ytpmhlomilobgaaa.HeadHdr Go.Proofs.Ytpmhlomilobgaaa.OctUHdr Go.Proofs.Ytpmhlomilobgaaa.OctPHdr Go.Proofs.Ytpmhlomilobgaaa.OctRHdr Go.Proofs.YtpmhlomilobgaaaW.PrintWords Go.Proofs.YtpmhlomilobgaaaW.PrintLast Go.Proofs.YtpmhlomilobgaaaW.PrintMore

def b2i (k : Bool) : Int := if k = true then 1 else 0
/-- A header's bytes. -/
def encl (b s h j : Int) (k : Bool) : List Int := leb 4 1280591174 ++ (leb 4 b ++ (leb 8 s ++ (leb 4 h ++ (leb 4 j ++ (leb 4 (b2i k) ++ List.replicate (csz b - 28).toNat 0)))))
theorem encl_length (b s h j : Int) (k : Bool) : ((encl b s h j k).length : Int) = csz b := by
  have : 512 ≤ csz b := by rcases csz_cases b with e | e | e | e <;> omega
  simp only [encl, List.length_append, leb_length, List.length_replicate]
  omega
theorem encl_b8 (b s h j : Int) (k : Bool) : B8 (encl b s h j k) :=
  (leb_b8 _ _).append ((leb_b8 _ _).append ((leb_b8 _ _).append ((leb_b8 _ _).append ((leb_b8 _ _).append ((leb_b8 _ _).append (B8.replicate _))))))
abbrev HOut := Int × Int × Int × Int × Bool × Int
def herr (e : Int) : HOut := (0, 0, 0, 0, false, e)
/-- The header with which bytes begin. -/
def decn (l : List Int) : HOut :=
  if l.length < 28 then herr 4
  else if num l 0 4 ≠ 1280591174 then herr 10
  else if num l 4 4 > 12 ∨ num l 8 8 > 16777216 ∨ num l 24 4 > 1 then herr 11
  else if checkn (num l 4 4) (num l 8 8) (num l 16 4) (num l 20 4) ≠ 0 then herr (checkn (num l 4 4) (num l 8 8) (num l 16 4) (num l 20 4))
  else if (l.length : Int) < csz (num l 4 4) then herr 4
  else if ((l.drop 28).take (csz (num l 4 4) - 28).toNat).all (· == 0) = true then (num l 4 4, num l 8 8, num l 16 4, num l 20 4, num l 24 4 == 1, 0)
  else herr 11

theorem Decode_eq (n : Nat) (l : List Int) (hb : B8 l) (hl : l.length ≤ 140000) : header_Decode.f (n + 150000) l = some (decn l) := by
  have hl' : (l.length : Int) ≤ 4611686018427387904 := by omega
  have b0 := num_bound hb 0 4
  have b4 := num_bound hb 4 4
  have b8 := num_bound hb 8 8
  have b16 := num_bound hb 16 4
  have b20 := num_bound hb 20 4
  have b24 := num_bound hb 24 4
  unfold header_Decode.f decn
  rw [U32_eq (n + 149995) l 0 hb hl', U32_eq (n + 149995) l 4 hb hl', U64_eq (n + 149991) l 8 hb hl', U32_eq (n + 149995) l 16 hb hl', U32_eq (n + 149995) l 20 hb hl', U32_eq (n + 149995) l 24 hb hl']
  simp only [obind]
  by_cases h28 : l.length < 28
  · have r24 : rdn l 24 4 = (0, false) := by unfold rdn; rw [if_neg (by rw [inb_iff]; omega)]
    rw [if_pos h28, r24, if_neg (by simp)]; rfl
  · have r0 : rdn l 0 4 = (num l 0 4, true) := by unfold rdn; rw [if_pos (by rw [inb_iff]; omega)]
    have r4 : rdn l 4 4 = (num l 4 4, true) := by unfold rdn; rw [if_pos (by rw [inb_iff]; omega)]
    have r8 : rdn l 8 8 = (num l 8 8, true) := by unfold rdn; rw [if_pos (by rw [inb_iff]; omega)]
    have r16 : rdn l 16 4 = (num l 16 4, true) := by unfold rdn; rw [if_pos (by rw [inb_iff]; omega)]
    have r20 : rdn l 20 4 = (num l 20 4, true) := by unfold rdn; rw [if_pos (by rw [inb_iff]; omega)]
    have r24 : rdn l 24 4 = (num l 24 4, true) := by unfold rdn; rw [if_pos (by rw [inb_iff]; omega)]
    rw [if_neg h28, r0, r4, r8, r16, r20, r24, if_pos rfl]
    dsimp only
    generalize num l 0 4 = m at *
    generalize num l 4 4 = b at *
    generalize num l 8 8 = s at *
    generalize num l 16 4 = h at *
    generalize num l 20 4 = j at *
    generalize num l 24 4 = k at *
    by_cases hm : m = 1280591174
    · rw [if_pos hm, if_neg (show ¬ (m ≠ 1280591174) from fun z => z hm)]
      by_cases h1 : b > 12
      · rw [if_pos h1, if_pos (.inl h1)]; rfl
      · rw [if_neg h1]
        by_cases h2 : s > 16777216
        · rw [if_pos h2, if_pos (.inr (.inl h2))]; rfl
        · rw [if_neg h2]
          by_cases h3 : k > 1
          · rw [if_pos h3, if_pos (.inr (.inr h3))]; rfl
          · have e4 : wrap64 b = b := w64 (by omega) (by omega)
            have e8 : wrap64 s = s := w64 (by omega) (by omega)
            have e16 : wrap64 h = h := w64 (by omega) (by omega)
            have e20 : wrap64 j = j := w64 (by omega) (by omega)
            rw [if_neg h3, if_neg (show ¬ (b > 12 ∨ s > 16777216 ∨ k > 1) by omega), e4, e8, e16, e20, Check_eq b s h j _ (by omega) (by omega) (n + 149996)]
            simp only [obind]
            by_cases hc : checkn b s h j = 0
            · rw [if_pos hc, if_neg (show ¬ (checkn b s h j ≠ 0) from fun z => z hc), Cluster_eq]
              simp only [obind]
              have hcs : 512 ≤ csz b ∧ csz b ≤ 4096 := by rcases csz_cases b with e | e | e | e <;> omega
              rw [w64 (by omega) (by omega), Slice_eq (by omega)]
              simp only [obind]
              by_cases hlen : (l.length : Int) < csz b
              · rw [if_neg (show ¬ inb l 28 (csz b - 28) = true by rw [inb_iff]; omega), if_pos hlen]; rfl
              · rw [if_pos (show inb l 28 (csz b - 28) = true by rw [inb_iff]; omega), if_neg hlen]
                dsimp only
                rw [if_pos rfl, Zero_eq (n + 150000) _ (by simp; omega) (by simp; omega)]
                simp only [obind]
                rw [show (28 : Int).toNat = 28 from rfl]
                by_cases hz : ((l.drop 28).take (csz b - 28).toNat).all (· == 0) = true
                · rw [if_pos hz, if_pos hz]
                · rw [if_neg hz, if_neg hz]; rfl
            · rw [if_neg hc, if_pos hc]; rfl
    · rw [if_neg hm, if_pos hm]; rfl
theorem Int_eq (n : Nat) (l : List Int) (p : Int) (hb : B8 l) (hl : l.length ≤ 140000) (hp : 0 ≤ p) (hp4 : p + 4 ≤ l.length) : fettleref01_Int.f (n + 10) l p 4 = some (num l p 4) := by
  unfold fettleref01_Int.f
  have := Num_eq (n + 10) l p 4 hb (by omega) (by omega) (by omega)
  have hbn := num_bound hb p 4
  rw [show ((4 : Nat) : Int) = 4 from rfl] at this
  rw [this]
  have r : rdn l p 4 = (num l p 4, true) := by unfold rdn; rw [if_pos (by rw [inb_iff]; omega)]
  simp only [obind]
  rw [r, w64 (by omega) (by omega)]
theorem rDecode_eq (n : Nat) (l : List Int) (hb : B8 l) (hl : l.length ≤ 140000) : fettleref07_Decode.f (n + 150000) l = some (decn l) := by
  have b0 := num_bound hb 0 4
  have b4 := num_bound hb 4 4
  have b8 := num_bound hb 8 8
  have b16 := num_bound hb 16 4
  have b20 := num_bound hb 20 4
  have b24 := num_bound hb 24 4
  unfold fettleref07_Decode.f decn
  by_cases h28 : l.length < 28
  · rw [if_pos (by omega), if_pos h28]; rfl
  · have n8 := Num_eq (n + 150000) l 8 8 hb (by omega) (by omega) (by omega)
    rw [show ((8 : Nat) : Int) = 8 from rfl] at n8
    have r8 : rdn l 8 8 = (num l 8 8, true) := by unfold rdn; rw [if_pos (by rw [inb_iff]; omega)]
    have i0 := Int_eq (n + 149990) l 0 hb hl (by omega) (by omega)
    have i4 := Int_eq (n + 149990) l 4 hb hl (by omega) (by omega)
    have i24 := Int_eq (n + 149990) l 24 hb hl (by omega) (by omega)
    have j4 := Int_eq (n + 149989) l 4 hb hl (by omega) (by omega)
    have j16 := Int_eq (n + 149989) l 16 hb hl (by omega) (by omega)
    have j20 := Int_eq (n + 149989) l 20 hb hl (by omega) (by omega)
    have j24 := Int_eq (n + 149989) l 24 hb hl (by omega) (by omega)
    rw [if_neg (show ¬ (l.length : Int) < 28 by omega), if_neg h28, n8, r8, i0]
    simp only [obind]
    by_cases hm : num l 0 4 = 1280591174
    · rw [if_pos hm, if_neg (show ¬ (num l 0 4 ≠ 1280591174) from fun z => z hm), i4]
      simp only [obind]
      have bad : fettleref07_Decode.j0 (n + 150000) l (num l 8 8) true = some (herr 11) := by rw [fettleref07_Decode.j0, if_pos rfl]; rfl
      by_cases h1 : num l 4 4 > 12
      · rw [if_pos h1, if_pos (.inl h1), bad]
      · rw [if_neg h1]
        by_cases h2 : num l 8 8 > 16777216
        · rw [if_pos h2, if_pos (.inr (.inl h2)), bad]
        · rw [if_neg h2, i24]
          simp only [obind]
          by_cases h3 : num l 24 4 > 1
          · rw [decide_eq_true h3, if_pos (.inr (.inr h3)), bad]
          · rw [decide_eq_false h3, if_neg (show ¬ (num l 4 4 > 12 ∨ num l 8 8 > 16777216 ∨ num l 24 4 > 1) by omega), fettleref07_Decode.j0, if_neg (by simp), j4, j16, j20, j24]
            simp only [obind]
            generalize num l 4 4 = b at *
            generalize num l 8 8 = s at *
            generalize num l 16 4 = h at *
            generalize num l 20 4 = j at *
            generalize num l 24 4 = k at *
            rw [w64 (x := s) (by omega) (by omega), rCheck_eq b s h j _ (by omega) (by omega) (n + 149979)]
            simp only [obind]
            by_cases hc : checkn b s h j = 0
            · rw [if_pos hc, if_neg (show ¬ (checkn b s h j ≠ 0) from fun z => z hc), rCluster_eq b s h j _ (n + 149993)]
              simp only [obind]
              have hcs : 512 ≤ csz b ∧ csz b ≤ 4096 := by rcases csz_cases b with e | e | e | e <;> omega
              by_cases hlen : (l.length : Int) < csz b
              · rw [if_pos hlen, if_pos hlen]; rfl
              · have e : (l.take (csz b).toNat).drop 28 = (l.drop 28).take (csz b - 28).toNat := by
                  rw [List.take_drop, show 28 + (csz b - 28).toNat = (csz b).toNat by omega]
                rw [if_neg hlen, if_neg hlen, if_pos (by omega), if_pos (by omega), e, IsZero_eq (n + 149999) _ (by simp; omega) (by simp; omega)]
                simp only [obind]
                by_cases hz : ((l.drop 28).take (csz b - 28).toNat).all (· == 0) = true
                · rw [if_pos hz, if_pos hz]
                · rw [if_neg hz, if_neg hz]; rfl
            · rw [if_neg hc, if_pos hc]; rfl
    · rw [if_neg hm, if_pos hm]; rfl
/-- A number put behind what stands, over noughts. -/
theorem put_next (pre : List Int) (m n : Nat) (v : Int) (hn : n ≤ m) : (pre ++ List.replicate m 0).take pre.length ++ leb n v ++ (pre ++ List.replicate m 0).drop (pre.length + n) = pre ++ leb n v ++ List.replicate (m - n) 0 := by
  rw [List.take_left, List.drop_append, List.drop_eq_nil_of_le (by omega), List.nil_append, List.drop_replicate]
  congr 2
  omega
theorem put32_next (n : Nat) (pre : List Int) (m : Nat) (v p : Int) (hp : p = pre.length) (hm : 4 ≤ m) (hl : pre.length + m ≤ 100000) : octet_Put32.f (n + 5) (pre ++ List.replicate m 0) p v = some (true, pre ++ leb 4 v ++ List.replicate (m - 4) 0) := by
  rw [Put32_eq n _ _ _ (by simp; omega), if_pos (by rw [inb_iff]; simp; omega), hp, show ((pre.length : Nat) : Int).toNat = pre.length by omega, put_next pre m 4 v hm]
theorem put64_next (n : Nat) (pre : List Int) (m : Nat) (v p : Int) (hp : p = pre.length) (hm : 8 ≤ m) (hl : pre.length + m ≤ 100000) : octet_Put64.f (n + 9) (pre ++ List.replicate m 0) p v = some (true, pre ++ leb 8 v ++ List.replicate (m - 8) 0) := by
  rw [Put64_eq n _ _ _ (by simp; omega), if_pos (by rw [inb_iff]; simp; omega), hp, show ((pre.length : Nat) : Int).toNat = pre.length by omega, put_next pre m 8 v hm]
theorem Encode_eq (n : Nat) (b s h j : Int) (k : Bool) (hs0 : -9223372036854775808 ≤ s) (hs1 : s < 9223372036854775808) : header_Header_Encode.f (n + 20) b s h j k = some (if checkn b s h j = 0 then (encl b s h j k, 0) else ([], checkn b s h j)) := by
  unfold header_Header_Encode.f
  rw [Check_eq b s h j k hs0 hs1 (n + 16)]
  simp only [obind]
  by_cases hc : checkn b s h j = 0
  · have hcs : 512 ≤ csz b ∧ csz b ≤ 4096 := by rcases csz_cases b with e | e | e | e <;> omega
    rw [if_pos hc, if_pos hc, Cluster_eq]
    simp only [obind]
    rw [if_pos (by omega), if_pos (by omega)]
    generalize hc' : (csz b).toNat = c
    have hcl : (csz b - 28).toNat = c - 28 := by omega
    have p0 := put32_next (n + 15) [] c 1280591174 0 rfl (by omega) (by simp; omega)
    rw [List.nil_append, List.nil_append] at p0
    rw [p0]
    simp only [obind]
    rw [put32_next (n + 15) (leb 4 1280591174) (c - 4) (b % 4294967296) 4 (by rw [leb_length]; rfl) (by omega) (by rw [leb_length]; omega), leb_mod 4 b 4294967296 ⟨1, by decide, rfl⟩]
    simp only [obind]
    rw [wu64, put64_next (n + 11) (leb 4 1280591174 ++ leb 4 b) (c - 4 - 4) (s % 18446744073709551616) 8 (by simp [leb_length]) (by omega) (by simp [leb_length]; omega), leb_mod 8 s 18446744073709551616 ⟨1, by decide, rfl⟩]
    simp only [obind]
    rw [put32_next (n + 15) (leb 4 1280591174 ++ leb 4 b ++ leb 8 s) (c - 4 - 4 - 8) (h % 4294967296) 16 (by simp [leb_length]) (by omega) (by simp [leb_length]; omega), leb_mod 4 h 4294967296 ⟨1, by decide, rfl⟩]
    simp only [obind]
    rw [put32_next (n + 15) (leb 4 1280591174 ++ leb 4 b ++ leb 8 s ++ leb 4 h) (c - 4 - 4 - 8 - 4) (j % 4294967296) 20 (by simp [leb_length]) (by omega) (by simp [leb_length]; omega), leb_mod 4 j 4294967296 ⟨1, by decide, rfl⟩]
    simp only [obind]
    have hz : (List.replicate (c - 4 - 4 - 8 - 4 - 4) (0 : Int)) = leb 4 0 ++ List.replicate (c - 28) 0 := by
      rw [show leb 4 0 = List.replicate 4 0 from rfl, List.replicate_append_replicate]
      congr 1
      omega
    cases k with
    | true =>
      rw [if_pos rfl, put32_next (n + 15) (leb 4 1280591174 ++ leb 4 b ++ leb 8 s ++ leb 4 h ++ leb 4 j) (c - 4 - 4 - 8 - 4 - 4) 1 24 (by simp [leb_length]) (by omega) (by simp [leb_length]; omega)]
      simp only [obind, encl, b2i, if_true, hcl]
      simp only [List.append_assoc]
      rw [show c - 4 - 4 - 8 - 4 - 4 - 4 = c - 28 by omega]
    | false =>
      rw [if_neg (by simp), hz]
      simp only [encl, b2i, Bool.false_eq_true, if_false, hcl]
      simp only [List.append_assoc]
  · rw [if_neg hc, if_neg hc]
theorem B_eq (k : Nat) (v : Int) (n : Nat) (v0 : 0 ≤ v) (v1 : v < 18446744073709551616) (hn : n ≤ 1000000) (hk : n < k) (m : Int) (hm : m = n) : fettleref01_Bytes.f k v m = some (leb n v) := by
  rw [hm]; exact Bytes_eq k v n v0 v1 hn hk
theorem rEncode_eq (n : Nat) (b s h j : Int) (k : Bool) (hc : checkn b s h j = 0) : fettleref07_Head_Encode.f (n + 20) b s h j k = some (encl b s h j k) := by
  have hcs : 512 ≤ csz b ∧ csz b ≤ 4096 := by rcases csz_cases b with e | e | e | e <;> omega
  have hz := Zeros_eq (n := csz b - 28) (by omega) (by omega)
  have e4 : ∀ v : Int, leb 4 (v % 18446744073709551616) = leb 4 v := fun v => leb_mod 4 v 18446744073709551616 ⟨4294967296, by decide, rfl⟩
  have e8 : ∀ v : Int, leb 8 (v % 18446744073709551616) = leb 8 v := fun v => leb_mod 8 v 18446744073709551616 ⟨1, by decide, rfl⟩
  unfold fettleref07_Head_Encode.f
  rw [B_eq (n + 20) 1280591174 4 (by omega) (by omega) (by omega) (by omega) 4 rfl, B_eq (n + 20) (IntKind.u64.wrap b) 4 (by rw [wu64]; omega) (by rw [wu64]; omega) (by omega) (by omega) 4 rfl, B_eq (n + 20) (IntKind.u64.wrap s) 8 (by rw [wu64]; omega) (by rw [wu64]; omega) (by omega) (by omega) 8 rfl,
    B_eq (n + 20) (IntKind.u64.wrap h) 4 (by rw [wu64]; omega) (by rw [wu64]; omega) (by omega) (by omega) 4 rfl, B_eq (n + 20) (IntKind.u64.wrap j) 4 (by rw [wu64]; omega) (by rw [wu64]; omega) (by omega) (by omega) 4 rfl,
    B_eq (n + 20) 1 4 (by omega) (by omega) (by omega) (by omega) 4 rfl, B_eq (n + 20) 0 4 (by omega) (by omega) (by omega) (by omega) 4 rfl, wu64, wu64, wu64, wu64, e4, e8, e4, e4, rCluster_eq b s h j k (n + 14)]
  simp only [obind, List.nil_append, List.length_nil, List.length_append, leb_length]
  rw [w64 (by omega) (by omega), hz]
  simp only [obind, List.length_replicate]
  rw [if_pos (by omega), if_pos (by omega), if_pos (by omega), if_pos (by omega), if_pos (by omega)]
  cases k with
  | true => rw [if_pos rfl, if_pos (by omega), if_pos (by omega)]; simp only [encl, b2i, if_true, List.append_assoc]
  | false => rw [if_neg (by simp), if_pos (by omega), if_pos (by omega)]; simp only [encl, b2i, Bool.false_eq_true, if_false, List.append_assoc]
theorem checkn_ok {b s h j : Int} (hc : checkn b s h j = 0) : 9 ≤ b ∧ b ≤ 12 ∧ 512 ≤ s ∧ s ≤ 16777216 ∧ 1 ≤ h ∧ h ≤ 8192 ∧ 0 ≤ j ∧ j ≤ 8192 := by
  have hl := leastn_range b h
  unfold checkn at hc
  split at hc
  · simp at hc
  · split at hc
    · simp at hc
    · split at hc
      · simp at hc
      · split at hc
        · simp at hc
        · split at hc
          · simp at hc
          · omega
/-- What is encoded is decoded, whatever stands behind. -/
theorem dec_enc {b s h j : Int} {k : Bool} (hc : checkn b s h j = 0) (more : List Int) : decn (encl b s h j k ++ more) = (b, s, h, j, k, 0) := by
  have ho := checkn_ok hc
  have hcs : 512 ≤ csz b ∧ csz b ≤ 4096 := by rcases csz_cases b with e | e | e | e <;> omega
  have hk : 0 ≤ b2i k ∧ b2i k ≤ 1 ∧ ((b2i k == 1) = k) := by cases k <;> simp [b2i]
  have hel := encl_length b s h j k
  generalize hl : encl b s h j k ++ more = l
  have hll : (l.length : Int) = csz b + more.length := by rw [← hl, List.length_append]; omega
  have e0 : num l 0 4 = 1280591174 := by
    have := num_put' (l := []) (r := (leb 4 b ++ (leb 8 s ++ (leb 4 h ++ (leb 4 j ++ (leb 4 (b2i k) ++ List.replicate (csz b - 28).toNat 0))))) ++ more) (n := 4) (v := 1280591174) (p := 0) rfl (by omega) (by omega)
    rw [← this, ← hl]; simp only [encl, List.append_assoc, List.nil_append]
  have e4 : num l 4 4 = b := by
    have := num_put' (l := leb 4 1280591174) (r := (leb 8 s ++ (leb 4 h ++ (leb 4 j ++ (leb 4 (b2i k) ++ List.replicate (csz b - 28).toNat 0)))) ++ more) (n := 4) (v := b) (p := 4) (by simp [leb_length]) (by omega) (by omega)
    rw [← hl]; refine Eq.trans ?_ this; simp only [encl, List.append_assoc, List.nil_append]
  have e8 : num l 8 8 = s := by
    have := num_put' (l := leb 4 1280591174 ++ leb 4 b) (r := (leb 4 h ++ (leb 4 j ++ (leb 4 (b2i k) ++ List.replicate (csz b - 28).toNat 0))) ++ more) (n := 8) (v := s) (p := 8) (by simp [leb_length]) (by omega) (by omega)
    rw [← hl]; refine Eq.trans ?_ this; simp only [encl, List.append_assoc, List.nil_append]
  have e16 : num l 16 4 = h := by
    have := num_put' (l := leb 4 1280591174 ++ leb 4 b ++ leb 8 s) (r := (leb 4 j ++ (leb 4 (b2i k) ++ List.replicate (csz b - 28).toNat 0)) ++ more) (n := 4) (v := h) (p := 16) (by simp [leb_length]) (by omega) (by omega)
    rw [← hl]; refine Eq.trans ?_ this; simp only [encl, List.append_assoc, List.nil_append]
  have e20 : num l 20 4 = j := by
    have := num_put' (l := leb 4 1280591174 ++ leb 4 b ++ leb 8 s ++ leb 4 h) (r := (leb 4 (b2i k) ++ List.replicate (csz b - 28).toNat 0) ++ more) (n := 4) (v := j) (p := 20) (by simp [leb_length]) (by omega) (by omega)
    rw [← hl]; refine Eq.trans ?_ this; simp only [encl, List.append_assoc, List.nil_append]
  have e24 : num l 24 4 = b2i k := by
    have := num_put' (l := leb 4 1280591174 ++ leb 4 b ++ leb 8 s ++ leb 4 h ++ leb 4 j) (r := List.replicate (csz b - 28).toNat 0 ++ more) (n := 4) (v := b2i k) (p := 24) (by simp [leb_length]) (by omega) (by omega)
    rw [← hl]; refine Eq.trans ?_ this; simp only [encl, List.append_assoc, List.nil_append]
  have ez : (l.drop 28).take (csz b - 28).toNat = List.replicate (csz b - 28).toNat 0 := by
    have : l = (leb 4 1280591174 ++ leb 4 b ++ leb 8 s ++ leb 4 h ++ leb 4 j ++ leb 4 (b2i k)) ++ (List.replicate (csz b - 28).toNat 0 ++ more) := by
      rw [← hl]; simp only [encl, List.append_assoc]
    rw [this, List.drop_left' (by simp [leb_length]), List.take_left' (by simp)]
  unfold decn
  rw [e0, e4, e8, e16, e20, e24, ez, if_neg (by omega), if_neg (by simp), if_neg (by omega), if_neg (by simpa using hc), if_neg (by omega), if_pos (by simp), hk.2.2]
/-- What is decoded is encoded as the same bytes. -/
theorem enc_dec {l : List Int} (hb : B8 l) {b s h j : Int} {k : Bool} (hd : decn l = (b, s, h, j, k, 0)) : checkn b s h j = 0 ∧ csz b ≤ l.length ∧ encl b s h j k = l.take (csz b).toNat := by
  unfold decn herr at hd
  split at hd
  · simp at hd
  · rename_i h28
    split at hd
    · simp at hd
    · rename_i hm
      split at hd
      · simp at hd
      · rename_i hx
        split at hd
        · rename_i hc; simp only [Prod.mk.injEq] at hd; exact absurd hd.2.2.2.2.2 hc
        · rename_i hc
          split at hd
          · simp at hd
          · rename_i hlen
            split at hd
            · rename_i hz
              simp only [Prod.mk.injEq] at hd
              obtain ⟨rfl, rfl, rfl, rfl, rfl, _⟩ := hd
              have hcs : 512 ≤ csz (num l 4 4) ∧ csz (num l 4 4) ≤ 4096 := by rcases csz_cases (num l 4 4) with e | e | e | e <;> omega
              have b24 := num_bound hb 24 4
              refine ⟨by simpa using hc, by omega, ?_⟩
              have hk : b2i (num l 24 4 == 1) = num l 24 4 := by
                have : num l 24 4 = 0 ∨ num l 24 4 = 1 := by omega
                rcases this with e | e <;> rw [e] <;> rfl
              have hm' : num l 0 4 = 1280591174 := by simpa using hm
              have c0 : leb 4 1280591174 = l.take 4 := by rw [← hm']; have := leb_num l 0 4 hb (by omega); simpa using this
              have c4 : leb 4 (num l 4 4) = (l.drop 4).take 4 := leb_num l 4 4 hb (by omega)
              have c8 : leb 8 (num l 8 8) = (l.drop 8).take 8 := leb_num l 8 8 hb (by omega)
              have c16 : leb 4 (num l 16 4) = (l.drop 16).take 4 := leb_num l 16 4 hb (by omega)
              have c20 : leb 4 (num l 20 4) = (l.drop 20).take 4 := leb_num l 20 4 hb (by omega)
              have c24 : leb 4 (num l 24 4) = (l.drop 24).take 4 := leb_num l 24 4 hb (by omega)
              have cz : List.replicate (csz (num l 4 4) - 28).toNat 0 = (l.drop 28).take (csz (num l 4 4) - 28).toNat := by
                rw [eq_comm, List.eq_replicate_iff]
                refine ⟨by simp; omega, fun x hx => ?_⟩
                have := List.all_eq_true.1 hz x hx
                simpa using this
              generalize hcc : (csz (num l 4 4)).toNat = c
              have hc28 : (csz (num l 4 4) - 28).toNat = c - 28 := by omega
              rw [hc28] at cz
              unfold encl
              rw [hk, hc28, c0, c4, c8, c16, c20, c24, cz]
              have glue : ∀ (p n m : Nat), (l.drop p).take n ++ (l.drop (p + n)).take m = (l.drop p).take (n + m) := by
                intro p n m
                rw [List.take_add, List.drop_drop]
              rw [glue 24 4 (c - 28), glue 20 4, glue 16 4, glue 8 8, glue 4 4]
              have := glue 0 4 (4 + (8 + (4 + (4 + (4 + (c - 28))))))
              simp only [List.drop_zero] at this
              rw [this]
              congr 1
              omega
            · simp at hd
end Go.Proofs.Ytpmhlomilobgaaa.HCodeHdr
