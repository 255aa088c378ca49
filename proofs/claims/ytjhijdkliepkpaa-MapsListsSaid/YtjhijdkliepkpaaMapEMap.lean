/- A table's entries: what the printed functions of package maps, and the reference's, answer. -/
import Derived.Test.YtjhijdkliepkpaaOctRMap
import Derived.Test.YtjhijdkliepkpaaOctPMap
import Derived.Laws.BitsAllLaws
import Derived.Test.YtjhijdkliepkpaaPMapx3
import Derived.Test.YtjhijdkliepkpaaPMapx4
set_option linter.unusedVariables false
set_option linter.unusedSimpArgs false
namespace Go.Proofs.Ytjhijdkliepkpaa.MapEMap
open Go.RowKit Go.Proofs.Ytjhijdkliepkpaa.PMap Go.Proofs.Ytjhijdkliepkpaa.Base Go.Proofs.Ytjhijdkliepkpaa.OctUMap Go.Proofs.Ytjhijdkliepkpaa.OctPMap Go.Proofs.Ytjhijdkliepkpaa.OctRMap Go.Proofs.YtjhijdkliepkpaaW.PrintWords Go.Proofs.YtjhijdkliepkpaaW.PrintLast

theorem and63n (a : Nat) (h1 : a < 2 ^ 64) : a &&& 2 ^ 63 = if a < 2 ^ 63 then 0 else 2 ^ 63 := by
  apply Nat.eq_of_testBit_eq
  intro i
  rw [Nat.testBit_and, Nat.testBit_two_pow]
  by_cases hi : 63 = i
  · subst hi
    by_cases h : a < 2 ^ 63
    · rw [if_pos h, Nat.testBit_lt_two_pow h]; simp
    · rw [if_neg h, Nat.testBit_two_pow]
      have : a.testBit 63 = true := by
        rw [Nat.testBit_eq_decide_div_mod_eq]
        have : a / 2 ^ 63 = 1 := by omega
        rw [this]; decide
      rw [this]; simp
  · have hz : (2 ^ 63 : Nat).testBit i = false := by rw [Nat.testBit_two_pow]; simp [hi]
    by_cases h : a < 2 ^ 63
    · rw [if_pos h]; simp [hi]
    · rw [if_neg h, hz]; simp [hi]
theorem and63 (v : Int) (h0 : 0 ≤ v) (h1 : v < 18446744073709551616) : bits .and .u64 v 9223372036854775808 = if v < 9223372036854775808 then 0 else 9223372036854775808 := by
  rw [u64_and v _ h0 h1 (by omega) (by omega)]
  have e := and63n v.toNat (by omega)
  rw [show (9223372036854775808 : Int).toNat = 2 ^ 63 from rfl, e]
  split <;> split <;> omega
theorem andNot63 (v : Int) (h0 : 0 ≤ v) (h1 : v < 18446744073709551616) : bits .andNot .u64 v 9223372036854775808 = if v < 9223372036854775808 then v else v - 9223372036854775808 := by
  rw [u64_andNot v _ h0 h1 (by omega) (by omega)]
  rw [show (18446744073709551615 - (9223372036854775808 : Int).toNat) = 2 ^ 63 - 1 from rfl, Nat.and_two_pow_sub_one_eq_mod]
  split <;> omega
theorem or63 (y : Int) (h0 : 0 ≤ y) (h1 : y < 9223372036854775808) : bits .or .u64 9223372036854775808 y = 9223372036854775808 + y :=
  bits_join .u64 64 (by decide) wraps_u64 63 9223372036854775808 y (by decide) (by decide) (by decide) h0 (by omega) (by omega)

/-- Which clusters an entry may name. -/
def named (b : Int) : Prop := 1 ≤ b ∧ b ≤ 8191
instance (b : Int) : Decidable (named b) := by unfold named; infer_instance
theorem named_iff {b : Int} : named b ↔ 1 ≤ b ∧ b ≤ 8191 := Iff.rfl
/-- An entry's number, and the error. -/
def encv (a b : Int) (c : Bool) : Int × Int :=
  if a = 0 ∨ a = 1 then (if b = 0 ∧ c = false then (a, 0) else (0, 11))
  else if a = 2 ∧ named b then (b * 256 + (if c = true then 9223372036854775808 else 0), 0) else (0, 11)
theorem Encode_eq (k : Nat) (a b : Int) (c : Bool) : maps_Encode.f (k + 3) a b c = some (encv a b c) := by
  unfold maps_Encode.f encv
  have small : ∀ y : Int, named y → maps_Encode.j1 (k + 2) false a y c = some (y * 256 + (if c = true then 9223372036854775808 else 0), 0) := by
    intro y hy
    have hy := (show 1 ≤ y ∧ y ≤ 8191 from hy)
    rw [maps_Encode.j1, if_neg (by simp), wu64 y, Int.emod_eq_of_lt (by omega) (by omega), wu64, Int.emod_eq_of_lt (by omega) (by omega)]
    cases c with
    | true => rw [if_pos rfl, if_pos rfl, or63 _ (by omega) (by omega), Int.add_comm]
    | false => rw [if_neg (by simp), if_neg (by simp), Int.add_zero]
  have bad : ∀ y : Int, maps_Encode.j1 (k + 2) true a y c = some (0, 11) := by
    intro y
    rw [maps_Encode.j1, if_pos rfl]
  by_cases h0 : a = 0
  · subst h0
    rw [if_pos rfl, if_pos (.inl rfl), maps_Encode.j0, if_pos rfl]
    by_cases hb : b = 0
    · cases c <;> simp [hb, wu64]
    · simp [hb]
  · rw [if_neg h0]
    by_cases h1 : a = 1
    · subst h1
      rw [if_pos (.inr rfl), maps_Encode.j0, if_pos (by simp)]
      by_cases hb : b = 0
      · cases c <;> simp [hb, wu64]
      · simp [hb]
    · have hn : ¬ (a = 0 ∨ a = 1) := fun h => h.elim h0 h1
      rw [if_neg hn, maps_Encode.j0, if_neg (by simp [h1])]
      by_cases h2 : a = 2
      · rw [if_pos h2]
        by_cases hb : b < 1
        · rw [if_pos hb, bad, if_neg (by unfold named; omega)]
        · rw [if_neg hb]
          by_cases hc : b ≥ 8192
          · rw [decide_eq_true hc, bad, if_neg (by unfold named; omega)]
          · rw [decide_eq_false hc, small b (by unfold named; omega), if_pos (show a = 2 ∧ named b from ⟨h2, by unfold named; omega⟩)]
      · rw [if_neg h2, bad, if_neg (by omega)]
theorem encv2 (m : Int) (c : Bool) : encv 2 m c = if named m then (m * 256 + (if c = true then 9223372036854775808 else 0), 0) else (0, 11) := by
  unfold encv
  rw [if_neg (show ¬ ((2 : Int) = 0 ∨ (2 : Int) = 1) by omega)]
  by_cases h : named m
  · rw [if_pos (show (2 : Int) = 2 ∧ named m from ⟨rfl, h⟩), if_pos h]
  · rw [if_neg (show ¬ ((2 : Int) = 2 ∧ named m) from fun z => h z.2), if_neg h]
/-- The entry of a number, and the error. -/
def decv (v : Int) : Int × Int × Bool × Int :=
  if v = 0 ∨ v = 1 then (v, 0, false, 0)
  else if v % 256 = 0 ∧ named (v % 9223372036854775808 / 256) then (2, v % 9223372036854775808 / 256, decide (9223372036854775808 ≤ v), 0) else (0, 0, false, 11)
theorem Decode_eq (k : Nat) (v : Int) (h0 : 0 ≤ v) (h1 : v < 18446744073709551616) : maps_Decode.f (k + 4) v = some (decv v) := by
  unfold maps_Decode.f decv
  by_cases a : v = 0
  · subst a; rw [if_pos rfl, if_pos (.inl rfl), maps_Decode.j0, if_pos rfl, w64 (by omega) (by omega)]
  rw [if_neg a]
  by_cases b : v = 1
  · subst b; rw [if_pos (.inr rfl), maps_Decode.j0, if_pos (by simp), w64 (by omega) (by omega)]
  have hn : ¬ (v = 0 ∨ v = 1) := fun h => h.elim a b
  rw [if_neg hn, maps_Decode.j0, if_neg (by simp [b]), andNot63 v h0 h1, and63 v h0 h1]
  have e1 : (if v < 9223372036854775808 then v else v - 9223372036854775808) = v % 9223372036854775808 := by split <;> omega
  have e2 : ((if v < 9223372036854775808 then (0 : Int) else 9223372036854775808) != 0) = decide (9223372036854775808 ≤ v) := by
    by_cases h : v < 9223372036854775808
    · rw [if_pos h, decide_eq_false (by omega)]; rfl
    · rw [if_neg h, decide_eq_true (by omega)]; rfl
  rw [e1, e2, w64 (by omega) (by omega), Encode_eq k]
  simp only [obind]
  generalize hm : v % 9223372036854775808 / 256 = m
  have hbit : (m * 256 + (if decide (9223372036854775808 ≤ v) = true then 9223372036854775808 else 0) = v) ↔ v % 256 = 0 := by
    by_cases h : 9223372036854775808 ≤ v
    · rw [decide_eq_true h, if_pos rfl]; omega
    · rw [decide_eq_false h, if_neg (by simp)]; omega
  rw [encv2]
  by_cases hm1 : named m
  · rw [if_pos hm1]
    simp only [if_true]
    by_cases hv : v % 256 = 0
    · rw [if_pos (hbit.2 hv), if_pos (show v % 256 = 0 ∧ named m from ⟨hv, hm1⟩)]
    · rw [if_neg (fun z => hv (hbit.1 z)), if_neg (show ¬ (v % 256 = 0 ∧ named m) from fun z => hv z.1)]
  · rw [if_neg hm1, if_neg (show ¬ (v % 256 = 0 ∧ named m) from fun z => hm1 z.2)]
    simp
/-- The reference's. -/
def rencv (a b : Int) (c : Bool) : Int × Bool :=
  if a = 0 ∨ a = 1 then (a, decide (b = 0 ∧ c = false))
  else if a = 2 ∧ named b then (b * 256 + (if c = true then 9223372036854775808 else 0), true) else (0, false)
theorem rEncode_eq (k : Nat) (a b : Int) (c : Bool) : fettleref09_Encode.f (k + 3) a b c = some (rencv a b c) := by
  unfold fettleref09_Encode.f rencv
  have small : ∀ y : Int, named y → fettleref09_Encode.j1 (k + 2) false a y c = some (y * 256 + (if c = true then 9223372036854775808 else 0), true) := by
    intro y hy
    have hy := (show 1 ≤ y ∧ y ≤ 8191 from hy)
    rw [fettleref09_Encode.j1, if_neg (by simp), wu64 y, Int.emod_eq_of_lt (by omega) (by omega), wu64 (y * 256), Int.emod_eq_of_lt (by omega) (by omega)]
    cases c with
    | true => rw [if_pos rfl, if_pos rfl, wu64, Int.emod_eq_of_lt (by omega) (by omega)]
    | false => rw [if_neg (by simp), if_neg (by simp), Int.add_zero]
  have bad : ∀ y : Int, fettleref09_Encode.j1 (k + 2) true a y c = some (0, false) := by
    intro y
    rw [fettleref09_Encode.j1, if_pos rfl]
  by_cases h0 : a = 0
  · subst h0
    rw [if_pos rfl, if_pos (.inl rfl), fettleref09_Encode.j0, if_pos rfl]
    by_cases hb : b = 0
    · cases c <;> simp [hb, wu64]
    · simp [hb, wu64]
  · rw [if_neg h0]
    by_cases h1 : a = 1
    · subst h1
      rw [if_pos (.inr rfl), fettleref09_Encode.j0, if_pos (by simp)]
      by_cases hb : b = 0
      · cases c <;> simp [hb, wu64]
      · simp [hb, wu64]
    · have hn : ¬ (a = 0 ∨ a = 1) := fun h => h.elim h0 h1
      rw [if_neg hn, fettleref09_Encode.j0, if_neg (by simp [h1])]
      by_cases h2 : a = 2
      · rw [if_pos h2]
        by_cases hb : b < 1
        · rw [if_pos hb, bad, if_neg (by unfold named; omega)]
        · rw [if_neg hb]
          by_cases hc : b > 8191
          · rw [decide_eq_true hc, bad, if_neg (by unfold named; omega)]
          · rw [decide_eq_false hc, small b (by unfold named; omega), if_pos (show a = 2 ∧ named b from ⟨h2, by unfold named; omega⟩)]
      · rw [if_neg h2, bad, if_neg (by omega)]
theorem rencv_ok {a b : Int} {c : Bool} : (rencv a b c).2 = true ↔ (encv a b c).2 = 0 := by
  unfold rencv encv
  split
  · by_cases h : b = 0 ∧ c = false
    · simp [h]
    · simp [h]
  · split <;> simp
theorem rencv_val {a b : Int} {c : Bool} (h : (encv a b c).2 = 0) : (rencv a b c).1 = (encv a b c).1 := by
  unfold rencv encv at *
  by_cases h1 : a = 0 ∨ a = 1
  · rw [if_pos h1] at h ⊢
    rw [if_pos h1]
    by_cases h2 : b = 0 ∧ c = false
    · rw [if_pos h2]
    · rw [if_neg h2] at h; simp at h
  · rw [if_neg h1] at h ⊢
    rw [if_neg h1]
    by_cases h2 : a = 2 ∧ named b
    · rw [if_pos h2, if_pos h2]
    · rw [if_neg h2] at h; simp at h
theorem encv_bad {a b : Int} {c : Bool} (h : (encv a b c).2 ≠ 0) : encv a b c = (0, 11) := by
  unfold encv at *
  split
  · rename_i h1
    rw [if_pos h1] at h
    split
    · rename_i h2; rw [if_pos h2] at h; simp at h
    · rfl
  · rename_i h1
    rw [if_neg h1] at h
    split
    · rename_i h2; rw [if_pos h2] at h; simp at h
    · rfl
theorem encv_range (a b : Int) (c : Bool) : 0 ≤ (encv a b c).1 ∧ (encv a b c).1 < 18446744073709551616 := by
  unfold encv
  split
  · rename_i h; split <;> rcases h with rfl | rfl <;> simp
  · split
    · rename_i h
      have hb := (show 1 ≤ b ∧ b ≤ 8191 from h.2)
      cases c <;> simp <;> omega
    · simp
theorem rencv_range (a b : Int) (c : Bool) : 0 ≤ (rencv a b c).1 ∧ (rencv a b c).1 < 18446744073709551616 := by
  unfold rencv
  split
  · rename_i h; rcases h with rfl | rfl <;> simp
  · split
    · rename_i h
      have hb := (show 1 ≤ b ∧ b ≤ 8191 from h.2)
      cases c <;> simp <;> omega
    · simp
theorem dec_enc {a b : Int} {c : Bool} (h : (encv a b c).2 = 0) : decv (encv a b c).1 = (a, b, c, 0) := by
  unfold encv at *
  by_cases h1 : a = 0 ∨ a = 1
  · rw [if_pos h1] at h ⊢
    by_cases h2 : b = 0 ∧ c = false
    · rw [if_pos h2]
      unfold decv
      rw [if_pos h1, h2.1, h2.2]
    · rw [if_neg h2] at h; simp at h
  · rw [if_neg h1] at h ⊢
    by_cases h2 : a = 2 ∧ named b
    · rw [if_pos h2]
      have hb := (show 1 ≤ b ∧ b ≤ 8191 from h2.2)
      unfold decv
      cases c with
      | true =>
        simp only [if_true]
        have e : (b * 256 + 9223372036854775808) % 9223372036854775808 / 256 = b := by omega
        rw [if_neg (by omega), e, if_pos ⟨by omega, h2.2⟩, decide_eq_true (by omega), h2.1]
      | false =>
        simp only [Bool.false_eq_true, if_false]
        have e : (b * 256 + 0) % 9223372036854775808 / 256 = b := by omega
        rw [if_neg (by omega), e, if_pos ⟨by omega, h2.2⟩, decide_eq_false (by omega), h2.1]
    · rw [if_neg h2] at h; simp at h
theorem enc_dec {v : Int} (h0 : 0 ≤ v) (h1 : v < 18446744073709551616) (h : (decv v).2.2.2 = 0) : encv (decv v).1 (decv v).2.1 (decv v).2.2.1 = (v, 0) := by
  unfold decv at *
  by_cases a : v = 0 ∨ v = 1
  · rw [if_pos a]
    unfold encv
    rw [if_pos a, if_pos ⟨rfl, rfl⟩]
  · rw [if_neg a] at h ⊢
    by_cases b : v % 256 = 0 ∧ named (v % 9223372036854775808 / 256)
    · rw [if_pos b]
      unfold encv
      rw [if_neg (by omega), if_pos ⟨rfl, b.2⟩]
      by_cases c : 9223372036854775808 ≤ v
      · simp only [decide_eq_true c, if_true, Prod.mk.injEq, and_true]; omega
      · simp only [decide_eq_false c, Bool.false_eq_true, if_false, Prod.mk.injEq, and_true]; omega
    · rw [if_neg b] at h; simp at h
theorem decv_bad {v : Int} (h : (decv v).2.2.2 ≠ 0) : decv v = (0, 0, false, 11) := by
  unfold decv at *
  by_cases a : v = 0 ∨ v = 1
  · rw [if_pos a] at h; simp at h
  · rw [if_neg a] at h ⊢
    by_cases b : v % 256 = 0 ∧ named (v % 9223372036854775808 / 256)
    · rw [if_pos b] at h; simp at h
    · rw [if_neg b]
/-- The reference's. -/
def rdecv (v : Int) : Int × Int × Bool × Bool := ((decv v).1, (decv v).2.1, (decv v).2.2.1, decide ((decv v).2.2.2 = 0))
theorem rDecode_eq (v : Int) (h0 : 0 ≤ v) (h1 : v < 18446744073709551616) : fettleref09_Decode.f v = some (rdecv v) := by
  unfold fettleref09_Decode.f rdecv decv
  by_cases a : v < 2
  · rw [if_pos a, w64 (by omega) (by omega)]
    have : v = 0 ∨ v = 1 := by omega
    rw [if_pos this]; rfl
  · rw [if_neg a, if_neg (show ¬ (v = 0 ∨ v = 1) by omega)]
    by_cases b : v ≥ 9223372036854775808
    · have e : v % 9223372036854775808 = v - 9223372036854775808 := by omega
      have e1 : IntKind.u64.wrap (v - 9223372036854775808) = v - 9223372036854775808 := by rw [wu64]; omega
      have e2 : IntKind.u64.wrap ((v - 9223372036854775808) / 256) = (v - 9223372036854775808) / 256 := by rw [wu64]; omega
      have e3 : wrap64 ((v - 9223372036854775808) / 256) = (v - 9223372036854775808) / 256 := w64 (by omega) (by omega)
      have e4 : (v - 9223372036854775808) % 256 = v % 256 := by omega
      rw [if_pos b, e1, Int.tmod_eq_emod_of_nonneg (by omega), Int.tdiv_eq_ediv_of_nonneg (by omega), e2, e3, e, e4]
      by_cases c : v % 256 = 0
      · rw [if_pos c]
        by_cases d : (v - 9223372036854775808) / 256 < 1
        · rw [if_pos d, if_neg (show ¬ (v % 256 = 0 ∧ named _) from fun z => by have := named_iff.1 z.2; omega)]; rfl
        · rw [if_neg d]
          by_cases f : (v - 9223372036854775808) / 256 > 8191
          · rw [if_pos f, if_neg (show ¬ (v % 256 = 0 ∧ named _) from fun z => by have := named_iff.1 z.2; omega)]; rfl
          · rw [if_neg f, if_pos (show v % 256 = 0 ∧ named _ from ⟨c, by unfold named; omega⟩)]; rfl
      · rw [if_neg c, if_neg (show ¬ (v % 256 = 0 ∧ named _) from fun z => c z.1)]; rfl
    · have e : v % 9223372036854775808 = v := by omega
      have e2 : IntKind.u64.wrap (v / 256) = v / 256 := by rw [wu64]; omega
      have e3 : wrap64 (v / 256) = v / 256 := w64 (by omega) (by omega)
      rw [if_neg b, Int.tmod_eq_emod_of_nonneg h0, Int.tdiv_eq_ediv_of_nonneg h0, e2, e3, e]
      by_cases c : v % 256 = 0
      · rw [if_pos c]
        by_cases d : v / 256 < 1
        · rw [if_pos d, if_neg (show ¬ (v % 256 = 0 ∧ named _) from fun z => by have := named_iff.1 z.2; omega)]; rfl
        · rw [if_neg d]
          by_cases f : v / 256 > 8191
          · rw [if_pos f, if_neg (show ¬ (v % 256 = 0 ∧ named _) from fun z => by have := named_iff.1 z.2; omega)]; rfl
          · rw [if_neg f, if_pos (show v % 256 = 0 ∧ named _ from ⟨c, by unfold named; omega⟩)]; rfl
      · rw [if_neg c, if_neg (show ¬ (v % 256 = 0 ∧ named _) from fun z => c z.1)]; rfl
theorem coded10 : fettlelaw09_coded.f 10 = some true := by decide +kernel
theorem coded_eq (k : Nat) : fettlelaw09_coded.f (k + 10) = some true := more_of fettlelaw09_coded.mono (by omega) coded10
end Go.Proofs.Ytjhijdkliepkpaa.MapEMap
