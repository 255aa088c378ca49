/- octet's numbers, read: what the printed functions answer. (Written by wip/tools/genoct.py.) -/
import Derived.Test.YtpmhlomilobgaaaBase
import Derived.Test.YtpmhlomilobgaaaPHdrx10
import Derived.Test.YtpmhlomilobgaaaPHdrx6
set_option linter.unusedVariables false
set_option linter.unusedSimpArgs false
namespace Go.Proofs.Ytpmhlomilobgaaa.OctUHdr
open Go.RowKit Go.Proofs.Ytpmhlomilobgaaa.PHdr Go.Proofs.Ytpmhlomilobgaaa.Base Go.Proofs.YtpmhlomilobgaaaW.PrintWords

/-- Do n bytes stand at a place? -/
def inb (l : List Int) (p n : Int) : Bool := decide (0 ≤ p ∧ 0 ≤ n ∧ p + n ≤ l.length)
theorem in_eq (l : List Int) (p n : Int) (hl : (l.length : Int) ≤ 4611686018427387904) : octet_in.f l p n = some (inb l p n) := by
  unfold octet_in.f inb
  by_cases a : p ≥ 0
  · rw [if_pos a]
    by_cases b : n ≥ 0
    · rw [if_pos b]
      by_cases c : p ≤ (l.length : Int)
      · rw [if_pos c, w64 (by omega) (by omega)]
        congr 1
        rw [decide_eq_decide]
        omega
      · rw [if_neg c]
        congr 1
        rw [eq_comm, decide_eq_false_iff_not]
        omega
    · rw [if_neg b]
      congr 1
      rw [eq_comm, decide_eq_false_iff_not]
      omega
  · rw [if_neg a]
    congr 1
    rw [eq_comm, decide_eq_false_iff_not]
    omega
theorem In_eq (l : List Int) (p n : Int) (hl : (l.length : Int) ≤ 4611686018427387904) : fettleref01_In.f l p n = some (inb l p n) := by
  unfold fettleref01_In.f inb
  by_cases a : p ≥ 0
  · rw [if_pos a]
    by_cases b : n ≥ 0
    · rw [if_pos b]
      by_cases c : p ≤ (l.length : Int)
      · rw [if_pos c, w64 (by omega) (by omega)]
        congr 1
        rw [decide_eq_decide]
        omega
      · rw [if_neg c]
        congr 1
        rw [eq_comm, decide_eq_false_iff_not]
        omega
    · rw [if_neg b]
      congr 1
      rw [eq_comm, decide_eq_false_iff_not]
      omega
  · rw [if_neg a]
    congr 1
    rw [eq_comm, decide_eq_false_iff_not]
    omega
theorem inb_iff {l : List Int} {p n : Int} : inb l p n = true ↔ 0 ≤ p ∧ 0 ≤ n ∧ p + n ≤ l.length := by simp [inb]
/-- What a reading of n bytes answers. -/
def rdn (l : List Int) (p : Int) (n : Nat) : Int × Bool := if inb l p n = true then (num l p n, true) else (0, false)
theorem step32 (k : Nat) (l : List Int) (p v i : Int) (hi : 0 ≤ i) (h0 : 0 ≤ p + i) (h1 : p + i < l.length) (hl : (l.length : Int) ≤ 4611686018427387904) (v0 : 0 ≤ v) (v1 : v < 16777216) (hp : 0 ≤ p) (hb : B8 l) :
    octet_little_uint32.l0 (k + 1) l p v i = octet_little_uint32.l0 k l p (v * 256 + rd l (p + i)) (i - 1) := by
  have hr := hb.rd (p + i)
  rw [octet_little_uint32.l0, if_pos hi, w64 (by omega) (by omega), if_pos h0, if_pos h1, or32 _ _ v0 (by omega) hr.1 hr.2, w64 (by omega) (by omega)]
theorem U32_eq (k : Nat) (l : List Int) (p : Int) (hb : B8 l) (hl : (l.length : Int) ≤ 4611686018427387904) : octet_U32.f (k + 5) l p = some (rdn l p 4) := by
  unfold octet_U32.f octet_little_uint32.f rdn
  rw [in_eq l p 4 hl]
  by_cases h : inb l p 4 = true
  · have h' := inb_iff.1 h
    simp only [obind, h, if_true]
    rw [if_pos (show inb l p ((4 : Nat) : Int) = true from h)]
    rw [w64 (by omega) (by omega)]
    have q3 := hb.rd (p + 3)
    have q2 := hb.rd (p + 2)
    have q1 := hb.rd (p + 1)
    have q0 := hb.rd (p + 0)
    rw [show ((4 : Int) - 1) = 3 from rfl, step32 _ l p (0) 3 (by omega) (by omega) (by omega) hl (by omega) (by omega) h'.1 hb]
    rw [show ((3 : Int) - 1) = 2 from rfl, step32 _ l p ((0) * 256 + rd l (p + 3)) 2 (by omega) (by omega) (by omega) hl (by omega) (by omega) h'.1 hb]
    rw [show ((2 : Int) - 1) = 1 from rfl, step32 _ l p (((0) * 256 + rd l (p + 3)) * 256 + rd l (p + 2)) 1 (by omega) (by omega) (by omega) hl (by omega) (by omega) h'.1 hb]
    rw [show ((1 : Int) - 1) = 0 from rfl, step32 _ l p ((((0) * 256 + rd l (p + 3)) * 256 + rd l (p + 2)) * 256 + rd l (p + 1)) 0 (by omega) (by omega) (by omega) hl (by omega) (by omega) h'.1 hb]
    rw [octet_little_uint32.l0, if_neg (by omega)]
    simp only [obind, num, Option.some.injEq, Prod.mk.injEq, and_true]
    simp only [show (((0 : Nat) : Int)) = 0 from rfl, show (((1 : Nat) : Int)) = 1 from rfl, show (((2 : Nat) : Int)) = 2 from rfl, show (((3 : Nat) : Int)) = 3 from rfl]
    omega
  · have h' : inb l p 4 = false := by simpa using h
    simp only [obind, h', Bool.false_eq_true, if_false]
    rw [if_neg (show ¬ inb l p ((4 : Nat) : Int) = true from h)]
theorem step64 (k : Nat) (l : List Int) (p v i : Int) (hi : 0 ≤ i) (h0 : 0 ≤ p + i) (h1 : p + i < l.length) (hl : (l.length : Int) ≤ 4611686018427387904) (v0 : 0 ≤ v) (v1 : v < 72057594037927936) (hp : 0 ≤ p) (hb : B8 l) :
    octet_little_uint64.l0 (k + 1) l p v i = octet_little_uint64.l0 k l p (v * 256 + rd l (p + i)) (i - 1) := by
  have hr := hb.rd (p + i)
  rw [octet_little_uint64.l0, if_pos hi, w64 (by omega) (by omega), if_pos h0, if_pos h1, or64 _ _ v0 (by omega) hr.1 hr.2, w64 (by omega) (by omega)]
theorem U64_eq (k : Nat) (l : List Int) (p : Int) (hb : B8 l) (hl : (l.length : Int) ≤ 4611686018427387904) : octet_U64.f (k + 9) l p = some (rdn l p 8) := by
  unfold octet_U64.f octet_little_uint64.f rdn
  rw [in_eq l p 8 hl]
  by_cases h : inb l p 8 = true
  · have h' := inb_iff.1 h
    simp only [obind, h, if_true]
    rw [if_pos (show inb l p ((8 : Nat) : Int) = true from h)]
    rw [w64 (by omega) (by omega)]
    have q7 := hb.rd (p + 7)
    have q6 := hb.rd (p + 6)
    have q5 := hb.rd (p + 5)
    have q4 := hb.rd (p + 4)
    have q3 := hb.rd (p + 3)
    have q2 := hb.rd (p + 2)
    have q1 := hb.rd (p + 1)
    have q0 := hb.rd (p + 0)
    rw [show ((8 : Int) - 1) = 7 from rfl, step64 _ l p (0) 7 (by omega) (by omega) (by omega) hl (by omega) (by omega) h'.1 hb]
    rw [show ((7 : Int) - 1) = 6 from rfl, step64 _ l p ((0) * 256 + rd l (p + 7)) 6 (by omega) (by omega) (by omega) hl (by omega) (by omega) h'.1 hb]
    rw [show ((6 : Int) - 1) = 5 from rfl, step64 _ l p (((0) * 256 + rd l (p + 7)) * 256 + rd l (p + 6)) 5 (by omega) (by omega) (by omega) hl (by omega) (by omega) h'.1 hb]
    rw [show ((5 : Int) - 1) = 4 from rfl, step64 _ l p ((((0) * 256 + rd l (p + 7)) * 256 + rd l (p + 6)) * 256 + rd l (p + 5)) 4 (by omega) (by omega) (by omega) hl (by omega) (by omega) h'.1 hb]
    rw [show ((4 : Int) - 1) = 3 from rfl, step64 _ l p (((((0) * 256 + rd l (p + 7)) * 256 + rd l (p + 6)) * 256 + rd l (p + 5)) * 256 + rd l (p + 4)) 3 (by omega) (by omega) (by omega) hl (by omega) (by omega) h'.1 hb]
    rw [show ((3 : Int) - 1) = 2 from rfl, step64 _ l p ((((((0) * 256 + rd l (p + 7)) * 256 + rd l (p + 6)) * 256 + rd l (p + 5)) * 256 + rd l (p + 4)) * 256 + rd l (p + 3)) 2 (by omega) (by omega) (by omega) hl (by omega) (by omega) h'.1 hb]
    rw [show ((2 : Int) - 1) = 1 from rfl, step64 _ l p (((((((0) * 256 + rd l (p + 7)) * 256 + rd l (p + 6)) * 256 + rd l (p + 5)) * 256 + rd l (p + 4)) * 256 + rd l (p + 3)) * 256 + rd l (p + 2)) 1 (by omega) (by omega) (by omega) hl (by omega) (by omega) h'.1 hb]
    rw [show ((1 : Int) - 1) = 0 from rfl, step64 _ l p ((((((((0) * 256 + rd l (p + 7)) * 256 + rd l (p + 6)) * 256 + rd l (p + 5)) * 256 + rd l (p + 4)) * 256 + rd l (p + 3)) * 256 + rd l (p + 2)) * 256 + rd l (p + 1)) 0 (by omega) (by omega) (by omega) hl (by omega) (by omega) h'.1 hb]
    rw [octet_little_uint64.l0, if_neg (by omega)]
    simp only [obind, num, Option.some.injEq, Prod.mk.injEq, and_true]
    simp only [show (((0 : Nat) : Int)) = 0 from rfl, show (((1 : Nat) : Int)) = 1 from rfl, show (((2 : Nat) : Int)) = 2 from rfl, show (((3 : Nat) : Int)) = 3 from rfl, show (((4 : Nat) : Int)) = 4 from rfl, show (((5 : Nat) : Int)) = 5 from rfl, show (((6 : Nat) : Int)) = 6 from rfl, show (((7 : Nat) : Int)) = 7 from rfl]
    omega
  · have h' : inb l p 8 = false := by simpa using h
    simp only [obind, h', Bool.false_eq_true, if_false]
    rw [if_neg (show ¬ inb l p ((8 : Nat) : Int) = true from h)]
theorem Num_loop (l : List Int) (p n : Int) (hb : B8 l) (hl : (l.length : Int) ≤ 4611686018427387904) (hp : 0 ≤ p) (hn : p + n ≤ l.length) (h8 : n ≤ 8) :
    ∀ (d k j : Nat), j + d = n → d < k → fettleref01_Num.l0 k l p n (num l p j) (256 ^ j % 18446744073709551616) j = some (num l p n.toNat, true) := by
  intro d
  induction d with
  | zero =>
    intro k j hj hk
    obtain ⟨k, rfl⟩ : ∃ m, k = m + 1 := ⟨k - 1, by omega⟩
    rw [fettleref01_Num.l0, if_neg (by omega), show n.toNat = j by omega]
  | succ d ih =>
    intro k j hj hk
    obtain ⟨k, rfl⟩ : ∃ m, k = m + 1 := ⟨k - 1, by omega⟩
    have hr := hb.rd (p + j)
    have hj7 : j ≤ 7 := by omega
    have hq : (256 : Int) ^ j ≤ 72057594037927936 := by
      have : (256 : Nat) ^ j ≤ 256 ^ 7 := Nat.pow_le_pow_right (by decide) hj7
      have e : ((256 ^ j : Nat) : Int) = 256 ^ j := by simp
      omega
    have hq0 := pow_pos' j
    have hnb := num_bound hb p j
    have hnb1 := num_bound hb p (j + 1)
    have hq1 : (256 : Int) ^ (j + 1) = 256 ^ j * 256 := by rw [Int.pow_succ]
    have hq2 : (256 : Int) ^ (j + 1) ≤ 18446744073709551616 := by omega
    rw [fettleref01_Num.l0, if_pos (by omega), w64 (by omega) (by omega), if_pos (by omega), if_pos (by omega), w64 (by omega) (by omega)]
    have e1 : (256 : Int) ^ j % 18446744073709551616 = 256 ^ j := Int.emod_eq_of_lt (by omega) (by omega)
    have hm : num l p (j + 1) = num l p j + 256 ^ j * rd l (p + j) := rfl
    rw [e1]
    have e2 : IntKind.u64.wrap (IntKind.u64.wrap (rd l (p + j)) * 256 ^ j) = 256 ^ j * rd l (p + j) := by
      rw [wu64 (rd l _), Int.emod_eq_of_lt (by omega) (by omega), Int.mul_comm, wu64]
      refine Int.emod_eq_of_lt (Int.mul_nonneg (by omega) (by omega)) ?_
      omega
    rw [e2, wu64, ← hm, Int.emod_eq_of_lt hnb1.1 (by omega), wu64, ← hq1]
    exact ih k (j + 1) (by omega) (by omega)
theorem Num_eq (k : Nat) (l : List Int) (p : Int) (n : Nat) (hb : B8 l) (hl : (l.length : Int) ≤ 4611686018427387904) (h8 : n ≤ 8) (hk : n < k) : fettleref01_Num.f k l p n = some (rdn l p n) := by
  unfold fettleref01_Num.f rdn
  rw [In_eq l p n hl]
  by_cases h : inb l p n = true
  · have h' := inb_iff.1 h
    simp only [obind, h, if_true]
    have := Num_loop l p n hb hl h'.1 h'.2.2 (by omega) n k 0 (by omega) hk
    simpa [num] using this
  · have h' : inb l p n = false := by simpa using h
    simp [h']
end Go.Proofs.Ytpmhlomilobgaaa.OctUHdr
