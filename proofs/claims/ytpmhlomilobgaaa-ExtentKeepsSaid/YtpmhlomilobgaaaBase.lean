/- Plain arithmetic and lists: numbers of bytes, lowest first. -/
import Derived.Test.YtpmhlomilobgaaaVExt
import Derived.Laws.BitsLemmas
set_option linter.unusedVariables false
set_option linter.unusedSimpArgs false
namespace Go.Proofs.Ytpmhlomilobgaaa.Base
open Go.RowKit Go.Proofs.YtpmhlomilobgaaaW.PrintWords

theorem wf_u8 {x : Int} : (Lit.int .u8 x).wf = true ↔ 0 ≤ x ∧ x < 256 := by
  simp only [Lit.wf, IntKind.min, IntKind.max, IntKind.signed, IntKind.bits, Bool.and_eq_true, decide_eq_true_eq]
  simp; omega
theorem wf_u16 {x : Int} : (Lit.int .u16 x).wf = true ↔ 0 ≤ x ∧ x < 65536 := by
  simp only [Lit.wf, IntKind.min, IntKind.max, IntKind.signed, IntKind.bits, Bool.and_eq_true, decide_eq_true_eq]
  simp; omega
theorem wf_u32 {x : Int} : (Lit.int .u32 x).wf = true ↔ 0 ≤ x ∧ x < 4294967296 := by
  simp only [Lit.wf, IntKind.min, IntKind.max, IntKind.signed, IntKind.bits, Bool.and_eq_true, decide_eq_true_eq]
  simp; omega
theorem wf_u64 {x : Int} : (Lit.int .u64 x).wf = true ↔ 0 ≤ x ∧ x < 18446744073709551616 := by
  simp only [Lit.wf, IntKind.min, IntKind.max, IntKind.signed, IntKind.bits, Bool.and_eq_true, decide_eq_true_eq]
  simp; omega
theorem wf_i64 {x : Int} : (Lit.int .i64 x).wf = true ↔ -9223372036854775808 ≤ x ∧ x < 9223372036854775808 := by
  simp only [Lit.wf, IntKind.min, IntKind.max, IntKind.signed, IntKind.bits, Bool.and_eq_true, decide_eq_true_eq]
  simp; omega
theorem w64 {x : Int} (h0 : -9223372036854775808 ≤ x) (h1 : x < 9223372036854775808) : wrap64 x = x := by unfold wrap64; omega
theorem wu16 (x : Int) : IntKind.u16.wrap x = x % 65536 := by simp [IntKind.wrap, IntKind.bits, IntKind.signed]
theorem wu32 (x : Int) : IntKind.u32.wrap x = x % 4294967296 := by simp [IntKind.wrap, IntKind.bits, IntKind.signed]
theorem wu64 (x : Int) : IntKind.u64.wrap x = x % 18446744073709551616 := by simp [IntKind.wrap, IntKind.bits, IntKind.signed]
theorem wraps_u16 (n : Int) (h₀ : 0 ≤ n) (h₁ : n < 2 ^ 16) : IntKind.u16.wrap n = n := by rw [wu16]; omega
theorem wraps_u32 (n : Int) (h₀ : 0 ≤ n) (h₁ : n < 2 ^ 32) : IntKind.u32.wrap n = n := by rw [wu32]; omega
theorem wraps_u64 (n : Int) (h₀ : 0 ≤ n) (h₁ : n < 2 ^ 64) : IntKind.u64.wrap n = n := by rw [wu64]; omega
theorem or16 (v b : Int) (h0 : 0 ≤ v) (h1 : v < 256) (b0 : 0 ≤ b) (b1 : b < 256) : Go.bits .or .u16 (IntKind.u16.wrap (v * 256)) (IntKind.u16.wrap b) = v * 256 + b := by
  rw [wraps_u16 _ (by omega) (by omega), wraps_u16 _ (by omega) (by omega)]
  exact bits_join .u16 16 (by decide) wraps_u16 8 _ _ (by omega) (by omega) (by omega) b0 (by omega) (by omega)
theorem or32 (v b : Int) (h0 : 0 ≤ v) (h1 : v < 16777216) (b0 : 0 ≤ b) (b1 : b < 256) : Go.bits .or .u32 ((v * 256) % 4294967296) (b % 4294967296) = v * 256 + b := by
  rw [show (v * 256) % 4294967296 = v * 256 by omega, show b % 4294967296 = b by omega]
  exact bits_join .u32 32 (by decide) wraps_u32 8 _ _ (by omega) (by omega) (by omega) b0 (by omega) (by omega)
theorem or64 (v b : Int) (h0 : 0 ≤ v) (h1 : v < 72057594037927936) (b0 : 0 ≤ b) (b1 : b < 256) : Go.bits .or .u64 (IntKind.u64.wrap (v * 256)) (IntKind.u64.wrap b) = v * 256 + b := by
  rw [wraps_u64 _ (by omega) (by omega), wraps_u64 _ (by omega) (by omega)]
  exact bits_join .u64 64 (by decide) wraps_u64 8 _ _ (by omega) (by omega) (by omega) b0 (by omega) (by omega)

/-- Not told as true by sight: the kernel would look into what is bound. -/
theorem obind {α β : Type} (a : α) (f : α → Option β) : (some a).bind f = f a := congrArg (fun x => x) (Option.bind_some a f)

/-- Bytes. -/
def B8 (l : List Int) : Prop := ∀ x ∈ l, 0 ≤ x ∧ x < 256
theorem B8.of_wf {l : List Int} (h : ∀ x ∈ l, (Lit.int .u8 x).wf = true) : B8 l := fun x hx => wf_u8.1 (h x hx)
theorem B8.to_wf {l : List Int} (h : B8 l) : ∀ x ∈ l, (Lit.int .u8 x).wf = true := fun x hx => wf_u8.2 (h x hx)
theorem B8.nil : B8 [] := fun x hx => by cases hx
theorem B8.append {l m : List Int} (h : B8 l) (g : B8 m) : B8 (l ++ m) := fun x hx => by
  rcases List.mem_append.1 hx with hx | hx
  · exact h x hx
  · exact g x hx
theorem B8.take {l : List Int} (h : B8 l) (n : Nat) : B8 (l.take n) := fun x hx => h x (List.mem_of_mem_take hx)
theorem B8.drop {l : List Int} (h : B8 l) (n : Nat) : B8 (l.drop n) := fun x hx => h x (List.mem_of_mem_drop hx)
theorem B8.replicate (n : Nat) : B8 (List.replicate n 0) := fun x hx => by
  have := List.eq_of_mem_replicate hx
  omega
theorem B8.rd {l : List Int} (h : B8 l) (i : Int) : 0 ≤ rd l i ∧ rd l i < 256 := by
  show 0 ≤ l.getD i.toNat 0 ∧ l.getD i.toNat 0 < 256
  rw [List.getD_eq_getElem?_getD]
  by_cases hi : i.toNat < l.length
  · rw [List.getElem?_eq_getElem hi]
    exact h _ (List.getElem_mem hi)
  · rw [List.getElem?_eq_none (by omega)]
    simp

/-- The number of n bytes at a place. -/
def num (l : List Int) (p : Int) : Nat → Int
  | 0 => 0
  | n + 1 => num l p n + 256 ^ n * rd l (p + n)
theorem pow_pos' (n : Nat) : (0 : Int) < 256 ^ n := Int.pow_pos (by decide)
theorem num_bound {l : List Int} (h : B8 l) (p : Int) (n : Nat) : 0 ≤ num l p n ∧ num l p n < 256 ^ n := by
  induction n with
  | zero => simp [num]
  | succ n ih =>
    have hr := h.rd (p + n)
    have hp := pow_pos' n
    have e : (256 : Int) ^ (n + 1) = 256 ^ n * 256 := by rw [Int.pow_succ]
    simp only [num, e]
    generalize rd l (p + n) = b at *
    generalize (256 : Int) ^ n = q at *
    constructor
    · have := Int.mul_nonneg (Int.le_of_lt hp) hr.1
      omega
    · have h2 : q * b ≤ q * 255 := Int.mul_le_mul_of_nonneg_left (by omega) (Int.le_of_lt hp)
      omega
/-- A number's n bytes. -/
def leb : Nat → Int → List Int
  | 0, _ => []
  | n + 1, v => v % 256 :: leb n (v / 256)
theorem leb_length (n : Nat) (v : Int) : (leb n v).length = n := by
  induction n generalizing v with
  | zero => rfl
  | succ n ih => simp [leb, ih]
theorem leb_b8 (n : Nat) (v : Int) : B8 (leb n v) := by
  induction n generalizing v with
  | zero => exact B8.nil
  | succ n ih =>
    intro x hx
    rcases List.mem_cons.1 hx with rfl | hx
    · omega
    · exact ih _ x hx
/-- n bytes of a number laid one after the other. -/
def putl (l : List Int) (p : Int) : Nat → Int → List Int
  | 0, _ => l
  | n + 1, v => putl (l.set p.toNat (v % 256)) (p + 1) n (v / 256)
theorem putl_length (l : List Int) (p : Int) (n : Nat) (v : Int) : (putl l p n v).length = l.length := by
  induction n generalizing l p v with
  | zero => rfl
  | succ n ih => simp [putl, ih]
theorem putl_eq (n : Nat) : ∀ (l : List Int) (p : Int) (v : Int), 0 ≤ p → p + n ≤ l.length → putl l p n v = l.take p.toNat ++ leb n v ++ l.drop (p.toNat + n) := by
  induction n with
  | zero => intro l p v h0 h1; simp [putl, leb]
  | succ n ih =>
    intro l p v h0 h1
    have hp : p.toNat < l.length := by omega
    rw [putl, ih _ _ _ (by omega) (by simp; omega)]
    have e1 : (p + 1).toNat = p.toNat + 1 := by omega
    rw [e1]
    have e2 : (l.set p.toNat (v % 256)).take (p.toNat + 1) = l.take p.toNat ++ [v % 256] := by
      rw [List.take_succ_eq_append_getElem (by simpa using hp)]
      simp [List.take_set_of_le]
    have e3 : (l.set p.toNat (v % 256)).drop (p.toNat + 1 + n) = l.drop (p.toNat + (n + 1)) := by
      rw [List.drop_set_of_lt (by omega), show p.toNat + 1 + n = p.toNat + (n + 1) by omega]
    rw [e2, e3]
    simp [leb]
/-- A part of a list, read. -/
theorem rd_append_left {l m : List Int} {i : Int} (h : i.toNat < l.length) : rd (l ++ m) i = rd l i := by
  show (l ++ m).getD i.toNat 0 = l.getD i.toNat 0
  simp [List.getD_eq_getElem?_getD, List.getElem?_append_left h]
theorem rd_append_right {l m : List Int} {i : Int} (h : l.length ≤ i.toNat) : rd (l ++ m) i = rd m (i - l.length) := by
  show (l ++ m).getD i.toNat 0 = m.getD (i - l.length).toNat 0
  simp [List.getD_eq_getElem?_getD, List.getElem?_append_right h, show (i - (l.length : Int)).toNat = i.toNat - l.length by omega]
theorem num_congr {l m : List Int} {p q : Int} (n : Nat) (h : ∀ j : Nat, j < n → rd l (p + j) = rd m (q + j)) : num l p n = num m q n := by
  induction n with
  | zero => rfl
  | succ n ih => rw [num, num, ih (fun j hj => h j (by omega)), h n (by omega)]
theorem emod_mul' (x : Int) {q r : Int} (hq : 0 < q) (hr : 0 < r) : x % (q * r) = x % q + q * (x / q % r) := by
  have a1 := Int.emod_add_mul_ediv x q
  have a2 := Int.emod_add_mul_ediv (x / q) r
  have b0 := Int.emod_nonneg (x / q) (show r ≠ 0 by omega)
  have b1 := Int.emod_lt_of_pos (x / q) hr
  have c0 := Int.emod_nonneg x (show q ≠ 0 by omega)
  have c1 := Int.emod_lt_of_pos x hq
  have e : x = (x % q + q * (x / q % r)) + (q * r) * (x / q / r) := by
    rw [Int.mul_assoc, Int.add_assoc, ← Int.mul_add, a2, a1]
  have h2 : q * (x / q % r) ≤ q * (r - 1) := Int.mul_le_mul_of_nonneg_left (by omega) (Int.le_of_lt hq)
  have h3 : 0 ≤ q * (x / q % r) := Int.mul_nonneg (Int.le_of_lt hq) b0
  rw [Int.mul_sub] at h2
  have c : (x % q + q * (x / q % r) + q * r * (x / q / r)) % (q * r) = x % q + q * (x / q % r) := by
    rw [Int.add_mul_emod_self_left]
    exact Int.emod_eq_of_lt (by omega) (by omega)
  rw [← e] at c
  exact c
theorem rd_cons_succ (a : Int) (l : List Int) (i : Nat) : rd (a :: l) ((i + 1 : Nat) : Int) = rd l (i : Int) := by
  show (a :: l).getD ((i + 1 : Nat) : Int).toNat 0 = l.getD (i : Int).toNat 0
  simp
theorem rd_leb (m : Nat) : ∀ (i : Nat) (v : Int), i < m → rd (leb m v) i = v / 256 ^ i % 256 := by
  induction m with
  | zero => intro i v h; omega
  | succ m ih =>
    intro i v h
    cases i with
    | zero => simp [leb, rd]
    | succ i =>
      rw [leb, rd_cons_succ, ih i _ (by omega), Int.ediv_ediv_of_nonneg (by omega), Int.pow_succ, Int.mul_comm (256 ^ i) 256]
theorem num_leb_part (m : Nat) (v : Int) (p n : Nat) (h : p + n ≤ m) : num (leb m v) p n = v / 256 ^ p % 256 ^ n := by
  induction n with
  | zero => simp [num]
  | succ n ih =>
    have e : (p : Int) + (n : Int) = ((p + n : Nat) : Int) := by omega
    rw [num, ih (by omega), e, rd_leb m _ _ (by omega), Int.pow_succ, emod_mul' _ (pow_pos' n) (by decide), Int.ediv_ediv_of_nonneg (Int.le_of_lt (pow_pos' p)), ← Int.pow_add]
theorem num_leb (n : Nat) (v : Int) : num (leb n v) 0 n = v % 256 ^ n := by
  have := num_leb_part n v 0 n (by omega)
  simpa using this
theorem leb_mod (n : Nat) : ∀ (v M : Int), (∃ q : Int, 0 < q ∧ M = 256 ^ n * q) → leb n (v % M) = leb n v := by
  induction n with
  | zero => intro v M _; rfl
  | succ n ih =>
    intro v M ⟨q, hq0, hq⟩
    have hM : M = 256 * (256 ^ n * q) := by rw [hq, Int.pow_succ, Int.mul_comm (256 ^ n) 256, Int.mul_assoc]
    have hm : 0 < 256 ^ n * q := Int.mul_pos (pow_pos' n) hq0
    have e0 := emod_mul' v (q := 256) (by decide) hm
    simp only [leb]
    congr 1
    · rw [hM]; omega
    · have e : v % M / 256 = (v / 256) % (256 ^ n * q) := by rw [hM, e0]; omega
      rw [e]
      exact ih _ _ ⟨q, hq0, rfl⟩
/-- The number that was put is read. -/
theorem num_put (l r : List Int) (n : Nat) (v : Int) : num (l ++ leb n v ++ r) l.length n = v % 256 ^ n := by
  rw [← num_leb n v]
  refine num_congr n fun j hj => ?_
  rw [List.append_assoc, rd_append_right (by omega), rd_append_left (by rw [leb_length]; omega)]
  congr 1
  omega
theorem num_put' {l r : List Int} {n : Nat} {v p : Int} (hp : p = l.length) (h0 : 0 ≤ v) (h1 : v < 256 ^ n) : num (l ++ (leb n v ++ r)) p n = v := by
  rw [← List.append_assoc, hp, num_put]
  exact Int.emod_eq_of_lt h0 h1
theorem num_left (l r : List Int) (p : Int) (n : Nat) (h0 : 0 ≤ p) (h : p + n ≤ l.length) : num (l ++ r) p n = num l p n :=
  num_congr n fun j hj => rd_append_left (by omega)
theorem rd_of_lt {l : List Int} {i : Nat} (h : i < l.length) : rd l i = l[i] := by
  show l.getD (i : Int).toNat 0 = l[i]
  simp [List.getD_eq_getElem?_getD, List.getElem?_eq_getElem h]
theorem rd_drop_eq {l : List Int} {p i : Nat} : rd (l.drop p) i = rd l ((p + i : Nat) : Int) := by
  show (l.drop p).getD (i : Int).toNat 0 = l.getD ((p + i : Nat) : Int).toNat 0
  rw [show (i : Int).toNat = i by omega, show ((p + i : Nat) : Int).toNat = p + i by omega]
  simp [List.getD_eq_getElem?_getD, List.getElem?_drop]
theorem num_drop (l : List Int) (p : Nat) (n : Nat) : num (l.drop p) 0 n = num l p n := by
  refine num_congr n fun j hj => ?_
  have := @rd_drop_eq l p j
  rw [show (0 : Int) + (j : Int) = (j : Int) by omega, this]
  congr 1
theorem num_cons (a : Int) (l : List Int) (n : Nat) : num (a :: l) 0 (n + 1) = a + 256 * num l 0 n := by
  induction n with
  | zero => simp [num, rd]
  | succ n ih =>
    rw [num, ih, num]
    have e : rd (a :: l) (0 + ((n + 1 : Nat) : Int)) = rd l (0 + (n : Int)) := by
      have := rd_cons_succ a l n
      rw [show (0 : Int) + ((n + 1 : Nat) : Int) = ((n + 1 : Nat) : Int) by omega, this]
      congr 1
      omega
    rw [e, Int.pow_succ]
    generalize (256 : Int) ^ n = q
    generalize rd l (0 + (n : Int)) = b
    rw [Int.mul_add, Int.mul_comm q 256, Int.mul_assoc]
    omega
/-- A number's bytes are those it was read from. -/
theorem leb_num0 (n : Nat) : ∀ (l : List Int), B8 l → n ≤ l.length → leb n (num l 0 n) = l.take n := by
  induction n with
  | zero => intro l _ _; rfl
  | succ n ih =>
    intro l hb hl
    cases l with
    | nil => simp at hl
    | cons a l =>
      have ha := hb a (by simp)
      have hb' : B8 l := fun x hx => hb x (by simp [hx])
      rw [num_cons, leb, List.take_succ_cons]
      have e1 : (a + 256 * num l 0 n) % 256 = a := by omega
      have e2 : (a + 256 * num l 0 n) / 256 = num l 0 n := by omega
      rw [e1, e2, ih l hb' (by simpa using hl)]
theorem leb_num (l : List Int) (p n : Nat) (hb : B8 l) (hl : p + n ≤ l.length) : leb n (num l p n) = (l.drop p).take n := by
  rw [← num_drop, leb_num0 n _ (hb.drop p) (by rw [List.length_drop]; omega)]
end Go.Proofs.Ytpmhlomilobgaaa.Base
