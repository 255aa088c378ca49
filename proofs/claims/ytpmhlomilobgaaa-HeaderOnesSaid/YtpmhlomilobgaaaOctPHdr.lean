/- octet's numbers, written. (Written by wip/tools/genoct.py.) -/
import Derived.Test.YtpmhlomilobgaaaOctUHdr
import Derived.Test.YtpmhlomilobgaaaPHdrx11
import Derived.Test.YtpmhlomilobgaaaPHdrx12
set_option linter.unusedVariables false
set_option linter.unusedSimpArgs false
namespace Go.Proofs.Ytpmhlomilobgaaa.OctPHdr
open Go.RowKit Go.Proofs.Ytpmhlomilobgaaa.PHdr Go.Proofs.Ytpmhlomilobgaaa.Base Go.Proofs.Ytpmhlomilobgaaa.OctUHdr Go.Proofs.YtpmhlomilobgaaaW.PrintWords
theorem put32_loop (p n : Int) (hp : 0 ≤ p) (hn8 : n ≤ 8) : ∀ (d k j : Nat) (l : List Int) (v : Int), (l.length : Int) ≤ 4611686018427387904 → p + n ≤ l.length → j + d = n → d < k →
    octet_put_uint32.l0 k l p v n j = some (true, putl l (p + j) d v) := by
  intro d
  induction d with
  | zero =>
    intro k j l v hl hn hj hk
    obtain ⟨k, rfl⟩ : ∃ m, k = m + 1 := ⟨k - 1, by omega⟩
    rw [octet_put_uint32.l0, if_neg (by omega)]
    rfl
  | succ d ih =>
    intro k j l v hl hn hj hk
    obtain ⟨k, rfl⟩ : ∃ m, k = m + 1 := ⟨k - 1, by omega⟩
    rw [octet_put_uint32.l0, if_pos (by omega), w64 (by omega) (by omega), if_pos (by omega), if_pos (by omega), w64 (by omega) (by omega)]
    have := ih k (j + 1) (l.set (p + j).toNat (v % 256)) (v / 256) (by simpa using hl) (by simpa using hn) (by omega) (by omega)
    rw [show (((j + 1 : Nat) : Int)) = (j : Int) + 1 by omega] at this
    rw [this, putl, Int.add_assoc]
theorem Put32_eq (k : Nat) (l : List Int) (p v : Int) (hl : (l.length : Int) ≤ 4611686018427387904) : octet_Put32.f (k + 5) l p v = some (if inb l p 4 = true then (true, l.take p.toNat ++ leb 4 v ++ l.drop (p.toNat + 4)) else (false, l)) := by
  unfold octet_Put32.f octet_put_uint32.f
  rw [in_eq l p 4 hl]
  by_cases h : inb l p 4 = true
  · have h' := inb_iff.1 h
    simp only [obind, h, if_true]
    have := put32_loop p 4 h'.1 (by omega) 4 (k + 5) 0 l v hl h'.2.2 (by omega) (by omega)
    rw [show (((0 : Nat) : Int)) = 0 from rfl] at this
    rw [this, Int.add_zero, putl_eq 4 l p v h'.1 h'.2.2]
    rfl
  · have h' : inb l p 4 = false := by simpa using h
    simp [h']
theorem put64_loop (p n : Int) (hp : 0 ≤ p) (hn8 : n ≤ 8) : ∀ (d k j : Nat) (l : List Int) (v : Int), (l.length : Int) ≤ 4611686018427387904 → p + n ≤ l.length → j + d = n → d < k →
    octet_put_uint64.l0 k l p v n j = some (true, putl l (p + j) d v) := by
  intro d
  induction d with
  | zero =>
    intro k j l v hl hn hj hk
    obtain ⟨k, rfl⟩ : ∃ m, k = m + 1 := ⟨k - 1, by omega⟩
    rw [octet_put_uint64.l0, if_neg (by omega)]
    rfl
  | succ d ih =>
    intro k j l v hl hn hj hk
    obtain ⟨k, rfl⟩ : ∃ m, k = m + 1 := ⟨k - 1, by omega⟩
    rw [octet_put_uint64.l0, if_pos (by omega), w64 (by omega) (by omega), if_pos (by omega), if_pos (by omega), w64 (by omega) (by omega)]
    have := ih k (j + 1) (l.set (p + j).toNat (v % 256)) (v / 256) (by simpa using hl) (by simpa using hn) (by omega) (by omega)
    rw [show (((j + 1 : Nat) : Int)) = (j : Int) + 1 by omega] at this
    rw [this, putl, Int.add_assoc]
theorem Put64_eq (k : Nat) (l : List Int) (p v : Int) (hl : (l.length : Int) ≤ 4611686018427387904) : octet_Put64.f (k + 9) l p v = some (if inb l p 8 = true then (true, l.take p.toNat ++ leb 8 v ++ l.drop (p.toNat + 8)) else (false, l)) := by
  unfold octet_Put64.f octet_put_uint64.f
  rw [in_eq l p 8 hl]
  by_cases h : inb l p 8 = true
  · have h' := inb_iff.1 h
    simp only [obind, h, if_true]
    have := put64_loop p 8 h'.1 (by omega) 8 (k + 9) 0 l v hl h'.2.2 (by omega) (by omega)
    rw [show (((0 : Nat) : Int)) = 0 from rfl] at this
    rw [this, Int.add_zero, putl_eq 8 l p v h'.1 h'.2.2]
    rfl
  · have h' : inb l p 8 = false := by simpa using h
    simp [h']
theorem Bytes_loop (n : Int) : ∀ (d k j : Nat) (v : Int) (acc : List Int), 0 ≤ v → v < 18446744073709551616 → j + d = n → n ≤ 4611686018427387904 → d < k → acc.length + d < 140737488355328 →
    fettleref01_Bytes.l0 k v n acc j = some (acc ++ leb d v) := by
  intro d
  induction d with
  | zero =>
    intro k j v acc v0 v1 hj hn hk hl
    obtain ⟨k, rfl⟩ : ∃ m, k = m + 1 := ⟨k - 1, by omega⟩
    rw [fettleref01_Bytes.l0, if_neg (by omega)]
    simp [leb]
  | succ d ih =>
    intro k j v acc v0 v1 hj hn hk hl
    obtain ⟨k, rfl⟩ : ∃ m, k = m + 1 := ⟨k - 1, by omega⟩
    rw [fettleref01_Bytes.l0, if_pos (by omega), if_pos (by omega), w64 (by omega) (by omega)]
    rw [Int.tdiv_eq_ediv_of_nonneg v0, Int.tmod_eq_emod_of_nonneg v0, wu64, Int.emod_eq_of_lt (by omega) (by omega), Int.emod_emod_of_dvd _ (Int.dvd_refl 256)]
    have := ih k (j + 1) (v / 256) (acc ++ [v % 256]) (by omega) (by omega) (by omega) hn (by omega) (by simp; omega)
    rw [show (((j + 1 : Nat) : Int)) = (j : Int) + 1 by omega] at this
    rw [this]
    simp [leb]
theorem Bytes_eq (k : Nat) (v : Int) (n : Nat) (v0 : 0 ≤ v) (v1 : v < 18446744073709551616) (hn : n ≤ 1000000) (hk : n < k) : fettleref01_Bytes.f k v n = some (leb n v) := by
  have := Bytes_loop n n k 0 v [] v0 v1 (by omega) (by omega) hk (by simp; omega)
  simpa [fettleref01_Bytes.f] using this
end Go.Proofs.Ytpmhlomilobgaaa.OctPHdr
