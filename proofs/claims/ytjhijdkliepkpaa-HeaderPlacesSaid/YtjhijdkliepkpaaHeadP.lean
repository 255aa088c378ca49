/- A header's numbers, plainly. -/
import Derived.Test.YtjhijdkliepkpaaBase
set_option linter.unusedVariables false
set_option linter.unusedSimpArgs false
namespace Go.Proofs.Ytjhijdkliepkpaa.HeadP
open Go.RowKit Go.Proofs.Ytjhijdkliepkpaa.Base
/-- A cluster's bytes. -/
def csz (b : Int) : Int := if b = 10 then 1024 else if b = 11 then 2048 else if b = 12 then 4096 else 512
theorem csz_cases (b : Int) : csz b = 512 ∨ csz b = 1024 ∨ csz b = 2048 ∨ csz b = 4096 := by unfold csz; split <;> (try split) <;> (try split) <;> simp
def clp (x m : Int) : Int := if x < 0 then 0 else if x > m then m else x
theorem clp_range (x : Int) {m : Int} (hm : 0 ≤ m) : 0 ≤ clp x m ∧ clp x m ≤ m := by unfold clp; split <;> (try split) <;> omega
def upn (n u : Int) : Int := (n + u - 1) / u
def guestn (b s : Int) : Int := upn (clp s 16777216) (csz b)
def refsn (b h : Int) : Int := upn (2 * clp h 8192) (csz b)
def leastn (b h : Int) : Int := upn ((refsn b h + 18) * csz b + 4608) (csz b)
/-- Where the parts begin, in clusters: the journal at 1. -/
def at2 (j : Int) : Int := 1 + clp j 8192
def at3 (b h j : Int) : Int := at2 j + refsn b h
def at5 (b h j : Int) : Int := at3 b h j + 2
def checkn (b s h j : Int) : Int :=
  if b < 9 ∨ 12 < b then 11
  else if s < 512 ∨ 16777216 < s ∨ s % 512 ≠ 0 then 11
  else if csz b / 8 * (csz b / 8) < guestn b s then 20
  else if h < 1 ∨ 8192 < h ∨ 4194304 < h * csz b then 20
  else if j < leastn b h ∨ 8192 < j ∨ h < at5 b h j then 11
  else 0
theorem refsn_range (b h : Int) : 0 ≤ refsn b h ∧ refsn b h ≤ 32 := by
  have := clp_range h (m := 8192) (by omega)
  unfold refsn upn
  rcases csz_cases b with e | e | e | e <;> rw [e] <;> omega
theorem guestn_range (b s : Int) : 0 ≤ guestn b s ∧ guestn b s ≤ 32768 := by
  have := clp_range s (m := 16777216) (by omega)
  unfold guestn upn
  rcases csz_cases b with e | e | e | e <;> rw [e] <;> omega
theorem leastn_range (b h : Int) : 0 ≤ leastn b h ∧ leastn b h ≤ 100 := by
  have := refsn_range b h
  unfold leastn upn
  rcases csz_cases b with e | e | e | e <;> rw [e] <;> omega
theorem at_range (b h j : Int) : 1 ≤ at2 j ∧ at2 j ≤ 8193 ∧ at2 j ≤ at3 b h j ∧ at3 b h j ≤ 8225 := by
  have := refsn_range b h
  have := clp_range j (m := 8192) (by omega)
  unfold at3 at2
  omega

/-- The first cluster of a part. -/
def atn (b h j w : Int) : Int := if w ≤ 0 then 0 else if w ≤ 1 then 1 else if w ≤ 2 then at2 j else if w ≤ 3 then at3 b h j else if w ≤ 4 then at3 b h j + 1 else at5 b h j
end Go.Proofs.Ytjhijdkliepkpaa.HeadP
