import Derived.Test.YtjccknmgmommcaaSxL1
set_option linter.unusedVariables false
set_option linter.unusedSimpArgs false
set_option maxRecDepth 10000
namespace Go.Proofs.Ytjccknmgmommcaa.Sx
open Go.RowKit Go.Proofs.Ytjccknmgmommcaa.Sx.Tb
theorem crashL_nil : ∀ (b : List Int) (its : List (Bool × Int × List Int)), crashL b its [] = b
  | b, [] => by simp [crashL]
  | b, it :: r => by simp [crashL, crashL_nil b r]
/-- Whether the n-th is kept. -/
theorem crashL_append : ∀ (its : List (Bool × Int × List Int)) (b : List Int) (it : Bool × Int × List Int) (ks : List Bool),
    crashL b (its ++ [it]) ks = if ks.getD its.length false = true then layL (crashL b its ks) it.1 it.2.1 it.2.2 else crashL b its ks
  | [], b, it, ks => by
    cases ks with
    | nil => simp [crashL]
    | cons k ks => cases k <;> simp [crashL]
  | x :: r, b, it, ks => by
    cases ks with
    | nil => simp [crashL_nil]
    | cons k ks =>
      cases k
      · simp only [List.cons_append, crashL, List.length_cons, List.getD_cons_succ]
        exact crashL_append r b it ks
      · simp only [List.cons_append, crashL, List.length_cons, List.getD_cons_succ]
        exact crashL_append r _ it ks
/-- A byte of what a write makes. -/
theorem layL_get (b : List Int) (at_ : Int) (xs : List Int) (j : Nat) (h : 0 ≤ at_) (h1 : at_ + xs.length ≤ b.length) :
    (layL b false at_ xs).getD j 0 = if at_.toNat ≤ j ∧ j < at_.toNat + xs.length then xs.getD (j - at_.toNat) 0 else b.getD j 0 := by
  have e : layL b false at_ xs = b.take at_.toNat ++ xs ++ b.drop (at_.toNat + xs.length) := by
    unfold layL
    rw [layP_id _ _ (by omega)]
    rfl
  rw [e, List.getD_eq_getElem?_getD, List.getD_eq_getElem?_getD, List.getD_eq_getElem?_getD]
  by_cases h2 : j < at_.toNat
  · rw [if_neg (by omega), List.append_assoc, List.getElem?_append_left (by rw [List.length_take]; omega), List.getElem?_take, if_pos h2]
  · by_cases h3 : j < at_.toNat + xs.length
    · rw [if_pos ⟨by omega, h3⟩, List.append_assoc, List.getElem?_append_right (by rw [List.length_take]; omega), List.getElem?_append_left (by rw [List.length_take]; omega), List.length_take, show min at_.toNat b.length = at_.toNat by omega]
    · rw [if_neg (by omega), List.getElem?_append_right (by rw [List.length_append, List.length_take]; omega), List.getElem?_drop, List.length_append, List.length_take, show at_.toNat + xs.length + (j - (min at_.toNat b.length + xs.length)) = j by omega]
/-- A write within a sector. -/
theorem wrote1_one (s : DF) (at_ : Int) (xs : List Int) (h : 0 ≤ at_) (h1 : at_ / 512 = (at_ + xs.length) / 512) :
    s.wrote1 at_ xs = (if xs = [] then { s with ops := s.ops + 1, wrote := s.wrote + 1 } else { s with ops := s.ops + 1, wrote := s.wrote + 1, now := layL s.now false at_ xs, items := s.items ++ [(false, at_, xs)] }) := by
  unfold DF.wrote1
  cases xs with
  | nil => rw [if_pos rfl]; rfl
  | cons x r =>
    rw [if_neg (by simp)]
    rw [List.length_cons, wrN, if_neg (by simp)]
    have hs : secN at_ (r.length + 1) = (x :: r).length := by
      rw [List.length_cons] at h1 ⊢
      unfold secN
      omega
    rw [List.length_cons, hs, List.take_length, List.drop_length]
    cases r.length with
    | zero => rfl
    | succ m => rw [wrN, if_pos rfl]
def statesC (sts : List (List Int)) : Cont := .recs 1 sts.length (fun k => [.im true 1 (sts.getD k []).length (.ints .u8 (sts.getD k []))])
/-- What is known of the file and the states so far. -/
structure Sec (b : List Int) (i : Nat) (s : DF) (sts : List (List Int)) : Prop where
  safe : s.safe = b
  ops : s.ops = s.wrote ∧ 0 ≤ s.ops ∧ s.ops ≤ i
  live : s.fail = 0 ∧ s.stop = 0
  len : s.now.length = b.length
  its : s.items.length ≤ i
  all : ∀ it ∈ s.items, it.1 = false ∧ 0 ≤ it.2.1 ∧ it.2.1 + it.2.2.length ≤ b.length
  lens : ∀ st ∈ sts, st.length = b.length
  cl : ∀ ks, (crashL s.safe s.items ks).length = b.length
  cov : ∀ ks j, j < b.length → ∃ st ∈ sts, (crashL s.safe s.items ks).getD j 0 = st.getD j 0
theorem Sec.zero (b : List Int) : Sec b 0 (DF.mk0 b) [b] := by
  refine ⟨rfl, ⟨rfl, Int.le_refl _, Int.le_refl _⟩, ⟨rfl, rfl⟩, rfl, Nat.le_refl _, fun it h => (by cases h), fun st h => (by simp at h; rw [h]), fun ks => (by simp [DF.mk0, crashL]), fun ks j hj => ⟨b, by simp, by simp [DF.mk0, crashL]⟩⟩
theorem Sec.mono {b : List Int} {i : Nat} {s : DF} {sts : List (List Int)} (h : Sec b i s sts) : Sec b (i + 1) s sts :=
  ⟨h.safe, ⟨h.ops.1, h.ops.2.1, by have := h.ops.2.2; omega⟩, h.live, h.len, Nat.le_succ_of_le h.its, h.all, h.lens, h.cl, h.cov⟩
theorem Sec.step {b : List Int} {i : Nat} {s : DF} {sts : List (List Int)} (h : Sec b i s sts) (hnow : s.now ∈ sts) {at_ : Int} {xs : List Int} (h0 : 0 ≤ at_) (h1 : at_ + xs.length ≤ b.length) (h2 : at_ / 512 = (at_ + xs.length) / 512) :
    Sec b (i + 1) (s.wrote1 at_ xs) (sts ++ [(s.wrote1 at_ xs).now]) ∧ (s.wrote1 at_ xs).now ∈ sts ++ [(s.wrote1 at_ xs).now] := by
  refine ⟨?_, by simp⟩
  rw [wrote1_one s at_ xs h0 h2]
  by_cases hx : xs = []
  · rw [if_pos hx]
    refine ⟨h.safe, ⟨?_, ?_, ?_⟩, h.live, h.len, Nat.le_succ_of_le h.its, h.all, fun st hst => ?_, h.cl, fun ks j hj => ?_⟩
    · have := h.ops.1; show s.ops + 1 = s.wrote + 1; omega
    · have := h.ops.2.1; show 0 ≤ s.ops + 1; omega
    · have := h.ops.2.2; show s.ops + 1 ≤ _; omega
    · rcases List.mem_append.1 hst with hst | hst
      · exact h.lens st hst
      · simp at hst; rw [hst]; exact h.len
    · obtain ⟨st, h3, h4⟩ := h.cov ks j hj
      exact ⟨st, List.mem_append_left _ h3, h4⟩
  · rw [if_neg hx]
    have hll : (layL s.now false at_ xs).length = b.length := by rw [layL_len _ _ _ h0, h.len]; omega
    refine ⟨h.safe, ⟨?_, ?_, ?_⟩, h.live, hll, ?_, fun it hit => ?_, fun st hst => ?_, fun ks => ?_, fun ks j hj => ?_⟩
    · have := h.ops.1; show s.ops + 1 = s.wrote + 1; omega
    · have := h.ops.2.1; show 0 ≤ s.ops + 1; omega
    · have := h.ops.2.2; show s.ops + 1 ≤ _; omega
    · have := h.its; show (s.items ++ [_]).length ≤ i + 1; rw [List.length_append]; simp; omega
    · rcases List.mem_append.1 hit with hit | hit
      · exact h.all it hit
      · simp at hit; subst hit; exact ⟨rfl, h0, h1⟩
    · rcases List.mem_append.1 hst with hst | hst
      · exact h.lens st hst
      · simp at hst; rw [hst]; exact hll
    · show (crashL s.safe (s.items ++ [(false, at_, xs)]) ks).length = b.length
      rw [crashL_append]
      split
      · simp only
        rw [layL_len _ _ _ h0, h.cl]; omega
      · exact h.cl ks
    · show ∃ st ∈ _, (crashL s.safe (s.items ++ [(false, at_, xs)]) ks).getD j 0 = _
      rw [crashL_append]
      obtain ⟨st, h3, h4⟩ := h.cov ks j hj
      split
      · simp only
        rw [layL_get _ _ _ _ h0 (by rw [h.cl]; exact h1)]
        by_cases hin : at_.toNat ≤ j ∧ j < at_.toNat + xs.length
        · rw [if_pos hin]
          refine ⟨layL s.now false at_ xs, by simp, ?_⟩
          rw [layL_get _ _ _ _ h0 (by rw [h.len]; exact h1), if_pos hin]
        · rw [if_neg hin]
          exact ⟨st, List.mem_append_left _ h3, h4⟩
      · exact ⟨st, List.mem_append_left _ h3, h4⟩
def secI (b : List Int) (row : List OpR) (keep : List Bool) (y : Nat × DF × List (List Int) × Nat) : Env × List Chunk :=
  ([(0, .im true 1 b.length (.ints .u8 b)), (1, .im true 4 row.length (opsC true row)), (2, .im true 1 keep.length (boolsC keep)), (7, .p 0 0 1 0), (9, .s 1 0 1 y.2.2.1.length y.2.2.2), (10, .v (.int .i64 y.1))],
   [y.2.1.pk, .blk 22 (statesC y.2.2.1) (y.2.2.2 * 1)])
set_option maxHeartbeats 8000000 in
theorem sectors_c (b : List Int) (row : List OpR) (keep : List Bool) (hb : row.length ≤ 9223372036854775807) (k : K) (hk : k (.v (.bool true)) []) :
    evFunc tab [] p3 Go.Proofs.Try.f3 [.im true 1 b.length (.ints .u8 b), .im true 4 row.length (opsC true row), .im true 1 keep.length (boolsC keep)] [] k := by
  repeat' (first
    | (with_reducible exact True.intro)
    | (with_reducible apply And.intro)
    | ((with_reducible apply VC.mk); (first | trivial | omega | (simp only [inR]; omega) | (exact ⟨rfl, List.prefix_rfl⟩) | (refine ⟨rfl, rfl, rfl, ?_, rfl⟩; (simp; done)) | (focus (repeat' (first | exact True.intro | apply And.intro | rfl | exact Nat.le_of_ble_eq_true rfl)); done) | (simp [inR, Cont.cells]; done) | (simp [inR, Cont.cells]; omega)))
    | (with_reducible apply If_true)
    | (with_reducible apply If_false)
    | ((with_reducible apply If_dec) <;> intro hc <;> (try (exfalso; omega)))
    | (with_reducible apply If_not)
    | ((with_reducible apply If_any) <;> intro hc)
    | ((with_reducible apply PF.mk); (focus kernel_rfl))
    | ((with_reducible apply DrawP.mk); (focus kernel_rfl))
    | ((with_reducible apply Same.mk); (focus rfl); (first | exact trivial | exact rfl))
    | (intro cap hcap)
    | ((fail_if_success (with_reducible apply Fin.mk)); (fail_if_success (with_reducible apply CallP.mk)); (fail_if_success (with_reducible apply LoopP.mk)); (fail_if_success (with_reducible apply VC.mk)); (fail_if_success (with_reducible apply falseMk)); (fail_if_success (with_reducible apply Round.mk)); (fail_if_success (with_reducible apply Eq.symm)); conv => whnf))
  refine halved_at rfl ?_
  repeat' (first
    | (with_reducible exact True.intro)
    | (with_reducible apply And.intro)
    | ((with_reducible apply VC.mk); (first | trivial | omega | (simp only [inR]; omega) | (exact ⟨rfl, List.prefix_rfl⟩) | (refine ⟨rfl, rfl, rfl, ?_, rfl⟩; (simp; done)) | (focus (repeat' (first | exact True.intro | apply And.intro | rfl | exact Nat.le_of_ble_eq_true rfl)); done) | (simp [inR, Cont.cells]; done) | (simp [inR, Cont.cells]; omega)))
    | (with_reducible apply If_true)
    | (with_reducible apply If_false)
    | ((with_reducible apply If_dec) <;> intro hc <;> (try (exfalso; omega)))
    | (with_reducible apply If_not)
    | ((with_reducible apply If_any) <;> intro hc)
    | ((with_reducible apply PF.mk); (focus kernel_rfl))
    | ((with_reducible apply DrawP.mk); (focus kernel_rfl))
    | ((with_reducible apply Same.mk); (focus rfl); (first | exact trivial | exact rfl))
    | (intro cap hcap)
    | ((fail_if_success (with_reducible apply Fin.mk)); (fail_if_success (with_reducible apply CallP.mk)); (fail_if_success (with_reducible apply LoopP.mk)); (fail_if_success (with_reducible apply VC.mk)); (fail_if_success (with_reducible apply falseMk)); (fail_if_success (with_reducible apply Round.mk)); (fail_if_success (with_reducible apply Eq.symm)); conv => whnf))
  refine light_at b row hb ⟨⟨rfl, rfl, rfl⟩, ⟨rfl, rfl, ⟨rfl, rfl, fun j _ => rfl⟩⟩, trivial⟩ ?_
  intro li hli
  repeat' (first
    | (with_reducible exact True.intro)
    | (with_reducible apply And.intro)
    | ((with_reducible apply VC.mk); (first | trivial | omega | (simp only [inR]; omega) | (exact ⟨rfl, List.prefix_rfl⟩) | (refine ⟨rfl, rfl, rfl, ?_, rfl⟩; (simp; done)) | (focus (repeat' (first | exact True.intro | apply And.intro | rfl | exact Nat.le_of_ble_eq_true rfl)); done) | (simp [inR, Cont.cells]; done) | (simp [inR, Cont.cells]; omega)))
    | (with_reducible apply If_true)
    | (with_reducible apply If_false)
    | ((with_reducible apply If_dec) <;> intro hc <;> (try (exfalso; omega)))
    | (with_reducible apply If_not)
    | ((with_reducible apply If_any) <;> intro hc)
    | ((with_reducible apply PF.mk); (focus kernel_rfl))
    | ((with_reducible apply DrawP.mk); (focus kernel_rfl))
    | ((with_reducible apply Same.mk); (focus rfl); (first | exact trivial | exact rfl))
    | (intro cap hcap)
    | ((fail_if_success (with_reducible apply Fin.mk)); (fail_if_success (with_reducible apply CallP.mk)); (fail_if_success (with_reducible apply LoopP.mk)); (fail_if_success (with_reducible apply VC.mk)); (fail_if_success (with_reducible apply falseMk)); (fail_if_success (with_reducible apply Round.mk)); (fail_if_success (with_reducible apply Eq.symm)); conv => whnf))
  case h.right.h =>
    refine halved_at rfl ?_
    repeat' (first
    | (with_reducible exact True.intro)
    | (with_reducible apply And.intro)
    | ((with_reducible apply VC.mk); (first | trivial | omega | (simp only [inR]; omega) | (exact ⟨rfl, List.prefix_rfl⟩) | (refine ⟨rfl, rfl, rfl, ?_, rfl⟩; (simp; done)) | (focus (repeat' (first | exact True.intro | apply And.intro | rfl | exact Nat.le_of_ble_eq_true rfl)); done) | (simp [inR, Cont.cells]; done) | (simp [inR, Cont.cells]; omega)))
    | (with_reducible apply If_true)
    | (with_reducible apply If_false)
    | ((with_reducible apply If_dec) <;> intro hc <;> (try (exfalso; omega)))
    | (with_reducible apply If_not)
    | ((with_reducible apply If_any) <;> intro hc)
    | ((with_reducible apply PF.mk); (focus kernel_rfl))
    | ((with_reducible apply DrawP.mk); (focus kernel_rfl))
    | ((with_reducible apply Same.mk); (focus rfl); (first | exact trivial | exact rfl))
    | (intro cap hcap)
    | ((fail_if_success (with_reducible apply Fin.mk)); (fail_if_success (with_reducible apply CallP.mk)); (fail_if_success (with_reducible apply LoopP.mk)); (fail_if_success (with_reducible apply VC.mk)); (fail_if_success (with_reducible apply falseMk)); (fail_if_success (with_reducible apply Round.mk)); (fail_if_success (with_reducible apply Eq.symm)); conv => whnf))
    exact Fin.same hk
  case g =>
    refine halved_at rfl ?_
    repeat' (first
    | (with_reducible exact True.intro)
    | (with_reducible apply And.intro)
    | ((with_reducible apply VC.mk); (first | trivial | omega | (simp only [inR]; omega) | (exact ⟨rfl, List.prefix_rfl⟩) | (refine ⟨rfl, rfl, rfl, ?_, rfl⟩; (simp; done)) | (focus (repeat' (first | exact True.intro | apply And.intro | rfl | exact Nat.le_of_ble_eq_true rfl)); done) | (simp [inR, Cont.cells]; done) | (simp [inR, Cont.cells]; omega)))
    | (with_reducible apply If_true)
    | (with_reducible apply If_false)
    | ((with_reducible apply If_dec) <;> intro hc <;> (try (exfalso; omega)))
    | (with_reducible apply If_not)
    | ((with_reducible apply If_any) <;> intro hc)
    | ((with_reducible apply PF.mk); (focus kernel_rfl))
    | ((with_reducible apply DrawP.mk); (focus kernel_rfl))
    | ((with_reducible apply Same.mk); (focus rfl); (first | exact trivial | exact rfl))
    | (intro cap hcap)
    | ((fail_if_success (with_reducible apply Fin.mk)); (fail_if_success (with_reducible apply CallP.mk)); (fail_if_success (with_reducible apply LoopP.mk)); (fail_if_success (with_reducible apply VC.mk)); (fail_if_success (with_reducible apply falseMk)); (fail_if_success (with_reducible apply Round.mk)); (fail_if_success (with_reducible apply Eq.symm)); conv => whnf))
    exact Fin.same hk
  have hlt : li = true := by assumption
  obtain ⟨q1, q2, q3⟩ := hli hlt
  refine new_at b (by omega) ⟨⟨rfl, rfl, rfl⟩, trivial⟩ (fun h => by omega) (fun _ => ?_)
  repeat' (first
    | (with_reducible exact True.intro)
    | (with_reducible apply And.intro)
    | ((with_reducible apply VC.mk); (first | trivial | omega | (simp only [inR]; omega) | (exact ⟨rfl, List.prefix_rfl⟩) | (refine ⟨rfl, rfl, rfl, ?_, rfl⟩; (simp; done)) | (focus (repeat' (first | exact True.intro | apply And.intro | rfl | exact Nat.le_of_ble_eq_true rfl)); done) | (simp [inR, Cont.cells]; done) | (simp [inR, Cont.cells]; omega)))
    | (with_reducible apply If_true)
    | (with_reducible apply If_false)
    | ((with_reducible apply If_dec) <;> intro hc <;> (try (exfalso; omega)))
    | (with_reducible apply If_not)
    | ((with_reducible apply If_any) <;> intro hc)
    | ((with_reducible apply PF.mk); (focus kernel_rfl))
    | ((with_reducible apply DrawP.mk); (focus kernel_rfl))
    | ((with_reducible apply Same.mk); (focus rfl); (first | exact trivial | exact rfl))
    | (intro cap hcap)
    | ((fail_if_success (with_reducible apply Fin.mk)); (fail_if_success (with_reducible apply CallP.mk)); (fail_if_success (with_reducible apply LoopP.mk)); (fail_if_success (with_reducible apply VC.mk)); (fail_if_success (with_reducible apply falseMk)); (fail_if_success (with_reducible apply Round.mk)); (fail_if_success (with_reducible apply Eq.symm)); conv => whnf))
  refine bytes_at (DF.mk0 b) 0 (by show b.length ≤ _; omega) rfl ⟨rfl, trivial⟩ ?_
  intro b' hb'
  have hb' : b' = b := hb'
  subst hb'
  repeat' (first
    | (with_reducible exact True.intro)
    | (with_reducible apply And.intro)
    | ((with_reducible apply VC.mk); (first | trivial | omega | (simp only [inR]; omega) | (exact ⟨rfl, List.prefix_rfl⟩) | (refine ⟨rfl, rfl, rfl, ?_, rfl⟩; (simp; done)) | (focus (repeat' (first | exact True.intro | apply And.intro | rfl | exact Nat.le_of_ble_eq_true rfl)); done) | (simp [inR, Cont.cells]; done) | (simp [inR, Cont.cells]; omega)))
    | (with_reducible apply If_true)
    | (with_reducible apply If_false)
    | ((with_reducible apply If_dec) <;> intro hc <;> (try (exfalso; omega)))
    | (with_reducible apply If_not)
    | ((with_reducible apply If_any) <;> intro hc)
    | ((with_reducible apply PF.mk); (focus kernel_rfl))
    | ((with_reducible apply DrawP.mk); (focus kernel_rfl))
    | ((with_reducible apply Same.mk); (focus rfl); (first | exact trivial | exact rfl))
    | (intro cap hcap)
    | ((fail_if_success (with_reducible apply Fin.mk)); (fail_if_success (with_reducible apply CallP.mk)); (fail_if_success (with_reducible apply LoopP.mk)); (fail_if_success (with_reducible apply VC.mk)); (fail_if_success (with_reducible apply falseMk)); (fail_if_success (with_reducible apply Round.mk)); (fail_if_success (with_reducible apply Eq.symm)); conv => whnf))
  refine LoopP.mk ⟨Nat × DF × List (List Int) × Nat, fun y => y.1 ≤ row.length ∧ Sec b' y.1 y.2.1 y.2.2.1 ∧ y.2.1.now ∈ y.2.2.1 ∧ y.2.2.1.length ≤ y.1 + 1, secI b' row keep, fun y => row.length - y.1, (0, DF.mk0 b', [b'], 1), ⟨Nat.zero_le _, Sec.zero b', by simp [DF.mk0], Nat.le_refl _⟩, Fit.ren [0, 1] [] rfl rfl trivial ?_ ?_, ?_⟩
  · refine ⟨VC.mk ⟨rfl, rfl, rfl, rfl⟩, ⟨VC.mk ⟨rfl, rfl⟩, VC.mk ⟨rfl, Nat.le_refl _⟩, fun j hj => ?_⟩, trivial⟩
    have : j = 0 := by have : j < 1 := hj; omega
    subst this
    exact ⟨⟨VC.mk ⟨rfl, rfl, rfl⟩, VC.mk ⟨rfl, rfl⟩⟩, trivial⟩
  · repeat' (first
    | (with_reducible exact True.intro)
    | (with_reducible apply And.intro)
    | ((with_reducible apply VC.mk); (first | trivial | omega | (simp only [inR]; omega) | (exact ⟨rfl, List.prefix_rfl⟩) | (refine ⟨rfl, rfl, rfl, ?_, rfl⟩; (simp; done)) | (focus (repeat' (first | exact True.intro | apply And.intro | rfl | exact Nat.le_of_ble_eq_true rfl)); done) | (simp [inR, Cont.cells]; done) | (simp [inR, Cont.cells]; omega)))
    | (with_reducible apply If_true)
    | (with_reducible apply If_false)
    | ((with_reducible apply If_dec) <;> intro hc <;> (try (exfalso; omega)))
    | (with_reducible apply If_not)
    | ((with_reducible apply If_any) <;> intro hc)
    | ((with_reducible apply PF.mk); (focus kernel_rfl))
    | ((with_reducible apply DrawP.mk); (focus kernel_rfl))
    | ((with_reducible apply Same.mk); (focus rfl); (first | exact trivial | exact rfl))
    | (intro cap hcap)
    | ((fail_if_success (with_reducible apply Fin.mk)); (fail_if_success (with_reducible apply CallP.mk)); (fail_if_success (with_reducible apply LoopP.mk)); (fail_if_success (with_reducible apply VC.mk)); (fail_if_success (with_reducible apply falseMk)); (fail_if_success (with_reducible apply Round.mk)); (fail_if_success (with_reducible apply Eq.symm)); conv => whnf))
  · intro y hy
    obtain ⟨g1, g2, g3, g4⟩ := hy
    have e : ((y.1 : Nat) : Int).toNat = y.1 := Int.toNat_natCast _
    repeat' (first
    | (with_reducible exact True.intro)
    | (with_reducible apply And.intro)
    | ((with_reducible apply VC.mk); (first | trivial | omega | (simp only [inR]; omega) | (exact ⟨rfl, List.prefix_rfl⟩) | (refine ⟨rfl, rfl, rfl, ?_, rfl⟩; (simp; done)) | (focus (repeat' (first | exact True.intro | apply And.intro | rfl | exact Nat.le_of_ble_eq_true rfl)); done) | (simp [inR, Cont.cells]; done) | (simp [inR, Cont.cells]; omega)))
    | (with_reducible apply If_true)
    | (with_reducible apply If_false)
    | ((with_reducible apply If_dec) <;> intro hc <;> (try (exfalso; omega)))
    | (with_reducible apply If_not)
    | ((with_reducible apply If_any) <;> intro hc)
    | ((with_reducible apply PF.mk); (focus kernel_rfl))
    | ((with_reducible apply DrawP.mk); (focus kernel_rfl))
    | ((with_reducible apply Same.mk); (focus rfl); (first | exact trivial | exact rfl))
    | (intro cap hcap)
    | ((fail_if_success (with_reducible apply Fin.mk)); (fail_if_success (with_reducible apply CallP.mk)); (fail_if_success (with_reducible apply LoopP.mk)); (fail_if_success (with_reducible apply VC.mk)); (fail_if_success (with_reducible apply falseMk)); (fail_if_success (with_reducible apply Round.mk)); (fail_if_success (with_reducible apply Eq.symm)); conv => whnf))
    all_goals simp only [e] at *
    all_goals (try refine Round.mk ⟨(y.1 + 1, y.2.1, y.2.2.1, y.2.2.2), ⟨by omega, g2.mono, g3, by show y.2.2.1.length ≤ y.1 + 1 + 1; omega⟩, (by show row.length - (y.1 + 1) < row.length - y.1; omega), Fit.ren [0, 1] [] rfl rfl trivial ?_ ?_⟩)
    all_goals (try exact ⟨VC.mk ⟨rfl, rfl, rfl, rfl⟩, ⟨VC.mk ⟨rfl, rfl⟩, VC.mk ⟨rfl, Nat.le_refl _⟩, fun j hj => ⟨⟨VC.mk ⟨rfl, rfl, rfl⟩, VC.mk ⟨rfl, rfl⟩⟩, trivial⟩⟩, trivial⟩)
    all_goals (repeat' (first
    | (with_reducible exact True.intro)
    | (with_reducible apply And.intro)
    | ((with_reducible apply VC.mk); (first | trivial | omega | (simp only [inR]; omega) | (exact ⟨rfl, List.prefix_rfl⟩) | (refine ⟨rfl, rfl, rfl, ?_, rfl⟩; (simp; done)) | (focus (repeat' (first | exact True.intro | apply And.intro | rfl | exact Nat.le_of_ble_eq_true rfl)); done) | (simp [inR, Cont.cells]; done) | (simp [inR, Cont.cells]; omega)))
    | (with_reducible apply If_true)
    | (with_reducible apply If_false)
    | ((with_reducible apply If_dec) <;> intro hc <;> (try (exfalso; omega)))
    | (with_reducible apply If_not)
    | ((with_reducible apply If_any) <;> intro hc)
    | ((with_reducible apply PF.mk); (focus kernel_rfl))
    | ((with_reducible apply DrawP.mk); (focus kernel_rfl))
    | ((with_reducible apply Same.mk); (focus rfl); (first | exact trivial | exact rfl))
    | (intro cap hcap)
    | ((fail_if_success (with_reducible apply Fin.mk)); (fail_if_success (with_reducible apply CallP.mk)); (fail_if_success (with_reducible apply LoopP.mk)); (fail_if_success (with_reducible apply VC.mk)); (fail_if_success (with_reducible apply falseMk)); (fail_if_success (with_reducible apply Round.mk)); (fail_if_success (with_reducible apply Eq.symm)); conv => whnf)))
    · have hli2 := q3 y.1 (by omega)
      generalize hop : row.getD y.1 OpR.z = o at *
      obtain ⟨l1, l2, l3⟩ := hli2
      have h1 := g2.ops
      have h2 := g2.its
      have h3 := g2.len
      refine write_at y.2.1 o.pos o.b 0 ⟨h1.2.1, by omega, by omega, by omega, by omega, by omega, by omega⟩ rfl ⟨rfl, rfl, ⟨rfl, rfl, rfl⟩, trivial⟩ ?_
      intro r s' hr
      have hr : r = 0 ∧ s' = y.2.1.wrote1 o.pos o.b := by
        have hlv := g2.live
        rcases hr with ⟨_, h, _⟩ | ⟨_, _, h, _⟩ | ⟨_, _, _, h, _⟩ | ⟨h, _, _, _, h2⟩
        · unfold DF.refused at h; omega
        · omega
        · omega
        · exact ⟨h, h2⟩
      obtain ⟨rfl, hs'⟩ := hr
      obtain ⟨n1, n2⟩ := g2.step g3 (at_ := o.pos) (xs := o.b) (by omega) (by omega) (by omega)
      rw [← hs'] at n1 n2
      repeat' (first
    | (with_reducible exact True.intro)
    | (with_reducible apply And.intro)
    | ((with_reducible apply VC.mk); (first | trivial | omega | (simp only [inR]; omega) | (exact ⟨rfl, List.prefix_rfl⟩) | (refine ⟨rfl, rfl, rfl, ?_, rfl⟩; (simp; done)) | (focus (repeat' (first | exact True.intro | apply And.intro | rfl | exact Nat.le_of_ble_eq_true rfl)); done) | (simp [inR, Cont.cells]; done) | (simp [inR, Cont.cells]; omega)))
    | (with_reducible apply If_true)
    | (with_reducible apply If_false)
    | ((with_reducible apply If_dec) <;> intro hc <;> (try (exfalso; omega)))
    | (with_reducible apply If_not)
    | ((with_reducible apply If_any) <;> intro hc)
    | ((with_reducible apply PF.mk); (focus kernel_rfl))
    | ((with_reducible apply DrawP.mk); (focus kernel_rfl))
    | ((with_reducible apply Same.mk); (focus rfl); (first | exact trivial | exact rfl))
    | (intro cap hcap)
    | ((fail_if_success (with_reducible apply Fin.mk)); (fail_if_success (with_reducible apply CallP.mk)); (fail_if_success (with_reducible apply LoopP.mk)); (fail_if_success (with_reducible apply VC.mk)); (fail_if_success (with_reducible apply falseMk)); (fail_if_success (with_reducible apply Round.mk)); (fail_if_success (with_reducible apply Eq.symm)); conv => whnf))
      refine bytes_at s' 0 (by have := n1.len; omega) rfl ⟨rfl, trivial⟩ ?_
      intro l hl
      repeat' (first
    | (with_reducible exact True.intro)
    | (with_reducible apply And.intro)
    | ((with_reducible apply VC.mk); (first | trivial | omega | (simp only [inR]; omega) | (exact ⟨rfl, List.prefix_rfl⟩) | (refine ⟨rfl, rfl, rfl, ?_, rfl⟩; (simp; done)) | (focus (repeat' (first | exact True.intro | apply And.intro | rfl | exact Nat.le_of_ble_eq_true rfl)); done) | (simp [inR, Cont.cells]; done) | (simp [inR, Cont.cells]; omega)))
    | (with_reducible apply If_true)
    | (with_reducible apply If_false)
    | ((with_reducible apply If_dec) <;> intro hc <;> (try (exfalso; omega)))
    | (with_reducible apply If_not)
    | ((with_reducible apply If_any) <;> intro hc)
    | ((with_reducible apply PF.mk); (focus kernel_rfl))
    | ((with_reducible apply DrawP.mk); (focus kernel_rfl))
    | ((with_reducible apply Same.mk); (focus rfl); (first | exact trivial | exact rfl))
    | (intro cap hcap)
    | ((fail_if_success (with_reducible apply Fin.mk)); (fail_if_success (with_reducible apply CallP.mk)); (fail_if_success (with_reducible apply LoopP.mk)); (fail_if_success (with_reducible apply VC.mk)); (fail_if_success (with_reducible apply falseMk)); (fail_if_success (with_reducible apply Round.mk)); (fail_if_success (with_reducible apply Eq.symm)); conv => whnf))
      rename_i cap hcap
      subst hl
      refine Round.mk ⟨(y.1 + 1, s', y.2.2.1 ++ [s'.now], cap), ⟨by show y.1 + 1 ≤ row.length; omega, n1, n2, by show (y.2.2.1 ++ [s'.now]).length ≤ y.1 + 1 + 1; rw [List.length_append, List.length_singleton]; omega⟩, (by show row.length - (y.1 + 1) < row.length - y.1; omega), Fit.ren [0, 4] [] rfl rfl trivial ?_ ?_⟩
      · refine ⟨VC.mk ⟨rfl, rfl, rfl, rfl⟩, ⟨VC.mk ⟨rfl, rfl⟩, VC.mk ⟨rfl, by show (y.2.2.1 ++ [s'.now]).length ≤ _; simp⟩, ?_⟩, trivial⟩
        refine snoc_le (fun st => [.im true 1 st.length (.ints .u8 st)]) [] y.2.2.1 s'.now _ ?_ ?_
        · intro j hj; simp only [if_pos hj]; exact ⟨⟨VC.mk ⟨rfl, rfl, rfl⟩, VC.mk ⟨rfl, rfl⟩⟩, trivial⟩
        · simp only [Nat.lt_irrefl, if_false]; exact ⟨⟨VC.mk ⟨rfl, rfl, rfl⟩, VC.mk ⟨rfl, rfl⟩⟩, trivial⟩
      · repeat' (first
    | (with_reducible exact True.intro)
    | (with_reducible apply And.intro)
    | ((with_reducible apply VC.mk); (first | trivial | omega | (simp only [inR]; omega) | (exact ⟨rfl, List.prefix_rfl⟩) | (refine ⟨rfl, rfl, rfl, ?_, rfl⟩; (simp; done)) | (focus (repeat' (first | exact True.intro | apply And.intro | rfl | exact Nat.le_of_ble_eq_true rfl)); done) | (simp [inR, Cont.cells]; done) | (simp [inR, Cont.cells]; omega)))
    | (with_reducible apply If_true)
    | (with_reducible apply If_false)
    | ((with_reducible apply If_dec) <;> intro hc <;> (try (exfalso; omega)))
    | (with_reducible apply If_not)
    | ((with_reducible apply If_any) <;> intro hc)
    | ((with_reducible apply PF.mk); (focus kernel_rfl))
    | ((with_reducible apply DrawP.mk); (focus kernel_rfl))
    | ((with_reducible apply Same.mk); (focus rfl); (first | exact trivial | exact rfl))
    | (intro cap hcap)
    | ((fail_if_success (with_reducible apply Fin.mk)); (fail_if_success (with_reducible apply CallP.mk)); (fail_if_success (with_reducible apply LoopP.mk)); (fail_if_success (with_reducible apply VC.mk)); (fail_if_success (with_reducible apply falseMk)); (fail_if_success (with_reducible apply Round.mk)); (fail_if_success (with_reducible apply Eq.symm)); conv => whnf))
    · have h1 := g2.its
      refine crash_at y.2.1 keep 0 ⟨by rw [g2.safe]; omega, by omega, by omega, fun it hit => by have := g2.all it hit; omega⟩ rfl ⟨rfl, ⟨rfl, rfl, ⟨rfl, rfl, fun _ _ => rfl⟩⟩, trivial⟩ ?_
      intro l hl
      have hll : l.length = b'.length := by rw [hl]; exact g2.cl keep
      have hcov := g2.cov keep
      rw [← hl] at hcov
      repeat' (first
    | (with_reducible exact True.intro)
    | (with_reducible apply And.intro)
    | ((with_reducible apply VC.mk); (first | trivial | omega | (simp only [inR]; omega) | (exact ⟨rfl, List.prefix_rfl⟩) | (refine ⟨rfl, rfl, rfl, ?_, rfl⟩; (simp; done)) | (focus (repeat' (first | exact True.intro | apply And.intro | rfl | exact Nat.le_of_ble_eq_true rfl)); done) | (simp [inR, Cont.cells]; done) | (simp [inR, Cont.cells]; omega)))
    | (with_reducible apply If_true)
    | (with_reducible apply If_false)
    | ((with_reducible apply If_dec) <;> intro hc <;> (try (exfalso; omega)))
    | (with_reducible apply If_not)
    | ((with_reducible apply If_any) <;> intro hc)
    | ((with_reducible apply PF.mk); (focus kernel_rfl))
    | ((with_reducible apply DrawP.mk); (focus kernel_rfl))
    | ((with_reducible apply Same.mk); (focus rfl); (first | exact trivial | exact rfl))
    | (intro cap hcap)
    | ((fail_if_success (with_reducible apply Fin.mk)); (fail_if_success (with_reducible apply CallP.mk)); (fail_if_success (with_reducible apply LoopP.mk)); (fail_if_success (with_reducible apply VC.mk)); (fail_if_success (with_reducible apply falseMk)); (fail_if_success (with_reducible apply Round.mk)); (fail_if_success (with_reducible apply Eq.symm)); conv => whnf))
      refine LoopP.mk ⟨Nat, fun i => i ≤ l.length, fun i => ([(9, .s 1 0 1 y.2.2.1.length y.2.2.2), (12, .im true 1 l.length (.ints .u8 l)), (13, .v (.int .i64 i))], [y.2.1.pk, .blk 22 (statesC y.2.2.1) (y.2.2.2 * 1)]), fun i => l.length - i, 0, Nat.zero_le _, Fit.ren [0, 1] [] rfl rfl trivial ?_ ?_, ?_⟩
      · exact ⟨VC.mk ⟨rfl, rfl, rfl, rfl⟩, ⟨VC.mk ⟨rfl, rfl⟩, VC.mk ⟨rfl, Nat.le_refl _⟩, fun j hj => ⟨⟨VC.mk ⟨rfl, rfl, rfl⟩, VC.mk ⟨rfl, rfl⟩⟩, trivial⟩⟩, trivial⟩
      · repeat' (first
    | (with_reducible exact True.intro)
    | (with_reducible apply And.intro)
    | ((with_reducible apply VC.mk); (first | trivial | omega | (simp only [inR]; omega) | (exact ⟨rfl, List.prefix_rfl⟩) | (refine ⟨rfl, rfl, rfl, ?_, rfl⟩; (simp; done)) | (focus (repeat' (first | exact True.intro | apply And.intro | rfl | exact Nat.le_of_ble_eq_true rfl)); done) | (simp [inR, Cont.cells]; done) | (simp [inR, Cont.cells]; omega)))
    | (with_reducible apply If_true)
    | (with_reducible apply If_false)
    | ((with_reducible apply If_dec) <;> intro hc <;> (try (exfalso; omega)))
    | (with_reducible apply If_not)
    | ((with_reducible apply If_any) <;> intro hc)
    | ((with_reducible apply PF.mk); (focus kernel_rfl))
    | ((with_reducible apply DrawP.mk); (focus kernel_rfl))
    | ((with_reducible apply Same.mk); (focus rfl); (first | exact trivial | exact rfl))
    | (intro cap hcap)
    | ((fail_if_success (with_reducible apply Fin.mk)); (fail_if_success (with_reducible apply CallP.mk)); (fail_if_success (with_reducible apply LoopP.mk)); (fail_if_success (with_reducible apply VC.mk)); (fail_if_success (with_reducible apply falseMk)); (fail_if_success (with_reducible apply Round.mk)); (fail_if_success (with_reducible apply Eq.symm)); conv => whnf))
      · intro i hi
        have e : ((i : Nat) : Int).toNat = i := Int.toNat_natCast _
        repeat' (first
    | (with_reducible exact True.intro)
    | (with_reducible apply And.intro)
    | ((with_reducible apply VC.mk); (first | trivial | omega | (simp only [inR]; omega) | (exact ⟨rfl, List.prefix_rfl⟩) | (refine ⟨rfl, rfl, rfl, ?_, rfl⟩; (simp; done)) | (focus (repeat' (first | exact True.intro | apply And.intro | rfl | exact Nat.le_of_ble_eq_true rfl)); done) | (simp [inR, Cont.cells]; done) | (simp [inR, Cont.cells]; omega)))
    | (with_reducible apply If_true)
    | (with_reducible apply If_false)
    | ((with_reducible apply If_dec) <;> intro hc <;> (try (exfalso; omega)))
    | (with_reducible apply If_not)
    | ((with_reducible apply If_any) <;> intro hc)
    | ((with_reducible apply PF.mk); (focus kernel_rfl))
    | ((with_reducible apply DrawP.mk); (focus kernel_rfl))
    | ((with_reducible apply Same.mk); (focus rfl); (first | exact trivial | exact rfl))
    | (intro cap hcap)
    | ((fail_if_success (with_reducible apply Fin.mk)); (fail_if_success (with_reducible apply CallP.mk)); (fail_if_success (with_reducible apply LoopP.mk)); (fail_if_success (with_reducible apply VC.mk)); (fail_if_success (with_reducible apply falseMk)); (fail_if_success (with_reducible apply Round.mk)); (fail_if_success (with_reducible apply Eq.symm)); conv => whnf))
        · rename_i hil
          have hmem : ∀ j, j < y.2.2.1.length → y.2.2.1.getD j [] ∈ y.2.2.1 := fun j hj => by
            rw [show y.2.2.1.getD j [] = y.2.2.1[j] by simp [List.getD_eq_getElem?_getD, hj]]; exact List.getElem_mem hj
          refine LoopP.mk ⟨Nat × Bool, fun z => z.1 ≤ y.2.2.1.length ∧ (z.2 = true ↔ ∃ j, j < z.1 ∧ l.getD i 0 = (y.2.2.1.getD j []).getD i 0), fun z => ([(9, .s 1 0 1 y.2.2.1.length y.2.2.2), (12, .im true 1 l.length (.ints .u8 l)), (13, .v (.int .i64 i)), (14, .v (.bool z.2)), (15, .v (.int .i64 z.1))], [y.2.1.pk, .blk 22 (statesC y.2.2.1) (y.2.2.2 * 1)]), fun z => y.2.2.1.length - z.1, (0, false), ⟨Nat.zero_le _, by simp⟩, Fit.ren [0, 1] [] rfl rfl trivial ?_ ?_, ?_⟩
          · exact ⟨VC.mk ⟨rfl, rfl, rfl, rfl⟩, ⟨VC.mk ⟨rfl, rfl⟩, VC.mk ⟨rfl, Nat.le_refl _⟩, fun j hj => ⟨⟨VC.mk ⟨rfl, rfl, rfl⟩, VC.mk ⟨rfl, rfl⟩⟩, trivial⟩⟩, trivial⟩
          · repeat' (first
    | (with_reducible exact True.intro)
    | (with_reducible apply And.intro)
    | ((with_reducible apply VC.mk); (first | trivial | omega | (simp only [inR]; omega) | (exact ⟨rfl, List.prefix_rfl⟩) | (refine ⟨rfl, rfl, rfl, ?_, rfl⟩; (simp; done)) | (focus (repeat' (first | exact True.intro | apply And.intro | rfl | exact Nat.le_of_ble_eq_true rfl)); done) | (simp [inR, Cont.cells]; done) | (simp [inR, Cont.cells]; omega)))
    | (with_reducible apply If_true)
    | (with_reducible apply If_false)
    | ((with_reducible apply If_dec) <;> intro hc <;> (try (exfalso; omega)))
    | (with_reducible apply If_not)
    | ((with_reducible apply If_any) <;> intro hc)
    | ((with_reducible apply PF.mk); (focus kernel_rfl))
    | ((with_reducible apply DrawP.mk); (focus kernel_rfl))
    | ((with_reducible apply Same.mk); (focus rfl); (first | exact trivial | exact rfl))
    | (intro cap hcap)
    | ((fail_if_success (with_reducible apply Fin.mk)); (fail_if_success (with_reducible apply CallP.mk)); (fail_if_success (with_reducible apply LoopP.mk)); (fail_if_success (with_reducible apply VC.mk)); (fail_if_success (with_reducible apply falseMk)); (fail_if_success (with_reducible apply Round.mk)); (fail_if_success (with_reducible apply Eq.symm)); conv => whnf))
          · intro z hz
            obtain ⟨z1, z2⟩ := hz
            have e2 : ((z.1 : Nat) : Int).toNat = z.1 := Int.toNat_natCast _
            have e3 : 0 + ((z.1 : Nat) : Int).toNat = z.1 := by omega
            have hlen : z.1 < y.2.2.1.length → (y.2.2.1.getD z.1 []).length = l.length := fun h => by rw [g2.lens _ (hmem _ h), hll]
            repeat' (first
    | (with_reducible exact True.intro)
    | (with_reducible apply And.intro)
    | ((with_reducible apply VC.mk); (first | trivial | omega | (simp only [inR]; omega) | (exact ⟨rfl, List.prefix_rfl⟩) | (refine ⟨rfl, rfl, rfl, ?_, rfl⟩; (simp; done)) | (focus (repeat' (first | exact True.intro | apply And.intro | rfl | exact Nat.le_of_ble_eq_true rfl)); done) | (simp [inR, Cont.cells]; done) | (simp [inR, Cont.cells]; omega)))
    | (with_reducible apply If_true)
    | (with_reducible apply If_false)
    | ((with_reducible apply If_dec) <;> intro hc <;> (try (exfalso; omega)))
    | (with_reducible apply If_not)
    | ((with_reducible apply If_any) <;> intro hc)
    | ((with_reducible apply PF.mk); (focus kernel_rfl))
    | ((with_reducible apply DrawP.mk); (focus kernel_rfl))
    | ((with_reducible apply Same.mk); (focus rfl); (first | exact trivial | exact rfl))
    | (intro cap hcap)
    | ((fail_if_success (with_reducible apply Fin.mk)); (fail_if_success (with_reducible apply CallP.mk)); (fail_if_success (with_reducible apply LoopP.mk)); (fail_if_success (with_reducible apply VC.mk)); (fail_if_success (with_reducible apply falseMk)); (fail_if_success (with_reducible apply Round.mk)); (fail_if_success (with_reducible apply Eq.symm)); conv => whnf))
            all_goals (try (apply VC.mk; simp only [e, e2, Nat.zero_add]; rw [hlen (by omega)]; omega))
            · refine Round.mk ⟨(z.1 + 1, true), ⟨by show z.1 + 1 ≤ _; omega, ⟨fun _ => ?_, fun _ => rfl⟩⟩, by show y.2.2.1.length - (z.1 + 1) < y.2.2.1.length - z.1; omega, Fit.ren [0, 1] [] rfl rfl trivial ?_ ?_⟩
              · obtain ⟨j, h2, h3⟩ := z2.1 (by assumption)
                exact ⟨j, by show j < z.1 + 1; omega, h3⟩
              · exact ⟨VC.mk ⟨rfl, rfl, rfl, rfl⟩, ⟨VC.mk ⟨rfl, rfl⟩, VC.mk ⟨rfl, Nat.le_refl _⟩, fun j hj => ⟨⟨VC.mk ⟨rfl, rfl, rfl⟩, VC.mk ⟨rfl, rfl⟩⟩, trivial⟩⟩, trivial⟩
              · repeat' (first
    | (with_reducible exact True.intro)
    | (with_reducible apply And.intro)
    | ((with_reducible apply VC.mk); (first | trivial | omega | (simp only [inR]; omega) | (exact ⟨rfl, List.prefix_rfl⟩) | (refine ⟨rfl, rfl, rfl, ?_, rfl⟩; (simp; done)) | (focus (repeat' (first | exact True.intro | apply And.intro | rfl | exact Nat.le_of_ble_eq_true rfl)); done) | (simp [inR, Cont.cells]; done) | (simp [inR, Cont.cells]; omega)))
    | (with_reducible apply If_true)
    | (with_reducible apply If_false)
    | ((with_reducible apply If_dec) <;> intro hc <;> (try (exfalso; omega)))
    | (with_reducible apply If_not)
    | ((with_reducible apply If_any) <;> intro hc)
    | ((with_reducible apply PF.mk); (focus kernel_rfl))
    | ((with_reducible apply DrawP.mk); (focus kernel_rfl))
    | ((with_reducible apply Same.mk); (focus rfl); (first | exact trivial | exact rfl))
    | (intro cap hcap)
    | ((fail_if_success (with_reducible apply Fin.mk)); (fail_if_success (with_reducible apply CallP.mk)); (fail_if_success (with_reducible apply LoopP.mk)); (fail_if_success (with_reducible apply VC.mk)); (fail_if_success (with_reducible apply falseMk)); (fail_if_success (with_reducible apply Round.mk)); (fail_if_success (with_reducible apply Eq.symm)); conv => whnf))
            · refine Round.mk ⟨(z.1 + 1, decide ((y.2.2.1.getD z.1 []).getD i 0 = l.getD i 0)), ⟨by show z.1 + 1 ≤ _; omega, ⟨fun h => ?_, fun h => ?_⟩⟩, by show y.2.2.1.length - (z.1 + 1) < y.2.2.1.length - z.1; omega, Fit.ren [0, 1] [] rfl rfl trivial ?_ ?_⟩
              · exact ⟨z.1, Nat.lt_succ_self _, (of_decide_eq_true h).symm⟩
              · obtain ⟨j, h2, h3⟩ := h
                have h2 : j < z.1 + 1 := h2
                by_cases hj : j = z.1
                · subst hj; exact decide_eq_true h3.symm
                · have := z2.2 ⟨j, by omega, h3⟩
                  have hf : z.2 = false := by assumption
                  rw [hf] at this; cases this
              · exact ⟨VC.mk ⟨rfl, rfl, rfl, rfl⟩, ⟨VC.mk ⟨rfl, rfl⟩, VC.mk ⟨rfl, Nat.le_refl _⟩, fun j hj => ⟨⟨VC.mk ⟨rfl, rfl, rfl⟩, VC.mk ⟨rfl, rfl⟩⟩, trivial⟩⟩, trivial⟩
              · repeat' (first
    | (with_reducible exact True.intro)
    | (with_reducible apply And.intro)
    | ((with_reducible apply VC.mk); (first | trivial | omega | (simp only [inR]; omega) | (exact ⟨rfl, List.prefix_rfl⟩) | (refine ⟨rfl, rfl, rfl, ?_, rfl⟩; (simp; done)) | (focus (repeat' (first | exact True.intro | apply And.intro | rfl | exact Nat.le_of_ble_eq_true rfl)); done) | (simp [inR, Cont.cells]; done) | (simp [inR, Cont.cells]; omega)))
    | (with_reducible apply If_true)
    | (with_reducible apply If_false)
    | ((with_reducible apply If_dec) <;> intro hc <;> (try (exfalso; omega)))
    | (with_reducible apply If_not)
    | ((with_reducible apply If_any) <;> intro hc)
    | ((with_reducible apply PF.mk); (focus kernel_rfl))
    | ((with_reducible apply DrawP.mk); (focus kernel_rfl))
    | ((with_reducible apply Same.mk); (focus rfl); (first | exact trivial | exact rfl))
    | (intro cap hcap)
    | ((fail_if_success (with_reducible apply Fin.mk)); (fail_if_success (with_reducible apply CallP.mk)); (fail_if_success (with_reducible apply LoopP.mk)); (fail_if_success (with_reducible apply VC.mk)); (fail_if_success (with_reducible apply falseMk)); (fail_if_success (with_reducible apply Round.mk)); (fail_if_success (with_reducible apply Eq.symm)); conv => whnf))
            · refine Round.mk ⟨i + 1, by show i + 1 ≤ _; omega, by show l.length - (i + 1) < l.length - i; omega, Fit.ren [0, 1] [] rfl rfl trivial ?_ ?_⟩
              · exact ⟨VC.mk ⟨rfl, rfl, rfl, rfl⟩, ⟨VC.mk ⟨rfl, rfl⟩, VC.mk ⟨rfl, Nat.le_refl _⟩, fun j hj => ⟨⟨VC.mk ⟨rfl, rfl, rfl⟩, VC.mk ⟨rfl, rfl⟩⟩, trivial⟩⟩, trivial⟩
              · repeat' (first
    | (with_reducible exact True.intro)
    | (with_reducible apply And.intro)
    | ((with_reducible apply VC.mk); (first | trivial | omega | (simp only [inR]; omega) | (exact ⟨rfl, List.prefix_rfl⟩) | (refine ⟨rfl, rfl, rfl, ?_, rfl⟩; (simp; done)) | (focus (repeat' (first | exact True.intro | apply And.intro | rfl | exact Nat.le_of_ble_eq_true rfl)); done) | (simp [inR, Cont.cells]; done) | (simp [inR, Cont.cells]; omega)))
    | (with_reducible apply If_true)
    | (with_reducible apply If_false)
    | ((with_reducible apply If_dec) <;> intro hc <;> (try (exfalso; omega)))
    | (with_reducible apply If_not)
    | ((with_reducible apply If_any) <;> intro hc)
    | ((with_reducible apply PF.mk); (focus kernel_rfl))
    | ((with_reducible apply DrawP.mk); (focus kernel_rfl))
    | ((with_reducible apply Same.mk); (focus rfl); (first | exact trivial | exact rfl))
    | (intro cap hcap)
    | ((fail_if_success (with_reducible apply Fin.mk)); (fail_if_success (with_reducible apply CallP.mk)); (fail_if_success (with_reducible apply LoopP.mk)); (fail_if_success (with_reducible apply VC.mk)); (fail_if_success (with_reducible apply falseMk)); (fail_if_success (with_reducible apply Round.mk)); (fail_if_success (with_reducible apply Eq.symm)); conv => whnf))
            · exfalso
              obtain ⟨st, h2, h3⟩ := hcov i (by omega)
              obtain ⟨j, hj, hje⟩ := List.getElem_of_mem h2
              have := z2.2 ⟨j, by omega, by rw [show y.2.2.1.getD j [] = st by simp [List.getD_eq_getElem?_getD, hj, hje]]; exact h3⟩
              have hf : z.2 = false := by assumption
              rw [hf] at this; cases this
        · exact Fin.bool rfl hk
end Go.Proofs.Ytjccknmgmommcaa.Sx
