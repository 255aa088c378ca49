import Derived.Test.YtjccknmgmommcaaSxP10
import Derived.Test.YtjccknmgmommcaaSxJ9
set_option linter.unusedVariables false
set_option linter.unusedSimpArgs false
set_option maxRecDepth 10000
namespace Go.Proofs.Ytjccknmgmommcaa.Sx
open Go.RowKit Go.Proofs.Ytjccknmgmommcaa.Sx.Tb
/-! ### The functions of the law JournalCrashes -/
theorem recsC_noF (rs : List RecR) : (recsC true rs).noF := fun j hj => ⟨trivial, ⟨rfl, trivial⟩, trivial⟩
set_option maxHeartbeats 4000000 in
theorem with_c (l : List Int) (p : Nat) (xs : List Int) (k : K) (h0 : p + xs.length ≤ l.length ∧ l.length ≤ 1099511627776) (hk : ∀ m, m = putG l p xs → k (.im true 1 m.length (.ints .u8 m)) []) : evFunc tab [] [] Go.Proofs.Try.f60 [.im false 1 l.length (.ints .u8 l), .v (.int .i64 p), .im false 1 xs.length (.ints .u8 xs)] [] k := by
  repeat' (first
 | (with_reducible first | exact True.intro | apply And.intro | apply If_true | apply If_false | apply If_not)
 | ((with_reducible apply VC.mk); (first | trivial | omega | (simp only [inR]; omega) | (exact ⟨rfl, List.prefix_rfl⟩) | (refine ⟨rfl, rfl, rfl, ?_, rfl⟩; (simp; done)) | (focus (repeat' (first | exact True.intro | apply And.intro | rfl | exact Nat.le_of_ble_eq_true rfl)); done) | (simp [inR, Cont.cells]; done) | (simp [inR, Cont.cells]; omega)))
 | ((with_reducible apply If_dec) <;> intro hc <;> (try (exfalso; omega)))
 | ((with_reducible apply If_any) <;> intro hc)
 | ((with_reducible first | apply PF.mk | apply DrawP.mk); (focus kernel_rfl))
 | ((with_reducible apply Same.mk); (focus rfl); (first | exact trivial | exact rfl))
 | (intro cap hcap)
 | ((fail_if_success (with_reducible first | apply Fin.mk | apply CallP.mk | apply LoopP.mk | apply VC.mk | apply falseMk | apply Round.mk | apply Eq.symm)); conv => whnf))
  have e1 : ((p : Nat) : Int).toNat - Int.toNat 0 = p := by omega
  have e2 : ((p : Nat) + (xs.length : Int)).toNat = p + xs.length := by omega
  have e3 : List.take ((p : Int).toNat - Int.toNat 0) (List.drop (Int.toNat 0) l) ++ xs ++ List.take (l.length - ((p : Int) + (xs.length : Int)).toNat) (List.drop ((p : Int) + (xs.length : Int)).toNat l) = putG l p xs := by
    rw [e1, e2, show List.drop (Int.toNat 0) l = l from rfl, List.append_assoc, List.take_of_length_le (l := List.drop (p + xs.length) l) (by rw [List.length_drop]; exact Nat.le_refl _)]
    rfl
  rw [e3]
  refine Fin.frz rfl ?_ (hk _ rfl)
  rw [putG_length (by omega)]
  omega
def withOk (x : List Int × Nat × List Int) : Prop := x.2.1 + x.2.2.length ≤ x.1.length ∧ x.1.length ≤ 1099511627776
def withRel (x : List Int × Nat × List Int) (r : List Int) : Prop := r = putG x.1 x.2.1 x.2.2
theorem with_K : ConOk Go.Proofs.Try.prog 60 (Con.of (List Int × Nat × List Int) (List Int) (fun x => [.im false 1 x.1.length (.ints .u8 x.1), .v (.int .i64 x.2.1), .im false 1 x.2.2.length (.ints .u8 x.2.2)]) (fun _ => []) withOk withRel (fun _ r => .im true 1 r.length (.ints .u8 r)) (fun _ _ => [])) := by
  refine conOk_rel (T := tab) mix Go.Proofs.Try.func60 (by decide +kernel) (by kernel_rfl) [] [] (fun n => by rw [Go.Proofs.Try.ntmps60]; exact Nat.le_of_ble_eq_true rfl) (fun x r _ _ => ⟨by simp [AV.noF, noFs, Cont.noF, recsC_noF], (fun c hc => by cases hc), Nat.le_refl _⟩) (fun x _ c hc => by cases hc) ?_
  intro x k h0 hk
  exact with_c x.1 x.2.1 x.2.2 k h0 (fun r hr => hk r hr)
theorem with_at {avs : List AV} {H : List Chunk} {k : K} (l : List Int) (p : Nat) (xs : List Int) (h0 : p + xs.length ≤ l.length ∧ l.length ≤ 1099511627776) (ha : argsM H [] [.im false 1 l.length (.ints .u8 l), .v (.int .i64 p), .im false 1 xs.length (.ints .u8 xs)] avs) (h : ∀ r : List Int, (r = putG l p xs) → k (.im true 1 r.length (.ints .u8 r)) H) : CallP Go.Proofs.Try.prog 60 avs H k :=
  CallP.mk ⟨_, with_K.real, Con.spec with_K, (l, p, xs), [], ⟨h0, rfl, trivial, ha⟩, fun r hr => (numK_eq H.length (fun N => k (AV.ren (fren [] N) (.im true 1 r.length (.ints .u8 r))) (putAll H [] []))).mpr (by simpa [putAll, AV.ren, rens, Cont.ren, recsC, recAV] using h r hr)⟩
/-- Noughts that the caller owns. -/
theorem zerosO_c (n : Int) (k : K) (h0 : 0 ≤ n ∧ n ≤ 1099511627776) (hk : ∀ z, z = List.replicate n.toNat 0 → k (.s 0 0 1 z.length z.length) [.blk 5 (.ints .u8 z) z.length]) : evFunc tab [] [] Go.Proofs.Try.f61 [.v (.int .i64 n)] [] k := by
  repeat' (first
 | (with_reducible first | exact True.intro | apply And.intro | apply If_true | apply If_false | apply If_not)
 | ((with_reducible apply VC.mk); (first | trivial | omega | (simp only [inR]; omega) | (exact ⟨rfl, List.prefix_rfl⟩) | (refine ⟨rfl, rfl, rfl, ?_, rfl⟩; (simp; done)) | (focus (repeat' (first | exact True.intro | apply And.intro | rfl | exact Nat.le_of_ble_eq_true rfl)); done) | (simp [inR, Cont.cells]; done) | (simp [inR, Cont.cells]; omega)))
 | ((with_reducible apply If_dec) <;> intro hc <;> (try (exfalso; omega)))
 | ((with_reducible apply If_any) <;> intro hc)
 | ((with_reducible first | apply PF.mk | apply DrawP.mk); (focus kernel_rfl))
 | ((with_reducible apply Same.mk); (focus rfl); (first | exact trivial | exact rfl))
 | (intro cap hcap)
 | ((fail_if_success (with_reducible first | apply Fin.mk | apply CallP.mk | apply LoopP.mk | apply VC.mk | apply falseMk | apply Round.mk | apply Eq.symm)); conv => whnf))
  have := hk _ rfl
  rw [List.length_replicate] at this
  rw [Nat.mul_one]
  exact Fin.same this
theorem zerosO_K : ConOk Go.Proofs.Try.prog 61 (Con.of Int (List Int) (fun n => [.v (.int .i64 n)]) (fun _ => []) (fun n => 0 ≤ n ∧ n ≤ 1099511627776) (fun n z => z = List.replicate n.toNat 0) (fun _ z => .s 0 0 1 z.length z.length) (fun _ z => [.blk 5 (.ints .u8 z) z.length])) := by
  refine conOk_rel (T := tab) mix Go.Proofs.Try.func61 (by decide +kernel) (by kernel_rfl) [] [] (fun n => by rw [Go.Proofs.Try.ntmps61]; exact Nat.le_of_ble_eq_true rfl) (fun n z _ _ => ⟨trivial, (fun c hc => by simp at hc; subst hc; exact .blk trivial), Nat.zero_le _⟩) (fun n _ c hc => by cases hc) (fun n k h0 hk => zerosO_c n k h0 (fun z hz => hk z hz))
theorem zerosO_at {avs : List AV} {H : List Chunk} {k : K} (n : Int) (h0 : 0 ≤ n ∧ n ≤ 1099511627776) (ha : argsM H [] [.v (.int .i64 n)] avs) (h : ∀ z, z = List.replicate n.toNat 0 → k (.s H.length 0 1 z.length z.length) (H ++ [.blk 5 (.ints .u8 z) z.length])) : CallP Go.Proofs.Try.prog 61 avs H k :=
  CallP.mk ⟨_, zerosO_K.real, Con.spec zerosO_K, n, [], ⟨h0, rfl, trivial, ha⟩, fun z hz => (numK_eq _ _).mpr (by simpa [putAll, AV.ren, rens, fren, nth, Chunk.ren, Cont.ren] using h z hz)⟩
theorem Fin.vl {u : Value} {H : List Chunk} {k : K} (hk : k (.v u) []) : Fin 0 (.v u) H k := Fin.ren [] [] (.v u) [] rfl rfl trivial trivial (VC.mk rfl) hk
theorem rbytes_c (v : Int) (n : Nat) (k : K) (h0 : 0 ≤ v ∧ v < 18446744073709551616 ∧ n ≤ 1099511627776) (hk : ∀ m, m = leB n v → k (.im true 1 m.length (.ints .u8 m)) []) : evFunc tab [] [] Go.Proofs.Try.f57 [.v (.int .u64 v), .v (.int .i64 n)] [] k := by
  repeat' (first
 | (with_reducible first | exact True.intro | apply And.intro | apply If_true | apply If_false | apply If_not)
 | ((with_reducible apply VC.mk); (first | trivial | omega | (simp only [inR]; omega) | (exact ⟨rfl, List.prefix_rfl⟩) | (refine ⟨rfl, rfl, rfl, ?_, rfl⟩; (simp; done)) | (focus (repeat' (first | exact True.intro | apply And.intro | rfl | exact Nat.le_of_ble_eq_true rfl)); done) | (simp [inR, Cont.cells]; done) | (simp [inR, Cont.cells]; omega)))
 | ((with_reducible apply If_dec) <;> intro hc <;> (try (exfalso; omega)))
 | ((with_reducible apply If_any) <;> intro hc)
 | ((with_reducible first | apply PF.mk | apply DrawP.mk); (focus kernel_rfl))
 | ((with_reducible apply Same.mk); (focus rfl); (first | exact trivial | exact rfl))
 | (intro cap hcap)
 | ((fail_if_success (with_reducible first | apply Fin.mk | apply CallP.mk | apply LoopP.mk | apply VC.mk | apply falseMk | apply Round.mk | apply Eq.symm)); conv => whnf))
  refine LoopP.mk ⟨Nat × List Int × Int × Nat, fun y => y.1 ≤ n ∧ y.2.1.length = y.1 ∧ leB n v = y.2.1 ++ leB (n - y.1) y.2.2.1 ∧ 0 ≤ y.2.2.1 ∧ y.2.2.1 < 18446744073709551616, fun y => ([(0, .v (.int .u64 y.2.2.1)), (1, .v (.int .i64 n)), (5, .s 0 0 1 y.2.1.length y.2.2.2), (6, .v (.int .i64 y.1))], [.blk 5 (.ints .u8 y.2.1) (y.2.2.2 * 1)]), fun y => n - y.1, (0, [], v, 0), ⟨Nat.zero_le _, rfl, rfl, h0.1, h0.2.1⟩, Fit.ren [0] [] rfl rfl trivial ?_ ?_, ?_⟩
  · repeat' (first
 | (with_reducible first | exact True.intro | apply And.intro | apply If_true | apply If_false | apply If_not)
 | ((with_reducible apply VC.mk); (first | trivial | omega | (simp only [inR]; omega) | (exact ⟨rfl, List.prefix_rfl⟩) | (refine ⟨rfl, rfl, rfl, ?_, rfl⟩; (simp; done)) | (focus (repeat' (first | exact True.intro | apply And.intro | rfl | exact Nat.le_of_ble_eq_true rfl)); done) | (simp [inR, Cont.cells]; done) | (simp [inR, Cont.cells]; omega)))
 | ((with_reducible apply If_dec) <;> intro hc <;> (try (exfalso; omega)))
 | ((with_reducible apply If_any) <;> intro hc)
 | ((with_reducible first | apply PF.mk | apply DrawP.mk); (focus kernel_rfl))
 | ((with_reducible apply Same.mk); (focus rfl); (first | exact trivial | exact rfl))
 | (intro cap hcap)
 | ((fail_if_success (with_reducible first | apply Fin.mk | apply CallP.mk | apply LoopP.mk | apply VC.mk | apply falseMk | apply Round.mk | apply Eq.symm)); conv => whnf))
  · repeat' (first
 | (with_reducible first | exact True.intro | apply And.intro | apply If_true | apply If_false | apply If_not)
 | ((with_reducible apply VC.mk); (first | trivial | omega | (simp only [inR]; omega) | (exact ⟨rfl, List.prefix_rfl⟩) | (refine ⟨rfl, rfl, rfl, ?_, rfl⟩; (simp; done)) | (focus (repeat' (first | exact True.intro | apply And.intro | rfl | exact Nat.le_of_ble_eq_true rfl)); done) | (simp [inR, Cont.cells]; done) | (simp [inR, Cont.cells]; omega)))
 | ((with_reducible apply If_dec) <;> intro hc <;> (try (exfalso; omega)))
 | ((with_reducible apply If_any) <;> intro hc)
 | ((with_reducible first | apply PF.mk | apply DrawP.mk); (focus kernel_rfl))
 | ((with_reducible apply Same.mk); (focus rfl); (first | exact trivial | exact rfl))
 | (intro cap hcap)
 | ((fail_if_success (with_reducible first | apply Fin.mk | apply CallP.mk | apply LoopP.mk | apply VC.mk | apply falseMk | apply Round.mk | apply Eq.symm)); conv => whnf))
  · intro y hy
    obtain ⟨g1, g2, g3, g4, g5⟩ := hy
    have h8 : leB (n - y.1) y.2.2.1 = leB (n - y.1) y.2.2.1 := rfl
    repeat' (first
 | (with_reducible first | exact True.intro | apply And.intro | apply If_true | apply If_false | apply If_not)
 | ((with_reducible apply VC.mk); (first | trivial | omega | (simp only [inR]; omega) | (exact ⟨rfl, List.prefix_rfl⟩) | (refine ⟨rfl, rfl, rfl, ?_, rfl⟩; (simp; done)) | (focus (repeat' (first | exact True.intro | apply And.intro | rfl | exact Nat.le_of_ble_eq_true rfl)); done) | (simp [inR, Cont.cells]; done) | (simp [inR, Cont.cells]; omega)))
 | ((with_reducible apply If_dec) <;> intro hc <;> (try (exfalso; omega)))
 | ((with_reducible apply If_any) <;> intro hc)
 | ((with_reducible first | apply PF.mk | apply DrawP.mk); (focus kernel_rfl))
 | ((with_reducible apply Same.mk); (focus rfl); (first | exact trivial | exact rfl))
 | (intro cap hcap)
 | ((fail_if_success (with_reducible first | apply Fin.mk | apply CallP.mk | apply LoopP.mk | apply VC.mk | apply falseMk | apply Round.mk | apply Eq.symm)); conv => whnf))
    · obtain ⟨m, hm⟩ : ∃ m, n - y.1 = m + 1 := ⟨n - y.1 - 1, by omega⟩
      rw [hm, leB] at g3
      refine Round.mk ⟨(y.1 + 1, y.2.1 ++ [y.2.2.1 % 256], y.2.2.1 / 256, cap), ⟨by show y.1 + 1 ≤ _; omega, by show (y.2.1 ++ [_]).length = y.1 + 1; simp; omega, ?_, by show 0 ≤ y.2.2.1 / 256; omega, by show y.2.2.1 / 256 < _; omega⟩, by show n - (y.1 + 1) < n - y.1; omega, Fit.ren [2] [] rfl rfl trivial ?_ ?_⟩
      · show leB n v = (y.2.1 ++ [y.2.2.1 % 256]) ++ leB (n - (y.1 + 1)) (y.2.2.1 / 256)
        rw [show n - (y.1 + 1) = m by omega, List.append_assoc]
        exact g3
      · repeat' (first
 | (with_reducible first | exact True.intro | apply And.intro | apply If_true | apply If_false | apply If_not)
 | ((with_reducible apply VC.mk); (first | trivial | omega | (simp only [inR]; omega) | (exact ⟨rfl, List.prefix_rfl⟩) | (refine ⟨rfl, rfl, rfl, ?_, rfl⟩; (simp; done)) | (focus (repeat' (first | exact True.intro | apply And.intro | rfl | exact Nat.le_of_ble_eq_true rfl)); done) | (simp [inR, Cont.cells]; done) | (simp [inR, Cont.cells]; omega)))
 | ((with_reducible apply If_dec) <;> intro hc <;> (try (exfalso; omega)))
 | ((with_reducible apply If_any) <;> intro hc)
 | ((with_reducible first | apply PF.mk | apply DrawP.mk); (focus kernel_rfl))
 | ((with_reducible apply Same.mk); (focus rfl); (first | exact trivial | exact rfl))
 | (intro cap hcap)
 | ((fail_if_success (with_reducible first | apply Fin.mk | apply CallP.mk | apply LoopP.mk | apply VC.mk | apply falseMk | apply Round.mk | apply Eq.symm)); conv => whnf))
      · repeat' (first
 | (with_reducible first | exact True.intro | apply And.intro | apply If_true | apply If_false | apply If_not)
 | ((with_reducible apply VC.mk); (first | trivial | omega | (simp only [inR]; omega) | (exact ⟨rfl, List.prefix_rfl⟩) | (refine ⟨rfl, rfl, rfl, ?_, rfl⟩; (simp; done)) | (focus (repeat' (first | exact True.intro | apply And.intro | rfl | exact Nat.le_of_ble_eq_true rfl)); done) | (simp [inR, Cont.cells]; done) | (simp [inR, Cont.cells]; omega)))
 | ((with_reducible apply If_dec) <;> intro hc <;> (try (exfalso; omega)))
 | ((with_reducible apply If_any) <;> intro hc)
 | ((with_reducible first | apply PF.mk | apply DrawP.mk); (focus kernel_rfl))
 | ((with_reducible apply Same.mk); (focus rfl); (first | exact trivial | exact rfl))
 | (intro cap hcap)
 | ((fail_if_success (with_reducible first | apply Fin.mk | apply CallP.mk | apply LoopP.mk | apply VC.mk | apply falseMk | apply Round.mk | apply Eq.symm)); conv => whnf))
    · rw [show n - y.1 = 0 by omega, leB, List.append_nil] at g3
      refine Fin.ren [] [0] (.im true 1 y.2.1.length (.ints .u8 y.2.1)) [] rfl rfl ⟨trivial, trivial⟩ trivial ⟨VC.mk ⟨by omega, rfl, rfl, rfl, Nat.one_pos⟩, VC.mk ⟨rfl, by simp⟩⟩ (hk _ g3.symm)
def rbytesOk (x : Int × Nat) : Prop := 0 ≤ x.1 ∧ x.1 < 18446744073709551616 ∧ x.2 ≤ 1099511627776
def rbytesRel (x : Int × Nat) (r : List Int) : Prop := r = leB x.2 x.1
theorem rbytes_K : ConOk Go.Proofs.Try.prog 57 (Con.of (Int × Nat) (List Int) (fun x => [.v (.int .u64 x.1), .v (.int .i64 x.2)]) (fun _ => []) rbytesOk rbytesRel (fun _ r => .im true 1 r.length (.ints .u8 r)) (fun _ _ => [])) := by
  refine conOk_rel (T := tab) mix Go.Proofs.Try.func57 (by decide +kernel) (by kernel_rfl) [] [] (fun n => by rw [Go.Proofs.Try.ntmps57]; exact Nat.le_of_ble_eq_true rfl) (fun x r _ _ => ⟨by simp [AV.noF, noFs, Cont.noF, recsC_noF], (fun c hc => by cases hc), Nat.le_refl _⟩) (fun x _ c hc => by cases hc) ?_
  intro x k h0 hk
  exact rbytes_c x.1 x.2 k h0 (fun r hr => hk r hr)
theorem rbytes_at {avs : List AV} {H : List Chunk} {k : K} (v : Int) (n : Nat) (h0 : 0 ≤ v ∧ v < 18446744073709551616 ∧ n ≤ 1099511627776) (ha : argsM H [] [.v (.int .u64 v), .v (.int .i64 n)] avs) (h : ∀ r : List Int, (r = leB n v) → k (.im true 1 r.length (.ints .u8 r)) H) : CallP Go.Proofs.Try.prog 57 avs H k :=
  CallP.mk ⟨_, rbytes_K.real, Con.spec rbytes_K, (v, n), [], ⟨h0, rfl, trivial, ha⟩, fun r hr => (numK_eq H.length (fun N => k (AV.ren (fren [] N) (.im true 1 r.length (.ints .u8 r))) (putAll H [] []))).mpr (by simpa [putAll, AV.ren, rens, Cont.ren, recsC, recAV] using h r hr)⟩
theorem may_c (at_ : Int) (xs : List Int) (p z : Int) (k : K) (h0 : (0 ≤ at_ ∧ at_ ≤ 4194304 ∧ xs.length ≤ 1099511627776) ∧ 0 ≤ p ∧ p ≤ 4194304 ∧ 0 ≤ z ∧ z ≤ 4194304) (hk : ∀ b : Bool, (b = true ↔ at_ + xs.length ≤ 4194304 ∧ (at_ + xs.length ≤ p ∨ p + z ≤ at_)) → k (.v (.bool b)) []) : evFunc tab [] [] Go.Proofs.Try.f115 [.agg [.v (.int .i64 at_), .im true 1 xs.length (.ints .u8 xs)], .v (.int .i64 p), .v (.int .i64 z)] [] k := by
  repeat' (first
 | (with_reducible first | exact True.intro | apply And.intro | apply If_true | apply If_false | apply If_not)
 | ((with_reducible apply VC.mk); (first | trivial | omega | (simp only [inR]; omega) | (exact ⟨rfl, List.prefix_rfl⟩) | (refine ⟨rfl, rfl, rfl, ?_, rfl⟩; (simp; done)) | (focus (repeat' (first | exact True.intro | apply And.intro | rfl | exact Nat.le_of_ble_eq_true rfl)); done) | (simp [inR, Cont.cells]; done) | (simp [inR, Cont.cells]; omega)))
 | ((with_reducible apply If_dec) <;> intro hc <;> (try (exfalso; omega)))
 | ((with_reducible apply If_any) <;> intro hc)
 | ((with_reducible first | apply PF.mk | apply DrawP.mk); (focus kernel_rfl))
 | ((with_reducible apply Same.mk); (focus rfl); (first | exact trivial | exact rfl))
 | (intro cap hcap)
 | ((fail_if_success (with_reducible first | apply Fin.mk | apply CallP.mk | apply LoopP.mk | apply VC.mk | apply falseMk | apply Round.mk | apply Eq.symm)); conv => whnf))
  all_goals (refine Fin.vl (hk _ ?_); simp; omega)
def mayOk (x : Int × List Int × Int × Int) : Prop := (0 ≤ x.1 ∧ x.1 ≤ 4194304 ∧ x.2.1.length ≤ 1099511627776) ∧ 0 ≤ x.2.2.1 ∧ x.2.2.1 ≤ 4194304 ∧ 0 ≤ x.2.2.2 ∧ x.2.2.2 ≤ 4194304
def mayRel (x : Int × List Int × Int × Int) (r : Bool) : Prop := (r = true ↔ x.1 + x.2.1.length ≤ 4194304 ∧ (x.1 + x.2.1.length ≤ x.2.2.1 ∨ x.2.2.1 + x.2.2.2 ≤ x.1))
theorem may_K : ConOk Go.Proofs.Try.prog 115 (Con.of (Int × List Int × Int × Int) (Bool) (fun x => [.agg [.v (.int .i64 x.1), .im true 1 x.2.1.length (.ints .u8 x.2.1)], .v (.int .i64 x.2.2.1), .v (.int .i64 x.2.2.2)]) (fun _ => []) mayOk mayRel (fun _ r => .v (.bool r)) (fun _ _ => [])) := by
  refine conOk_rel (T := tab) mix Go.Proofs.Try.func115 (by decide +kernel) (by kernel_rfl) [] [] (fun n => by rw [Go.Proofs.Try.ntmps115]; exact Nat.le_of_ble_eq_true rfl) (fun x r _ _ => ⟨by simp [AV.noF, noFs, Cont.noF, recsC_noF], (fun c hc => by cases hc), Nat.le_refl _⟩) (fun x _ c hc => by cases hc) ?_
  intro x k h0 hk
  exact may_c x.1 x.2.1 x.2.2.1 x.2.2.2 k h0 (fun r hr => hk r hr)
theorem may_at {avs : List AV} {H : List Chunk} {k : K} (at_ : Int) (xs : List Int) (p : Int) (z : Int) (h0 : (0 ≤ at_ ∧ at_ ≤ 4194304 ∧ xs.length ≤ 1099511627776) ∧ 0 ≤ p ∧ p ≤ 4194304 ∧ 0 ≤ z ∧ z ≤ 4194304) (ha : argsM H [] [.agg [.v (.int .i64 at_), .im true 1 xs.length (.ints .u8 xs)], .v (.int .i64 p), .v (.int .i64 z)] avs) (h : ∀ r : Bool, ((r = true ↔ at_ + xs.length ≤ 4194304 ∧ (at_ + xs.length ≤ p ∨ p + z ≤ at_))) → k (.v (.bool r)) H) : CallP Go.Proofs.Try.prog 115 avs H k :=
  CallP.mk ⟨_, may_K.real, Con.spec may_K, (at_, xs, p, z), [], ⟨h0, rfl, trivial, ha⟩, fun r hr => (numK_eq H.length (fun N => k (AV.ren (fren [] N) (.v (.bool r))) (putAll H [] []))).mpr (by simpa [putAll, AV.ren, rens, Cont.ren, recsC, recAV] using h r hr)⟩
theorem leB_wrap64 (v : Int) : leB 8 (v % 18446744073709551616) = leB 8 v := by
  unfold leB leB leB leB leB leB leB leB leB
  simp only [List.cons.injEq, and_true]
  refine ⟨?_, ?_, ?_, ?_, ?_, ?_, ?_, ?_⟩ <;> omega
set_option maxHeartbeats 8000000 in
theorem renc_c (rs : List RecR) (k : K) (h0 : rs.length ≤ 1099511627776 ∧ (encL rs).length ≤ 1099511627776 ∧ ∀ r ∈ rs, inR .i64 r.1) (hk : ∀ l, l = encL rs → k (.im true 1 l.length (.ints .u8 l)) []) : evFunc tab [17] [] Go.Proofs.Try.f116 [.im false 2 rs.length (recsC false rs)] [] k := by
  repeat' (first
 | (with_reducible first | exact True.intro | apply And.intro | apply If_true | apply If_false | apply If_not)
 | ((with_reducible apply VC.mk); (first | trivial | omega | (simp only [inR]; omega) | (exact ⟨rfl, List.prefix_rfl⟩) | (refine ⟨rfl, rfl, rfl, ?_, rfl⟩; (simp; done)) | (focus (repeat' (first | exact True.intro | apply And.intro | rfl | exact Nat.le_of_ble_eq_true rfl)); done) | (simp [inR, Cont.cells]; done) | (simp [inR, Cont.cells]; omega)))
 | ((with_reducible apply If_dec) <;> intro hc <;> (try (exfalso; omega)))
 | ((with_reducible apply If_any) <;> intro hc)
 | ((with_reducible first | apply PF.mk | apply DrawP.mk); (focus kernel_rfl))
 | ((with_reducible apply Same.mk); (focus rfl); (first | exact trivial | exact rfl))
 | (intro cap hcap)
 | ((fail_if_success (with_reducible first | apply Fin.mk | apply CallP.mk | apply LoopP.mk | apply VC.mk | apply falseMk | apply Round.mk | apply Eq.symm)); conv => whnf))
  refine LoopP.mk ⟨Nat × List Int × Nat, fun y => y.1 ≤ rs.length ∧ y.2.1 = encL (rs.take y.1), fun y => ([(0, .im false 2 rs.length (recsC false rs)), (3, .s 0 0 1 y.2.1.length y.2.2), (4, .v (.int .i64 y.1))], [.blk 5 (.ints .u8 y.2.1) (y.2.2 * 1)]), fun y => rs.length - y.1, (0, [], 0), ⟨Nat.zero_le _, rfl⟩, Fit.ren [0] [] rfl rfl trivial ?_ ?_, ?_⟩
  · repeat' (first
 | (with_reducible first | exact True.intro | apply And.intro | apply If_true | apply If_false | apply If_not)
 | ((with_reducible apply VC.mk); (first | trivial | omega | (simp only [inR]; omega) | (exact ⟨rfl, List.prefix_rfl⟩) | (refine ⟨rfl, rfl, rfl, ?_, rfl⟩; (simp; done)) | (focus (repeat' (first | exact True.intro | apply And.intro | rfl | exact Nat.le_of_ble_eq_true rfl)); done) | (simp [inR, Cont.cells]; done) | (simp [inR, Cont.cells]; omega)))
 | ((with_reducible apply If_dec) <;> intro hc <;> (try (exfalso; omega)))
 | ((with_reducible apply If_any) <;> intro hc)
 | ((with_reducible first | apply PF.mk | apply DrawP.mk); (focus kernel_rfl))
 | ((with_reducible apply Same.mk); (focus rfl); (first | exact trivial | exact rfl))
 | (intro cap hcap)
 | ((fail_if_success (with_reducible first | apply Fin.mk | apply CallP.mk | apply LoopP.mk | apply VC.mk | apply falseMk | apply Round.mk | apply Eq.symm)); conv => whnf))
  · repeat' (first
 | (with_reducible first | exact True.intro | apply And.intro | apply If_true | apply If_false | apply If_not)
 | ((with_reducible apply VC.mk); (first | trivial | omega | (simp only [inR]; omega) | (exact ⟨rfl, List.prefix_rfl⟩) | (refine ⟨rfl, rfl, rfl, ?_, rfl⟩; (simp; done)) | (focus (repeat' (first | exact True.intro | apply And.intro | rfl | exact Nat.le_of_ble_eq_true rfl)); done) | (simp [inR, Cont.cells]; done) | (simp [inR, Cont.cells]; omega)))
 | ((with_reducible apply If_dec) <;> intro hc <;> (try (exfalso; omega)))
 | ((with_reducible apply If_any) <;> intro hc)
 | ((with_reducible first | apply PF.mk | apply DrawP.mk); (focus kernel_rfl))
 | ((with_reducible apply Same.mk); (focus rfl); (first | exact trivial | exact rfl))
 | (intro cap hcap)
 | ((fail_if_success (with_reducible first | apply Fin.mk | apply CallP.mk | apply LoopP.mk | apply VC.mk | apply falseMk | apply Round.mk | apply Eq.symm)); conv => whnf))
  · intro y hy
    obtain ⟨g1, g2⟩ := hy
    have e : ((y.1 : Nat) : Int).toNat = y.1 := Int.toNat_natCast _
    by_cases hlt : y.1 < rs.length
    · have hm : rs.getD y.1 (0, []) ∈ rs := by
        rw [show rs.getD y.1 (0, []) = rs[y.1] by simp [List.getD_eq_getElem?_getD, hlt]]; exact List.getElem_mem hlt
      have hok := h0.2.2 _ hm
      have hsn := encL_snoc rs y.1 hlt
      have hle := encL_le rs (y.1 + 1)
      have hl2 := enc1_length (rs.getD y.1 (0, []))
      have hl3 := congrArg List.length hsn
      rw [List.length_append] at hl3
      rw [← g2] at hsn hl3
      obtain ⟨r, hr⟩ : ∃ r, r = rs.getD y.1 (0, []) := ⟨_, rfl⟩
      rw [← hr] at hm hok hsn hl2 hl3
      repeat' (first
 | (with_reducible first | exact True.intro | apply And.intro | apply If_true | apply If_false | apply If_not)
 | ((with_reducible apply VC.mk); (first | trivial | omega | (simp only [inR]; omega) | (exact ⟨rfl, List.prefix_rfl⟩) | (refine ⟨rfl, rfl, rfl, ?_, rfl⟩; (simp; done)) | (focus (repeat' (first | exact True.intro | apply And.intro | rfl | exact Nat.le_of_ble_eq_true rfl)); done) | (simp [inR, Cont.cells]; done) | (simp [inR, Cont.cells]; omega)))
 | ((with_reducible apply If_dec) <;> intro hc <;> (try (exfalso; omega)))
 | ((with_reducible apply If_any) <;> intro hc)
 | ((with_reducible first | apply PF.mk | apply DrawP.mk); (focus kernel_rfl))
 | ((with_reducible apply Same.mk); (focus rfl); (first | exact trivial | exact rfl))
 | (intro cap hcap)
 | ((fail_if_success (with_reducible first | apply Fin.mk | apply CallP.mk | apply LoopP.mk | apply VC.mk | apply falseMk | apply Round.mk | apply Eq.symm)); conv => whnf))
      simp only [e, ← hr]
      have hin : 0 ≤ IntKind.u64.wrap r.1 ∧ IntKind.u64.wrap r.1 < 18446744073709551616 := by rw [wrap_u64]; omega
      have hlb : leB 8 (IntKind.u64.wrap r.1) = leB 8 r.1 := by rw [wrap_u64, leB_wrap64]
      refine rbytes_at (IntKind.u64.wrap r.1) 8 ⟨hin.1, hin.2, by omega⟩ ⟨rfl, rfl, trivial⟩ ?_
      intro m1 hm1
      have hm1l : m1.length = 8 := by rw [hm1, leB_length]
      repeat' (first
 | (with_reducible first | exact True.intro | apply And.intro | apply If_true | apply If_false | apply If_not)
 | ((with_reducible apply VC.mk); (first | trivial | omega | (simp only [inR]; omega) | (exact ⟨rfl, List.prefix_rfl⟩) | (refine ⟨rfl, rfl, rfl, ?_, rfl⟩; (simp; done)) | (focus (repeat' (first | exact True.intro | apply And.intro | rfl | exact Nat.le_of_ble_eq_true rfl)); done) | (simp [inR, Cont.cells]; done) | (simp [inR, Cont.cells]; omega)))
 | ((with_reducible apply If_dec) <;> intro hc <;> (try (exfalso; omega)))
 | ((with_reducible apply If_any) <;> intro hc)
 | ((with_reducible first | apply PF.mk | apply DrawP.mk); (focus kernel_rfl))
 | ((with_reducible apply Same.mk); (focus rfl); (first | exact trivial | exact rfl))
 | (intro cap hcap)
 | ((fail_if_success (with_reducible first | apply Fin.mk | apply CallP.mk | apply LoopP.mk | apply VC.mk | apply falseMk | apply Round.mk | apply Eq.symm)); conv => whnf))
      all_goals simp only [e, ← hr]
      · exact VC.mk (by simp only [inR]; omega)
      refine rbytes_at (r.2.length : Int) 4 ⟨by omega, by omega, by omega⟩ ⟨rfl, rfl, trivial⟩ ?_
      intro m2 hm2
      have hm2l : m2.length = 4 := by rw [hm2, leB_length]
      repeat' (first
 | (with_reducible first | exact True.intro | apply And.intro | apply If_true | apply If_false | apply If_not)
 | ((with_reducible apply VC.mk); (first | trivial | omega | (simp only [inR]; omega) | (exact ⟨rfl, List.prefix_rfl⟩) | (refine ⟨rfl, rfl, rfl, ?_, rfl⟩; (simp; done)) | (focus (repeat' (first | exact True.intro | apply And.intro | rfl | exact Nat.le_of_ble_eq_true rfl)); done) | (simp [inR, Cont.cells]; done) | (simp [inR, Cont.cells]; omega)))
 | ((with_reducible apply If_dec) <;> intro hc <;> (try (exfalso; omega)))
 | ((with_reducible apply If_any) <;> intro hc)
 | ((with_reducible first | apply PF.mk | apply DrawP.mk); (focus kernel_rfl))
 | ((with_reducible apply Same.mk); (focus rfl); (first | exact trivial | exact rfl))
 | (intro cap hcap)
 | ((fail_if_success (with_reducible first | apply Fin.mk | apply CallP.mk | apply LoopP.mk | apply VC.mk | apply falseMk | apply Round.mk | apply Eq.symm)); conv => whnf))
      all_goals simp only [e, ← hr]
      · refine VC.mk ⟨⟨trivial, trivial, ?_, trivial⟩, trivial, by omega, Nat.one_pos, Nat.one_pos⟩
        show (y.2.1 ++ m1 ++ m2).length = _
        simp only [List.length_append]; omega
      · have e9 : y.2.1 ++ m1 ++ m2 ++ r.2 = encL (rs.take (y.1 + 1)) := by
          rw [hsn, hm1, hm2, hlb]; simp [enc1]
        refine Round.mk ⟨(y.1 + 1, y.2.1 ++ m1 ++ m2 ++ r.2, cap), ⟨by show y.1 + 1 ≤ _; omega, e9⟩, by show rs.length - (y.1 + 1) < rs.length - y.1; omega, Fit.ren [3] [] rfl rfl trivial ?_ ?_⟩
        · repeat' (first
 | (with_reducible first | exact True.intro | apply And.intro | apply If_true | apply If_false | apply If_not)
 | ((with_reducible apply VC.mk); (first | trivial | omega | (simp only [inR]; omega) | (exact ⟨rfl, List.prefix_rfl⟩) | (refine ⟨rfl, rfl, rfl, ?_, rfl⟩; (simp; done)) | (focus (repeat' (first | exact True.intro | apply And.intro | rfl | exact Nat.le_of_ble_eq_true rfl)); done) | (simp [inR, Cont.cells]; done) | (simp [inR, Cont.cells]; omega)))
 | ((with_reducible apply If_dec) <;> intro hc <;> (try (exfalso; omega)))
 | ((with_reducible apply If_any) <;> intro hc)
 | ((with_reducible first | apply PF.mk | apply DrawP.mk); (focus kernel_rfl))
 | ((with_reducible apply Same.mk); (focus rfl); (first | exact trivial | exact rfl))
 | (intro cap hcap)
 | ((fail_if_success (with_reducible first | apply Fin.mk | apply CallP.mk | apply LoopP.mk | apply VC.mk | apply falseMk | apply Round.mk | apply Eq.symm)); conv => whnf))
        · repeat' (first
 | (with_reducible first | exact True.intro | apply And.intro | apply If_true | apply If_false | apply If_not)
 | ((with_reducible apply VC.mk); (first | trivial | omega | (simp only [inR]; omega) | (exact ⟨rfl, List.prefix_rfl⟩) | (refine ⟨rfl, rfl, rfl, ?_, rfl⟩; (simp; done)) | (focus (repeat' (first | exact True.intro | apply And.intro | rfl | exact Nat.le_of_ble_eq_true rfl)); done) | (simp [inR, Cont.cells]; done) | (simp [inR, Cont.cells]; omega)))
 | ((with_reducible apply If_dec) <;> intro hc <;> (try (exfalso; omega)))
 | ((with_reducible apply If_any) <;> intro hc)
 | ((with_reducible first | apply PF.mk | apply DrawP.mk); (focus kernel_rfl))
 | ((with_reducible apply Same.mk); (focus rfl); (first | exact trivial | exact rfl))
 | (intro cap hcap)
 | ((fail_if_success (with_reducible first | apply Fin.mk | apply CallP.mk | apply LoopP.mk | apply VC.mk | apply falseMk | apply Round.mk | apply Eq.symm)); conv => whnf))
          exact VC.mk ⟨rfl, rfl, rfl, by show _ = (y.2.1 ++ m1 ++ m2 ++ r.2).length; simp only [List.length_append], rfl⟩
    · repeat' (first
 | (with_reducible first | exact True.intro | apply And.intro | apply If_true | apply If_false | apply If_not)
 | ((with_reducible apply VC.mk); (first | trivial | omega | (simp only [inR]; omega) | (exact ⟨rfl, List.prefix_rfl⟩) | (refine ⟨rfl, rfl, rfl, ?_, rfl⟩; (simp; done)) | (focus (repeat' (first | exact True.intro | apply And.intro | rfl | exact Nat.le_of_ble_eq_true rfl)); done) | (simp [inR, Cont.cells]; done) | (simp [inR, Cont.cells]; omega)))
 | ((with_reducible apply If_dec) <;> intro hc <;> (try (exfalso; omega)))
 | ((with_reducible apply If_any) <;> intro hc)
 | ((with_reducible first | apply PF.mk | apply DrawP.mk); (focus kernel_rfl))
 | ((with_reducible apply Same.mk); (focus rfl); (first | exact trivial | exact rfl))
 | (intro cap hcap)
 | ((fail_if_success (with_reducible first | apply Fin.mk | apply CallP.mk | apply LoopP.mk | apply VC.mk | apply falseMk | apply Round.mk | apply Eq.symm)); conv => whnf))
      rw [List.take_of_length_le (by omega)] at g2
      refine Fin.ren [] [0] (.im true 1 y.2.1.length (.ints .u8 y.2.1)) [] rfl rfl ⟨trivial, trivial⟩ trivial ⟨VC.mk ⟨by omega, rfl, rfl, rfl, Nat.one_pos⟩, VC.mk ⟨rfl, by simp⟩⟩ (hk _ g2)
def rencOk (x : List RecR) : Prop := x.length ≤ 1099511627776 ∧ (encL x).length ≤ 1099511627776 ∧ ∀ r ∈ x, inR .i64 r.1
def rencRel (x : List RecR) (r : List Int) : Prop := r = encL x
theorem renc_K : ConOk Go.Proofs.Try.prog 116 (Con.of (List RecR) (List Int) (fun x => [.im false 2 x.length (recsC false x)]) (fun _ => []) rencOk rencRel (fun _ r => .im true 1 r.length (.ints .u8 r)) (fun _ _ => [])) := by
  refine conOk_rel (T := tab) mix Go.Proofs.Try.func116 (by decide +kernel) (by kernel_rfl) [17] [] (fun n => by rw [Go.Proofs.Try.ntmps116]; exact Nat.le_of_ble_eq_true rfl) (fun x r _ _ => ⟨by simp [AV.noF, noFs, Cont.noF, recsC_noF], (fun c hc => by cases hc), Nat.le_refl _⟩) (fun x _ c hc => by cases hc) ?_
  intro x k h0 hk
  exact renc_c x k h0 (fun r hr => hk r hr)
theorem renc_at {avs : List AV} {H : List Chunk} {k : K} (rs : List RecR) (h0 : rs.length ≤ 1099511627776 ∧ (encL rs).length ≤ 1099511627776 ∧ ∀ r ∈ rs, inR .i64 r.1) (ha : argsM H [] [.im false 2 rs.length (recsC false rs)] avs) (h : ∀ r : List Int, (r = encL rs) → k (.im true 1 r.length (.ints .u8 r)) H) : CallP Go.Proofs.Try.prog 116 avs H k :=
  CallP.mk ⟨_, renc_K.real, Con.spec renc_K, (rs), [], ⟨h0, rfl, trivial, ha⟩, fun r hr => (numK_eq H.length (fun N => k (AV.ren (fren [] N) (.im true 1 r.length (.ints .u8 r))) (putAll H [] []))).mpr (by simpa [putAll, AV.ren, rens, Cont.ren, recsC, recAV] using h r hr)⟩
end Go.Proofs.Ytjccknmgmommcaa.Sx

