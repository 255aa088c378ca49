import Derived.Test.YtjccknmgmommcaaSxH1
import Derived.Test.YtjccknmgmommcaaSxX3
import Derived.Laws.BitsAllLaws
set_option linter.unusedVariables false
set_option linter.unusedSimpArgs false
set_option maxRecDepth 10000
namespace Go.Proofs.Ytjccknmgmommcaa.Sx
open Go.RowKit Go.Proofs.Ytjccknmgmommcaa.Sx.Tb
/-! ### Entries -/
theorem and63n (a : Nat) (h1 : a < 2 ^ 64) : a &&& 2 ^ 63 = if a < 2 ^ 63 then 0 else 2 ^ 63 := by
  apply Nat.eq_of_testBit_eq
  intro i
  rw [Nat.testBit_and, Nat.testBit_two_pow]
  by_cases hi : 63 = i
  · subst hi
    by_cases h : a < 2 ^ 63
    · rw [if_pos h, Nat.testBit_lt_two_pow h]; simp
    · rw [if_neg h, Nat.testBit_two_pow]
      have : a.testBit 63 = true := by
        rw [Nat.testBit_eq_decide_div_mod_eq]
        have : a / 2 ^ 63 = 1 := by omega
        rw [this]; decide
      rw [this]; simp
  · have hz : (2 ^ 63 : Nat).testBit i = false := by rw [Nat.testBit_two_pow]; simp [hi]
    by_cases h : a < 2 ^ 63
    · rw [if_pos h]; simp [hi]
    · rw [if_neg h, hz]; simp [hi]
theorem and63 (v : Int) (h0 : 0 ≤ v) (h1 : v < 18446744073709551616) : Go.bits .and .u64 v 9223372036854775808 = if v < 9223372036854775808 then 0 else 9223372036854775808 := by
  rw [u64_and v _ h0 h1 (by omega) (by omega)]
  have e := and63n v.toNat (by omega)
  rw [show (9223372036854775808 : Int).toNat = 2 ^ 63 from rfl, e]
  split <;> split <;> omega
theorem andNot63 (v : Int) (h0 : 0 ≤ v) (h1 : v < 18446744073709551616) : Go.bits .andNot .u64 v 9223372036854775808 = if v < 9223372036854775808 then v else v - 9223372036854775808 := by
  rw [u64_andNot v _ h0 h1 (by omega) (by omega)]
  rw [show (18446744073709551615 - (9223372036854775808 : Int).toNat) = 2 ^ 63 - 1 from rfl, Nat.and_two_pow_sub_one_eq_mod]
  split <;> omega
theorem or63 (y : Int) (h0 : 0 ≤ y) (h1 : y < 9223372036854775808) : Go.bits .or .u64 9223372036854775808 y = 9223372036854775808 + y :=
  bits_join .u64 64 (by decide) wraps_u64 63 9223372036854775808 y (by decide) (by decide) (by decide) h0 (by omega) (by omega)
structure ER where
  kind : Int
  cl : Int
  own : Bool
  deriving DecidableEq
def encV (x : ER) : Int × Int :=
  if x.kind = 0 ∨ x.kind = 1 then (if x.cl ≠ 0 ∨ x.own = true then (0, 11) else (x.kind, 0))
  else if x.kind ≠ 2 ∨ x.cl < 1 ∨ 8192 ≤ x.cl then (0, 11)
  else if x.own = true then (9223372036854775808 + x.cl * 256, 0) else (x.cl * 256, 0)
theorem Fin.tp2 {u v : Value} {H : List Chunk} {k : K} (hk : k (.tup [.v u, .v v]) []) : Fin 0 (.tup [.v u, .v v]) H k := Fin.ren [] [] (.tup [.v u, .v v]) [] rfl rfl trivial trivial ⟨VC.mk rfl, VC.mk rfl, trivial⟩ hk
theorem Fin.tpA {a b c d : Value} {H : List Chunk} {k : K} (hk : k (.tup [.agg [.v a, .v b, .v c], .v d]) []) : Fin 0 (.tup [.agg [.v a, .v b, .v c], .v d]) H k := Fin.ren [] [] (.tup [.agg [.v a, .v b, .v c], .v d]) [] rfl rfl trivial trivial ⟨⟨VC.mk rfl, VC.mk rfl, VC.mk rfl, trivial⟩, VC.mk rfl, trivial⟩ hk
theorem menc_c (x : ER) (k : K) (h0 : inR .i64 x.kind ∧ inR .i64 x.cl) (hk : ∀ r : Int × Int, r = encV x → k (.tup [.v (.int .u64 r.1), .v (.int .i64 r.2)]) []) : evFunc tab [] [] Go.Proofs.Try.f93 [.agg [.v (.int .i64 x.kind), .v (.int .i64 x.cl), .v (.bool x.own)]] [] k := by
  repeat' (first
 | (with_reducible first | exact True.intro | apply And.intro | apply If_true | apply If_false | apply If_not)
 | ((with_reducible apply VC.mk); (first | trivial | omega | (simp only [inR]; omega) | (exact ⟨rfl, List.prefix_rfl⟩) | (refine ⟨rfl, rfl, rfl, ?_, rfl⟩; (simp; done)) | (focus (repeat' (first | exact True.intro | apply And.intro | rfl | exact Nat.le_of_ble_eq_true rfl)); done) | (simp [inR, Cont.cells]; done) | (simp [inR, Cont.cells]; omega)))
 | ((with_reducible apply If_dec) <;> intro hc <;> (try (exfalso; omega)))
 | ((with_reducible apply If_any) <;> intro hc)
 | ((with_reducible first | apply PF.mk | apply DrawP.mk); (focus kernel_rfl))
 | ((with_reducible apply Same.mk); (focus rfl); (first | exact trivial | exact rfl))
 | (intro cap hcap)
 | ((fail_if_success (with_reducible first | apply Fin.mk | apply CallP.mk | apply LoopP.mk | apply VC.mk | apply falseMk | apply Round.mk | apply LookP.mk | apply RangeP.mk | apply NextP.mk | apply EntryP.mk | apply Eq.symm)); conv => whnf))
  all_goals refine Fin.tp2 (hk (_, _) ?_)
  all_goals unfold encV
  all_goals (try (simp [*]; done))
  · show (Go.bits .or .u64 9223372036854775808 (IntKind.u64.wrap (x.cl * 256)), (0 : Int)) = _
    rw [wraps_u64 _ (by omega) (by omega), or63 _ (by omega) (by omega), if_neg (by omega), if_neg (by omega), if_pos hc]
  · show (IntKind.u64.wrap (x.cl * 256), (0 : Int)) = _
    rw [wraps_u64 _ (by omega) (by omega), if_neg (by omega), if_neg (by omega), hc]
    rfl
def mencOk (x : ER) : Prop := inR .i64 x.kind ∧ inR .i64 x.cl
def mencRel (x : ER) (r : Int × Int) : Prop := r = encV x
theorem menc_K : ConOk Go.Proofs.Try.prog 93 (Con.of (ER) (Int × Int) (fun x => [.agg [.v (.int .i64 x.kind), .v (.int .i64 x.cl), .v (.bool x.own)]]) (fun _ => []) mencOk mencRel (fun _ r => .tup [.v (.int .u64 r.1), .v (.int .i64 r.2)]) (fun _ _ => [])) := by
  refine conOk_rel (T := tab) mix Go.Proofs.Try.func93 (by decide +kernel) (by kernel_rfl) [] [] (fun n => by rw [Go.Proofs.Try.ntmps93]; exact Nat.le_of_ble_eq_true rfl) (fun x r _ _ => ⟨by simp [AV.noF, noFs, Cont.noF, recsC_noF], (fun c hc => by cases hc), Nat.le_refl _⟩) (fun x _ c hc => by cases hc) ?_
  intro x k h0 hk
  exact menc_c x k h0 (fun r hr => hk r hr)
theorem menc_at {avs : List AV} {H : List Chunk} {k : K} (x : ER) (h0 : inR .i64 x.kind ∧ inR .i64 x.cl) (ha : argsM H [] [.agg [.v (.int .i64 x.kind), .v (.int .i64 x.cl), .v (.bool x.own)]] avs) (hQ : ∀ r : Int × Int, (r = encV x) → k (.tup [.v (.int .u64 r.1), .v (.int .i64 r.2)]) H) : CallP Go.Proofs.Try.prog 93 avs H k :=
  CallP.mk ⟨_, menc_K.real, Con.spec menc_K, (x), [], ⟨h0, rfl, trivial, ha⟩, fun r hr => (numK_eq H.length (fun N => k (AV.ren (fren [] N) (.tup [.v (.int .u64 r.1), .v (.int .i64 r.2)])) (putAll H [] []))).mpr (by simpa [putAll, AV.ren, rens, Cont.ren, recsC, recAV] using hQ r hr)⟩
def decE (v : Int) : ER := ⟨2, (if v < 9223372036854775808 then v else v - 9223372036854775808) / 256, decide (9223372036854775808 ≤ v)⟩
def decV (v : Int) : ER × Int := if v = 0 ∨ v = 1 then (⟨v, 0, false⟩, 0) else if encV (decE v) = (v, 0) then (decE v, 0) else (⟨0, 0, false⟩, 11)
theorem mdec_c (v : Int) (k : K) (h0 : 0 ≤ v ∧ v < 18446744073709551616) (hk : ∀ r : ER × Int, r = decV v → k (.tup [.agg [.v (.int .i64 r.1.kind), .v (.int .i64 r.1.cl), .v (.bool r.1.own)], .v (.int .i64 r.2)]) []) : evFunc tab [] [] Go.Proofs.Try.f94 [.v (.int .u64 v)] [] k := by
  have eA := andNot63 v h0.1 h0.2
  have eB : decide (Go.bits .and .u64 v 9223372036854775808 ≠ 0) = decide (9223372036854775808 ≤ v) := by
    rw [and63 v h0.1 h0.2]
    by_cases h : v < 9223372036854775808
    · rw [if_pos h]; simp; omega
    · rw [if_neg h]; simp; omega
  have eC : (2 : Int) ^ min (Int.toNat 8) IntKind.u64.bits = 256 := rfl
  have eD : 0 ≤ (decE v).cl ∧ (decE v).cl < 36028797018963968 := by unfold decE; simp only; split <;> omega
  repeat' (first
 | (with_reducible first | exact True.intro | apply And.intro | apply If_true | apply If_false | apply If_not)
 | ((with_reducible apply VC.mk); (first | trivial | omega | (simp only [inR]; omega) | (exact ⟨rfl, List.prefix_rfl⟩) | (refine ⟨rfl, rfl, rfl, ?_, rfl⟩; (simp; done)) | (focus (repeat' (first | exact True.intro | apply And.intro | rfl | exact Nat.le_of_ble_eq_true rfl)); done) | (simp [inR, Cont.cells]; done) | (simp [inR, Cont.cells]; omega)))
 | ((with_reducible apply If_dec) <;> intro hc <;> (try (exfalso; omega)))
 | ((with_reducible apply If_any) <;> intro hc)
 | ((with_reducible first | apply PF.mk | apply DrawP.mk); (focus kernel_rfl))
 | ((with_reducible apply Same.mk); (focus rfl); (first | exact trivial | exact rfl))
 | (intro cap hcap)
 | ((fail_if_success (with_reducible first | apply Fin.mk | apply CallP.mk | apply LoopP.mk | apply VC.mk | apply falseMk | apply Round.mk | apply LookP.mk | apply RangeP.mk | apply NextP.mk | apply EntryP.mk | apply Eq.symm)); conv => whnf))
  · refine Fin.tpA (hk (⟨v, 0, false⟩, 0) ?_)
    unfold decV; rw [if_pos (.inl hc)]
  · refine Fin.tpA (hk (⟨v, 0, false⟩, 0) ?_)
    unfold decV; rw [if_pos (.inr hc)]
  · refine VC.mk ?_
    rw [eA, eC]
    simp only [inR]
    split <;> omega
  · rw [eA, eB, eC]
    refine menc_at (decE v) ⟨by simp [inR, decE], by simp only [inR]; omega⟩ ⟨⟨rfl, rfl, rfl, trivial⟩, trivial⟩ ?_
    rintro ⟨w, e⟩ hw
    have hd : decV v = if encV (decE v) = (v, 0) then (decE v, 0) else (⟨0, 0, false⟩, 11) := by
      unfold decV; rw [if_neg (by omega)]
    rw [← hw] at hd
    repeat' (first
 | (with_reducible first | exact True.intro | apply And.intro | apply If_true | apply If_false | apply If_not)
 | ((with_reducible apply VC.mk); (first | trivial | omega | (simp only [inR]; omega) | (exact ⟨rfl, List.prefix_rfl⟩) | (refine ⟨rfl, rfl, rfl, ?_, rfl⟩; (simp; done)) | (focus (repeat' (first | exact True.intro | apply And.intro | rfl | exact Nat.le_of_ble_eq_true rfl)); done) | (simp [inR, Cont.cells]; done) | (simp [inR, Cont.cells]; omega)))
 | ((with_reducible apply If_dec) <;> intro hc <;> (try (exfalso; omega)))
 | ((with_reducible apply If_any) <;> intro hc)
 | ((with_reducible first | apply PF.mk | apply DrawP.mk); (focus kernel_rfl))
 | ((with_reducible apply Same.mk); (focus rfl); (first | exact trivial | exact rfl))
 | (intro cap hcap)
 | ((fail_if_success (with_reducible first | apply Fin.mk | apply CallP.mk | apply LoopP.mk | apply VC.mk | apply falseMk | apply Round.mk | apply LookP.mk | apply RangeP.mk | apply NextP.mk | apply EntryP.mk | apply Eq.symm)); conv => whnf))
    · refine Fin.tpA (hk (⟨0, 0, false⟩, 11) ?_)
      rw [hd, if_neg]
      intro h
      exact hc (congrArg Prod.snd h)
    · refine Fin.tpA (hk (⟨0, 0, false⟩, 11) ?_)
      rw [hd, if_neg]
      intro h
      exact hc (congrArg Prod.fst h)
    · refine Fin.tpA (hk (decE v, 0) ?_)
      rw [hd, if_pos]
      exact Prod.ext (Decidable.not_not.1 hc) (Decidable.not_not.1 (by assumption))
def mdecOk (x : Int) : Prop := 0 ≤ x ∧ x < 18446744073709551616
def mdecRel (x : Int) (r : ER × Int) : Prop := r = decV x
theorem mdec_K : ConOk Go.Proofs.Try.prog 94 (Con.of (Int) (ER × Int) (fun x => [.v (.int .u64 x)]) (fun _ => []) mdecOk mdecRel (fun _ r => .tup [.agg [.v (.int .i64 r.1.kind), .v (.int .i64 r.1.cl), .v (.bool r.1.own)], .v (.int .i64 r.2)]) (fun _ _ => [])) := by
  refine conOk_rel (T := tab) mix Go.Proofs.Try.func94 (by decide +kernel) (by kernel_rfl) [] [] (fun n => by rw [Go.Proofs.Try.ntmps94]; exact Nat.le_of_ble_eq_true rfl) (fun x r _ _ => ⟨by simp [AV.noF, noFs, Cont.noF, recsC_noF], (fun c hc => by cases hc), Nat.le_refl _⟩) (fun x _ c hc => by cases hc) ?_
  intro x k h0 hk
  exact mdec_c x k h0 (fun r hr => hk r hr)
theorem mdec_at {avs : List AV} {H : List Chunk} {k : K} (v : Int) (h0 : 0 ≤ v ∧ v < 18446744073709551616) (ha : argsM H [] [.v (.int .u64 v)] avs) (hQ : ∀ r : ER × Int, (r = decV v) → k (.tup [.agg [.v (.int .i64 r.1.kind), .v (.int .i64 r.1.cl), .v (.bool r.1.own)], .v (.int .i64 r.2)]) H) : CallP Go.Proofs.Try.prog 94 avs H k :=
  CallP.mk ⟨_, mdec_K.real, Con.spec mdec_K, (v), [], ⟨h0, rfl, trivial, ha⟩, fun r hr => (numK_eq H.length (fun N => k (AV.ren (fren [] N) (.tup [.agg [.v (.int .i64 r.1.kind), .v (.int .i64 r.1.cl), .v (.bool r.1.own)], .v (.int .i64 r.2)])) (putAll H [] []))).mpr (by simpa [putAll, AV.ren, rens, Cont.ren, recsC, recAV] using hQ r hr)⟩
set_option maxHeartbeats 8000000 in
theorem mcoded_c (k : K) (h0 : True) (hk : ∀ r : Unit, True → k (.v (.bool true)) []) : evFunc tab [] [] Go.Proofs.Try.f34 [] [] k := by
  repeat' (first
 | (with_reducible first | exact True.intro | apply And.intro | apply If_true | apply If_false | apply If_not)
 | ((with_reducible apply VC.mk); (first | trivial | omega | (simp only [inR]; omega) | (exact ⟨rfl, List.prefix_rfl⟩) | (refine ⟨rfl, rfl, rfl, ?_, rfl⟩; (simp; done)) | (focus (repeat' (first | exact True.intro | apply And.intro | rfl | exact Nat.le_of_ble_eq_true rfl)); done) | (simp [inR, Cont.cells]; done) | (simp [inR, Cont.cells]; omega)))
 | ((with_reducible apply If_dec) <;> intro hc <;> (try (exfalso; omega)))
 | ((with_reducible apply If_any) <;> intro hc)
 | ((with_reducible first | apply PF.mk | apply DrawP.mk); (focus kernel_rfl))
 | ((with_reducible apply Same.mk); (focus rfl); (first | exact trivial | exact rfl))
 | (intro cap hcap)
 | ((fail_if_success (with_reducible first | apply Fin.mk | apply CallP.mk | apply LoopP.mk | apply VC.mk | apply falseMk | apply Round.mk | apply LookP.mk | apply RangeP.mk | apply NextP.mk | apply EntryP.mk | apply Eq.symm)); conv => whnf))
  refine menc_at ⟨2, 3, false⟩ ⟨by simp [inR], by simp [inR]⟩ ⟨⟨rfl, rfl, rfl, trivial⟩, trivial⟩ ?_
  intro r1 h1
  have h1 : r1 = (768, 0) := h1
  subst h1
  repeat' (first
 | (with_reducible first | exact True.intro | apply And.intro | apply If_true | apply If_false | apply If_not)
 | ((with_reducible apply VC.mk); (first | trivial | omega | (simp only [inR]; omega) | (exact ⟨rfl, List.prefix_rfl⟩) | (refine ⟨rfl, rfl, rfl, ?_, rfl⟩; (simp; done)) | (focus (repeat' (first | exact True.intro | apply And.intro | rfl | exact Nat.le_of_ble_eq_true rfl)); done) | (simp [inR, Cont.cells]; done) | (simp [inR, Cont.cells]; omega)))
 | ((with_reducible apply If_dec) <;> intro hc <;> (try (exfalso; omega)))
 | ((with_reducible apply If_any) <;> intro hc)
 | ((with_reducible first | apply PF.mk | apply DrawP.mk); (focus kernel_rfl))
 | ((with_reducible apply Same.mk); (focus rfl); (first | exact trivial | exact rfl))
 | (intro cap hcap)
 | ((fail_if_success (with_reducible first | apply Fin.mk | apply CallP.mk | apply LoopP.mk | apply VC.mk | apply falseMk | apply Round.mk | apply LookP.mk | apply RangeP.mk | apply NextP.mk | apply EntryP.mk | apply Eq.symm)); conv => whnf))
  refine mdec_at 2 ⟨by decide, by decide⟩ ⟨rfl, trivial⟩ ?_
  intro r2 h2
  have h2 : r2 = (⟨0, 0, false⟩, 11) := h2.trans (by decide)
  subst h2
  repeat' (first
 | (with_reducible first | exact True.intro | apply And.intro | apply If_true | apply If_false | apply If_not)
 | ((with_reducible apply VC.mk); (first | trivial | omega | (simp only [inR]; omega) | (exact ⟨rfl, List.prefix_rfl⟩) | (refine ⟨rfl, rfl, rfl, ?_, rfl⟩; (simp; done)) | (focus (repeat' (first | exact True.intro | apply And.intro | rfl | exact Nat.le_of_ble_eq_true rfl)); done) | (simp [inR, Cont.cells]; done) | (simp [inR, Cont.cells]; omega)))
 | ((with_reducible apply If_dec) <;> intro hc <;> (try (exfalso; omega)))
 | ((with_reducible apply If_any) <;> intro hc)
 | ((with_reducible first | apply PF.mk | apply DrawP.mk); (focus kernel_rfl))
 | ((with_reducible apply Same.mk); (focus rfl); (first | exact trivial | exact rfl))
 | (intro cap hcap)
 | ((fail_if_success (with_reducible first | apply Fin.mk | apply CallP.mk | apply LoopP.mk | apply VC.mk | apply falseMk | apply Round.mk | apply LookP.mk | apply RangeP.mk | apply NextP.mk | apply EntryP.mk | apply Eq.symm)); conv => whnf))
  refine mdec_at 9223372036854776576 ⟨by decide, by decide⟩ ⟨rfl, trivial⟩ ?_
  intro r3 h3
  have h3 : r3 = (⟨2, 3, true⟩, 0) := h3.trans (by decide)
  subst h3
  repeat' (first
 | (with_reducible first | exact True.intro | apply And.intro | apply If_true | apply If_false | apply If_not)
 | ((with_reducible apply VC.mk); (first | trivial | omega | (simp only [inR]; omega) | (exact ⟨rfl, List.prefix_rfl⟩) | (refine ⟨rfl, rfl, rfl, ?_, rfl⟩; (simp; done)) | (focus (repeat' (first | exact True.intro | apply And.intro | rfl | exact Nat.le_of_ble_eq_true rfl)); done) | (simp [inR, Cont.cells]; done) | (simp [inR, Cont.cells]; omega)))
 | ((with_reducible apply If_dec) <;> intro hc <;> (try (exfalso; omega)))
 | ((with_reducible apply If_any) <;> intro hc)
 | ((with_reducible first | apply PF.mk | apply DrawP.mk); (focus kernel_rfl))
 | ((with_reducible apply Same.mk); (focus rfl); (first | exact trivial | exact rfl))
 | (intro cap hcap)
 | ((fail_if_success (with_reducible first | apply Fin.mk | apply CallP.mk | apply LoopP.mk | apply VC.mk | apply falseMk | apply Round.mk | apply LookP.mk | apply RangeP.mk | apply NextP.mk | apply EntryP.mk | apply Eq.symm)); conv => whnf))
  exact Fin.bool (by decide) (hk () trivial)
def mcodedOk (x : Unit) : Prop := True
def mcodedRel (x : Unit) (r : Unit) : Prop := True
theorem mcoded_K : ConOk Go.Proofs.Try.prog 34 (Con.of (Unit) (Unit) (fun x => []) (fun _ => []) mcodedOk mcodedRel (fun _ r => .v (.bool true)) (fun _ _ => [])) := by
  refine conOk_rel (T := tab) mix Go.Proofs.Try.func34 (by decide +kernel) (by kernel_rfl) [] [] (fun n => by rw [Go.Proofs.Try.ntmps34]; exact Nat.le_of_ble_eq_true rfl) (fun x r _ _ => ⟨by simp [AV.noF, noFs, Cont.noF, recsC_noF], (fun c hc => by cases hc), Nat.le_refl _⟩) (fun x _ c hc => by cases hc) ?_
  intro x k h0 hk
  exact mcoded_c  k h0 (fun r hr => hk r hr)
theorem mcoded_at {avs : List AV} {H : List Chunk} {k : K}  (h0 : True) (ha : argsM H [] [] avs) (hQ : ∀ r : Unit, (True) → k (.v (.bool true)) H) : CallP Go.Proofs.Try.prog 34 avs H k :=
  CallP.mk ⟨_, mcoded_K.real, Con.spec mcoded_K, (), [], ⟨h0, rfl, trivial, ha⟩, fun r hr => (numK_eq H.length (fun N => k (AV.ren (fren [] N) (.v (.bool true))) (putAll H [] []))).mpr (by simpa [putAll, AV.ren, rens, Cont.ren, recsC, recAV] using hQ r hr)⟩
end Go.Proofs.Ytjccknmgmommcaa.Sx

