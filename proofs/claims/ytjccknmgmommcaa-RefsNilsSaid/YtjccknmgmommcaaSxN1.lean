import Derived.Test.YtjccknmgmommcaaSxM9
set_option linter.unusedVariables false
set_option linter.unusedSimpArgs false
set_option maxRecDepth 10000
namespace Go.Proofs.Ytjccknmgmommcaa.Sx
open Go.RowKit Go.Proofs.Ytjccknmgmommcaa.Sx.Tb
/-! ### The counts' header, the nil ones, New -/
def HD.r (H : Int) : HD := ⟨9, 32768, H, 29, false⟩
theorem Fin.ag5 {a b c d e : Value} {H : List Chunk} {k : K} (hk : k (.agg [.v a, .v b, .v c, .v d, .v e]) []) : Fin 0 (.agg [.v a, .v b, .v c, .v d, .v e]) H k := Fin.ren [] [] (.agg [.v a, .v b, .v c, .v d, .v e]) [] rfl rfl trivial trivial ⟨VC.mk rfl, VC.mk rfl, VC.mk rfl, VC.mk rfl, VC.mk rfl, trivial⟩ hk
theorem Fin.tp3 {u v w : Value} {H : List Chunk} {k : K} (hk : k (.tup [.v u, .v v, .v w]) []) : Fin 0 (.tup [.v u, .v v, .v w]) H k := Fin.ren [] [] (.tup [.v u, .v v, .v w]) [] rfl rfl trivial trivial ⟨VC.mk rfl, VC.mk rfl, VC.mk rfl, trivial⟩ hk
def rH (n : Int) : Int := 40 + n % 18446744073709551616 % 60
theorem rhead_c (n : Int) (k : K) (h0 : inR .i64 n) (hk : ∀ r : HD, r = HD.r (rH n) → k (.agg [.v (.int .i64 r.bits), .v (.int .i64 r.size), .v (.int .i64 r.host), .v (.int .i64 r.jr), .v (.bool r.backed)]) []) : evFunc tab [4] [] Go.Proofs.Try.f44 [.v (.int .i64 n)] [] k := by
  have w : IntKind.u64.wrap n = n % 18446744073709551616 := rfl
  have hk2 := hk (HD.r (rH n)) rfl
  repeat' (first
 | (with_reducible first | exact True.intro | apply And.intro | apply If_true | apply If_false | apply If_not)
 | ((with_reducible apply VC.mk); (first | trivial | omega | (simp only [inR]; omega) | (exact ⟨rfl, List.prefix_rfl⟩) | (refine ⟨rfl, rfl, rfl, ?_, rfl⟩; (simp; done)) | (focus (repeat' (first | exact True.intro | apply And.intro | rfl | exact Nat.le_of_ble_eq_true rfl)); done) | (simp [inR, Cont.cells]; done) | (simp [inR, Cont.cells]; omega)))
 | ((with_reducible apply If_dec) <;> intro hc <;> (try (exfalso; omega)))
 | ((with_reducible apply If_any) <;> intro hc)
 | ((with_reducible first | apply PF.mk | apply DrawP.mk); (focus kernel_rfl))
 | ((with_reducible apply Same.mk); (focus rfl); (first | exact trivial | exact rfl))
 | (intro cap hcap)
 | ((fail_if_success (with_reducible first | apply Fin.mk | apply CallP.mk | apply LoopP.mk | apply VC.mk | apply falseMk | apply Round.mk | apply LookP.mk | apply RangeP.mk | apply NextP.mk | apply EntryP.mk | apply Eq.symm)); conv => whnf))
  exact Fin.ag5 hk2
def rheadOk (x : Int) : Prop := inR .i64 x
def rheadRel (x : Int) (r : HD) : Prop := r = HD.r (rH x)
theorem rhead_K : ConOk Go.Proofs.Try.prog 44 (Con.of (Int) (HD) (fun x => [.v (.int .i64 x)]) (fun _ => []) rheadOk rheadRel (fun _ r => .agg [.v (.int .i64 r.bits), .v (.int .i64 r.size), .v (.int .i64 r.host), .v (.int .i64 r.jr), .v (.bool r.backed)]) (fun _ _ => [])) := by
  refine conOk_rel (T := tab) mix Go.Proofs.Try.func44 (by decide +kernel) (by kernel_rfl) [4] [] (fun n => by rw [Go.Proofs.Try.ntmps44]; exact Nat.le_of_ble_eq_true rfl) (fun x r _ _ => ⟨by simp [AV.noF, noFs, Cont.noF, recsC_noF], (fun c hc => by cases hc), Nat.le_refl _⟩) (fun x _ c hc => by cases hc) ?_
  intro x k h0 hk
  exact rhead_c x k h0 (fun r hr => hk r hr)
theorem rhead_at {avs : List AV} {H : List Chunk} {k : K} (n : Int) (h0 : inR .i64 n) (ha : argsM H [] [.v (.int .i64 n)] avs) (hQ : ∀ r : HD, (r = HD.r (rH n)) → k (.agg [.v (.int .i64 r.bits), .v (.int .i64 r.size), .v (.int .i64 r.host), .v (.int .i64 r.jr), .v (.bool r.backed)]) H) : CallP Go.Proofs.Try.prog 44 avs H k :=
  CallP.mk ⟨_, rhead_K.real, Con.spec rhead_K, (n), [], ⟨h0, rfl, trivial, ha⟩, fun r hr => (numK_eq H.length (fun N => k (AV.ren (fren [] N) (.agg [.v (.int .i64 r.bits), .v (.int .i64 r.size), .v (.int .i64 r.host), .v (.int .i64 r.jr), .v (.bool r.backed)])) (putAll H [] []))).mpr (by simpa [putAll, AV.ren, rens, Cont.ren, recsC, recAV] using hQ r hr)⟩
theorem rnewn_c (h : HD) (k : K) (h0 : True) (hk : ∀ r : Unit, True → k (.tup [.v (.pointer none), .v (.int .i64 2)]) []) : evFunc tab [] [] Go.Proofs.Try.f45 [.agg [.v (.int .i64 h.bits), .v (.int .i64 h.size), .v (.int .i64 h.host), .v (.int .i64 h.jr), .v (.bool h.backed)], .v (.pointer none)] [] k := by
  repeat' (first
 | (with_reducible first | exact True.intro | apply And.intro | apply If_true | apply If_false | apply If_not)
 | ((with_reducible apply VC.mk); (first | trivial | omega | (simp only [inR]; omega) | (exact ⟨rfl, List.prefix_rfl⟩) | (refine ⟨rfl, rfl, rfl, ?_, rfl⟩; (simp; done)) | (focus (repeat' (first | exact True.intro | apply And.intro | rfl | exact Nat.le_of_ble_eq_true rfl)); done) | (simp [inR, Cont.cells]; done) | (simp [inR, Cont.cells]; omega)))
 | ((with_reducible apply If_dec) <;> intro hc <;> (try (exfalso; omega)))
 | ((with_reducible apply If_any) <;> intro hc)
 | ((with_reducible first | apply PF.mk | apply DrawP.mk); (focus kernel_rfl))
 | ((with_reducible apply Same.mk); (focus rfl); (first | exact trivial | exact rfl))
 | (intro cap hcap)
 | ((fail_if_success (with_reducible first | apply Fin.mk | apply CallP.mk | apply LoopP.mk | apply VC.mk | apply falseMk | apply Round.mk | apply LookP.mk | apply RangeP.mk | apply NextP.mk | apply EntryP.mk | apply Eq.symm)); conv => whnf))
  exact Fin.tp2 (hk () trivial)
def rnewnOk (x : HD) : Prop := True
def rnewnRel (x : HD) (r : Unit) : Prop := True
theorem rnewn_K : ConOk Go.Proofs.Try.prog 45 (Con.of (HD) (Unit) (fun x => [.agg [.v (.int .i64 x.bits), .v (.int .i64 x.size), .v (.int .i64 x.host), .v (.int .i64 x.jr), .v (.bool x.backed)], .v (.pointer none)]) (fun _ => []) rnewnOk rnewnRel (fun _ r => .tup [.v (.pointer none), .v (.int .i64 2)]) (fun _ _ => [])) := by
  refine conOk_rel (T := tab) mix Go.Proofs.Try.func45 (by decide +kernel) (by kernel_rfl) [] [] (fun n => by rw [Go.Proofs.Try.ntmps45]; exact Nat.le_of_ble_eq_true rfl) (fun x r _ _ => ⟨by simp [AV.noF, noFs, Cont.noF, recsC_noF], (fun c hc => by cases hc), Nat.le_refl _⟩) (fun x _ c hc => by cases hc) ?_
  intro x k h0 hk
  exact rnewn_c x k h0 (fun r hr => hk r hr)
theorem rnewn_at {avs : List AV} {H : List Chunk} {k : K} (h : HD) (h0 : True) (ha : argsM H [] [.agg [.v (.int .i64 h.bits), .v (.int .i64 h.size), .v (.int .i64 h.host), .v (.int .i64 h.jr), .v (.bool h.backed)], .v (.pointer none)] avs) (hQ : ∀ r : Unit, (True) → k (.tup [.v (.pointer none), .v (.int .i64 2)]) H) : CallP Go.Proofs.Try.prog 45 avs H k :=
  CallP.mk ⟨_, rnewn_K.real, Con.spec rnewn_K, (h), [], ⟨h0, rfl, trivial, ha⟩, fun r hr => (numK_eq H.length (fun N => k (AV.ren (fren [] N) (.tup [.v (.pointer none), .v (.int .i64 2)])) (putAll H [] []))).mpr (by simpa [putAll, AV.ren, rens, Cont.ren, recsC, recAV] using hQ r hr)⟩
theorem rinn_c (n : Int) (k : K) (h0 : True) (hk : ∀ r : Unit, True → k (.v (.int .i64 2)) []) : evFunc tab [] [] Go.Proofs.Try.f100 [.v (.pointer none), .v (.int .i64 n)] [] k := by
  repeat' (first
 | (with_reducible first | exact True.intro | apply And.intro | apply If_true | apply If_false | apply If_not)
 | ((with_reducible apply VC.mk); (first | trivial | omega | (simp only [inR]; omega) | (exact ⟨rfl, List.prefix_rfl⟩) | (refine ⟨rfl, rfl, rfl, ?_, rfl⟩; (simp; done)) | (focus (repeat' (first | exact True.intro | apply And.intro | rfl | exact Nat.le_of_ble_eq_true rfl)); done) | (simp [inR, Cont.cells]; done) | (simp [inR, Cont.cells]; omega)))
 | ((with_reducible apply If_dec) <;> intro hc <;> (try (exfalso; omega)))
 | ((with_reducible apply If_any) <;> intro hc)
 | ((with_reducible first | apply PF.mk | apply DrawP.mk); (focus kernel_rfl))
 | ((with_reducible apply Same.mk); (focus rfl); (first | exact trivial | exact rfl))
 | (intro cap hcap)
 | ((fail_if_success (with_reducible first | apply Fin.mk | apply CallP.mk | apply LoopP.mk | apply VC.mk | apply falseMk | apply Round.mk | apply LookP.mk | apply RangeP.mk | apply NextP.mk | apply EntryP.mk | apply Eq.symm)); conv => whnf))
  exact Fin.vl (hk () trivial)
def rinnOk (x : Int) : Prop := True
def rinnRel (x : Int) (r : Unit) : Prop := True
theorem rinn_K : ConOk Go.Proofs.Try.prog 100 (Con.of (Int) (Unit) (fun x => [.v (.pointer none), .v (.int .i64 x)]) (fun _ => []) rinnOk rinnRel (fun _ r => .v (.int .i64 2)) (fun _ _ => [])) := by
  refine conOk_rel (T := tab) mix Go.Proofs.Try.func100 (by decide +kernel) (by kernel_rfl) [] [] (fun n => by rw [Go.Proofs.Try.ntmps100]; exact Nat.le_of_ble_eq_true rfl) (fun x r _ _ => ⟨by simp [AV.noF, noFs, Cont.noF, recsC_noF], (fun c hc => by cases hc), Nat.le_refl _⟩) (fun x _ c hc => by cases hc) ?_
  intro x k h0 hk
  exact rinn_c x k h0 (fun r hr => hk r hr)
theorem rinn_at {avs : List AV} {H : List Chunk} {k : K} (n : Int) (h0 : True) (ha : argsM H [] [.v (.pointer none), .v (.int .i64 n)] avs) (hQ : ∀ r : Unit, (True) → k (.v (.int .i64 2)) H) : CallP Go.Proofs.Try.prog 100 avs H k :=
  CallP.mk ⟨_, rinn_K.real, Con.spec rinn_K, (n), [], ⟨h0, rfl, trivial, ha⟩, fun r hr => (numK_eq H.length (fun N => k (AV.ren (fren [] N) (.v (.int .i64 2))) (putAll H [] []))).mpr (by simpa [putAll, AV.ren, rens, Cont.ren, recsC, recAV] using hQ r hr)⟩
theorem rgetn_c (n : Int) (k : K) (h0 : True) (hk : ∀ r : Unit, True → k (.tup [.v (.int .i64 0), .v (.int .i64 2)]) []) : evFunc tab [] [] Go.Proofs.Try.f46 [.v (.pointer none), .v (.int .i64 n)] [] k := by
  repeat' (first
 | (with_reducible first | exact True.intro | apply And.intro | apply If_true | apply If_false | apply If_not)
 | ((with_reducible apply VC.mk); (first | trivial | omega | (simp only [inR]; omega) | (exact ⟨rfl, List.prefix_rfl⟩) | (refine ⟨rfl, rfl, rfl, ?_, rfl⟩; (simp; done)) | (focus (repeat' (first | exact True.intro | apply And.intro | rfl | exact Nat.le_of_ble_eq_true rfl)); done) | (simp [inR, Cont.cells]; done) | (simp [inR, Cont.cells]; omega)))
 | ((with_reducible apply If_dec) <;> intro hc <;> (try (exfalso; omega)))
 | ((with_reducible apply If_any) <;> intro hc)
 | ((with_reducible first | apply PF.mk | apply DrawP.mk); (focus kernel_rfl))
 | ((with_reducible apply Same.mk); (focus rfl); (first | exact trivial | exact rfl))
 | (intro cap hcap)
 | ((fail_if_success (with_reducible first | apply Fin.mk | apply CallP.mk | apply LoopP.mk | apply VC.mk | apply falseMk | apply Round.mk | apply LookP.mk | apply RangeP.mk | apply NextP.mk | apply EntryP.mk | apply Eq.symm)); conv => whnf))
  refine rinn_at n trivial ⟨rfl, rfl, trivial⟩ ?_
  intro _ _
  repeat' (first
 | (with_reducible first | exact True.intro | apply And.intro | apply If_true | apply If_false | apply If_not)
 | ((with_reducible apply VC.mk); (first | trivial | omega | (simp only [inR]; omega) | (exact ⟨rfl, List.prefix_rfl⟩) | (refine ⟨rfl, rfl, rfl, ?_, rfl⟩; (simp; done)) | (focus (repeat' (first | exact True.intro | apply And.intro | rfl | exact Nat.le_of_ble_eq_true rfl)); done) | (simp [inR, Cont.cells]; done) | (simp [inR, Cont.cells]; omega)))
 | ((with_reducible apply If_dec) <;> intro hc <;> (try (exfalso; omega)))
 | ((with_reducible apply If_any) <;> intro hc)
 | ((with_reducible first | apply PF.mk | apply DrawP.mk); (focus kernel_rfl))
 | ((with_reducible apply Same.mk); (focus rfl); (first | exact trivial | exact rfl))
 | (intro cap hcap)
 | ((fail_if_success (with_reducible first | apply Fin.mk | apply CallP.mk | apply LoopP.mk | apply VC.mk | apply falseMk | apply Round.mk | apply LookP.mk | apply RangeP.mk | apply NextP.mk | apply EntryP.mk | apply Eq.symm)); conv => whnf))
  exact Fin.tp2 (hk () trivial)
def rgetnOk (x : Int) : Prop := True
def rgetnRel (x : Int) (r : Unit) : Prop := True
theorem rgetn_K : ConOk Go.Proofs.Try.prog 46 (Con.of (Int) (Unit) (fun x => [.v (.pointer none), .v (.int .i64 x)]) (fun _ => []) rgetnOk rgetnRel (fun _ r => .tup [.v (.int .i64 0), .v (.int .i64 2)]) (fun _ _ => [])) := by
  refine conOk_rel (T := tab) mix Go.Proofs.Try.func46 (by decide +kernel) (by kernel_rfl) [] [] (fun n => by rw [Go.Proofs.Try.ntmps46]; exact Nat.le_of_ble_eq_true rfl) (fun x r _ _ => ⟨by simp [AV.noF, noFs, Cont.noF, recsC_noF], (fun c hc => by cases hc), Nat.le_refl _⟩) (fun x _ c hc => by cases hc) ?_
  intro x k h0 hk
  exact rgetn_c x k h0 (fun r hr => hk r hr)
theorem rgetn_at {avs : List AV} {H : List Chunk} {k : K} (n : Int) (h0 : True) (ha : argsM H [] [.v (.pointer none), .v (.int .i64 n)] avs) (hQ : ∀ r : Unit, (True) → k (.tup [.v (.int .i64 0), .v (.int .i64 2)]) H) : CallP Go.Proofs.Try.prog 46 avs H k :=
  CallP.mk ⟨_, rgetn_K.real, Con.spec rgetn_K, (n), [], ⟨h0, rfl, trivial, ha⟩, fun r hr => (numK_eq H.length (fun N => k (AV.ren (fren [] N) (.tup [.v (.int .i64 0), .v (.int .i64 2)])) (putAll H [] []))).mpr (by simpa [putAll, AV.ren, rens, Cont.ren, recsC, recAV] using hQ r hr)⟩
theorem ralln_c (k : K) (h0 : True) (hk : ∀ r : Unit, True → k (.tup [.v (.slice none 0 0), .v (.int .i64 2)]) []) : evFunc tab [] [] Go.Proofs.Try.f47 [.v (.pointer none)] [] k := by
  repeat' (first
 | (with_reducible first | exact True.intro | apply And.intro | apply If_true | apply If_false | apply If_not)
 | ((with_reducible apply VC.mk); (first | trivial | omega | (simp only [inR]; omega) | (exact ⟨rfl, List.prefix_rfl⟩) | (refine ⟨rfl, rfl, rfl, ?_, rfl⟩; (simp; done)) | (focus (repeat' (first | exact True.intro | apply And.intro | rfl | exact Nat.le_of_ble_eq_true rfl)); done) | (simp [inR, Cont.cells]; done) | (simp [inR, Cont.cells]; omega)))
 | ((with_reducible apply If_dec) <;> intro hc <;> (try (exfalso; omega)))
 | ((with_reducible apply If_any) <;> intro hc)
 | ((with_reducible first | apply PF.mk | apply DrawP.mk); (focus kernel_rfl))
 | ((with_reducible apply Same.mk); (focus rfl); (first | exact trivial | exact rfl))
 | (intro cap hcap)
 | ((fail_if_success (with_reducible first | apply Fin.mk | apply CallP.mk | apply LoopP.mk | apply VC.mk | apply falseMk | apply Round.mk | apply LookP.mk | apply RangeP.mk | apply NextP.mk | apply EntryP.mk | apply Eq.symm)); conv => whnf))
  exact Fin.tp2 (hk () trivial)
def rallnOk (x : Unit) : Prop := True
def rallnRel (x : Unit) (r : Unit) : Prop := True
theorem ralln_K : ConOk Go.Proofs.Try.prog 47 (Con.of (Unit) (Unit) (fun x => [.v (.pointer none)]) (fun _ => []) rallnOk rallnRel (fun _ r => .tup [.v (.slice none 0 0), .v (.int .i64 2)]) (fun _ _ => [])) := by
  refine conOk_rel (T := tab) mix Go.Proofs.Try.func47 (by decide +kernel) (by kernel_rfl) [] [] (fun n => by rw [Go.Proofs.Try.ntmps47]; exact Nat.le_of_ble_eq_true rfl) (fun x r _ _ => ⟨by simp [AV.noF, noFs, Cont.noF, recsC_noF], (fun c hc => by cases hc), Nat.le_refl _⟩) (fun x _ c hc => by cases hc) ?_
  intro x k h0 hk
  exact ralln_c  k h0 (fun r hr => hk r hr)
theorem ralln_at {avs : List AV} {H : List Chunk} {k : K}  (h0 : True) (ha : argsM H [] [.v (.pointer none)] avs) (hQ : ∀ r : Unit, (True) → k (.tup [.v (.slice none 0 0), .v (.int .i64 2)]) H) : CallP Go.Proofs.Try.prog 47 avs H k :=
  CallP.mk ⟨_, ralln_K.real, Con.spec ralln_K, (), [], ⟨h0, rfl, trivial, ha⟩, fun r hr => (numK_eq H.length (fun N => k (AV.ren (fren [] N) (.tup [.v (.slice none 0 0), .v (.int .i64 2)])) (putAll H [] []))).mpr (by simpa [putAll, AV.ren, rens, Cont.ren, recsC, recAV] using hQ r hr)⟩
theorem ralocn_c (k : K) (h0 : True) (hk : ∀ r : Unit, True → k (.tup [.v (.int .i64 0), .v (.int .i64 2)]) []) : evFunc tab [] [] Go.Proofs.Try.f48 [.v (.pointer none)] [] k := by
  repeat' (first
 | (with_reducible first | exact True.intro | apply And.intro | apply If_true | apply If_false | apply If_not)
 | ((with_reducible apply VC.mk); (first | trivial | omega | (simp only [inR]; omega) | (exact ⟨rfl, List.prefix_rfl⟩) | (refine ⟨rfl, rfl, rfl, ?_, rfl⟩; (simp; done)) | (focus (repeat' (first | exact True.intro | apply And.intro | rfl | exact Nat.le_of_ble_eq_true rfl)); done) | (simp [inR, Cont.cells]; done) | (simp [inR, Cont.cells]; omega)))
 | ((with_reducible apply If_dec) <;> intro hc <;> (try (exfalso; omega)))
 | ((with_reducible apply If_any) <;> intro hc)
 | ((with_reducible first | apply PF.mk | apply DrawP.mk); (focus kernel_rfl))
 | ((with_reducible apply Same.mk); (focus rfl); (first | exact trivial | exact rfl))
 | (intro cap hcap)
 | ((fail_if_success (with_reducible first | apply Fin.mk | apply CallP.mk | apply LoopP.mk | apply VC.mk | apply falseMk | apply Round.mk | apply LookP.mk | apply RangeP.mk | apply NextP.mk | apply EntryP.mk | apply Eq.symm)); conv => whnf))
  refine ralln_at trivial ⟨rfl, trivial⟩ ?_
  intro _ _
  repeat' (first
 | (with_reducible first | exact True.intro | apply And.intro | apply If_true | apply If_false | apply If_not)
 | ((with_reducible apply VC.mk); (first | trivial | omega | (simp only [inR]; omega) | (exact ⟨rfl, List.prefix_rfl⟩) | (refine ⟨rfl, rfl, rfl, ?_, rfl⟩; (simp; done)) | (focus (repeat' (first | exact True.intro | apply And.intro | rfl | exact Nat.le_of_ble_eq_true rfl)); done) | (simp [inR, Cont.cells]; done) | (simp [inR, Cont.cells]; omega)))
 | ((with_reducible apply If_dec) <;> intro hc <;> (try (exfalso; omega)))
 | ((with_reducible apply If_any) <;> intro hc)
 | ((with_reducible first | apply PF.mk | apply DrawP.mk); (focus kernel_rfl))
 | ((with_reducible apply Same.mk); (focus rfl); (first | exact trivial | exact rfl))
 | (intro cap hcap)
 | ((fail_if_success (with_reducible first | apply Fin.mk | apply CallP.mk | apply LoopP.mk | apply VC.mk | apply falseMk | apply Round.mk | apply LookP.mk | apply RangeP.mk | apply NextP.mk | apply EntryP.mk | apply Eq.symm)); conv => whnf))
  exact Fin.tp2 (hk () trivial)
def ralocnOk (x : Unit) : Prop := True
def ralocnRel (x : Unit) (r : Unit) : Prop := True
theorem ralocn_K : ConOk Go.Proofs.Try.prog 48 (Con.of (Unit) (Unit) (fun x => [.v (.pointer none)]) (fun _ => []) ralocnOk ralocnRel (fun _ r => .tup [.v (.int .i64 0), .v (.int .i64 2)]) (fun _ _ => [])) := by
  refine conOk_rel (T := tab) mix Go.Proofs.Try.func48 (by decide +kernel) (by kernel_rfl) [] [] (fun n => by rw [Go.Proofs.Try.ntmps48]; exact Nat.le_of_ble_eq_true rfl) (fun x r _ _ => ⟨by simp [AV.noF, noFs, Cont.noF, recsC_noF], (fun c hc => by cases hc), Nat.le_refl _⟩) (fun x _ c hc => by cases hc) ?_
  intro x k h0 hk
  exact ralocn_c  k h0 (fun r hr => hk r hr)
theorem ralocn_at {avs : List AV} {H : List Chunk} {k : K}  (h0 : True) (ha : argsM H [] [.v (.pointer none)] avs) (hQ : ∀ r : Unit, (True) → k (.tup [.v (.int .i64 0), .v (.int .i64 2)]) H) : CallP Go.Proofs.Try.prog 48 avs H k :=
  CallP.mk ⟨_, ralocn_K.real, Con.spec ralocn_K, (), [], ⟨h0, rfl, trivial, ha⟩, fun r hr => (numK_eq H.length (fun N => k (AV.ren (fren [] N) (.tup [.v (.int .i64 0), .v (.int .i64 2)])) (putAll H [] []))).mpr (by simpa [putAll, AV.ren, rens, Cont.ren, recsC, recAV] using hQ r hr)⟩
theorem rendsn_c (k : K) (h0 : True) (hk : ∀ r : Unit, True → k (.tup [.v (.int .i64 0), .v (.int .i64 0), .v (.int .i64 2)]) []) : evFunc tab [] [] Go.Proofs.Try.f49 [.v (.pointer none)] [] k := by
  repeat' (first
 | (with_reducible first | exact True.intro | apply And.intro | apply If_true | apply If_false | apply If_not)
 | ((with_reducible apply VC.mk); (first | trivial | omega | (simp only [inR]; omega) | (exact ⟨rfl, List.prefix_rfl⟩) | (refine ⟨rfl, rfl, rfl, ?_, rfl⟩; (simp; done)) | (focus (repeat' (first | exact True.intro | apply And.intro | rfl | exact Nat.le_of_ble_eq_true rfl)); done) | (simp [inR, Cont.cells]; done) | (simp [inR, Cont.cells]; omega)))
 | ((with_reducible apply If_dec) <;> intro hc <;> (try (exfalso; omega)))
 | ((with_reducible apply If_any) <;> intro hc)
 | ((with_reducible first | apply PF.mk | apply DrawP.mk); (focus kernel_rfl))
 | ((with_reducible apply Same.mk); (focus rfl); (first | exact trivial | exact rfl))
 | (intro cap hcap)
 | ((fail_if_success (with_reducible first | apply Fin.mk | apply CallP.mk | apply LoopP.mk | apply VC.mk | apply falseMk | apply Round.mk | apply LookP.mk | apply RangeP.mk | apply NextP.mk | apply EntryP.mk | apply Eq.symm)); conv => whnf))
  refine ralln_at trivial ⟨rfl, trivial⟩ ?_
  intro _ _
  repeat' (first
 | (with_reducible first | exact True.intro | apply And.intro | apply If_true | apply If_false | apply If_not)
 | ((with_reducible apply VC.mk); (first | trivial | omega | (simp only [inR]; omega) | (exact ⟨rfl, List.prefix_rfl⟩) | (refine ⟨rfl, rfl, rfl, ?_, rfl⟩; (simp; done)) | (focus (repeat' (first | exact True.intro | apply And.intro | rfl | exact Nat.le_of_ble_eq_true rfl)); done) | (simp [inR, Cont.cells]; done) | (simp [inR, Cont.cells]; omega)))
 | ((with_reducible apply If_dec) <;> intro hc <;> (try (exfalso; omega)))
 | ((with_reducible apply If_any) <;> intro hc)
 | ((with_reducible first | apply PF.mk | apply DrawP.mk); (focus kernel_rfl))
 | ((with_reducible apply Same.mk); (focus rfl); (first | exact trivial | exact rfl))
 | (intro cap hcap)
 | ((fail_if_success (with_reducible first | apply Fin.mk | apply CallP.mk | apply LoopP.mk | apply VC.mk | apply falseMk | apply Round.mk | apply LookP.mk | apply RangeP.mk | apply NextP.mk | apply EntryP.mk | apply Eq.symm)); conv => whnf))
  exact Fin.tp3 (hk () trivial)
def rendsnOk (x : Unit) : Prop := True
def rendsnRel (x : Unit) (r : Unit) : Prop := True
theorem rendsn_K : ConOk Go.Proofs.Try.prog 49 (Con.of (Unit) (Unit) (fun x => [.v (.pointer none)]) (fun _ => []) rendsnOk rendsnRel (fun _ r => .tup [.v (.int .i64 0), .v (.int .i64 0), .v (.int .i64 2)]) (fun _ _ => [])) := by
  refine conOk_rel (T := tab) mix Go.Proofs.Try.func49 (by decide +kernel) (by kernel_rfl) [] [] (fun n => by rw [Go.Proofs.Try.ntmps49]; exact Nat.le_of_ble_eq_true rfl) (fun x r _ _ => ⟨by simp [AV.noF, noFs, Cont.noF, recsC_noF], (fun c hc => by cases hc), Nat.le_refl _⟩) (fun x _ c hc => by cases hc) ?_
  intro x k h0 hk
  exact rendsn_c  k h0 (fun r hr => hk r hr)
theorem rendsn_at {avs : List AV} {H : List Chunk} {k : K}  (h0 : True) (ha : argsM H [] [.v (.pointer none)] avs) (hQ : ∀ r : Unit, (True) → k (.tup [.v (.int .i64 0), .v (.int .i64 0), .v (.int .i64 2)]) H) : CallP Go.Proofs.Try.prog 49 avs H k :=
  CallP.mk ⟨_, rendsn_K.real, Con.spec rendsn_K, (), [], ⟨h0, rfl, trivial, ha⟩, fun r hr => (numK_eq H.length (fun N => k (AV.ren (fren [] N) (.tup [.v (.int .i64 0), .v (.int .i64 0), .v (.int .i64 2)])) (putAll H [] []))).mpr (by simpa [putAll, AV.ren, rens, Cont.ren, recsC, recAV] using hQ r hr)⟩
theorem raddn_c (n d : Int) (k : K) (h0 : True) (hk : ∀ r : Unit, True → k (.tup [.v (.int .i64 0), .v (.int .i64 2)]) []) : evFunc tab [] [] Go.Proofs.Try.f50 [.v (.pointer none), .v (.int .i64 n), .v (.int .i64 d)] [] k := by
  repeat' (first
 | (with_reducible first | exact True.intro | apply And.intro | apply If_true | apply If_false | apply If_not)
 | ((with_reducible apply VC.mk); (first | trivial | omega | (simp only [inR]; omega) | (exact ⟨rfl, List.prefix_rfl⟩) | (refine ⟨rfl, rfl, rfl, ?_, rfl⟩; (simp; done)) | (focus (repeat' (first | exact True.intro | apply And.intro | rfl | exact Nat.le_of_ble_eq_true rfl)); done) | (simp [inR, Cont.cells]; done) | (simp [inR, Cont.cells]; omega)))
 | ((with_reducible apply If_dec) <;> intro hc <;> (try (exfalso; omega)))
 | ((with_reducible apply If_any) <;> intro hc)
 | ((with_reducible first | apply PF.mk | apply DrawP.mk); (focus kernel_rfl))
 | ((with_reducible apply Same.mk); (focus rfl); (first | exact trivial | exact rfl))
 | (intro cap hcap)
 | ((fail_if_success (with_reducible first | apply Fin.mk | apply CallP.mk | apply LoopP.mk | apply VC.mk | apply falseMk | apply Round.mk | apply LookP.mk | apply RangeP.mk | apply NextP.mk | apply EntryP.mk | apply Eq.symm)); conv => whnf))
  refine rgetn_at n trivial ⟨rfl, rfl, trivial⟩ ?_
  intro _ _
  repeat' (first
 | (with_reducible first | exact True.intro | apply And.intro | apply If_true | apply If_false | apply If_not)
 | ((with_reducible apply VC.mk); (first | trivial | omega | (simp only [inR]; omega) | (exact ⟨rfl, List.prefix_rfl⟩) | (refine ⟨rfl, rfl, rfl, ?_, rfl⟩; (simp; done)) | (focus (repeat' (first | exact True.intro | apply And.intro | rfl | exact Nat.le_of_ble_eq_true rfl)); done) | (simp [inR, Cont.cells]; done) | (simp [inR, Cont.cells]; omega)))
 | ((with_reducible apply If_dec) <;> intro hc <;> (try (exfalso; omega)))
 | ((with_reducible apply If_any) <;> intro hc)
 | ((with_reducible first | apply PF.mk | apply DrawP.mk); (focus kernel_rfl))
 | ((with_reducible apply Same.mk); (focus rfl); (first | exact trivial | exact rfl))
 | (intro cap hcap)
 | ((fail_if_success (with_reducible first | apply Fin.mk | apply CallP.mk | apply LoopP.mk | apply VC.mk | apply falseMk | apply Round.mk | apply LookP.mk | apply RangeP.mk | apply NextP.mk | apply EntryP.mk | apply Eq.symm)); conv => whnf))
  exact Fin.tp2 (hk () trivial)
def raddnOk (x : Int × Int) : Prop := True
def raddnRel (x : Int × Int) (r : Unit) : Prop := True
theorem raddn_K : ConOk Go.Proofs.Try.prog 50 (Con.of (Int × Int) (Unit) (fun x => [.v (.pointer none), .v (.int .i64 x.1), .v (.int .i64 x.2)]) (fun _ => []) raddnOk raddnRel (fun _ r => .tup [.v (.int .i64 0), .v (.int .i64 2)]) (fun _ _ => [])) := by
  refine conOk_rel (T := tab) mix Go.Proofs.Try.func50 (by decide +kernel) (by kernel_rfl) [] [] (fun n => by rw [Go.Proofs.Try.ntmps50]; exact Nat.le_of_ble_eq_true rfl) (fun x r _ _ => ⟨by simp [AV.noF, noFs, Cont.noF, recsC_noF], (fun c hc => by cases hc), Nat.le_refl _⟩) (fun x _ c hc => by cases hc) ?_
  intro x k h0 hk
  exact raddn_c x.1 x.2 k h0 (fun r hr => hk r hr)
theorem raddn_at {avs : List AV} {H : List Chunk} {k : K} (n : Int) (d : Int) (h0 : True) (ha : argsM H [] [.v (.pointer none), .v (.int .i64 n), .v (.int .i64 d)] avs) (hQ : ∀ r : Unit, (True) → k (.tup [.v (.int .i64 0), .v (.int .i64 2)]) H) : CallP Go.Proofs.Try.prog 50 avs H k :=
  CallP.mk ⟨_, raddn_K.real, Con.spec raddn_K, (n, d), [], ⟨h0, rfl, trivial, ha⟩, fun r hr => (numK_eq H.length (fun N => k (AV.ren (fren [] N) (.tup [.v (.int .i64 0), .v (.int .i64 2)])) (putAll H [] []))).mpr (by simpa [putAll, AV.ren, rens, Cont.ren, recsC, recAV] using hQ r hr)⟩
theorem rsetn_c (n d : Int) (k : K) (h0 : True) (hk : ∀ r : Unit, True → k (.v (.int .i64 2)) []) : evFunc tab [] [] Go.Proofs.Try.f53 [.v (.pointer none), .v (.int .i64 n), .v (.int .i64 d)] [] k := by
  repeat' (first
 | (with_reducible first | exact True.intro | apply And.intro | apply If_true | apply If_false | apply If_not)
 | ((with_reducible apply VC.mk); (first | trivial | omega | (simp only [inR]; omega) | (exact ⟨rfl, List.prefix_rfl⟩) | (refine ⟨rfl, rfl, rfl, ?_, rfl⟩; (simp; done)) | (focus (repeat' (first | exact True.intro | apply And.intro | rfl | exact Nat.le_of_ble_eq_true rfl)); done) | (simp [inR, Cont.cells]; done) | (simp [inR, Cont.cells]; omega)))
 | ((with_reducible apply If_dec) <;> intro hc <;> (try (exfalso; omega)))
 | ((with_reducible apply If_any) <;> intro hc)
 | ((with_reducible first | apply PF.mk | apply DrawP.mk); (focus kernel_rfl))
 | ((with_reducible apply Same.mk); (focus rfl); (first | exact trivial | exact rfl))
 | (intro cap hcap)
 | ((fail_if_success (with_reducible first | apply Fin.mk | apply CallP.mk | apply LoopP.mk | apply VC.mk | apply falseMk | apply Round.mk | apply LookP.mk | apply RangeP.mk | apply NextP.mk | apply EntryP.mk | apply Eq.symm)); conv => whnf))
  refine rinn_at n trivial ⟨rfl, rfl, trivial⟩ ?_
  intro _ _
  repeat' (first
 | (with_reducible first | exact True.intro | apply And.intro | apply If_true | apply If_false | apply If_not)
 | ((with_reducible apply VC.mk); (first | trivial | omega | (simp only [inR]; omega) | (exact ⟨rfl, List.prefix_rfl⟩) | (refine ⟨rfl, rfl, rfl, ?_, rfl⟩; (simp; done)) | (focus (repeat' (first | exact True.intro | apply And.intro | rfl | exact Nat.le_of_ble_eq_true rfl)); done) | (simp [inR, Cont.cells]; done) | (simp [inR, Cont.cells]; omega)))
 | ((with_reducible apply If_dec) <;> intro hc <;> (try (exfalso; omega)))
 | ((with_reducible apply If_any) <;> intro hc)
 | ((with_reducible first | apply PF.mk | apply DrawP.mk); (focus kernel_rfl))
 | ((with_reducible apply Same.mk); (focus rfl); (first | exact trivial | exact rfl))
 | (intro cap hcap)
 | ((fail_if_success (with_reducible first | apply Fin.mk | apply CallP.mk | apply LoopP.mk | apply VC.mk | apply falseMk | apply Round.mk | apply LookP.mk | apply RangeP.mk | apply NextP.mk | apply EntryP.mk | apply Eq.symm)); conv => whnf))
  exact Fin.vl (hk () trivial)
def rsetnOk (x : Int × Int) : Prop := True
def rsetnRel (x : Int × Int) (r : Unit) : Prop := True
theorem rsetn_K : ConOk Go.Proofs.Try.prog 53 (Con.of (Int × Int) (Unit) (fun x => [.v (.pointer none), .v (.int .i64 x.1), .v (.int .i64 x.2)]) (fun _ => []) rsetnOk rsetnRel (fun _ r => .v (.int .i64 2)) (fun _ _ => [])) := by
  refine conOk_rel (T := tab) mix Go.Proofs.Try.func53 (by decide +kernel) (by kernel_rfl) [] [] (fun n => by rw [Go.Proofs.Try.ntmps53]; exact Nat.le_of_ble_eq_true rfl) (fun x r _ _ => ⟨by simp [AV.noF, noFs, Cont.noF, recsC_noF], (fun c hc => by cases hc), Nat.le_refl _⟩) (fun x _ c hc => by cases hc) ?_
  intro x k h0 hk
  exact rsetn_c x.1 x.2 k h0 (fun r hr => hk r hr)
theorem rsetn_at {avs : List AV} {H : List Chunk} {k : K} (n : Int) (d : Int) (h0 : True) (ha : argsM H [] [.v (.pointer none), .v (.int .i64 n), .v (.int .i64 d)] avs) (hQ : ∀ r : Unit, (True) → k (.v (.int .i64 2)) H) : CallP Go.Proofs.Try.prog 53 avs H k :=
  CallP.mk ⟨_, rsetn_K.real, Con.spec rsetn_K, (n, d), [], ⟨h0, rfl, trivial, ha⟩, fun r hr => (numK_eq H.length (fun N => k (AV.ren (fren [] N) (.v (.int .i64 2))) (putAll H [] []))).mpr (by simpa [putAll, AV.ren, rens, Cont.ren, recsC, recAV] using hQ r hr)⟩
def rfb (h : HD) (i : Nat) : Chunk := .blk 163 (.lst [.v (.int .i64 h.bits), .v (.int .i64 h.size), .v (.int .i64 h.host), .v (.int .i64 h.jr), .v (.bool h.backed), .p i 0 1 0]) 6
theorem rfb_ren (h : HD) (i : Nat) (f : Nat → Nat) : (rfb h i).ren f = rfb h (f i) := rfl
set_option maxHeartbeats 8000000 in
theorem rnew_c (t : TR) (j : JR) (s : DF) (h : HD) (k : K) (h0 : hR h) (hk1 : h.checkV ≠ 0 → k (.tup [.v (.pointer none), .v (.int .i64 h.checkV)]) (tpre t j s)) (hk2 : h.checkV = 0 → k (.tup [.p 5 0 1 0, .v (.int .i64 0)]) (tpre t j s ++ [rfb h 0])) : evFunc tab [] [] Go.Proofs.Try.f45 [.agg [.v (.int .i64 h.bits), .v (.int .i64 h.size), .v (.int .i64 h.host), .v (.int .i64 h.jr), .v (.bool h.backed)], .p 0 0 1 0] (tpre t j s) k := by
  repeat' (first
 | (with_reducible first | exact True.intro | apply And.intro | apply If_true | apply If_false | apply If_not)
 | ((with_reducible apply VC.mk); (first | trivial | omega | (simp only [inR]; omega) | (exact ⟨rfl, List.prefix_rfl⟩) | (refine ⟨rfl, rfl, rfl, ?_, rfl⟩; (simp; done)) | (focus (repeat' (first | exact True.intro | apply And.intro | rfl | exact Nat.le_of_ble_eq_true rfl)); done) | (simp [inR, Cont.cells]; done) | (simp [inR, Cont.cells]; omega)))
 | ((with_reducible apply If_dec) <;> intro hc <;> (try (exfalso; omega)))
 | ((with_reducible apply If_any) <;> intro hc)
 | ((with_reducible first | apply PF.mk | apply DrawP.mk); (focus kernel_rfl))
 | ((with_reducible apply Same.mk); (focus rfl); (first | exact trivial | exact rfl))
 | (intro cap hcap)
 | ((fail_if_success (with_reducible first | apply Fin.mk | apply CallP.mk | apply LoopP.mk | apply VC.mk | apply falseMk | apply Round.mk | apply LookP.mk | apply RangeP.mk | apply NextP.mk | apply EntryP.mk | apply Eq.symm)); conv => whnf))
  refine hcheck_at h h0 ⟨⟨rfl, rfl, rfl, rfl, rfl, trivial⟩, trivial⟩ ?_
  rintro r rfl
  repeat' (first
 | (with_reducible first | exact True.intro | apply And.intro | apply If_true | apply If_false | apply If_not)
 | ((with_reducible apply VC.mk); (first | trivial | omega | (simp only [inR]; omega) | (exact ⟨rfl, List.prefix_rfl⟩) | (refine ⟨rfl, rfl, rfl, ?_, rfl⟩; (simp; done)) | (focus (repeat' (first | exact True.intro | apply And.intro | rfl | exact Nat.le_of_ble_eq_true rfl)); done) | (simp [inR, Cont.cells]; done) | (simp [inR, Cont.cells]; omega)))
 | ((with_reducible apply If_dec) <;> intro hc <;> (try (exfalso; omega)))
 | ((with_reducible apply If_any) <;> intro hc)
 | ((with_reducible first | apply PF.mk | apply DrawP.mk); (focus kernel_rfl))
 | ((with_reducible apply Same.mk); (focus rfl); (first | exact trivial | exact rfl))
 | (intro cap hcap)
 | ((fail_if_success (with_reducible first | apply Fin.mk | apply CallP.mk | apply LoopP.mk | apply VC.mk | apply falseMk | apply Round.mk | apply LookP.mk | apply RangeP.mk | apply NextP.mk | apply EntryP.mk | apply Eq.symm)); conv => whnf))
  · exact T5.fin rfl rfl rfl rfl rfl rfl (hk1 hc)
  · refine Fin.ren [0, 1, 2, 3, 4, 6] [] (.tup [.p 5 0 1 0, .v (.int .i64 0)]) (tpre t j s ++ [rfb h 0]) rfl rfl trivial (T5.leX rfl rfl rfl rfl rfl rfl rfl rfl rfl rfl ⟨⟨VC.mk ⟨rfl, rfl⟩, VC.mk rfl, VC.mk rfl, VC.mk rfl, VC.mk rfl, VC.mk rfl, VC.mk ⟨rfl, rfl, rfl, rfl⟩, trivial⟩, trivial⟩) ⟨VC.mk ⟨rfl, rfl, rfl, rfl⟩, VC.mk rfl, trivial⟩ (hk2 (by omega))
theorem rnew_K : ConOk Go.Proofs.Try.prog 45 ⟨TR × JR × DF × HD, fun x => [.agg [.v (.int .i64 x.2.2.2.bits), .v (.int .i64 x.2.2.2.size), .v (.int .i64 x.2.2.2.host), .v (.int .i64 x.2.2.2.jr), .v (.bool x.2.2.2.backed)], .p 0 0 1 0], fun x => tpre x.1 x.2.1 x.2.2.1, fun x => hR x.2.2.2, fun x k => (x.2.2.2.checkV ≠ 0 → k (.tup [.v (.pointer none), .v (.int .i64 (x.2.2.2.checkV))]) (tpre x.1 x.2.1 x.2.2.1)) ∧ (x.2.2.2.checkV = 0 → k (.tup [.p 5 0 1 0, .v (.int .i64 0)]) (tpre x.1 x.2.1 x.2.2.1 ++ [rfb x.2.2.2 0]))⟩ := by
  refine conOk_fin (T := tab) mix Go.Proofs.Try.func45 (by decide +kernel) (by kernel_rfl) [] [] ?_ ?_ ?_ ?_
  · intro x h0; rw [Go.Proofs.Try.ntmps45]; exact Nat.le_of_ble_eq_true rfl
  · intro x k h0 hk
    refine ⟨fun h => ⟨hk.1 h, T5.good (by simp [AV.noF, noFs])⟩, fun h => ⟨hk.2 h, ⟨by simp [AV.noF, noFs], fun c hc => ?_, ?_⟩⟩⟩
    · rcases List.mem_append.1 hc with hc | hc
      · exact (T5.good (v := .v (.bool true)) trivial).2.1 c hc
      · simp at hc; subst hc; exact .blk ⟨trivial, trivial, trivial, trivial, trivial, trivial, trivial⟩
    · show 5 ≤ (tpre _ _ _ ++ [_]).length
      exact Nat.le_of_ble_eq_true rfl
  · intro x h0; exact T5.nd
  · intro x k h0 hk; exact rnew_c x.1 x.2.1 x.2.2.1 x.2.2.2 _ h0 (fun h => Fin.same (hk.1 h)) (fun h => Fin.same (hk.2 h))
theorem rnew_at {avs : List AV} {H : List Chunk} {k : K} (t : TR) (j : JR) (s : DF) (h : HD) (ta tb tc td te : Nat) (h0 : hR h) (hn : nodupN [ta, tb, tc, td, te] = true) (ha0 : nth H ta = some (t.c0 td tb tc)) (hb0 : nth H tb = some t.c1) (hc0 : nth H tc = some t.c2) (hd0 : nth H td = some (j.blk te)) (he0 : nth H te = some s.pk) (ha : argsM H [ta, tb, tc, td, te] [.agg [.v (.int .i64 h.bits), .v (.int .i64 h.size), .v (.int .i64 h.host), .v (.int .i64 h.jr), .v (.bool h.backed)], .p 0 0 1 0] avs)
    (hQ1 : h.checkV ≠ 0 → k (.tup [.v (.pointer none), .v (.int .i64 (h.checkV))]) (((((H.set ta (t.c0 td tb tc)).set tb t.c1).set tc t.c2).set td (j.blk te)).set te s.pk))
    (hQ2 : h.checkV = 0 → k (.tup [.p H.length 0 1 0, .v (.int .i64 0)]) ((((((H.set ta (t.c0 td tb tc)).set tb t.c1).set tc t.c2).set td (j.blk te)).set te s.pk) ++ [rfb h ta])) : CallP Go.Proofs.Try.prog 45 avs H k :=
  CallP.mk ⟨_, rnew_K.real, Con.spec rnew_K, (t, j, s, h), [ta, tb, tc, td, te], ⟨h0, hn, ⟨ha0, hb0.trans (congrArg some (TR.c1_ren t _).symm), hc0, hd0, he0, trivial⟩, ha⟩, fun hh => (numK_eq _ _).mpr (by simpa [tpre, putAll, TR.c0_ren, TR.c1_ren, TR.c2_ren, JR.blk_ren, DF.pk_ren, AV.ren, rens, fren, nth] using hQ1 hh), fun hh => (numK_eq _ _).mpr (by simpa [tpre, putAll, TR.c0_ren, TR.c1_ren, TR.c2_ren, JR.blk_ren, DF.pk_ren, rfb_ren, AV.ren, rens, fren, nth] using hQ2 hh)⟩
end Go.Proofs.Ytjccknmgmommcaa.Sx

