import Derived.Test.YtjccknmgmommcaaSxL3
set_option linter.unusedVariables false
set_option linter.unusedSimpArgs false
set_option maxRecDepth 10000
namespace Go.Proofs.Ytjccknmgmommcaa.Sx
open Go.RowKit Go.Proofs.Ytjccknmgmommcaa.Sx.Tb
theorem nask_c  (k : K) (hk : k (.v (.int .i64 2)) []) : evFunc tab [] p86 Go.Proofs.Try.f86 [.v (.pointer none)] [] k := by
  repeat' (first
    | (with_reducible exact True.intro)
    | (with_reducible apply And.intro)
    | ((with_reducible apply VC.mk); (first | trivial | omega | (simp only [inR]; omega) | (exact ⟨rfl, List.prefix_rfl⟩) | (refine ⟨rfl, rfl, rfl, ?_, rfl⟩; (simp; done)) | (focus (repeat' (first | exact True.intro | apply And.intro | rfl | exact Nat.le_of_ble_eq_true rfl)); done) | (simp [inR, Cont.cells]; done) | (simp [inR, Cont.cells]; omega)))
    | (with_reducible apply If_true)
    | (with_reducible apply If_false)
    | ((with_reducible apply If_dec) <;> intro hc <;> (try (exfalso; omega)))
    | (with_reducible apply If_not)
    | ((with_reducible apply If_any) <;> intro hc)
    | ((with_reducible apply PF.mk); (focus kernel_rfl))
    | ((with_reducible apply DrawP.mk); (focus kernel_rfl))
    | ((with_reducible apply Same.mk); (focus rfl); (first | exact trivial | exact rfl))
    | (intro cap hcap)
    | ((fail_if_success (with_reducible apply Fin.mk)); (fail_if_success (with_reducible apply CallP.mk)); (fail_if_success (with_reducible apply LoopP.mk)); (fail_if_success (with_reducible apply VC.mk)); (fail_if_success (with_reducible apply falseMk)); (fail_if_success (with_reducible apply Round.mk)); (fail_if_success (with_reducible apply Eq.symm)); conv => whnf))
  exact Fin.same hk
theorem nask_K : ConOk Go.Proofs.Try.prog 86 (Con.fn (Unit) (fun _ => [.v (.pointer none)]) (fun _ => []) (fun _ => True) (fun _ => .v (.int .i64 2)) (fun _ => [])) := by
  refine conOk_fn (T := tab) mix Go.Proofs.Try.func86 (by decide +kernel) (by kernel_rfl) [] p86 ?_ ?_ ?_ ?_
  · rintro _; rw [Go.Proofs.Try.ntmps86]; exact Nat.le_of_ble_eq_true rfl
  · rintro _ _; exact ⟨by simp [AV.noF, noFs, Cont.noF], (fun c hc => by cases hc), Nat.le_refl _⟩
  · rintro _ _ c hc; cases hc
  · rintro _ k _ hk; exact nask_c  k hk
theorem nask_at {avs : List AV} {H : List Chunk} {k : K}  (ha : argsM H [] [.v (.pointer none)] avs) (h : k (.v (.int .i64 2)) H) : CallP Go.Proofs.Try.prog 86 avs H k :=
  CallP.mk ⟨_, nask_K.real, Con.spec nask_K, (), [], ⟨trivial, rfl, trivial, ha⟩, (numK_eq H.length (fun N => k (AV.ren (fren [] N) (.v (.int .i64 2))) (putAll H [] []))).mpr (by simpa [putAll, AV.ren, rens] using h)⟩
theorem nread_c (at_ : Int) (n : Int) (k : K) (hk : k (.tup [.v (.slice none 0 0), .v (.int .i64 2)]) []) : evFunc tab [] [] Go.Proofs.Try.f27 [.v (.pointer none), .v (.int .i64 at_), .v (.int .i64 n)] [] k := by
  repeat' (first
    | (with_reducible exact True.intro)
    | (with_reducible apply And.intro)
    | ((with_reducible apply VC.mk); (first | trivial | omega | (simp only [inR]; omega) | (exact ⟨rfl, List.prefix_rfl⟩) | (refine ⟨rfl, rfl, rfl, ?_, rfl⟩; (simp; done)) | (focus (repeat' (first | exact True.intro | apply And.intro | rfl | exact Nat.le_of_ble_eq_true rfl)); done) | (simp [inR, Cont.cells]; done) | (simp [inR, Cont.cells]; omega)))
    | (with_reducible apply If_true)
    | (with_reducible apply If_false)
    | ((with_reducible apply If_dec) <;> intro hc <;> (try (exfalso; omega)))
    | (with_reducible apply If_not)
    | ((with_reducible apply If_any) <;> intro hc)
    | ((with_reducible apply PF.mk); (focus kernel_rfl))
    | ((with_reducible apply DrawP.mk); (focus kernel_rfl))
    | ((with_reducible apply Same.mk); (focus rfl); (first | exact trivial | exact rfl))
    | (intro cap hcap)
    | ((fail_if_success (with_reducible apply Fin.mk)); (fail_if_success (with_reducible apply CallP.mk)); (fail_if_success (with_reducible apply LoopP.mk)); (fail_if_success (with_reducible apply VC.mk)); (fail_if_success (with_reducible apply falseMk)); (fail_if_success (with_reducible apply Round.mk)); (fail_if_success (with_reducible apply Eq.symm)); conv => whnf))
  refine nask_at ⟨rfl, trivial⟩ ?_
  repeat' (first
    | (with_reducible exact True.intro)
    | (with_reducible apply And.intro)
    | ((with_reducible apply VC.mk); (first | trivial | omega | (simp only [inR]; omega) | (exact ⟨rfl, List.prefix_rfl⟩) | (refine ⟨rfl, rfl, rfl, ?_, rfl⟩; (simp; done)) | (focus (repeat' (first | exact True.intro | apply And.intro | rfl | exact Nat.le_of_ble_eq_true rfl)); done) | (simp [inR, Cont.cells]; done) | (simp [inR, Cont.cells]; omega)))
    | (with_reducible apply If_true)
    | (with_reducible apply If_false)
    | ((with_reducible apply If_dec) <;> intro hc <;> (try (exfalso; omega)))
    | (with_reducible apply If_not)
    | ((with_reducible apply If_any) <;> intro hc)
    | ((with_reducible apply PF.mk); (focus kernel_rfl))
    | ((with_reducible apply DrawP.mk); (focus kernel_rfl))
    | ((with_reducible apply Same.mk); (focus rfl); (first | exact trivial | exact rfl))
    | (intro cap hcap)
    | ((fail_if_success (with_reducible apply Fin.mk)); (fail_if_success (with_reducible apply CallP.mk)); (fail_if_success (with_reducible apply LoopP.mk)); (fail_if_success (with_reducible apply VC.mk)); (fail_if_success (with_reducible apply falseMk)); (fail_if_success (with_reducible apply Round.mk)); (fail_if_success (with_reducible apply Eq.symm)); conv => whnf))
  exact Fin.same hk
theorem nread_K : ConOk Go.Proofs.Try.prog 27 (Con.fn (Int × Int) (fun (at_, n) => [.v (.pointer none), .v (.int .i64 at_), .v (.int .i64 n)]) (fun _ => []) (fun _ => True) (fun (at_, n) => .tup [.v (.slice none 0 0), .v (.int .i64 2)]) (fun _ => [])) := by
  refine conOk_fn (T := tab) mix Go.Proofs.Try.func27 (by decide +kernel) (by kernel_rfl) [] [] ?_ ?_ ?_ ?_
  · rintro ⟨at_, n⟩; rw [Go.Proofs.Try.ntmps27]; exact Nat.le_of_ble_eq_true rfl
  · rintro ⟨at_, n⟩ _; exact ⟨by simp [AV.noF, noFs, Cont.noF], (fun c hc => by cases hc), Nat.le_refl _⟩
  · rintro ⟨at_, n⟩ _ c hc; cases hc
  · rintro ⟨at_, n⟩ k _ hk; exact nread_c at_ n k hk
theorem nread_at {avs : List AV} {H : List Chunk} {k : K} (at_ : Int) (n : Int) (ha : argsM H [] [.v (.pointer none), .v (.int .i64 at_), .v (.int .i64 n)] avs) (h : k (.tup [.v (.slice none 0 0), .v (.int .i64 2)]) H) : CallP Go.Proofs.Try.prog 27 avs H k :=
  CallP.mk ⟨_, nread_K.real, Con.spec nread_K, (at_, n), [], ⟨trivial, rfl, trivial, ha⟩, (numK_eq H.length (fun N => k (AV.ren (fren [] N) (.tup [.v (.slice none 0 0), .v (.int .i64 2)])) (putAll H [] []))).mpr (by simpa [putAll, AV.ren, rens] using h)⟩
theorem nwrite_c (at_ : Int) (xs : List Int) (k : K) (hk : k (.v (.int .i64 2)) []) : evFunc tab [] p19 Go.Proofs.Try.f19 [.v (.pointer none), .v (.int .i64 at_), .im false 1 xs.length (.ints .u8 xs)] [] k := by
  repeat' (first
    | (with_reducible exact True.intro)
    | (with_reducible apply And.intro)
    | ((with_reducible apply VC.mk); (first | trivial | omega | (simp only [inR]; omega) | (exact ⟨rfl, List.prefix_rfl⟩) | (refine ⟨rfl, rfl, rfl, ?_, rfl⟩; (simp; done)) | (focus (repeat' (first | exact True.intro | apply And.intro | rfl | exact Nat.le_of_ble_eq_true rfl)); done) | (simp [inR, Cont.cells]; done) | (simp [inR, Cont.cells]; omega)))
    | (with_reducible apply If_true)
    | (with_reducible apply If_false)
    | ((with_reducible apply If_dec) <;> intro hc <;> (try (exfalso; omega)))
    | (with_reducible apply If_not)
    | ((with_reducible apply If_any) <;> intro hc)
    | ((with_reducible apply PF.mk); (focus kernel_rfl))
    | ((with_reducible apply DrawP.mk); (focus kernel_rfl))
    | ((with_reducible apply Same.mk); (focus rfl); (first | exact trivial | exact rfl))
    | (intro cap hcap)
    | ((fail_if_success (with_reducible apply Fin.mk)); (fail_if_success (with_reducible apply CallP.mk)); (fail_if_success (with_reducible apply LoopP.mk)); (fail_if_success (with_reducible apply VC.mk)); (fail_if_success (with_reducible apply falseMk)); (fail_if_success (with_reducible apply Round.mk)); (fail_if_success (with_reducible apply Eq.symm)); conv => whnf))
  refine nask_at ⟨rfl, trivial⟩ ?_
  repeat' (first
    | (with_reducible exact True.intro)
    | (with_reducible apply And.intro)
    | ((with_reducible apply VC.mk); (first | trivial | omega | (simp only [inR]; omega) | (exact ⟨rfl, List.prefix_rfl⟩) | (refine ⟨rfl, rfl, rfl, ?_, rfl⟩; (simp; done)) | (focus (repeat' (first | exact True.intro | apply And.intro | rfl | exact Nat.le_of_ble_eq_true rfl)); done) | (simp [inR, Cont.cells]; done) | (simp [inR, Cont.cells]; omega)))
    | (with_reducible apply If_true)
    | (with_reducible apply If_false)
    | ((with_reducible apply If_dec) <;> intro hc <;> (try (exfalso; omega)))
    | (with_reducible apply If_not)
    | ((with_reducible apply If_any) <;> intro hc)
    | ((with_reducible apply PF.mk); (focus kernel_rfl))
    | ((with_reducible apply DrawP.mk); (focus kernel_rfl))
    | ((with_reducible apply Same.mk); (focus rfl); (first | exact trivial | exact rfl))
    | (intro cap hcap)
    | ((fail_if_success (with_reducible apply Fin.mk)); (fail_if_success (with_reducible apply CallP.mk)); (fail_if_success (with_reducible apply LoopP.mk)); (fail_if_success (with_reducible apply VC.mk)); (fail_if_success (with_reducible apply falseMk)); (fail_if_success (with_reducible apply Round.mk)); (fail_if_success (with_reducible apply Eq.symm)); conv => whnf))
  exact Fin.same hk
theorem nwrite_K : ConOk Go.Proofs.Try.prog 19 (Con.fn (Int × List Int) (fun (at_, xs) => [.v (.pointer none), .v (.int .i64 at_), .im false 1 xs.length (.ints .u8 xs)]) (fun _ => []) (fun _ => True) (fun (at_, xs) => .v (.int .i64 2)) (fun _ => [])) := by
  refine conOk_fn (T := tab) mix Go.Proofs.Try.func19 (by decide +kernel) (by kernel_rfl) [] p19 ?_ ?_ ?_ ?_
  · rintro ⟨at_, xs⟩; rw [Go.Proofs.Try.ntmps19]; exact Nat.le_of_ble_eq_true rfl
  · rintro ⟨at_, xs⟩ _; exact ⟨by simp [AV.noF, noFs, Cont.noF], (fun c hc => by cases hc), Nat.le_refl _⟩
  · rintro ⟨at_, xs⟩ _ c hc; cases hc
  · rintro ⟨at_, xs⟩ k _ hk; exact nwrite_c at_ xs k hk
theorem nwrite_at {avs : List AV} {H : List Chunk} {k : K} (at_ : Int) (xs : List Int) (ha : argsM H [] [.v (.pointer none), .v (.int .i64 at_), .im false 1 xs.length (.ints .u8 xs)] avs) (h : k (.v (.int .i64 2)) H) : CallP Go.Proofs.Try.prog 19 avs H k :=
  CallP.mk ⟨_, nwrite_K.real, Con.spec nwrite_K, (at_, xs), [], ⟨trivial, rfl, trivial, ha⟩, (numK_eq H.length (fun N => k (AV.ren (fren [] N) (.v (.int .i64 2))) (putAll H [] []))).mpr (by simpa [putAll, AV.ren, rens] using h)⟩
theorem ntrunc_c (n : Int) (k : K) (hk : k (.v (.int .i64 2)) []) : evFunc tab [] p28 Go.Proofs.Try.f28 [.v (.pointer none), .v (.int .i64 n)] [] k := by
  repeat' (first
    | (with_reducible exact True.intro)
    | (with_reducible apply And.intro)
    | ((with_reducible apply VC.mk); (first | trivial | omega | (simp only [inR]; omega) | (exact ⟨rfl, List.prefix_rfl⟩) | (refine ⟨rfl, rfl, rfl, ?_, rfl⟩; (simp; done)) | (focus (repeat' (first | exact True.intro | apply And.intro | rfl | exact Nat.le_of_ble_eq_true rfl)); done) | (simp [inR, Cont.cells]; done) | (simp [inR, Cont.cells]; omega)))
    | (with_reducible apply If_true)
    | (with_reducible apply If_false)
    | ((with_reducible apply If_dec) <;> intro hc <;> (try (exfalso; omega)))
    | (with_reducible apply If_not)
    | ((with_reducible apply If_any) <;> intro hc)
    | ((with_reducible apply PF.mk); (focus kernel_rfl))
    | ((with_reducible apply DrawP.mk); (focus kernel_rfl))
    | ((with_reducible apply Same.mk); (focus rfl); (first | exact trivial | exact rfl))
    | (intro cap hcap)
    | ((fail_if_success (with_reducible apply Fin.mk)); (fail_if_success (with_reducible apply CallP.mk)); (fail_if_success (with_reducible apply LoopP.mk)); (fail_if_success (with_reducible apply VC.mk)); (fail_if_success (with_reducible apply falseMk)); (fail_if_success (with_reducible apply Round.mk)); (fail_if_success (with_reducible apply Eq.symm)); conv => whnf))
  refine nask_at ⟨rfl, trivial⟩ ?_
  repeat' (first
    | (with_reducible exact True.intro)
    | (with_reducible apply And.intro)
    | ((with_reducible apply VC.mk); (first | trivial | omega | (simp only [inR]; omega) | (exact ⟨rfl, List.prefix_rfl⟩) | (refine ⟨rfl, rfl, rfl, ?_, rfl⟩; (simp; done)) | (focus (repeat' (first | exact True.intro | apply And.intro | rfl | exact Nat.le_of_ble_eq_true rfl)); done) | (simp [inR, Cont.cells]; done) | (simp [inR, Cont.cells]; omega)))
    | (with_reducible apply If_true)
    | (with_reducible apply If_false)
    | ((with_reducible apply If_dec) <;> intro hc <;> (try (exfalso; omega)))
    | (with_reducible apply If_not)
    | ((with_reducible apply If_any) <;> intro hc)
    | ((with_reducible apply PF.mk); (focus kernel_rfl))
    | ((with_reducible apply DrawP.mk); (focus kernel_rfl))
    | ((with_reducible apply Same.mk); (focus rfl); (first | exact trivial | exact rfl))
    | (intro cap hcap)
    | ((fail_if_success (with_reducible apply Fin.mk)); (fail_if_success (with_reducible apply CallP.mk)); (fail_if_success (with_reducible apply LoopP.mk)); (fail_if_success (with_reducible apply VC.mk)); (fail_if_success (with_reducible apply falseMk)); (fail_if_success (with_reducible apply Round.mk)); (fail_if_success (with_reducible apply Eq.symm)); conv => whnf))
  exact Fin.same hk
theorem ntrunc_K : ConOk Go.Proofs.Try.prog 28 (Con.fn (Int) (fun n => [.v (.pointer none), .v (.int .i64 n)]) (fun _ => []) (fun _ => True) (fun n => .v (.int .i64 2)) (fun _ => [])) := by
  refine conOk_fn (T := tab) mix Go.Proofs.Try.func28 (by decide +kernel) (by kernel_rfl) [] p28 ?_ ?_ ?_ ?_
  · rintro n; rw [Go.Proofs.Try.ntmps28]; exact Nat.le_of_ble_eq_true rfl
  · rintro n _; exact ⟨by simp [AV.noF, noFs, Cont.noF], (fun c hc => by cases hc), Nat.le_refl _⟩
  · rintro n _ c hc; cases hc
  · rintro n k _ hk; exact ntrunc_c n k hk
theorem ntrunc_at {avs : List AV} {H : List Chunk} {k : K} (n : Int) (ha : argsM H [] [.v (.pointer none), .v (.int .i64 n)] avs) (h : k (.v (.int .i64 2)) H) : CallP Go.Proofs.Try.prog 28 avs H k :=
  CallP.mk ⟨_, ntrunc_K.real, Con.spec ntrunc_K, n, [], ⟨trivial, rfl, trivial, ha⟩, (numK_eq H.length (fun N => k (AV.ren (fren [] N) (.v (.int .i64 2))) (putAll H [] []))).mpr (by simpa [putAll, AV.ren, rens] using h)⟩
theorem nflush_c  (k : K) (hk : k (.v (.int .i64 2)) []) : evFunc tab [] [] Go.Proofs.Try.f22 [.v (.pointer none)] [] k := by
  repeat' (first
    | (with_reducible exact True.intro)
    | (with_reducible apply And.intro)
    | ((with_reducible apply VC.mk); (first | trivial | omega | (simp only [inR]; omega) | (exact ⟨rfl, List.prefix_rfl⟩) | (refine ⟨rfl, rfl, rfl, ?_, rfl⟩; (simp; done)) | (focus (repeat' (first | exact True.intro | apply And.intro | rfl | exact Nat.le_of_ble_eq_true rfl)); done) | (simp [inR, Cont.cells]; done) | (simp [inR, Cont.cells]; omega)))
    | (with_reducible apply If_true)
    | (with_reducible apply If_false)
    | ((with_reducible apply If_dec) <;> intro hc <;> (try (exfalso; omega)))
    | (with_reducible apply If_not)
    | ((with_reducible apply If_any) <;> intro hc)
    | ((with_reducible apply PF.mk); (focus kernel_rfl))
    | ((with_reducible apply DrawP.mk); (focus kernel_rfl))
    | ((with_reducible apply Same.mk); (focus rfl); (first | exact trivial | exact rfl))
    | (intro cap hcap)
    | ((fail_if_success (with_reducible apply Fin.mk)); (fail_if_success (with_reducible apply CallP.mk)); (fail_if_success (with_reducible apply LoopP.mk)); (fail_if_success (with_reducible apply VC.mk)); (fail_if_success (with_reducible apply falseMk)); (fail_if_success (with_reducible apply Round.mk)); (fail_if_success (with_reducible apply Eq.symm)); conv => whnf))
  refine nask_at ⟨rfl, trivial⟩ ?_
  repeat' (first
    | (with_reducible exact True.intro)
    | (with_reducible apply And.intro)
    | ((with_reducible apply VC.mk); (first | trivial | omega | (simp only [inR]; omega) | (exact ⟨rfl, List.prefix_rfl⟩) | (refine ⟨rfl, rfl, rfl, ?_, rfl⟩; (simp; done)) | (focus (repeat' (first | exact True.intro | apply And.intro | rfl | exact Nat.le_of_ble_eq_true rfl)); done) | (simp [inR, Cont.cells]; done) | (simp [inR, Cont.cells]; omega)))
    | (with_reducible apply If_true)
    | (with_reducible apply If_false)
    | ((with_reducible apply If_dec) <;> intro hc <;> (try (exfalso; omega)))
    | (with_reducible apply If_not)
    | ((with_reducible apply If_any) <;> intro hc)
    | ((with_reducible apply PF.mk); (focus kernel_rfl))
    | ((with_reducible apply DrawP.mk); (focus kernel_rfl))
    | ((with_reducible apply Same.mk); (focus rfl); (first | exact trivial | exact rfl))
    | (intro cap hcap)
    | ((fail_if_success (with_reducible apply Fin.mk)); (fail_if_success (with_reducible apply CallP.mk)); (fail_if_success (with_reducible apply LoopP.mk)); (fail_if_success (with_reducible apply VC.mk)); (fail_if_success (with_reducible apply falseMk)); (fail_if_success (with_reducible apply Round.mk)); (fail_if_success (with_reducible apply Eq.symm)); conv => whnf))
  exact Fin.same hk
theorem nflush_K : ConOk Go.Proofs.Try.prog 22 (Con.fn (Unit) (fun _ => [.v (.pointer none)]) (fun _ => []) (fun _ => True) (fun _ => .v (.int .i64 2)) (fun _ => [])) := by
  refine conOk_fn (T := tab) mix Go.Proofs.Try.func22 (by decide +kernel) (by kernel_rfl) [] [] ?_ ?_ ?_ ?_
  · rintro _; rw [Go.Proofs.Try.ntmps22]; exact Nat.le_of_ble_eq_true rfl
  · rintro _ _; exact ⟨by simp [AV.noF, noFs, Cont.noF], (fun c hc => by cases hc), Nat.le_refl _⟩
  · rintro _ _ c hc; cases hc
  · rintro _ k _ hk; exact nflush_c  k hk
theorem nflush_at {avs : List AV} {H : List Chunk} {k : K}  (ha : argsM H [] [.v (.pointer none)] avs) (h : k (.v (.int .i64 2)) H) : CallP Go.Proofs.Try.prog 22 avs H k :=
  CallP.mk ⟨_, nflush_K.real, Con.spec nflush_K, (), [], ⟨trivial, rfl, trivial, ha⟩, (numK_eq H.length (fun N => k (AV.ren (fren [] N) (.v (.int .i64 2))) (putAll H [] []))).mpr (by simpa [putAll, AV.ren, rens] using h)⟩
theorem nlen_c  (k : K) (hk : k (.v (.int .i64 0)) []) : evFunc tab [] [] Go.Proofs.Try.f31 [.v (.pointer none)] [] k := by
  repeat' (first
    | (with_reducible exact True.intro)
    | (with_reducible apply And.intro)
    | ((with_reducible apply VC.mk); (first | trivial | omega | (simp only [inR]; omega) | (exact ⟨rfl, List.prefix_rfl⟩) | (refine ⟨rfl, rfl, rfl, ?_, rfl⟩; (simp; done)) | (focus (repeat' (first | exact True.intro | apply And.intro | rfl | exact Nat.le_of_ble_eq_true rfl)); done) | (simp [inR, Cont.cells]; done) | (simp [inR, Cont.cells]; omega)))
    | (with_reducible apply If_true)
    | (with_reducible apply If_false)
    | ((with_reducible apply If_dec) <;> intro hc <;> (try (exfalso; omega)))
    | (with_reducible apply If_not)
    | ((with_reducible apply If_any) <;> intro hc)
    | ((with_reducible apply PF.mk); (focus kernel_rfl))
    | ((with_reducible apply DrawP.mk); (focus kernel_rfl))
    | ((with_reducible apply Same.mk); (focus rfl); (first | exact trivial | exact rfl))
    | (intro cap hcap)
    | ((fail_if_success (with_reducible apply Fin.mk)); (fail_if_success (with_reducible apply CallP.mk)); (fail_if_success (with_reducible apply LoopP.mk)); (fail_if_success (with_reducible apply VC.mk)); (fail_if_success (with_reducible apply falseMk)); (fail_if_success (with_reducible apply Round.mk)); (fail_if_success (with_reducible apply Eq.symm)); conv => whnf))
  exact Fin.same hk
theorem nlen_K : ConOk Go.Proofs.Try.prog 31 (Con.fn (Unit) (fun _ => [.v (.pointer none)]) (fun _ => []) (fun _ => True) (fun _ => .v (.int .i64 0)) (fun _ => [])) := by
  refine conOk_fn (T := tab) mix Go.Proofs.Try.func31 (by decide +kernel) (by kernel_rfl) [] [] ?_ ?_ ?_ ?_
  · rintro _; rw [Go.Proofs.Try.ntmps31]; exact Nat.le_of_ble_eq_true rfl
  · rintro _ _; exact ⟨by simp [AV.noF, noFs, Cont.noF], (fun c hc => by cases hc), Nat.le_refl _⟩
  · rintro _ _ c hc; cases hc
  · rintro _ k _ hk; exact nlen_c  k hk
theorem nlen_at {avs : List AV} {H : List Chunk} {k : K}  (ha : argsM H [] [.v (.pointer none)] avs) (h : k (.v (.int .i64 0)) H) : CallP Go.Proofs.Try.prog 31 avs H k :=
  CallP.mk ⟨_, nlen_K.real, Con.spec nlen_K, (), [], ⟨trivial, rfl, trivial, ha⟩, (numK_eq H.length (fun N => k (AV.ren (fren [] N) (.v (.int .i64 0))) (putAll H [] []))).mpr (by simpa [putAll, AV.ren, rens] using h)⟩
theorem nops_c  (k : K) (hk : k (.v (.int .i64 0)) []) : evFunc tab [] [] Go.Proofs.Try.f26 [.v (.pointer none)] [] k := by
  repeat' (first
    | (with_reducible exact True.intro)
    | (with_reducible apply And.intro)
    | ((with_reducible apply VC.mk); (first | trivial | omega | (simp only [inR]; omega) | (exact ⟨rfl, List.prefix_rfl⟩) | (refine ⟨rfl, rfl, rfl, ?_, rfl⟩; (simp; done)) | (focus (repeat' (first | exact True.intro | apply And.intro | rfl | exact Nat.le_of_ble_eq_true rfl)); done) | (simp [inR, Cont.cells]; done) | (simp [inR, Cont.cells]; omega)))
    | (with_reducible apply If_true)
    | (with_reducible apply If_false)
    | ((with_reducible apply If_dec) <;> intro hc <;> (try (exfalso; omega)))
    | (with_reducible apply If_not)
    | ((with_reducible apply If_any) <;> intro hc)
    | ((with_reducible apply PF.mk); (focus kernel_rfl))
    | ((with_reducible apply DrawP.mk); (focus kernel_rfl))
    | ((with_reducible apply Same.mk); (focus rfl); (first | exact trivial | exact rfl))
    | (intro cap hcap)
    | ((fail_if_success (with_reducible apply Fin.mk)); (fail_if_success (with_reducible apply CallP.mk)); (fail_if_success (with_reducible apply LoopP.mk)); (fail_if_success (with_reducible apply VC.mk)); (fail_if_success (with_reducible apply falseMk)); (fail_if_success (with_reducible apply Round.mk)); (fail_if_success (with_reducible apply Eq.symm)); conv => whnf))
  exact Fin.same hk
theorem nops_K : ConOk Go.Proofs.Try.prog 26 (Con.fn (Unit) (fun _ => [.v (.pointer none)]) (fun _ => []) (fun _ => True) (fun _ => .v (.int .i64 0)) (fun _ => [])) := by
  refine conOk_fn (T := tab) mix Go.Proofs.Try.func26 (by decide +kernel) (by kernel_rfl) [] [] ?_ ?_ ?_ ?_
  · rintro _; rw [Go.Proofs.Try.ntmps26]; exact Nat.le_of_ble_eq_true rfl
  · rintro _ _; exact ⟨by simp [AV.noF, noFs, Cont.noF], (fun c hc => by cases hc), Nat.le_refl _⟩
  · rintro _ _ c hc; cases hc
  · rintro _ k _ hk; exact nops_c  k hk
theorem nops_at {avs : List AV} {H : List Chunk} {k : K}  (ha : argsM H [] [.v (.pointer none)] avs) (h : k (.v (.int .i64 0)) H) : CallP Go.Proofs.Try.prog 26 avs H k :=
  CallP.mk ⟨_, nops_K.real, Con.spec nops_K, (), [], ⟨trivial, rfl, trivial, ha⟩, (numK_eq H.length (fun N => k (AV.ren (fren [] N) (.v (.int .i64 0))) (putAll H [] []))).mpr (by simpa [putAll, AV.ren, rens] using h)⟩
theorem nwrote_c  (k : K) (hk : k (.v (.int .i64 0)) []) : evFunc tab [] [] Go.Proofs.Try.f29 [.v (.pointer none)] [] k := by
  repeat' (first
    | (with_reducible exact True.intro)
    | (with_reducible apply And.intro)
    | ((with_reducible apply VC.mk); (first | trivial | omega | (simp only [inR]; omega) | (exact ⟨rfl, List.prefix_rfl⟩) | (refine ⟨rfl, rfl, rfl, ?_, rfl⟩; (simp; done)) | (focus (repeat' (first | exact True.intro | apply And.intro | rfl | exact Nat.le_of_ble_eq_true rfl)); done) | (simp [inR, Cont.cells]; done) | (simp [inR, Cont.cells]; omega)))
    | (with_reducible apply If_true)
    | (with_reducible apply If_false)
    | ((with_reducible apply If_dec) <;> intro hc <;> (try (exfalso; omega)))
    | (with_reducible apply If_not)
    | ((with_reducible apply If_any) <;> intro hc)
    | ((with_reducible apply PF.mk); (focus kernel_rfl))
    | ((with_reducible apply DrawP.mk); (focus kernel_rfl))
    | ((with_reducible apply Same.mk); (focus rfl); (first | exact trivial | exact rfl))
    | (intro cap hcap)
    | ((fail_if_success (with_reducible apply Fin.mk)); (fail_if_success (with_reducible apply CallP.mk)); (fail_if_success (with_reducible apply LoopP.mk)); (fail_if_success (with_reducible apply VC.mk)); (fail_if_success (with_reducible apply falseMk)); (fail_if_success (with_reducible apply Round.mk)); (fail_if_success (with_reducible apply Eq.symm)); conv => whnf))
  exact Fin.same hk
theorem nwrote_K : ConOk Go.Proofs.Try.prog 29 (Con.fn (Unit) (fun _ => [.v (.pointer none)]) (fun _ => []) (fun _ => True) (fun _ => .v (.int .i64 0)) (fun _ => [])) := by
  refine conOk_fn (T := tab) mix Go.Proofs.Try.func29 (by decide +kernel) (by kernel_rfl) [] [] ?_ ?_ ?_ ?_
  · rintro _; rw [Go.Proofs.Try.ntmps29]; exact Nat.le_of_ble_eq_true rfl
  · rintro _ _; exact ⟨by simp [AV.noF, noFs, Cont.noF], (fun c hc => by cases hc), Nat.le_refl _⟩
  · rintro _ _ c hc; cases hc
  · rintro _ k _ hk; exact nwrote_c  k hk
theorem nwrote_at {avs : List AV} {H : List Chunk} {k : K}  (ha : argsM H [] [.v (.pointer none)] avs) (h : k (.v (.int .i64 0)) H) : CallP Go.Proofs.Try.prog 29 avs H k :=
  CallP.mk ⟨_, nwrote_K.real, Con.spec nwrote_K, (), [], ⟨trivial, rfl, trivial, ha⟩, (numK_eq H.length (fun N => k (AV.ren (fren [] N) (.v (.int .i64 0))) (putAll H [] []))).mpr (by simpa [putAll, AV.ren, rens] using h)⟩
theorem nwaiting_c  (k : K) (hk : k (.v (.int .i64 0)) []) : evFunc tab [] [] Go.Proofs.Try.f23 [.v (.pointer none)] [] k := by
  repeat' (first
    | (with_reducible exact True.intro)
    | (with_reducible apply And.intro)
    | ((with_reducible apply VC.mk); (first | trivial | omega | (simp only [inR]; omega) | (exact ⟨rfl, List.prefix_rfl⟩) | (refine ⟨rfl, rfl, rfl, ?_, rfl⟩; (simp; done)) | (focus (repeat' (first | exact True.intro | apply And.intro | rfl | exact Nat.le_of_ble_eq_true rfl)); done) | (simp [inR, Cont.cells]; done) | (simp [inR, Cont.cells]; omega)))
    | (with_reducible apply If_true)
    | (with_reducible apply If_false)
    | ((with_reducible apply If_dec) <;> intro hc <;> (try (exfalso; omega)))
    | (with_reducible apply If_not)
    | ((with_reducible apply If_any) <;> intro hc)
    | ((with_reducible apply PF.mk); (focus kernel_rfl))
    | ((with_reducible apply DrawP.mk); (focus kernel_rfl))
    | ((with_reducible apply Same.mk); (focus rfl); (first | exact trivial | exact rfl))
    | (intro cap hcap)
    | ((fail_if_success (with_reducible apply Fin.mk)); (fail_if_success (with_reducible apply CallP.mk)); (fail_if_success (with_reducible apply LoopP.mk)); (fail_if_success (with_reducible apply VC.mk)); (fail_if_success (with_reducible apply falseMk)); (fail_if_success (with_reducible apply Round.mk)); (fail_if_success (with_reducible apply Eq.symm)); conv => whnf))
  exact Fin.same hk
theorem nwaiting_K : ConOk Go.Proofs.Try.prog 23 (Con.fn (Unit) (fun _ => [.v (.pointer none)]) (fun _ => []) (fun _ => True) (fun _ => .v (.int .i64 0)) (fun _ => [])) := by
  refine conOk_fn (T := tab) mix Go.Proofs.Try.func23 (by decide +kernel) (by kernel_rfl) [] [] ?_ ?_ ?_ ?_
  · rintro _; rw [Go.Proofs.Try.ntmps23]; exact Nat.le_of_ble_eq_true rfl
  · rintro _ _; exact ⟨by simp [AV.noF, noFs, Cont.noF], (fun c hc => by cases hc), Nat.le_refl _⟩
  · rintro _ _ c hc; cases hc
  · rintro _ k _ hk; exact nwaiting_c  k hk
theorem nwaiting_at {avs : List AV} {H : List Chunk} {k : K}  (ha : argsM H [] [.v (.pointer none)] avs) (h : k (.v (.int .i64 0)) H) : CallP Go.Proofs.Try.prog 23 avs H k :=
  CallP.mk ⟨_, nwaiting_K.real, Con.spec nwaiting_K, (), [], ⟨trivial, rfl, trivial, ha⟩, (numK_eq H.length (fun N => k (AV.ren (fren [] N) (.v (.int .i64 0))) (putAll H [] []))).mpr (by simpa [putAll, AV.ren, rens] using h)⟩
theorem nbytes_c  (k : K) (hk : k (.v (.slice none 0 0)) []) : evFunc tab [] [] Go.Proofs.Try.f18 [.v (.pointer none)] [] k := by
  repeat' (first
    | (with_reducible exact True.intro)
    | (with_reducible apply And.intro)
    | ((with_reducible apply VC.mk); (first | trivial | omega | (simp only [inR]; omega) | (exact ⟨rfl, List.prefix_rfl⟩) | (refine ⟨rfl, rfl, rfl, ?_, rfl⟩; (simp; done)) | (focus (repeat' (first | exact True.intro | apply And.intro | rfl | exact Nat.le_of_ble_eq_true rfl)); done) | (simp [inR, Cont.cells]; done) | (simp [inR, Cont.cells]; omega)))
    | (with_reducible apply If_true)
    | (with_reducible apply If_false)
    | ((with_reducible apply If_dec) <;> intro hc <;> (try (exfalso; omega)))
    | (with_reducible apply If_not)
    | ((with_reducible apply If_any) <;> intro hc)
    | ((with_reducible apply PF.mk); (focus kernel_rfl))
    | ((with_reducible apply DrawP.mk); (focus kernel_rfl))
    | ((with_reducible apply Same.mk); (focus rfl); (first | exact trivial | exact rfl))
    | (intro cap hcap)
    | ((fail_if_success (with_reducible apply Fin.mk)); (fail_if_success (with_reducible apply CallP.mk)); (fail_if_success (with_reducible apply LoopP.mk)); (fail_if_success (with_reducible apply VC.mk)); (fail_if_success (with_reducible apply falseMk)); (fail_if_success (with_reducible apply Round.mk)); (fail_if_success (with_reducible apply Eq.symm)); conv => whnf))
  exact Fin.same hk
theorem nbytes_K : ConOk Go.Proofs.Try.prog 18 (Con.fn (Unit) (fun _ => [.v (.pointer none)]) (fun _ => []) (fun _ => True) (fun _ => .v (.slice none 0 0)) (fun _ => [])) := by
  refine conOk_fn (T := tab) mix Go.Proofs.Try.func18 (by decide +kernel) (by kernel_rfl) [] [] ?_ ?_ ?_ ?_
  · rintro _; rw [Go.Proofs.Try.ntmps18]; exact Nat.le_of_ble_eq_true rfl
  · rintro _ _; exact ⟨by simp [AV.noF, noFs, Cont.noF], (fun c hc => by cases hc), Nat.le_refl _⟩
  · rintro _ _ c hc; cases hc
  · rintro _ k _ hk; exact nbytes_c  k hk
theorem nbytes_at {avs : List AV} {H : List Chunk} {k : K}  (ha : argsM H [] [.v (.pointer none)] avs) (h : k (.v (.slice none 0 0)) H) : CallP Go.Proofs.Try.prog 18 avs H k :=
  CallP.mk ⟨_, nbytes_K.real, Con.spec nbytes_K, (), [], ⟨trivial, rfl, trivial, ha⟩, (numK_eq H.length (fun N => k (AV.ren (fren [] N) (.v (.slice none 0 0))) (putAll H [] []))).mpr (by simpa [putAll, AV.ren, rens] using h)⟩
theorem ncrash_c (ks : List Bool) (k : K) (hk : k (.v (.slice none 0 0)) []) : evFunc tab [] [] Go.Proofs.Try.f20 [.v (.pointer none), .im false 1 ks.length (boolsC ks)] [] k := by
  repeat' (first
    | (with_reducible exact True.intro)
    | (with_reducible apply And.intro)
    | ((with_reducible apply VC.mk); (first | trivial | omega | (simp only [inR]; omega) | (exact ⟨rfl, List.prefix_rfl⟩) | (refine ⟨rfl, rfl, rfl, ?_, rfl⟩; (simp; done)) | (focus (repeat' (first | exact True.intro | apply And.intro | rfl | exact Nat.le_of_ble_eq_true rfl)); done) | (simp [inR, Cont.cells]; done) | (simp [inR, Cont.cells]; omega)))
    | (with_reducible apply If_true)
    | (with_reducible apply If_false)
    | ((with_reducible apply If_dec) <;> intro hc <;> (try (exfalso; omega)))
    | (with_reducible apply If_not)
    | ((with_reducible apply If_any) <;> intro hc)
    | ((with_reducible apply PF.mk); (focus kernel_rfl))
    | ((with_reducible apply DrawP.mk); (focus kernel_rfl))
    | ((with_reducible apply Same.mk); (focus rfl); (first | exact trivial | exact rfl))
    | (intro cap hcap)
    | ((fail_if_success (with_reducible apply Fin.mk)); (fail_if_success (with_reducible apply CallP.mk)); (fail_if_success (with_reducible apply LoopP.mk)); (fail_if_success (with_reducible apply VC.mk)); (fail_if_success (with_reducible apply falseMk)); (fail_if_success (with_reducible apply Round.mk)); (fail_if_success (with_reducible apply Eq.symm)); conv => whnf))
  exact Fin.same hk
theorem ncrash_K : ConOk Go.Proofs.Try.prog 20 (Con.fn (List Bool) (fun ks => [.v (.pointer none), .im false 1 ks.length (boolsC ks)]) (fun _ => []) (fun _ => True) (fun ks => .v (.slice none 0 0)) (fun _ => [])) := by
  refine conOk_fn (T := tab) mix Go.Proofs.Try.func20 (by decide +kernel) (by kernel_rfl) [] [] ?_ ?_ ?_ ?_
  · rintro ks; rw [Go.Proofs.Try.ntmps20]; exact Nat.le_of_ble_eq_true rfl
  · rintro ks _; exact ⟨by simp [AV.noF, noFs, Cont.noF], (fun c hc => by cases hc), Nat.le_refl _⟩
  · rintro ks _ c hc; cases hc
  · rintro ks k _ hk; exact ncrash_c ks k hk
theorem ncrash_at {avs : List AV} {H : List Chunk} {k : K} (ks : List Bool) (ha : argsM H [] [.v (.pointer none), .im false 1 ks.length (boolsC ks)] avs) (h : k (.v (.slice none 0 0)) H) : CallP Go.Proofs.Try.prog 20 avs H k :=
  CallP.mk ⟨_, ncrash_K.real, Con.spec ncrash_K, ks, [], ⟨trivial, rfl, trivial, ha⟩, (numK_eq H.length (fun N => k (AV.ren (fren [] N) (.v (.slice none 0 0))) (putAll H [] []))).mpr (by simpa [putAll, AV.ren, rens] using h)⟩
theorem nstopped_c  (k : K) (hk : k (.v (.bool false)) []) : evFunc tab [] p32 Go.Proofs.Try.f32 [.v (.pointer none)] [] k := by
  repeat' (first
    | (with_reducible exact True.intro)
    | (with_reducible apply And.intro)
    | ((with_reducible apply VC.mk); (first | trivial | omega | (simp only [inR]; omega) | (exact ⟨rfl, List.prefix_rfl⟩) | (refine ⟨rfl, rfl, rfl, ?_, rfl⟩; (simp; done)) | (focus (repeat' (first | exact True.intro | apply And.intro | rfl | exact Nat.le_of_ble_eq_true rfl)); done) | (simp [inR, Cont.cells]; done) | (simp [inR, Cont.cells]; omega)))
    | (with_reducible apply If_true)
    | (with_reducible apply If_false)
    | ((with_reducible apply If_dec) <;> intro hc <;> (try (exfalso; omega)))
    | (with_reducible apply If_not)
    | ((with_reducible apply If_any) <;> intro hc)
    | ((with_reducible apply PF.mk); (focus kernel_rfl))
    | ((with_reducible apply DrawP.mk); (focus kernel_rfl))
    | ((with_reducible apply Same.mk); (focus rfl); (first | exact trivial | exact rfl))
    | (intro cap hcap)
    | ((fail_if_success (with_reducible apply Fin.mk)); (fail_if_success (with_reducible apply CallP.mk)); (fail_if_success (with_reducible apply LoopP.mk)); (fail_if_success (with_reducible apply VC.mk)); (fail_if_success (with_reducible apply falseMk)); (fail_if_success (with_reducible apply Round.mk)); (fail_if_success (with_reducible apply Eq.symm)); conv => whnf))
  exact Fin.same hk
theorem nstopped_K : ConOk Go.Proofs.Try.prog 32 (Con.fn (Unit) (fun _ => [.v (.pointer none)]) (fun _ => []) (fun _ => True) (fun _ => .v (.bool false)) (fun _ => [])) := by
  refine conOk_fn (T := tab) mix Go.Proofs.Try.func32 (by decide +kernel) (by kernel_rfl) [] p32 ?_ ?_ ?_ ?_
  · rintro _; rw [Go.Proofs.Try.ntmps32]; exact Nat.le_of_ble_eq_true rfl
  · rintro _ _; exact ⟨by simp [AV.noF, noFs, Cont.noF], (fun c hc => by cases hc), Nat.le_refl _⟩
  · rintro _ _ c hc; cases hc
  · rintro _ k _ hk; exact nstopped_c  k hk
theorem nstopped_at {avs : List AV} {H : List Chunk} {k : K}  (ha : argsM H [] [.v (.pointer none)] avs) (h : k (.v (.bool false)) H) : CallP Go.Proofs.Try.prog 32 avs H k :=
  CallP.mk ⟨_, nstopped_K.real, Con.spec nstopped_K, (), [], ⟨trivial, rfl, trivial, ha⟩, (numK_eq H.length (fun N => k (AV.ren (fren [] N) (.v (.bool false))) (putAll H [] []))).mpr (by simpa [putAll, AV.ren, rens] using h)⟩
theorem nrefuse_c (n : Int) (k : K) (hk : k (.tup []) []) : evFunc tab [] [] Go.Proofs.Try.f25 [.v (.pointer none), .v (.int .i64 n)] [] k := by
  repeat' (first
    | (with_reducible exact True.intro)
    | (with_reducible apply And.intro)
    | ((with_reducible apply VC.mk); (first | trivial | omega | (simp only [inR]; omega) | (exact ⟨rfl, List.prefix_rfl⟩) | (refine ⟨rfl, rfl, rfl, ?_, rfl⟩; (simp; done)) | (focus (repeat' (first | exact True.intro | apply And.intro | rfl | exact Nat.le_of_ble_eq_true rfl)); done) | (simp [inR, Cont.cells]; done) | (simp [inR, Cont.cells]; omega)))
    | (with_reducible apply If_true)
    | (with_reducible apply If_false)
    | ((with_reducible apply If_dec) <;> intro hc <;> (try (exfalso; omega)))
    | (with_reducible apply If_not)
    | ((with_reducible apply If_any) <;> intro hc)
    | ((with_reducible apply PF.mk); (focus kernel_rfl))
    | ((with_reducible apply DrawP.mk); (focus kernel_rfl))
    | ((with_reducible apply Same.mk); (focus rfl); (first | exact trivial | exact rfl))
    | (intro cap hcap)
    | ((fail_if_success (with_reducible apply Fin.mk)); (fail_if_success (with_reducible apply CallP.mk)); (fail_if_success (with_reducible apply LoopP.mk)); (fail_if_success (with_reducible apply VC.mk)); (fail_if_success (with_reducible apply falseMk)); (fail_if_success (with_reducible apply Round.mk)); (fail_if_success (with_reducible apply Eq.symm)); conv => whnf))
  exact Fin.same hk
theorem nrefuse_K : ConOk Go.Proofs.Try.prog 25 (Con.fn (Int) (fun n => [.v (.pointer none), .v (.int .i64 n)]) (fun _ => []) (fun _ => True) (fun n => .tup []) (fun _ => [])) := by
  refine conOk_fn (T := tab) mix Go.Proofs.Try.func25 (by decide +kernel) (by kernel_rfl) [] [] ?_ ?_ ?_ ?_
  · rintro n; rw [Go.Proofs.Try.ntmps25]; exact Nat.le_of_ble_eq_true rfl
  · rintro n _; exact ⟨by simp [AV.noF, noFs, Cont.noF], (fun c hc => by cases hc), Nat.le_refl _⟩
  · rintro n _ c hc; cases hc
  · rintro n k _ hk; exact nrefuse_c n k hk
theorem nrefuse_at {avs : List AV} {H : List Chunk} {k : K} (n : Int) (ha : argsM H [] [.v (.pointer none), .v (.int .i64 n)] avs) (h : k (.tup []) H) : CallP Go.Proofs.Try.prog 25 avs H k :=
  CallP.mk ⟨_, nrefuse_K.real, Con.spec nrefuse_K, n, [], ⟨trivial, rfl, trivial, ha⟩, (numK_eq H.length (fun N => k (AV.ren (fren [] N) (.tup [])) (putAll H [] []))).mpr (by simpa [putAll, AV.ren, rens] using h)⟩
theorem nstop_c (n : Int) (k : K) (hk : k (.tup []) []) : evFunc tab [] [] Go.Proofs.Try.f30 [.v (.pointer none), .v (.int .i64 n)] [] k := by
  repeat' (first
    | (with_reducible exact True.intro)
    | (with_reducible apply And.intro)
    | ((with_reducible apply VC.mk); (first | trivial | omega | (simp only [inR]; omega) | (exact ⟨rfl, List.prefix_rfl⟩) | (refine ⟨rfl, rfl, rfl, ?_, rfl⟩; (simp; done)) | (focus (repeat' (first | exact True.intro | apply And.intro | rfl | exact Nat.le_of_ble_eq_true rfl)); done) | (simp [inR, Cont.cells]; done) | (simp [inR, Cont.cells]; omega)))
    | (with_reducible apply If_true)
    | (with_reducible apply If_false)
    | ((with_reducible apply If_dec) <;> intro hc <;> (try (exfalso; omega)))
    | (with_reducible apply If_not)
    | ((with_reducible apply If_any) <;> intro hc)
    | ((with_reducible apply PF.mk); (focus kernel_rfl))
    | ((with_reducible apply DrawP.mk); (focus kernel_rfl))
    | ((with_reducible apply Same.mk); (focus rfl); (first | exact trivial | exact rfl))
    | (intro cap hcap)
    | ((fail_if_success (with_reducible apply Fin.mk)); (fail_if_success (with_reducible apply CallP.mk)); (fail_if_success (with_reducible apply LoopP.mk)); (fail_if_success (with_reducible apply VC.mk)); (fail_if_success (with_reducible apply falseMk)); (fail_if_success (with_reducible apply Round.mk)); (fail_if_success (with_reducible apply Eq.symm)); conv => whnf))
  exact Fin.same hk
theorem nstop_K : ConOk Go.Proofs.Try.prog 30 (Con.fn (Int) (fun n => [.v (.pointer none), .v (.int .i64 n)]) (fun _ => []) (fun _ => True) (fun n => .tup []) (fun _ => [])) := by
  refine conOk_fn (T := tab) mix Go.Proofs.Try.func30 (by decide +kernel) (by kernel_rfl) [] [] ?_ ?_ ?_ ?_
  · rintro n; rw [Go.Proofs.Try.ntmps30]; exact Nat.le_of_ble_eq_true rfl
  · rintro n _; exact ⟨by simp [AV.noF, noFs, Cont.noF], (fun c hc => by cases hc), Nat.le_refl _⟩
  · rintro n _ c hc; cases hc
  · rintro n k _ hk; exact nstop_c n k hk
theorem nstop_at {avs : List AV} {H : List Chunk} {k : K} (n : Int) (ha : argsM H [] [.v (.pointer none), .v (.int .i64 n)] avs) (h : k (.tup []) H) : CallP Go.Proofs.Try.prog 30 avs H k :=
  CallP.mk ⟨_, nstop_K.real, Con.spec nstop_K, n, [], ⟨trivial, rfl, trivial, ha⟩, (numK_eq H.length (fun N => k (AV.ren (fren [] N) (.tup [])) (putAll H [] []))).mpr (by simpa [putAll, AV.ren, rens] using h)⟩
set_option maxHeartbeats 16000000 in
theorem nils_c (n at_ : Int) (p : List Int) (k : K) (hk : k (.v (.bool true)) []) : evFunc tab [85] [] Go.Proofs.Try.f6 [.v (.int .i64 n), .v (.int .i64 at_), .im true 1 p.length (.ints .u8 p)] [] k := by
  repeat' (first
    | (with_reducible exact True.intro)
    | (with_reducible apply And.intro)
    | ((with_reducible apply VC.mk); (first | trivial | omega | (simp only [inR]; omega) | (exact ⟨rfl, List.prefix_rfl⟩) | (refine ⟨rfl, rfl, rfl, ?_, rfl⟩; (simp; done)) | (focus (repeat' (first | exact True.intro | apply And.intro | rfl | exact Nat.le_of_ble_eq_true rfl)); done) | (simp [inR, Cont.cells]; done) | (simp [inR, Cont.cells]; omega)))
    | (with_reducible apply If_true)
    | (with_reducible apply If_false)
    | ((with_reducible apply If_dec) <;> intro hc <;> (try (exfalso; omega)))
    | (with_reducible apply If_not)
    | ((with_reducible apply If_any) <;> intro hc)
    | ((with_reducible apply PF.mk); (focus kernel_rfl))
    | ((with_reducible apply DrawP.mk); (focus kernel_rfl))
    | ((with_reducible apply Same.mk); (focus rfl); (first | exact trivial | exact rfl))
    | (intro cap hcap)
    | ((fail_if_success (with_reducible apply Fin.mk)); (fail_if_success (with_reducible apply CallP.mk)); (fail_if_success (with_reducible apply LoopP.mk)); (fail_if_success (with_reducible apply VC.mk)); (fail_if_success (with_reducible apply falseMk)); (fail_if_success (with_reducible apply Round.mk)); (fail_if_success (with_reducible apply Eq.symm)); conv => whnf))
  refine nrefuse_at n ⟨rfl, rfl, trivial⟩ ?_
  repeat' (first
    | (with_reducible exact True.intro)
    | (with_reducible apply And.intro)
    | ((with_reducible apply VC.mk); (first | trivial | omega | (simp only [inR]; omega) | (exact ⟨rfl, List.prefix_rfl⟩) | (refine ⟨rfl, rfl, rfl, ?_, rfl⟩; (simp; done)) | (focus (repeat' (first | exact True.intro | apply And.intro | rfl | exact Nat.le_of_ble_eq_true rfl)); done) | (simp [inR, Cont.cells]; done) | (simp [inR, Cont.cells]; omega)))
    | (with_reducible apply If_true)
    | (with_reducible apply If_false)
    | ((with_reducible apply If_dec) <;> intro hc <;> (try (exfalso; omega)))
    | (with_reducible apply If_not)
    | ((with_reducible apply If_any) <;> intro hc)
    | ((with_reducible apply PF.mk); (focus kernel_rfl))
    | ((with_reducible apply DrawP.mk); (focus kernel_rfl))
    | ((with_reducible apply Same.mk); (focus rfl); (first | exact trivial | exact rfl))
    | (intro cap hcap)
    | ((fail_if_success (with_reducible apply Fin.mk)); (fail_if_success (with_reducible apply CallP.mk)); (fail_if_success (with_reducible apply LoopP.mk)); (fail_if_success (with_reducible apply VC.mk)); (fail_if_success (with_reducible apply falseMk)); (fail_if_success (with_reducible apply Round.mk)); (fail_if_success (with_reducible apply Eq.symm)); conv => whnf))
  refine nstop_at n ⟨rfl, rfl, trivial⟩ ?_
  repeat' (first
    | (with_reducible exact True.intro)
    | (with_reducible apply And.intro)
    | ((with_reducible apply VC.mk); (first | trivial | omega | (simp only [inR]; omega) | (exact ⟨rfl, List.prefix_rfl⟩) | (refine ⟨rfl, rfl, rfl, ?_, rfl⟩; (simp; done)) | (focus (repeat' (first | exact True.intro | apply And.intro | rfl | exact Nat.le_of_ble_eq_true rfl)); done) | (simp [inR, Cont.cells]; done) | (simp [inR, Cont.cells]; omega)))
    | (with_reducible apply If_true)
    | (with_reducible apply If_false)
    | ((with_reducible apply If_dec) <;> intro hc <;> (try (exfalso; omega)))
    | (with_reducible apply If_not)
    | ((with_reducible apply If_any) <;> intro hc)
    | ((with_reducible apply PF.mk); (focus kernel_rfl))
    | ((with_reducible apply DrawP.mk); (focus kernel_rfl))
    | ((with_reducible apply Same.mk); (focus rfl); (first | exact trivial | exact rfl))
    | (intro cap hcap)
    | ((fail_if_success (with_reducible apply Fin.mk)); (fail_if_success (with_reducible apply CallP.mk)); (fail_if_success (with_reducible apply LoopP.mk)); (fail_if_success (with_reducible apply VC.mk)); (fail_if_success (with_reducible apply falseMk)); (fail_if_success (with_reducible apply Round.mk)); (fail_if_success (with_reducible apply Eq.symm)); conv => whnf))
  refine nread_at at_ 1 ⟨rfl, rfl, rfl, trivial⟩ ?_
  repeat' (first
    | (with_reducible exact True.intro)
    | (with_reducible apply And.intro)
    | ((with_reducible apply VC.mk); (first | trivial | omega | (simp only [inR]; omega) | (exact ⟨rfl, List.prefix_rfl⟩) | (refine ⟨rfl, rfl, rfl, ?_, rfl⟩; (simp; done)) | (focus (repeat' (first | exact True.intro | apply And.intro | rfl | exact Nat.le_of_ble_eq_true rfl)); done) | (simp [inR, Cont.cells]; done) | (simp [inR, Cont.cells]; omega)))
    | (with_reducible apply If_true)
    | (with_reducible apply If_false)
    | ((with_reducible apply If_dec) <;> intro hc <;> (try (exfalso; omega)))
    | (with_reducible apply If_not)
    | ((with_reducible apply If_any) <;> intro hc)
    | ((with_reducible apply PF.mk); (focus kernel_rfl))
    | ((with_reducible apply DrawP.mk); (focus kernel_rfl))
    | ((with_reducible apply Same.mk); (focus rfl); (first | exact trivial | exact rfl))
    | (intro cap hcap)
    | ((fail_if_success (with_reducible apply Fin.mk)); (fail_if_success (with_reducible apply CallP.mk)); (fail_if_success (with_reducible apply LoopP.mk)); (fail_if_success (with_reducible apply VC.mk)); (fail_if_success (with_reducible apply falseMk)); (fail_if_success (with_reducible apply Round.mk)); (fail_if_success (with_reducible apply Eq.symm)); conv => whnf))
  refine halved_at rfl ?_
  repeat' (first
    | (with_reducible exact True.intro)
    | (with_reducible apply And.intro)
    | ((with_reducible apply VC.mk); (first | trivial | omega | (simp only [inR]; omega) | (exact ⟨rfl, List.prefix_rfl⟩) | (refine ⟨rfl, rfl, rfl, ?_, rfl⟩; (simp; done)) | (focus (repeat' (first | exact True.intro | apply And.intro | rfl | exact Nat.le_of_ble_eq_true rfl)); done) | (simp [inR, Cont.cells]; done) | (simp [inR, Cont.cells]; omega)))
    | (with_reducible apply If_true)
    | (with_reducible apply If_false)
    | ((with_reducible apply If_dec) <;> intro hc <;> (try (exfalso; omega)))
    | (with_reducible apply If_not)
    | ((with_reducible apply If_any) <;> intro hc)
    | ((with_reducible apply PF.mk); (focus kernel_rfl))
    | ((with_reducible apply DrawP.mk); (focus kernel_rfl))
    | ((with_reducible apply Same.mk); (focus rfl); (first | exact trivial | exact rfl))
    | (intro cap hcap)
    | ((fail_if_success (with_reducible apply Fin.mk)); (fail_if_success (with_reducible apply CallP.mk)); (fail_if_success (with_reducible apply LoopP.mk)); (fail_if_success (with_reducible apply VC.mk)); (fail_if_success (with_reducible apply falseMk)); (fail_if_success (with_reducible apply Round.mk)); (fail_if_success (with_reducible apply Eq.symm)); conv => whnf))
  refine nwrite_at at_ p ⟨rfl, rfl, ⟨rfl, rfl, rfl⟩, trivial⟩ ?_
  repeat' (first
    | (with_reducible exact True.intro)
    | (with_reducible apply And.intro)
    | ((with_reducible apply VC.mk); (first | trivial | omega | (simp only [inR]; omega) | (exact ⟨rfl, List.prefix_rfl⟩) | (refine ⟨rfl, rfl, rfl, ?_, rfl⟩; (simp; done)) | (focus (repeat' (first | exact True.intro | apply And.intro | rfl | exact Nat.le_of_ble_eq_true rfl)); done) | (simp [inR, Cont.cells]; done) | (simp [inR, Cont.cells]; omega)))
    | (with_reducible apply If_true)
    | (with_reducible apply If_false)
    | ((with_reducible apply If_dec) <;> intro hc <;> (try (exfalso; omega)))
    | (with_reducible apply If_not)
    | ((with_reducible apply If_any) <;> intro hc)
    | ((with_reducible apply PF.mk); (focus kernel_rfl))
    | ((with_reducible apply DrawP.mk); (focus kernel_rfl))
    | ((with_reducible apply Same.mk); (focus rfl); (first | exact trivial | exact rfl))
    | (intro cap hcap)
    | ((fail_if_success (with_reducible apply Fin.mk)); (fail_if_success (with_reducible apply CallP.mk)); (fail_if_success (with_reducible apply LoopP.mk)); (fail_if_success (with_reducible apply VC.mk)); (fail_if_success (with_reducible apply falseMk)); (fail_if_success (with_reducible apply Round.mk)); (fail_if_success (with_reducible apply Eq.symm)); conv => whnf))
  refine ntrunc_at at_ ⟨rfl, rfl, trivial⟩ ?_
  repeat' (first
    | (with_reducible exact True.intro)
    | (with_reducible apply And.intro)
    | ((with_reducible apply VC.mk); (first | trivial | omega | (simp only [inR]; omega) | (exact ⟨rfl, List.prefix_rfl⟩) | (refine ⟨rfl, rfl, rfl, ?_, rfl⟩; (simp; done)) | (focus (repeat' (first | exact True.intro | apply And.intro | rfl | exact Nat.le_of_ble_eq_true rfl)); done) | (simp [inR, Cont.cells]; done) | (simp [inR, Cont.cells]; omega)))
    | (with_reducible apply If_true)
    | (with_reducible apply If_false)
    | ((with_reducible apply If_dec) <;> intro hc <;> (try (exfalso; omega)))
    | (with_reducible apply If_not)
    | ((with_reducible apply If_any) <;> intro hc)
    | ((with_reducible apply PF.mk); (focus kernel_rfl))
    | ((with_reducible apply DrawP.mk); (focus kernel_rfl))
    | ((with_reducible apply Same.mk); (focus rfl); (first | exact trivial | exact rfl))
    | (intro cap hcap)
    | ((fail_if_success (with_reducible apply Fin.mk)); (fail_if_success (with_reducible apply CallP.mk)); (fail_if_success (with_reducible apply LoopP.mk)); (fail_if_success (with_reducible apply VC.mk)); (fail_if_success (with_reducible apply falseMk)); (fail_if_success (with_reducible apply Round.mk)); (fail_if_success (with_reducible apply Eq.symm)); conv => whnf))
  refine nflush_at ⟨rfl, trivial⟩ ?_
  repeat' (first
    | (with_reducible exact True.intro)
    | (with_reducible apply And.intro)
    | ((with_reducible apply VC.mk); (first | trivial | omega | (simp only [inR]; omega) | (exact ⟨rfl, List.prefix_rfl⟩) | (refine ⟨rfl, rfl, rfl, ?_, rfl⟩; (simp; done)) | (focus (repeat' (first | exact True.intro | apply And.intro | rfl | exact Nat.le_of_ble_eq_true rfl)); done) | (simp [inR, Cont.cells]; done) | (simp [inR, Cont.cells]; omega)))
    | (with_reducible apply If_true)
    | (with_reducible apply If_false)
    | ((with_reducible apply If_dec) <;> intro hc <;> (try (exfalso; omega)))
    | (with_reducible apply If_not)
    | ((with_reducible apply If_any) <;> intro hc)
    | ((with_reducible apply PF.mk); (focus kernel_rfl))
    | ((with_reducible apply DrawP.mk); (focus kernel_rfl))
    | ((with_reducible apply Same.mk); (focus rfl); (first | exact trivial | exact rfl))
    | (intro cap hcap)
    | ((fail_if_success (with_reducible apply Fin.mk)); (fail_if_success (with_reducible apply CallP.mk)); (fail_if_success (with_reducible apply LoopP.mk)); (fail_if_success (with_reducible apply VC.mk)); (fail_if_success (with_reducible apply falseMk)); (fail_if_success (with_reducible apply Round.mk)); (fail_if_success (with_reducible apply Eq.symm)); conv => whnf))
  refine nlen_at ⟨rfl, trivial⟩ ?_
  repeat' (first
    | (with_reducible exact True.intro)
    | (with_reducible apply And.intro)
    | ((with_reducible apply VC.mk); (first | trivial | omega | (simp only [inR]; omega) | (exact ⟨rfl, List.prefix_rfl⟩) | (refine ⟨rfl, rfl, rfl, ?_, rfl⟩; (simp; done)) | (focus (repeat' (first | exact True.intro | apply And.intro | rfl | exact Nat.le_of_ble_eq_true rfl)); done) | (simp [inR, Cont.cells]; done) | (simp [inR, Cont.cells]; omega)))
    | (with_reducible apply If_true)
    | (with_reducible apply If_false)
    | ((with_reducible apply If_dec) <;> intro hc <;> (try (exfalso; omega)))
    | (with_reducible apply If_not)
    | ((with_reducible apply If_any) <;> intro hc)
    | ((with_reducible apply PF.mk); (focus kernel_rfl))
    | ((with_reducible apply DrawP.mk); (focus kernel_rfl))
    | ((with_reducible apply Same.mk); (focus rfl); (first | exact trivial | exact rfl))
    | (intro cap hcap)
    | ((fail_if_success (with_reducible apply Fin.mk)); (fail_if_success (with_reducible apply CallP.mk)); (fail_if_success (with_reducible apply LoopP.mk)); (fail_if_success (with_reducible apply VC.mk)); (fail_if_success (with_reducible apply falseMk)); (fail_if_success (with_reducible apply Round.mk)); (fail_if_success (with_reducible apply Eq.symm)); conv => whnf))
  refine nbytes_at ⟨rfl, trivial⟩ ?_
  repeat' (first
    | (with_reducible exact True.intro)
    | (with_reducible apply And.intro)
    | ((with_reducible apply VC.mk); (first | trivial | omega | (simp only [inR]; omega) | (exact ⟨rfl, List.prefix_rfl⟩) | (refine ⟨rfl, rfl, rfl, ?_, rfl⟩; (simp; done)) | (focus (repeat' (first | exact True.intro | apply And.intro | rfl | exact Nat.le_of_ble_eq_true rfl)); done) | (simp [inR, Cont.cells]; done) | (simp [inR, Cont.cells]; omega)))
    | (with_reducible apply If_true)
    | (with_reducible apply If_false)
    | ((with_reducible apply If_dec) <;> intro hc <;> (try (exfalso; omega)))
    | (with_reducible apply If_not)
    | ((with_reducible apply If_any) <;> intro hc)
    | ((with_reducible apply PF.mk); (focus kernel_rfl))
    | ((with_reducible apply DrawP.mk); (focus kernel_rfl))
    | ((with_reducible apply Same.mk); (focus rfl); (first | exact trivial | exact rfl))
    | (intro cap hcap)
    | ((fail_if_success (with_reducible apply Fin.mk)); (fail_if_success (with_reducible apply CallP.mk)); (fail_if_success (with_reducible apply LoopP.mk)); (fail_if_success (with_reducible apply VC.mk)); (fail_if_success (with_reducible apply falseMk)); (fail_if_success (with_reducible apply Round.mk)); (fail_if_success (with_reducible apply Eq.symm)); conv => whnf))
  refine ncrash_at [true] ⟨rfl, ⟨by decide, rfl, rfl, ⟨rfl, rfl, fun j hj => by match j, hj with | 0, _ => rfl⟩, rfl, Nat.one_pos⟩, trivial⟩ ?_
  repeat' (first
    | (with_reducible exact True.intro)
    | (with_reducible apply And.intro)
    | ((with_reducible apply VC.mk); (first | trivial | omega | (simp only [inR]; omega) | (exact ⟨rfl, List.prefix_rfl⟩) | (refine ⟨rfl, rfl, rfl, ?_, rfl⟩; (simp; done)) | (focus (repeat' (first | exact True.intro | apply And.intro | rfl | exact Nat.le_of_ble_eq_true rfl)); done) | (simp [inR, Cont.cells]; done) | (simp [inR, Cont.cells]; omega)))
    | (with_reducible apply If_true)
    | (with_reducible apply If_false)
    | ((with_reducible apply If_dec) <;> intro hc <;> (try (exfalso; omega)))
    | (with_reducible apply If_not)
    | ((with_reducible apply If_any) <;> intro hc)
    | ((with_reducible apply PF.mk); (focus kernel_rfl))
    | ((with_reducible apply DrawP.mk); (focus kernel_rfl))
    | ((with_reducible apply Same.mk); (focus rfl); (first | exact trivial | exact rfl))
    | (intro cap hcap)
    | ((fail_if_success (with_reducible apply Fin.mk)); (fail_if_success (with_reducible apply CallP.mk)); (fail_if_success (with_reducible apply LoopP.mk)); (fail_if_success (with_reducible apply VC.mk)); (fail_if_success (with_reducible apply falseMk)); (fail_if_success (with_reducible apply Round.mk)); (fail_if_success (with_reducible apply Eq.symm)); conv => whnf))
  refine nops_at ⟨rfl, trivial⟩ ?_
  repeat' (first
    | (with_reducible exact True.intro)
    | (with_reducible apply And.intro)
    | ((with_reducible apply VC.mk); (first | trivial | omega | (simp only [inR]; omega) | (exact ⟨rfl, List.prefix_rfl⟩) | (refine ⟨rfl, rfl, rfl, ?_, rfl⟩; (simp; done)) | (focus (repeat' (first | exact True.intro | apply And.intro | rfl | exact Nat.le_of_ble_eq_true rfl)); done) | (simp [inR, Cont.cells]; done) | (simp [inR, Cont.cells]; omega)))
    | (with_reducible apply If_true)
    | (with_reducible apply If_false)
    | ((with_reducible apply If_dec) <;> intro hc <;> (try (exfalso; omega)))
    | (with_reducible apply If_not)
    | ((with_reducible apply If_any) <;> intro hc)
    | ((with_reducible apply PF.mk); (focus kernel_rfl))
    | ((with_reducible apply DrawP.mk); (focus kernel_rfl))
    | ((with_reducible apply Same.mk); (focus rfl); (first | exact trivial | exact rfl))
    | (intro cap hcap)
    | ((fail_if_success (with_reducible apply Fin.mk)); (fail_if_success (with_reducible apply CallP.mk)); (fail_if_success (with_reducible apply LoopP.mk)); (fail_if_success (with_reducible apply VC.mk)); (fail_if_success (with_reducible apply falseMk)); (fail_if_success (with_reducible apply Round.mk)); (fail_if_success (with_reducible apply Eq.symm)); conv => whnf))
  refine nwrote_at ⟨rfl, trivial⟩ ?_
  repeat' (first
    | (with_reducible exact True.intro)
    | (with_reducible apply And.intro)
    | ((with_reducible apply VC.mk); (first | trivial | omega | (simp only [inR]; omega) | (exact ⟨rfl, List.prefix_rfl⟩) | (refine ⟨rfl, rfl, rfl, ?_, rfl⟩; (simp; done)) | (focus (repeat' (first | exact True.intro | apply And.intro | rfl | exact Nat.le_of_ble_eq_true rfl)); done) | (simp [inR, Cont.cells]; done) | (simp [inR, Cont.cells]; omega)))
    | (with_reducible apply If_true)
    | (with_reducible apply If_false)
    | ((with_reducible apply If_dec) <;> intro hc <;> (try (exfalso; omega)))
    | (with_reducible apply If_not)
    | ((with_reducible apply If_any) <;> intro hc)
    | ((with_reducible apply PF.mk); (focus kernel_rfl))
    | ((with_reducible apply DrawP.mk); (focus kernel_rfl))
    | ((with_reducible apply Same.mk); (focus rfl); (first | exact trivial | exact rfl))
    | (intro cap hcap)
    | ((fail_if_success (with_reducible apply Fin.mk)); (fail_if_success (with_reducible apply CallP.mk)); (fail_if_success (with_reducible apply LoopP.mk)); (fail_if_success (with_reducible apply VC.mk)); (fail_if_success (with_reducible apply falseMk)); (fail_if_success (with_reducible apply Round.mk)); (fail_if_success (with_reducible apply Eq.symm)); conv => whnf))
  refine nwaiting_at ⟨rfl, trivial⟩ ?_
  repeat' (first
    | (with_reducible exact True.intro)
    | (with_reducible apply And.intro)
    | ((with_reducible apply VC.mk); (first | trivial | omega | (simp only [inR]; omega) | (exact ⟨rfl, List.prefix_rfl⟩) | (refine ⟨rfl, rfl, rfl, ?_, rfl⟩; (simp; done)) | (focus (repeat' (first | exact True.intro | apply And.intro | rfl | exact Nat.le_of_ble_eq_true rfl)); done) | (simp [inR, Cont.cells]; done) | (simp [inR, Cont.cells]; omega)))
    | (with_reducible apply If_true)
    | (with_reducible apply If_false)
    | ((with_reducible apply If_dec) <;> intro hc <;> (try (exfalso; omega)))
    | (with_reducible apply If_not)
    | ((with_reducible apply If_any) <;> intro hc)
    | ((with_reducible apply PF.mk); (focus kernel_rfl))
    | ((with_reducible apply DrawP.mk); (focus kernel_rfl))
    | ((with_reducible apply Same.mk); (focus rfl); (first | exact trivial | exact rfl))
    | (intro cap hcap)
    | ((fail_if_success (with_reducible apply Fin.mk)); (fail_if_success (with_reducible apply CallP.mk)); (fail_if_success (with_reducible apply LoopP.mk)); (fail_if_success (with_reducible apply VC.mk)); (fail_if_success (with_reducible apply falseMk)); (fail_if_success (with_reducible apply Round.mk)); (fail_if_success (with_reducible apply Eq.symm)); conv => whnf))
  refine nstopped_at ⟨rfl, trivial⟩ ?_
  repeat' (first
    | (with_reducible exact True.intro)
    | (with_reducible apply And.intro)
    | ((with_reducible apply VC.mk); (first | trivial | omega | (simp only [inR]; omega) | (exact ⟨rfl, List.prefix_rfl⟩) | (refine ⟨rfl, rfl, rfl, ?_, rfl⟩; (simp; done)) | (focus (repeat' (first | exact True.intro | apply And.intro | rfl | exact Nat.le_of_ble_eq_true rfl)); done) | (simp [inR, Cont.cells]; done) | (simp [inR, Cont.cells]; omega)))
    | (with_reducible apply If_true)
    | (with_reducible apply If_false)
    | ((with_reducible apply If_dec) <;> intro hc <;> (try (exfalso; omega)))
    | (with_reducible apply If_not)
    | ((with_reducible apply If_any) <;> intro hc)
    | ((with_reducible apply PF.mk); (focus kernel_rfl))
    | ((with_reducible apply DrawP.mk); (focus kernel_rfl))
    | ((with_reducible apply Same.mk); (focus rfl); (first | exact trivial | exact rfl))
    | (intro cap hcap)
    | ((fail_if_success (with_reducible apply Fin.mk)); (fail_if_success (with_reducible apply CallP.mk)); (fail_if_success (with_reducible apply LoopP.mk)); (fail_if_success (with_reducible apply VC.mk)); (fail_if_success (with_reducible apply falseMk)); (fail_if_success (with_reducible apply Round.mk)); (fail_if_success (with_reducible apply Eq.symm)); conv => whnf))
  · exact Fin.bool rfl hk
  obtain ⟨N, hN⟩ : ∃ N : Nat, N = Int.toNat 4194305 := ⟨_, rfl⟩
  rw [← hN]
  have hN : N = 4194305 := hN
  obtain ⟨z, hz⟩ : ∃ z : List Int, z = List.replicate N 0 := ⟨_, rfl⟩
  rw [← hz]
  have hzl : z.length = N := by rw [hz]; simp
  refine new_at z (by omega) ⟨⟨by omega, rfl, by omega, ?_, rfl, Nat.one_pos⟩, trivial⟩ (fun _ => ?_) (fun h => by omega)
  · show Cont.ints _ _ = Cont.ints _ _
    rw [← hzl, List.drop_zero, List.take_length]
  repeat' (first
    | (with_reducible exact True.intro)
    | (with_reducible apply And.intro)
    | ((with_reducible apply VC.mk); (first | trivial | omega | (simp only [inR]; omega) | (exact ⟨rfl, List.prefix_rfl⟩) | (refine ⟨rfl, rfl, rfl, ?_, rfl⟩; (simp; done)) | (focus (repeat' (first | exact True.intro | apply And.intro | rfl | exact Nat.le_of_ble_eq_true rfl)); done) | (simp [inR, Cont.cells]; done) | (simp [inR, Cont.cells]; omega)))
    | (with_reducible apply If_true)
    | (with_reducible apply If_false)
    | ((with_reducible apply If_dec) <;> intro hc <;> (try (exfalso; omega)))
    | (with_reducible apply If_not)
    | ((with_reducible apply If_any) <;> intro hc)
    | ((with_reducible apply PF.mk); (focus kernel_rfl))
    | ((with_reducible apply DrawP.mk); (focus kernel_rfl))
    | ((with_reducible apply Same.mk); (focus rfl); (first | exact trivial | exact rfl))
    | (intro cap hcap)
    | ((fail_if_success (with_reducible apply Fin.mk)); (fail_if_success (with_reducible apply CallP.mk)); (fail_if_success (with_reducible apply LoopP.mk)); (fail_if_success (with_reducible apply VC.mk)); (fail_if_success (with_reducible apply falseMk)); (fail_if_success (with_reducible apply Round.mk)); (fail_if_success (with_reducible apply Eq.symm)); conv => whnf))
  obtain ⟨y, hy⟩ : ∃ y : List Int, y = (z.drop (0 + Int.toNat 1)).take (N - Int.toNat 1) := ⟨_, rfl⟩
  have hyl : y.length = 4194304 := by
    have : Int.toNat 1 = 1 := rfl
    rw [hy, List.length_take, List.length_drop]; omega
  have ht : Int.toNat 1 = 1 := rfl
  refine new_at y (by omega) ⟨⟨by omega, rfl, by omega, ?_, rfl, Nat.one_pos⟩, trivial⟩ (fun h => by omega) (fun _ => ?_)
  · show Cont.ints _ _ = Cont.ints _ _
    rw [← hy]
  clear hy
  repeat' (first
    | (with_reducible exact True.intro)
    | (with_reducible apply And.intro)
    | ((with_reducible apply VC.mk); (first | trivial | omega | (simp only [inR]; omega) | (exact ⟨rfl, List.prefix_rfl⟩) | (refine ⟨rfl, rfl, rfl, ?_, rfl⟩; (simp; done)) | (focus (repeat' (first | exact True.intro | apply And.intro | rfl | exact Nat.le_of_ble_eq_true rfl)); done) | (simp [inR, Cont.cells]; done) | (simp [inR, Cont.cells]; omega)))
    | (with_reducible apply If_true)
    | (with_reducible apply If_false)
    | ((with_reducible apply If_dec) <;> intro hc <;> (try (exfalso; omega)))
    | (with_reducible apply If_not)
    | ((with_reducible apply If_any) <;> intro hc)
    | ((with_reducible apply PF.mk); (focus kernel_rfl))
    | ((with_reducible apply DrawP.mk); (focus kernel_rfl))
    | ((with_reducible apply Same.mk); (focus rfl); (first | exact trivial | exact rfl))
    | (intro cap hcap)
    | ((fail_if_success (with_reducible apply Fin.mk)); (fail_if_success (with_reducible apply CallP.mk)); (fail_if_success (with_reducible apply LoopP.mk)); (fail_if_success (with_reducible apply VC.mk)); (fail_if_success (with_reducible apply falseMk)); (fail_if_success (with_reducible apply Round.mk)); (fail_if_success (with_reducible apply Eq.symm)); conv => whnf))
  refine write_at (DF.mk0 y) 4194304 [1] 2 ⟨by simp [DF.mk0], by simp [DF.mk0], by simp [DF.mk0], by simp [DF.mk0], by simp, by simp [DF.mk0], by show y.length ≤ _; omega⟩ rfl ⟨rfl, rfl, ⟨by decide, rfl, rfl, rfl, rfl, Nat.one_pos⟩, trivial⟩ ?_
  intro r s1 hr
  have hr : r = 3 ∧ s1 = (DF.mk0 y).asked := by
    rcases hr with ⟨_, h, _⟩ | ⟨_, _, h, _⟩ | ⟨h, _, _, _, h2⟩ | ⟨_, _, _, h, _⟩
    · exact absurd h (by unfold DF.refused DF.mk0; simp)
    · exact absurd h (by decide)
    · exact ⟨h, h2⟩
    · exact absurd h (by decide)
  obtain ⟨rfl, hs1⟩ := hr
  have o1 : s1.now.length = 4194304 ∧ s1.ops = 1 ∧ s1.wrote = 0 ∧ s1.items = [] ∧ s1.fail = 0 ∧ s1.stop = 0 := by rw [hs1]; exact ⟨hyl, rfl, rfl, rfl, rfl, rfl⟩
  have k1 : s1.Ok (0 + 1) := by rw [hs1]; exact (DF.Ok.zero (by omega)).ask
  clear hs1
  repeat' (first
    | (with_reducible exact True.intro)
    | (with_reducible apply And.intro)
    | ((with_reducible apply VC.mk); (first | trivial | omega | (simp only [inR]; omega) | (exact ⟨rfl, List.prefix_rfl⟩) | (refine ⟨rfl, rfl, rfl, ?_, rfl⟩; (simp; done)) | (focus (repeat' (first | exact True.intro | apply And.intro | rfl | exact Nat.le_of_ble_eq_true rfl)); done) | (simp [inR, Cont.cells]; done) | (simp [inR, Cont.cells]; omega)))
    | (with_reducible apply If_true)
    | (with_reducible apply If_false)
    | ((with_reducible apply If_dec) <;> intro hc <;> (try (exfalso; omega)))
    | (with_reducible apply If_not)
    | ((with_reducible apply If_any) <;> intro hc)
    | ((with_reducible apply PF.mk); (focus kernel_rfl))
    | ((with_reducible apply DrawP.mk); (focus kernel_rfl))
    | ((with_reducible apply Same.mk); (focus rfl); (first | exact trivial | exact rfl))
    | (intro cap hcap)
    | ((fail_if_success (with_reducible apply Fin.mk)); (fail_if_success (with_reducible apply CallP.mk)); (fail_if_success (with_reducible apply LoopP.mk)); (fail_if_success (with_reducible apply VC.mk)); (fail_if_success (with_reducible apply falseMk)); (fail_if_success (with_reducible apply Round.mk)); (fail_if_success (with_reducible apply Eq.symm)); conv => whnf))
  refine write_at s1 4194303 [1] 2 ⟨by omega, by omega, by omega, by omega, by simp, by rw [o1.2.2.2.1]; simp, by omega⟩ rfl ⟨rfl, rfl, ⟨by decide, rfl, rfl, rfl, rfl, Nat.one_pos⟩, trivial⟩ ?_
  intro r s2 hr
  have hr : r = 0 ∧ s2 = s1.wrote1 4194303 [1] := by
    rcases hr with ⟨_, h, _⟩ | ⟨_, _, h, _⟩ | ⟨_, _, _, h, _⟩ | ⟨h, _, _, _, h2⟩
    · unfold DF.refused at h; omega
    · exact absurd h (by decide)
    · exact absurd h (by decide)
    · exact ⟨h, h2⟩
  obtain ⟨rfl, hs2⟩ := hr
  obtain ⟨k2, _, _, _, k3, k4⟩ := k1.write (at_ := 4194303) (xs := [1]) (by decide) (by decide)
  rw [← hs2] at k2 k3 k4
  have k5 := k2.ops
  have k6 := k2.wrote
  have k7 := k2.len
  have k8 := k2.now
  have k9 : ([1] : List Int).length = 1 := rfl
  rw [k9] at k5 k6 k7
  clear hs2
  repeat' (first
    | (with_reducible exact True.intro)
    | (with_reducible apply And.intro)
    | ((with_reducible apply VC.mk); (first | trivial | omega | (simp only [inR]; omega) | (exact ⟨rfl, List.prefix_rfl⟩) | (refine ⟨rfl, rfl, rfl, ?_, rfl⟩; (simp; done)) | (focus (repeat' (first | exact True.intro | apply And.intro | rfl | exact Nat.le_of_ble_eq_true rfl)); done) | (simp [inR, Cont.cells]; done) | (simp [inR, Cont.cells]; omega)))
    | (with_reducible apply If_true)
    | (with_reducible apply If_false)
    | ((with_reducible apply If_dec) <;> intro hc <;> (try (exfalso; omega)))
    | (with_reducible apply If_not)
    | ((with_reducible apply If_any) <;> intro hc)
    | ((with_reducible apply PF.mk); (focus kernel_rfl))
    | ((with_reducible apply DrawP.mk); (focus kernel_rfl))
    | ((with_reducible apply Same.mk); (focus rfl); (first | exact trivial | exact rfl))
    | (intro cap hcap)
    | ((fail_if_success (with_reducible apply Fin.mk)); (fail_if_success (with_reducible apply CallP.mk)); (fail_if_success (with_reducible apply LoopP.mk)); (fail_if_success (with_reducible apply VC.mk)); (fail_if_success (with_reducible apply falseMk)); (fail_if_success (with_reducible apply Round.mk)); (fail_if_success (with_reducible apply Eq.symm)); conv => whnf))
  refine truncate_at s2 4194305 2 ⟨by omega, by omega, by omega, by omega, k8, by omega⟩ rfl ⟨rfl, rfl, trivial⟩ ?_
  intro r s3 hr
  have hr : r = 3 := by
    rcases hr with ⟨_, h, _⟩ | ⟨h, _⟩ | ⟨_, _, _, h, _⟩
    · unfold DF.refused at h; omega
    · exact h
    · exact absurd h (by decide)
  subst hr
  repeat' (first
    | (with_reducible exact True.intro)
    | (with_reducible apply And.intro)
    | ((with_reducible apply VC.mk); (first | trivial | omega | (simp only [inR]; omega) | (exact ⟨rfl, List.prefix_rfl⟩) | (refine ⟨rfl, rfl, rfl, ?_, rfl⟩; (simp; done)) | (focus (repeat' (first | exact True.intro | apply And.intro | rfl | exact Nat.le_of_ble_eq_true rfl)); done) | (simp [inR, Cont.cells]; done) | (simp [inR, Cont.cells]; omega)))
    | (with_reducible apply If_true)
    | (with_reducible apply If_false)
    | ((with_reducible apply If_dec) <;> intro hc <;> (try (exfalso; omega)))
    | (with_reducible apply If_not)
    | ((with_reducible apply If_any) <;> intro hc)
    | ((with_reducible apply PF.mk); (focus kernel_rfl))
    | ((with_reducible apply DrawP.mk); (focus kernel_rfl))
    | ((with_reducible apply Same.mk); (focus rfl); (first | exact trivial | exact rfl))
    | (intro cap hcap)
    | ((fail_if_success (with_reducible apply Fin.mk)); (fail_if_success (with_reducible apply CallP.mk)); (fail_if_success (with_reducible apply LoopP.mk)); (fail_if_success (with_reducible apply VC.mk)); (fail_if_success (with_reducible apply falseMk)); (fail_if_success (with_reducible apply Round.mk)); (fail_if_success (with_reducible apply Eq.symm)); conv => whnf))
  exact Fin.bool (by simp) hk
end Go.Proofs.Ytjccknmgmommcaa.Sx
