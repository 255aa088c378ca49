import Derived.Test.YtjccknmgmommcaaSxJ7
set_option linter.unusedVariables false
set_option linter.unusedSimpArgs false
set_option maxRecDepth 10000
namespace Go.Proofs.Ytjccknmgmommcaa.Sx
open Go.RowKit Go.Proofs.Ytjccknmgmommcaa.Sx.Tb
theorem jnew_K : ConOk Go.Proofs.Try.prog 62 ⟨DF × Int × Int, fun x => [.p 0 0 1 0, .v (.int .i64 x.2.1), .v (.int .i64 x.2.2)], fun x => [x.1.pk], fun x => x.1.now.length ≤ 4194304 ∧ inR .i64 x.2.2 ∧ inR .i64 x.2.1, fun x k => (newE x.1 x.2.1 x.2.2 ≠ 0 → k (.tup [.v (.pointer none), .v (.int .i64 (newE x.1 x.2.1 x.2.2))]) [x.1.pk]) ∧ (newE x.1 x.2.1 x.2.2 = 0 → k (.tup [.p 1 0 1 0, .v (.int .i64 0)]) [x.1.pk, JR.blk ⟨x.2.1, x.2.2, 0⟩ 0])⟩ := by
  refine conOk_fin (T := tab) mix Go.Proofs.Try.func62 (by decide +kernel) (by kernel_rfl) [16, 21] [] ?_ ?_ ?_ ?_
  · intro x h0; rw [Go.Proofs.Try.ntmps62]; exact Nat.le_of_ble_eq_true rfl
  · intro x k h0 hk; exact ⟨fun h => ⟨hk.1 h, DF.goodP _ (by simp [AV.noF, noFs])⟩, fun h => ⟨hk.2 h, ⟨by simp [AV.noF, noFs], (fun c hc => by simp at hc; rcases hc with rfl | rfl; exact DF.pk_noF _; exact JR.noF _ _), Nat.le_of_ble_eq_true rfl⟩⟩⟩
  · intro x h0; exact DF.ndP x.1
  · intro x k h0 hk; exact jnew_c x.1 x.2.1 x.2.2 _ h0 (fun h => Fin.same (hk.1 h)) (fun h => Fin.same (hk.2 h))
theorem jnew_at {avs : List AV} {H : List Chunk} {k : K} (s : DF) (pos size : Int) (i : Nat) (h0 : s.now.length ≤ 4194304 ∧ inR .i64 size ∧ inR .i64 pos) (hc : nth H i = some s.pk) (ha : argsM H [i] [.p 0 0 1 0, .v (.int .i64 pos), .v (.int .i64 size)] avs) (h1 : newE s pos size ≠ 0 → k (.tup [.v (.pointer none), .v (.int .i64 (newE s pos size))]) (H.set i s.pk))
    (h2 : newE s pos size = 0 → k (.tup [.p H.length 0 1 0, .v (.int .i64 0)]) (H.set i s.pk ++ [JR.blk ⟨pos, size, 0⟩ i])) : CallP Go.Proofs.Try.prog 62 avs H k :=
  CallP.mk ⟨_, jnew_K.real, Con.spec jnew_K, (s, pos, size), [i], ⟨h0, rfl, ⟨hc, trivial⟩, ha⟩, fun h => (numK_eq _ _).mpr (by simpa [putAll, AV.ren, rens, DF.pk, Chunk.ren] using h1 h), fun h => (numK_eq _ _).mpr (by simpa [putAll, AV.ren, rens, fren, nth, Chunk.ren, Cont.ren, DF.pk, JR.blk] using h2 h)⟩
theorem nroom_c  (k : K) (hk : k (.v (.int .i64 0)) []) : evFunc tab [] [] Go.Proofs.Try.f66 [.v (.pointer none)] [] k := by
  repeat' (first
    | (with_reducible exact True.intro)
    | (with_reducible apply And.intro)
    | ((with_reducible apply VC.mk); (first | trivial | omega | (simp only [inR]; omega) | (exact ⟨rfl, List.prefix_rfl⟩) | (refine ⟨rfl, rfl, rfl, ?_, rfl⟩; (simp; done)) | (focus (repeat' (first | exact True.intro | apply And.intro | rfl | exact Nat.le_of_ble_eq_true rfl)); done) | (simp [inR, Cont.cells]; done) | (simp [inR, Cont.cells]; omega)))
    | (with_reducible apply If_true)
    | (with_reducible apply If_false)
    | ((with_reducible apply If_dec) <;> intro hc <;> (try (exfalso; omega)))
    | (with_reducible apply If_not)
    | ((with_reducible apply If_any) <;> intro hc)
    | ((with_reducible apply PF.mk); (focus kernel_rfl))
    | ((with_reducible apply DrawP.mk); (focus kernel_rfl))
    | ((with_reducible apply Same.mk); (focus rfl); (first | exact trivial | exact rfl))
    | (intro cap hcap)
    | ((fail_if_success (with_reducible apply Fin.mk)); (fail_if_success (with_reducible apply CallP.mk)); (fail_if_success (with_reducible apply LoopP.mk)); (fail_if_success (with_reducible apply VC.mk)); (fail_if_success (with_reducible apply falseMk)); (fail_if_success (with_reducible apply Round.mk)); (fail_if_success (with_reducible apply Eq.symm)); conv => whnf))
  exact Fin.same hk
theorem nroom_K : ConOk Go.Proofs.Try.prog 66 (Con.fn (Unit) (fun _ => [.v (.pointer none)]) (fun _ => []) (fun _ => True) (fun _ => .v (.int .i64 0)) (fun _ => [])) := by
  refine conOk_fn (T := tab) mix Go.Proofs.Try.func66 (by decide +kernel) (by kernel_rfl) [] [] ?_ ?_ ?_ ?_
  · rintro _; rw [Go.Proofs.Try.ntmps66]; exact Nat.le_of_ble_eq_true rfl
  · rintro _ _; exact ⟨by simp [AV.noF, noFs, Cont.noF], (fun c hc => by cases hc), Nat.le_refl _⟩
  · rintro _ _ c hc; cases hc
  · rintro _ k _ hk; exact nroom_c  k hk
theorem nroom_at {avs : List AV} {H : List Chunk} {k : K}  (ha : argsM H [] [.v (.pointer none)] avs) (h : k (.v (.int .i64 0)) H) : CallP Go.Proofs.Try.prog 66 avs H k :=
  CallP.mk ⟨_, nroom_K.real, Con.spec nroom_K, (), [], ⟨trivial, rfl, trivial, ha⟩, (numK_eq H.length (fun N => k (AV.ren (fren [] N) (.v (.int .i64 0))) (putAll H [] []))).mpr (by simpa [putAll, AV.ren, rens] using h)⟩
theorem nclear_c  (k : K) (hk : k (.v (.int .i64 2)) []) : evFunc tab [] p70 Go.Proofs.Try.f70 [.v (.pointer none)] [] k := by
  repeat' (first
    | (with_reducible exact True.intro)
    | (with_reducible apply And.intro)
    | ((with_reducible apply VC.mk); (first | trivial | omega | (simp only [inR]; omega) | (exact ⟨rfl, List.prefix_rfl⟩) | (refine ⟨rfl, rfl, rfl, ?_, rfl⟩; (simp; done)) | (focus (repeat' (first | exact True.intro | apply And.intro | rfl | exact Nat.le_of_ble_eq_true rfl)); done) | (simp [inR, Cont.cells]; done) | (simp [inR, Cont.cells]; omega)))
    | (with_reducible apply If_true)
    | (with_reducible apply If_false)
    | ((with_reducible apply If_dec) <;> intro hc <;> (try (exfalso; omega)))
    | (with_reducible apply If_not)
    | ((with_reducible apply If_any) <;> intro hc)
    | ((with_reducible apply PF.mk); (focus kernel_rfl))
    | ((with_reducible apply DrawP.mk); (focus kernel_rfl))
    | ((with_reducible apply Same.mk); (focus rfl); (first | exact trivial | exact rfl))
    | (intro cap hcap)
    | ((fail_if_success (with_reducible apply Fin.mk)); (fail_if_success (with_reducible apply CallP.mk)); (fail_if_success (with_reducible apply LoopP.mk)); (fail_if_success (with_reducible apply VC.mk)); (fail_if_success (with_reducible apply falseMk)); (fail_if_success (with_reducible apply Round.mk)); (fail_if_success (with_reducible apply Eq.symm)); conv => whnf))
  exact Fin.same hk
theorem nclear_K : ConOk Go.Proofs.Try.prog 70 (Con.fn (Unit) (fun _ => [.v (.pointer none)]) (fun _ => []) (fun _ => True) (fun _ => .v (.int .i64 2)) (fun _ => [])) := by
  refine conOk_fn (T := tab) mix Go.Proofs.Try.func70 (by decide +kernel) (by kernel_rfl) [] p70 ?_ ?_ ?_ ?_
  · rintro _; rw [Go.Proofs.Try.ntmps70]; exact Nat.le_of_ble_eq_true rfl
  · rintro _ _; exact ⟨by simp [AV.noF, noFs, Cont.noF], (fun c hc => by cases hc), Nat.le_refl _⟩
  · rintro _ _ c hc; cases hc
  · rintro _ k _ hk; exact nclear_c  k hk
theorem nclear_at {avs : List AV} {H : List Chunk} {k : K}  (ha : argsM H [] [.v (.pointer none)] avs) (h : k (.v (.int .i64 2)) H) : CallP Go.Proofs.Try.prog 70 avs H k :=
  CallP.mk ⟨_, nclear_K.real, Con.spec nclear_K, (), [], ⟨trivial, rfl, trivial, ha⟩, (numK_eq H.length (fun N => k (AV.ren (fren [] N) (.v (.int .i64 2))) (putAll H [] []))).mpr (by simpa [putAll, AV.ren, rens] using h)⟩
theorem napply_c (rs : List RecR) (k : K) (hk : k (.v (.int .i64 2)) []) : evFunc tab [] p69 Go.Proofs.Try.f69 [.v (.pointer none), .im false 2 rs.length (recsC false rs)] [] k := by
  repeat' (first
    | (with_reducible exact True.intro)
    | (with_reducible apply And.intro)
    | ((with_reducible apply VC.mk); (first | trivial | omega | (simp only [inR]; omega) | (exact ⟨rfl, List.prefix_rfl⟩) | (refine ⟨rfl, rfl, rfl, ?_, rfl⟩; (simp; done)) | (focus (repeat' (first | exact True.intro | apply And.intro | rfl | exact Nat.le_of_ble_eq_true rfl)); done) | (simp [inR, Cont.cells]; done) | (simp [inR, Cont.cells]; omega)))
    | (with_reducible apply If_true)
    | (with_reducible apply If_false)
    | ((with_reducible apply If_dec) <;> intro hc <;> (try (exfalso; omega)))
    | (with_reducible apply If_not)
    | ((with_reducible apply If_any) <;> intro hc)
    | ((with_reducible apply PF.mk); (focus kernel_rfl))
    | ((with_reducible apply DrawP.mk); (focus kernel_rfl))
    | ((with_reducible apply Same.mk); (focus rfl); (first | exact trivial | exact rfl))
    | (intro cap hcap)
    | ((fail_if_success (with_reducible apply Fin.mk)); (fail_if_success (with_reducible apply CallP.mk)); (fail_if_success (with_reducible apply LoopP.mk)); (fail_if_success (with_reducible apply VC.mk)); (fail_if_success (with_reducible apply falseMk)); (fail_if_success (with_reducible apply Round.mk)); (fail_if_success (with_reducible apply Eq.symm)); conv => whnf))
  exact Fin.same hk
theorem napply_K : ConOk Go.Proofs.Try.prog 69 (Con.fn (List RecR) (fun rs => [.v (.pointer none), .im false 2 rs.length (recsC false rs)]) (fun _ => []) (fun _ => True) (fun rs => .v (.int .i64 2)) (fun _ => [])) := by
  refine conOk_fn (T := tab) mix Go.Proofs.Try.func69 (by decide +kernel) (by kernel_rfl) [] p69 ?_ ?_ ?_ ?_
  · rintro rs; rw [Go.Proofs.Try.ntmps69]; exact Nat.le_of_ble_eq_true rfl
  · rintro rs _; exact ⟨by simp [AV.noF, noFs, Cont.noF], (fun c hc => by cases hc), Nat.le_refl _⟩
  · rintro rs _ c hc; cases hc
  · rintro rs k _ hk; exact napply_c rs k hk
theorem napply_at {avs : List AV} {H : List Chunk} {k : K} (rs : List RecR) (ha : argsM H [] [.v (.pointer none), .im false 2 rs.length (recsC false rs)] avs) (h : k (.v (.int .i64 2)) H) : CallP Go.Proofs.Try.prog 69 avs H k :=
  CallP.mk ⟨_, napply_K.real, Con.spec napply_K, rs, [], ⟨trivial, rfl, trivial, ha⟩, (numK_eq H.length (fun N => k (AV.ren (fren [] N) (.v (.int .i64 2))) (putAll H [] []))).mpr (by simpa [putAll, AV.ren, rens] using h)⟩
theorem ncommit_c (rs : List RecR) (k : K) (hk : k (.v (.int .i64 2)) []) : evFunc tab [] p68 Go.Proofs.Try.f68 [.v (.pointer none), .im false 2 rs.length (recsC false rs)] [] k := by
  repeat' (first
    | (with_reducible exact True.intro)
    | (with_reducible apply And.intro)
    | ((with_reducible apply VC.mk); (first | trivial | omega | (simp only [inR]; omega) | (exact ⟨rfl, List.prefix_rfl⟩) | (refine ⟨rfl, rfl, rfl, ?_, rfl⟩; (simp; done)) | (focus (repeat' (first | exact True.intro | apply And.intro | rfl | exact Nat.le_of_ble_eq_true rfl)); done) | (simp [inR, Cont.cells]; done) | (simp [inR, Cont.cells]; omega)))
    | (with_reducible apply If_true)
    | (with_reducible apply If_false)
    | ((with_reducible apply If_dec) <;> intro hc <;> (try (exfalso; omega)))
    | (with_reducible apply If_not)
    | ((with_reducible apply If_any) <;> intro hc)
    | ((with_reducible apply PF.mk); (focus kernel_rfl))
    | ((with_reducible apply DrawP.mk); (focus kernel_rfl))
    | ((with_reducible apply Same.mk); (focus rfl); (first | exact trivial | exact rfl))
    | (intro cap hcap)
    | ((fail_if_success (with_reducible apply Fin.mk)); (fail_if_success (with_reducible apply CallP.mk)); (fail_if_success (with_reducible apply LoopP.mk)); (fail_if_success (with_reducible apply VC.mk)); (fail_if_success (with_reducible apply falseMk)); (fail_if_success (with_reducible apply Round.mk)); (fail_if_success (with_reducible apply Eq.symm)); conv => whnf))
  exact Fin.same hk
theorem ncommit_K : ConOk Go.Proofs.Try.prog 68 (Con.fn (List RecR) (fun rs => [.v (.pointer none), .im false 2 rs.length (recsC false rs)]) (fun _ => []) (fun _ => True) (fun rs => .v (.int .i64 2)) (fun _ => [])) := by
  refine conOk_fn (T := tab) mix Go.Proofs.Try.func68 (by decide +kernel) (by kernel_rfl) [] p68 ?_ ?_ ?_ ?_
  · rintro rs; rw [Go.Proofs.Try.ntmps68]; exact Nat.le_of_ble_eq_true rfl
  · rintro rs _; exact ⟨by simp [AV.noF, noFs, Cont.noF], (fun c hc => by cases hc), Nat.le_refl _⟩
  · rintro rs _ c hc; cases hc
  · rintro rs k _ hk; exact ncommit_c rs k hk
theorem ncommit_at {avs : List AV} {H : List Chunk} {k : K} (rs : List RecR) (ha : argsM H [] [.v (.pointer none), .im false 2 rs.length (recsC false rs)] avs) (h : k (.v (.int .i64 2)) H) : CallP Go.Proofs.Try.prog 68 avs H k :=
  CallP.mk ⟨_, ncommit_K.real, Con.spec ncommit_K, rs, [], ⟨trivial, rfl, trivial, ha⟩, (numK_eq H.length (fun N => k (AV.ren (fren [] N) (.v (.int .i64 2))) (putAll H [] []))).mpr (by simpa [putAll, AV.ren, rens] using h)⟩
theorem npending_c  (k : K) (hk : k (.tup [.v (.slice none 0 0), .v (.bool false), .v (.int .i64 2)]) []) : evFunc tab [] p64 Go.Proofs.Try.f64 [.v (.pointer none)] [] k := by
  repeat' (first
    | (with_reducible exact True.intro)
    | (with_reducible apply And.intro)
    | ((with_reducible apply VC.mk); (first | trivial | omega | (simp only [inR]; omega) | (exact ⟨rfl, List.prefix_rfl⟩) | (refine ⟨rfl, rfl, rfl, ?_, rfl⟩; (simp; done)) | (focus (repeat' (first | exact True.intro | apply And.intro | rfl | exact Nat.le_of_ble_eq_true rfl)); done) | (simp [inR, Cont.cells]; done) | (simp [inR, Cont.cells]; omega)))
    | (with_reducible apply If_true)
    | (with_reducible apply If_false)
    | ((with_reducible apply If_dec) <;> intro hc <;> (try (exfalso; omega)))
    | (with_reducible apply If_not)
    | ((with_reducible apply If_any) <;> intro hc)
    | ((with_reducible apply PF.mk); (focus kernel_rfl))
    | ((with_reducible apply DrawP.mk); (focus kernel_rfl))
    | ((with_reducible apply Same.mk); (focus rfl); (first | exact trivial | exact rfl))
    | (intro cap hcap)
    | ((fail_if_success (with_reducible apply Fin.mk)); (fail_if_success (with_reducible apply CallP.mk)); (fail_if_success (with_reducible apply LoopP.mk)); (fail_if_success (with_reducible apply VC.mk)); (fail_if_success (with_reducible apply falseMk)); (fail_if_success (with_reducible apply Round.mk)); (fail_if_success (with_reducible apply Eq.symm)); conv => whnf))
  exact Fin.same hk
theorem npending_K : ConOk Go.Proofs.Try.prog 64 (Con.fn (Unit) (fun _ => [.v (.pointer none)]) (fun _ => []) (fun _ => True) (fun _ => .tup [.v (.slice none 0 0), .v (.bool false), .v (.int .i64 2)]) (fun _ => [])) := by
  refine conOk_fn (T := tab) mix Go.Proofs.Try.func64 (by decide +kernel) (by kernel_rfl) [] p64 ?_ ?_ ?_ ?_
  · rintro _; rw [Go.Proofs.Try.ntmps64]; exact Nat.le_of_ble_eq_true rfl
  · rintro _ _; exact ⟨by simp [AV.noF, noFs, Cont.noF], (fun c hc => by cases hc), Nat.le_refl _⟩
  · rintro _ _ c hc; cases hc
  · rintro _ k _ hk; exact npending_c  k hk
theorem npending_at {avs : List AV} {H : List Chunk} {k : K}  (ha : argsM H [] [.v (.pointer none)] avs) (h : k (.tup [.v (.slice none 0 0), .v (.bool false), .v (.int .i64 2)]) H) : CallP Go.Proofs.Try.prog 64 avs H k :=
  CallP.mk ⟨_, npending_K.real, Con.spec npending_K, (), [], ⟨trivial, rfl, trivial, ha⟩, (numK_eq H.length (fun N => k (AV.ren (fren [] N) (.tup [.v (.slice none 0 0), .v (.bool false), .v (.int .i64 2)])) (putAll H [] []))).mpr (by simpa [putAll, AV.ren, rens] using h)⟩
theorem nreplay_c  (k : K) (hk : k (.tup [.v (.int .i64 0), .v (.int .i64 2)]) []) : evFunc tab [] [] Go.Proofs.Try.f63 [.v (.pointer none)] [] k := by
  repeat' (first
    | (with_reducible exact True.intro)
    | (with_reducible apply And.intro)
    | ((with_reducible apply VC.mk); (first | trivial | omega | (simp only [inR]; omega) | (exact ⟨rfl, List.prefix_rfl⟩) | (refine ⟨rfl, rfl, rfl, ?_, rfl⟩; (simp; done)) | (focus (repeat' (first | exact True.intro | apply And.intro | rfl | exact Nat.le_of_ble_eq_true rfl)); done) | (simp [inR, Cont.cells]; done) | (simp [inR, Cont.cells]; omega)))
    | (with_reducible apply If_true)
    | (with_reducible apply If_false)
    | ((with_reducible apply If_dec) <;> intro hc <;> (try (exfalso; omega)))
    | (with_reducible apply If_not)
    | ((with_reducible apply If_any) <;> intro hc)
    | ((with_reducible apply PF.mk); (focus kernel_rfl))
    | ((with_reducible apply DrawP.mk); (focus kernel_rfl))
    | ((with_reducible apply Same.mk); (focus rfl); (first | exact trivial | exact rfl))
    | (intro cap hcap)
    | ((fail_if_success (with_reducible apply Fin.mk)); (fail_if_success (with_reducible apply CallP.mk)); (fail_if_success (with_reducible apply LoopP.mk)); (fail_if_success (with_reducible apply VC.mk)); (fail_if_success (with_reducible apply falseMk)); (fail_if_success (with_reducible apply Round.mk)); (fail_if_success (with_reducible apply Eq.symm)); conv => whnf))
  refine npending_at ⟨rfl, trivial⟩ ?_
  repeat' (first
    | (with_reducible exact True.intro)
    | (with_reducible apply And.intro)
    | ((with_reducible apply VC.mk); (first | trivial | omega | (simp only [inR]; omega) | (exact ⟨rfl, List.prefix_rfl⟩) | (refine ⟨rfl, rfl, rfl, ?_, rfl⟩; (simp; done)) | (focus (repeat' (first | exact True.intro | apply And.intro | rfl | exact Nat.le_of_ble_eq_true rfl)); done) | (simp [inR, Cont.cells]; done) | (simp [inR, Cont.cells]; omega)))
    | (with_reducible apply If_true)
    | (with_reducible apply If_false)
    | ((with_reducible apply If_dec) <;> intro hc <;> (try (exfalso; omega)))
    | (with_reducible apply If_not)
    | ((with_reducible apply If_any) <;> intro hc)
    | ((with_reducible apply PF.mk); (focus kernel_rfl))
    | ((with_reducible apply DrawP.mk); (focus kernel_rfl))
    | ((with_reducible apply Same.mk); (focus rfl); (first | exact trivial | exact rfl))
    | (intro cap hcap)
    | ((fail_if_success (with_reducible apply Fin.mk)); (fail_if_success (with_reducible apply CallP.mk)); (fail_if_success (with_reducible apply LoopP.mk)); (fail_if_success (with_reducible apply VC.mk)); (fail_if_success (with_reducible apply falseMk)); (fail_if_success (with_reducible apply Round.mk)); (fail_if_success (with_reducible apply Eq.symm)); conv => whnf))
  exact Fin.same hk
theorem nreplay_K : ConOk Go.Proofs.Try.prog 63 (Con.fn (Unit) (fun _ => [.v (.pointer none)]) (fun _ => []) (fun _ => True) (fun _ => .tup [.v (.int .i64 0), .v (.int .i64 2)]) (fun _ => [])) := by
  refine conOk_fn (T := tab) mix Go.Proofs.Try.func63 (by decide +kernel) (by kernel_rfl) [] [] ?_ ?_ ?_ ?_
  · rintro _; rw [Go.Proofs.Try.ntmps63]; exact Nat.le_of_ble_eq_true rfl
  · rintro _ _; exact ⟨by simp [AV.noF, noFs, Cont.noF], (fun c hc => by cases hc), Nat.le_refl _⟩
  · rintro _ _ c hc; cases hc
  · rintro _ k _ hk; exact nreplay_c  k hk
theorem nreplay_at {avs : List AV} {H : List Chunk} {k : K}  (ha : argsM H [] [.v (.pointer none)] avs) (h : k (.tup [.v (.int .i64 0), .v (.int .i64 2)]) H) : CallP Go.Proofs.Try.prog 63 avs H k :=
  CallP.mk ⟨_, nreplay_K.real, Con.spec nreplay_K, (), [], ⟨trivial, rfl, trivial, ha⟩, (numK_eq H.length (fun N => k (AV.ren (fren [] N) (.tup [.v (.int .i64 0), .v (.int .i64 2)])) (putAll H [] []))).mpr (by simpa [putAll, AV.ren, rens] using h)⟩
theorem njnew_c (a : Int) (b : Int) (k : K) (hk : k (.tup [.v (.pointer none), .v (.int .i64 2)]) []) : evFunc tab [] [] Go.Proofs.Try.f62 [.v (.pointer none), .v (.int .i64 a), .v (.int .i64 b)] [] k := by
  repeat' (first
    | (with_reducible exact True.intro)
    | (with_reducible apply And.intro)
    | ((with_reducible apply VC.mk); (first | trivial | omega | (simp only [inR]; omega) | (exact ⟨rfl, List.prefix_rfl⟩) | (refine ⟨rfl, rfl, rfl, ?_, rfl⟩; (simp; done)) | (focus (repeat' (first | exact True.intro | apply And.intro | rfl | exact Nat.le_of_ble_eq_true rfl)); done) | (simp [inR, Cont.cells]; done) | (simp [inR, Cont.cells]; omega)))
    | (with_reducible apply If_true)
    | (with_reducible apply If_false)
    | ((with_reducible apply If_dec) <;> intro hc <;> (try (exfalso; omega)))
    | (with_reducible apply If_not)
    | ((with_reducible apply If_any) <;> intro hc)
    | ((with_reducible apply PF.mk); (focus kernel_rfl))
    | ((with_reducible apply DrawP.mk); (focus kernel_rfl))
    | ((with_reducible apply Same.mk); (focus rfl); (first | exact trivial | exact rfl))
    | (intro cap hcap)
    | ((fail_if_success (with_reducible apply Fin.mk)); (fail_if_success (with_reducible apply CallP.mk)); (fail_if_success (with_reducible apply LoopP.mk)); (fail_if_success (with_reducible apply VC.mk)); (fail_if_success (with_reducible apply falseMk)); (fail_if_success (with_reducible apply Round.mk)); (fail_if_success (with_reducible apply Eq.symm)); conv => whnf))
  exact Fin.same hk
theorem njnew_K : ConOk Go.Proofs.Try.prog 62 (Con.fn (Int × Int) (fun (a, b) => [.v (.pointer none), .v (.int .i64 a), .v (.int .i64 b)]) (fun _ => []) (fun _ => True) (fun (a, b) => .tup [.v (.pointer none), .v (.int .i64 2)]) (fun _ => [])) := by
  refine conOk_fn (T := tab) mix Go.Proofs.Try.func62 (by decide +kernel) (by kernel_rfl) [] [] ?_ ?_ ?_ ?_
  · rintro ⟨a, b⟩; rw [Go.Proofs.Try.ntmps62]; exact Nat.le_of_ble_eq_true rfl
  · rintro ⟨a, b⟩ _; exact ⟨by simp [AV.noF, noFs, Cont.noF], (fun c hc => by cases hc), Nat.le_refl _⟩
  · rintro ⟨a, b⟩ _ c hc; cases hc
  · rintro ⟨a, b⟩ k _ hk; exact njnew_c a b k hk
theorem njnew_at {avs : List AV} {H : List Chunk} {k : K} (a : Int) (b : Int) (ha : argsM H [] [.v (.pointer none), .v (.int .i64 a), .v (.int .i64 b)] avs) (h : k (.tup [.v (.pointer none), .v (.int .i64 2)]) H) : CallP Go.Proofs.Try.prog 62 avs H k :=
  CallP.mk ⟨_, njnew_K.real, Con.spec njnew_K, (a, b), [], ⟨trivial, rfl, trivial, ha⟩, (numK_eq H.length (fun N => k (AV.ren (fren [] N) (.tup [.v (.pointer none), .v (.int .i64 2)])) (putAll H [] []))).mpr (by simpa [putAll, AV.ren, rens] using h)⟩
end Go.Proofs.Ytjccknmgmommcaa.Sx
