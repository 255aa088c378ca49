import Derived.Test.YtjccknmgmommcaaSxK1
set_option linter.unusedVariables false
set_option linter.unusedSimpArgs false
set_option maxRecDepth 10000
namespace Go.Proofs.Ytjccknmgmommcaa.Sx
open Go.RowKit Go.Proofs.Ytjccknmgmommcaa.Sx.Tb
/-! ### A header -/
structure HD where
  bits : Int
  size : Int
  host : Int
  jr : Int
  backed : Bool
def HD.clus (h : HD) : Int := if h.bits < 9 ∨ 12 < h.bits then 512 else 2 ^ h.bits.toNat
def HD.refs (h : HD) : Int := (2 * max 0 (min h.host 8192) + h.clus - 1) / h.clus
def HD.guest (h : HD) : Int := (max 0 (min h.size 16777216) + h.clus - 1) / h.clus
def HD.jend (h : HD) : Int := h.clus * (1 + max 0 (min h.jr 8192))
def HD.rend (h : HD) : Int := h.jend + h.refs * h.clus
def HD.first (h : HD) : Int := (h.rend + h.clus + h.clus) / h.clus
def HD.least (h : HD) : Int := ((h.refs + 18) * h.clus + 4096 + 512 + h.clus - 1) / h.clus
def HD.checkV (h : HD) : Int :=
  if h.bits < 9 ∨ 12 < h.bits then 11
  else if h.size < 512 ∨ 16777216 < h.size ∨ h.size % 512 ≠ 0 then 11
  else if h.clus / 8 * (h.clus / 8) < h.guest then 20
  else if h.host < 1 ∨ 8192 < h.host ∨ 4194304 < h.host * h.clus then 20
  else if h.jr < h.least ∨ 8192 < h.jr ∨ h.host < h.first then 11
  else 0
def hR (h : HD) : Prop := inR .i64 h.bits ∧ inR .i64 h.size ∧ inR .i64 h.host ∧ inR .i64 h.jr
theorem HD.clus_cases (h : HD) : h.clus = 512 ∨ h.clus = 1024 ∨ h.clus = 2048 ∨ h.clus = 4096 := by
  unfold HD.clus
  split
  · exact .inl rfl
  · have : h.bits = 9 ∨ h.bits = 10 ∨ h.bits = 11 ∨ h.bits = 12 := by omega
    rcases this with e | e | e | e <;> rw [e] <;> simp
set_option maxHeartbeats 8000000 in
theorem hclus_c (h : HD) (k : K) (h0 : hR h) (hk : ∀ r : Int, r = h.clus → k (.v (.int .i64 r)) []) : evFunc tab [] [] Go.Proofs.Try.f97 [.agg [.v (.int .i64 h.bits), .v (.int .i64 h.size), .v (.int .i64 h.host), .v (.int .i64 h.jr), .v (.bool h.backed)]] [] k := by
  repeat' (first
 | (with_reducible first | exact True.intro | apply And.intro | apply If_true | apply If_false | apply If_not)
 | ((with_reducible apply VC.mk); (first | trivial | omega | (simp only [inR]; omega) | (exact ⟨rfl, List.prefix_rfl⟩) | (refine ⟨rfl, rfl, rfl, ?_, rfl⟩; (simp; done)) | (focus (repeat' (first | exact True.intro | apply And.intro | rfl | exact Nat.le_of_ble_eq_true rfl)); done) | (simp [inR, Cont.cells]; done) | (simp [inR, Cont.cells]; omega)))
 | ((with_reducible apply If_dec) <;> intro hc <;> (try (exfalso; omega)))
 | ((with_reducible apply If_any) <;> intro hc)
 | ((with_reducible first | apply PF.mk | apply DrawP.mk); (focus kernel_rfl))
 | ((with_reducible apply Same.mk); (focus rfl); (first | exact trivial | exact rfl))
 | (intro cap hcap)
 | ((fail_if_success (with_reducible first | apply Fin.mk | apply CallP.mk | apply LoopP.mk | apply VC.mk | apply falseMk | apply Round.mk | apply LookP.mk | apply RangeP.mk | apply NextP.mk | apply EntryP.mk | apply Eq.symm)); conv => whnf))
  · exact Fin.vl (hk _ (by unfold HD.clus; rw [if_pos (.inl hc)]))
  · exact Fin.vl (hk _ (by unfold HD.clus; rw [if_pos (.inr hc)]))
  · refine Fin.vl (hk _ ?_)
    unfold HD.clus
    rw [if_neg (by omega)]
    have : h.bits = 9 ∨ h.bits = 10 ∨ h.bits = 11 ∨ h.bits = 12 := by omega
    rcases this with e | e | e | e <;> rw [e] <;> rfl
def hclusOk (x : HD) : Prop := hR x
def hclusRel (x : HD) (r : Int) : Prop := r = x.clus
theorem hclus_K : ConOk Go.Proofs.Try.prog 97 (Con.of (HD) (Int) (fun x => [.agg [.v (.int .i64 x.bits), .v (.int .i64 x.size), .v (.int .i64 x.host), .v (.int .i64 x.jr), .v (.bool x.backed)]]) (fun _ => []) hclusOk hclusRel (fun _ r => .v (.int .i64 r)) (fun _ _ => [])) := by
  refine conOk_rel (T := tab) mix Go.Proofs.Try.func97 (by decide +kernel) (by kernel_rfl) [] [] (fun n => by rw [Go.Proofs.Try.ntmps97]; exact Nat.le_of_ble_eq_true rfl) (fun x r _ _ => ⟨by simp [AV.noF, noFs, Cont.noF, recsC_noF], (fun c hc => by cases hc), Nat.le_refl _⟩) (fun x _ c hc => by cases hc) ?_
  intro x k h0 hk
  exact hclus_c x k h0 (fun r hr => hk r hr)
theorem hclus_at {avs : List AV} {H : List Chunk} {k : K} (h : HD) (h0 : hR h) (ha : argsM H [] [.agg [.v (.int .i64 h.bits), .v (.int .i64 h.size), .v (.int .i64 h.host), .v (.int .i64 h.jr), .v (.bool h.backed)]] avs) (hQ : ∀ r : Int, (r = h.clus) → k (.v (.int .i64 r)) H) : CallP Go.Proofs.Try.prog 97 avs H k :=
  CallP.mk ⟨_, hclus_K.real, Con.spec hclus_K, (h), [], ⟨h0, rfl, trivial, ha⟩, fun r hr => (numK_eq H.length (fun N => k (AV.ren (fren [] N) (.v (.int .i64 r))) (putAll H [] []))).mpr (by simpa [putAll, AV.ren, rens, Cont.ren, recsC, recAV] using hQ r hr)⟩
set_option maxHeartbeats 8000000 in
theorem hentries_c (h : HD) (k : K) (h0 : hR h) (hk : ∀ r : Int, r = h.clus / 8 → k (.v (.int .i64 r)) []) : evFunc tab [] [] Go.Proofs.Try.f95 [.agg [.v (.int .i64 h.bits), .v (.int .i64 h.size), .v (.int .i64 h.host), .v (.int .i64 h.jr), .v (.bool h.backed)]] [] k := by
  repeat' (first
 | (with_reducible first | exact True.intro | apply And.intro | apply If_true | apply If_false | apply If_not)
 | ((with_reducible apply VC.mk); (first | trivial | omega | (simp only [inR]; omega) | (exact ⟨rfl, List.prefix_rfl⟩) | (refine ⟨rfl, rfl, rfl, ?_, rfl⟩; (simp; done)) | (focus (repeat' (first | exact True.intro | apply And.intro | rfl | exact Nat.le_of_ble_eq_true rfl)); done) | (simp [inR, Cont.cells]; done) | (simp [inR, Cont.cells]; omega)))
 | ((with_reducible apply If_dec) <;> intro hc <;> (try (exfalso; omega)))
 | ((with_reducible apply If_any) <;> intro hc)
 | ((with_reducible first | apply PF.mk | apply DrawP.mk); (focus kernel_rfl))
 | ((with_reducible apply Same.mk); (focus rfl); (first | exact trivial | exact rfl))
 | (intro cap hcap)
 | ((fail_if_success (with_reducible first | apply Fin.mk | apply CallP.mk | apply LoopP.mk | apply VC.mk | apply falseMk | apply Round.mk | apply LookP.mk | apply RangeP.mk | apply NextP.mk | apply EntryP.mk | apply Eq.symm)); conv => whnf))
  refine hclus_at h h0 ⟨⟨rfl, rfl, rfl, rfl, rfl, trivial⟩, trivial⟩ ?_
  intro r hr
  have hc := h.clus_cases
  rw [← hr] at hc
  have hk2 := hk (r / 8) (by rw [hr])
  repeat' (first
 | (with_reducible first | exact True.intro | apply And.intro | apply If_true | apply If_false | apply If_not)
 | ((with_reducible apply VC.mk); (first | trivial | omega | (simp only [inR]; omega) | (exact ⟨rfl, List.prefix_rfl⟩) | (refine ⟨rfl, rfl, rfl, ?_, rfl⟩; (simp; done)) | (focus (repeat' (first | exact True.intro | apply And.intro | rfl | exact Nat.le_of_ble_eq_true rfl)); done) | (simp [inR, Cont.cells]; done) | (simp [inR, Cont.cells]; omega)))
 | ((with_reducible apply If_dec) <;> intro hc <;> (try (exfalso; omega)))
 | ((with_reducible apply If_any) <;> intro hc)
 | ((with_reducible first | apply PF.mk | apply DrawP.mk); (focus kernel_rfl))
 | ((with_reducible apply Same.mk); (focus rfl); (first | exact trivial | exact rfl))
 | (intro cap hcap)
 | ((fail_if_success (with_reducible first | apply Fin.mk | apply CallP.mk | apply LoopP.mk | apply VC.mk | apply falseMk | apply Round.mk | apply LookP.mk | apply RangeP.mk | apply NextP.mk | apply EntryP.mk | apply Eq.symm)); conv => whnf))
  exact Fin.vl hk2
def hentriesOk (x : HD) : Prop := hR x
def hentriesRel (x : HD) (r : Int) : Prop := r = x.clus / 8
theorem hentries_K : ConOk Go.Proofs.Try.prog 95 (Con.of (HD) (Int) (fun x => [.agg [.v (.int .i64 x.bits), .v (.int .i64 x.size), .v (.int .i64 x.host), .v (.int .i64 x.jr), .v (.bool x.backed)]]) (fun _ => []) hentriesOk hentriesRel (fun _ r => .v (.int .i64 r)) (fun _ _ => [])) := by
  refine conOk_rel (T := tab) mix Go.Proofs.Try.func95 (by decide +kernel) (by kernel_rfl) [] [] (fun n => by rw [Go.Proofs.Try.ntmps95]; exact Nat.le_of_ble_eq_true rfl) (fun x r _ _ => ⟨by simp [AV.noF, noFs, Cont.noF, recsC_noF], (fun c hc => by cases hc), Nat.le_refl _⟩) (fun x _ c hc => by cases hc) ?_
  intro x k h0 hk
  exact hentries_c x k h0 (fun r hr => hk r hr)
theorem hentries_at {avs : List AV} {H : List Chunk} {k : K} (h : HD) (h0 : hR h) (ha : argsM H [] [.agg [.v (.int .i64 h.bits), .v (.int .i64 h.size), .v (.int .i64 h.host), .v (.int .i64 h.jr), .v (.bool h.backed)]] avs) (hQ : ∀ r : Int, (r = h.clus / 8) → k (.v (.int .i64 r)) H) : CallP Go.Proofs.Try.prog 95 avs H k :=
  CallP.mk ⟨_, hentries_K.real, Con.spec hentries_K, (h), [], ⟨h0, rfl, trivial, ha⟩, fun r hr => (numK_eq H.length (fun N => k (AV.ren (fren [] N) (.v (.int .i64 r))) (putAll H [] []))).mpr (by simpa [putAll, AV.ren, rens, Cont.ren, recsC, recAV] using hQ r hr)⟩
theorem up_c (n u : Int) (k : K) (h0 : 0 ≤ n ∧ n ≤ 1099511627776 ∧ 0 < u ∧ u ≤ 1099511627776) (hk : ∀ r : Int, r = (n + u - 1) / u → k (.v (.int .i64 r)) []) : evFunc tab [] [] Go.Proofs.Try.f125 [.v (.int .i64 n), .v (.int .i64 u)] [] k := by
  have m0 : 0 ≤ (n + u - 1) / u := Int.ediv_nonneg (by omega) (by omega)
  have m1 : (n + u - 1) / u ≤ n + u - 1 := Int.ediv_le_self _ (by omega)
  have m2 : Int.tdiv (n + u - 1) u = (n + u - 1) / u := Int.tdiv_eq_ediv_of_nonneg (by omega)
  repeat' (first
 | (with_reducible first | exact True.intro | apply And.intro | apply If_true | apply If_false | apply If_not)
 | ((with_reducible apply VC.mk); (first | trivial | omega | (simp only [inR]; omega) | (exact ⟨rfl, List.prefix_rfl⟩) | (refine ⟨rfl, rfl, rfl, ?_, rfl⟩; (simp; done)) | (focus (repeat' (first | exact True.intro | apply And.intro | rfl | exact Nat.le_of_ble_eq_true rfl)); done) | (simp [inR, Cont.cells]; done) | (simp [inR, Cont.cells]; omega)))
 | ((with_reducible apply If_dec) <;> intro hc <;> (try (exfalso; omega)))
 | ((with_reducible apply If_any) <;> intro hc)
 | ((with_reducible first | apply PF.mk | apply DrawP.mk); (focus kernel_rfl))
 | ((with_reducible apply Same.mk); (focus rfl); (first | exact trivial | exact rfl))
 | (intro cap hcap)
 | ((fail_if_success (with_reducible first | apply Fin.mk | apply CallP.mk | apply LoopP.mk | apply VC.mk | apply falseMk | apply Round.mk | apply LookP.mk | apply RangeP.mk | apply NextP.mk | apply EntryP.mk | apply Eq.symm)); conv => whnf))
  exact Fin.vl (hk _ rfl)
def upOk (x : Int × Int) : Prop := 0 ≤ x.1 ∧ x.1 ≤ 1099511627776 ∧ 0 < x.2 ∧ x.2 ≤ 1099511627776
def upRel (x : Int × Int) (r : Int) : Prop := r = (x.1 + x.2 - 1) / x.2
theorem up_K : ConOk Go.Proofs.Try.prog 125 (Con.of (Int × Int) (Int) (fun x => [.v (.int .i64 x.1), .v (.int .i64 x.2)]) (fun _ => []) upOk upRel (fun _ r => .v (.int .i64 r)) (fun _ _ => [])) := by
  refine conOk_rel (T := tab) mix Go.Proofs.Try.func125 (by decide +kernel) (by kernel_rfl) [] [] (fun n => by rw [Go.Proofs.Try.ntmps125]; exact Nat.le_of_ble_eq_true rfl) (fun x r _ _ => ⟨by simp [AV.noF, noFs, Cont.noF, recsC_noF], (fun c hc => by cases hc), Nat.le_refl _⟩) (fun x _ c hc => by cases hc) ?_
  intro x k h0 hk
  exact up_c x.1 x.2 k h0 (fun r hr => hk r hr)
theorem up_at {avs : List AV} {H : List Chunk} {k : K} (n : Int) (u : Int) (h0 : 0 ≤ n ∧ n ≤ 1099511627776 ∧ 0 < u ∧ u ≤ 1099511627776) (ha : argsM H [] [.v (.int .i64 n), .v (.int .i64 u)] avs) (hQ : ∀ r : Int, (r = (n + u - 1) / u) → k (.v (.int .i64 r)) H) : CallP Go.Proofs.Try.prog 125 avs H k :=
  CallP.mk ⟨_, up_K.real, Con.spec up_K, (n, u), [], ⟨h0, rfl, trivial, ha⟩, fun r hr => (numK_eq H.length (fun N => k (AV.ren (fren [] N) (.v (.int .i64 r))) (putAll H [] []))).mpr (by simpa [putAll, AV.ren, rens, Cont.ren, recsC, recAV] using hQ r hr)⟩
theorem Fin.ag2 {u v : Value} {H : List Chunk} {k : K} (hk : k (.agg [.v u, .v v]) []) : Fin 0 (.agg [.v u, .v v]) H k := Fin.ren [] [] (.agg [.v u, .v v]) [] rfl rfl trivial trivial ⟨VC.mk rfl, VC.mk rfl, trivial⟩ hk
theorem HD.clus_b (h : HD) : 512 ≤ h.clus ∧ h.clus ≤ 4096 := by rcases h.clus_cases with e | e | e | e <;> omega
theorem div_b {n u : Int} (h0 : 0 ≤ n) (h1 : 0 < u) : 0 ≤ n / u ∧ n / u ≤ n ∧ n / u * u ≤ n := ⟨Int.ediv_nonneg h0 (by omega), Int.ediv_le_self _ h0, Int.ediv_mul_le n (by omega)⟩
theorem HD.refs_b (h : HD) : 0 ≤ h.refs ∧ h.refs ≤ 24576 ∧ 0 ≤ h.refs * h.clus ∧ h.refs * h.clus ≤ 24576 := by
  have b := h.clus_b
  have d := div_b (n := 2 * max 0 (min h.host 8192) + h.clus - 1) (u := h.clus) (by omega) (by omega)
  have p : 0 ≤ h.refs * h.clus := Int.mul_nonneg d.1 (by omega)
  have e : h.refs = (2 * max 0 (min h.host 8192) + h.clus - 1) / h.clus := rfl
  rw [← e] at d
  omega
theorem mul_b {a u : Int} (A : Int) (h0 : 0 ≤ a) (h1 : a ≤ A) (h2 : 0 ≤ u) (h3 : u ≤ 4096) : 0 ≤ a * u ∧ a * u ≤ A * 4096 := ⟨Int.mul_nonneg h0 h2, Int.mul_le_mul h1 h3 h2 (by omega)⟩
theorem HD.jend_b (h : HD) : 0 ≤ h.jend ∧ h.jend ≤ 33558528 := by
  have b := h.clus_b
  have := mul_b (a := 1 + max 0 (min h.jr 8192)) (u := h.clus) 8193 (by omega) (by omega) (by omega) b.2
  unfold HD.jend
  rw [Int.mul_comm]
  omega
theorem HD.rend_b (h : HD) : 0 ≤ h.rend ∧ h.rend ≤ 33583104 := by
  have := h.jend_b
  have := h.refs_b
  unfold HD.rend
  omega
set_option maxHeartbeats 8000000 in
theorem hguest_c (h : HD) (k : K) (h0 : hR h) (hk : ∀ r : Int, r = h.guest → k (.v (.int .i64 r)) []) : evFunc tab [] p102 Go.Proofs.Try.f102 [.agg [.v (.int .i64 h.bits), .v (.int .i64 h.size), .v (.int .i64 h.host), .v (.int .i64 h.jr), .v (.bool h.backed)]] [] k := by
  have b := h.clus_b
  repeat' (first
 | (with_reducible first | exact True.intro | apply And.intro | apply If_true | apply If_false | apply If_not)
 | ((with_reducible apply VC.mk); (first | trivial | omega | (simp only [inR]; omega) | (exact ⟨rfl, List.prefix_rfl⟩) | (refine ⟨rfl, rfl, rfl, ?_, rfl⟩; (simp; done)) | (focus (repeat' (first | exact True.intro | apply And.intro | rfl | exact Nat.le_of_ble_eq_true rfl)); done) | (simp [inR, Cont.cells]; done) | (simp [inR, Cont.cells]; omega)))
 | ((with_reducible apply If_dec) <;> intro hc <;> (try (exfalso; omega)))
 | ((with_reducible apply If_any) <;> intro hc)
 | ((with_reducible first | apply PF.mk | apply DrawP.mk); (focus kernel_rfl))
 | ((with_reducible apply Same.mk); (focus rfl); (first | exact trivial | exact rfl))
 | (intro cap hcap)
 | ((fail_if_success (with_reducible first | apply Fin.mk | apply CallP.mk | apply LoopP.mk | apply VC.mk | apply falseMk | apply Round.mk | apply LookP.mk | apply RangeP.mk | apply NextP.mk | apply EntryP.mk | apply Eq.symm)); conv => whnf))
  refine hclus_at h h0 ⟨⟨rfl, rfl, rfl, rfl, rfl, trivial⟩, trivial⟩ ?_
  intro c hc
  rw [← hc] at b
  repeat' (first
 | (with_reducible first | exact True.intro | apply And.intro | apply If_true | apply If_false | apply If_not)
 | ((with_reducible apply VC.mk); (first | trivial | omega | (simp only [inR]; omega) | (exact ⟨rfl, List.prefix_rfl⟩) | (refine ⟨rfl, rfl, rfl, ?_, rfl⟩; (simp; done)) | (focus (repeat' (first | exact True.intro | apply And.intro | rfl | exact Nat.le_of_ble_eq_true rfl)); done) | (simp [inR, Cont.cells]; done) | (simp [inR, Cont.cells]; omega)))
 | ((with_reducible apply If_dec) <;> intro hc <;> (try (exfalso; omega)))
 | ((with_reducible apply If_any) <;> intro hc)
 | ((with_reducible first | apply PF.mk | apply DrawP.mk); (focus kernel_rfl))
 | ((with_reducible apply Same.mk); (focus rfl); (first | exact trivial | exact rfl))
 | (intro cap hcap)
 | ((fail_if_success (with_reducible first | apply Fin.mk | apply CallP.mk | apply LoopP.mk | apply VC.mk | apply falseMk | apply Round.mk | apply LookP.mk | apply RangeP.mk | apply NextP.mk | apply EntryP.mk | apply Eq.symm)); conv => whnf))
  all_goals (try simp only [cond_true, cond_false] at *)
  refine up_at (max 0 (min h.size 16777216)) c (by omega) ⟨rfl, rfl, trivial⟩ ?_
  intro r hr
  repeat' (first
 | (with_reducible first | exact True.intro | apply And.intro | apply If_true | apply If_false | apply If_not)
 | ((with_reducible apply VC.mk); (first | trivial | omega | (simp only [inR]; omega) | (exact ⟨rfl, List.prefix_rfl⟩) | (refine ⟨rfl, rfl, rfl, ?_, rfl⟩; (simp; done)) | (focus (repeat' (first | exact True.intro | apply And.intro | rfl | exact Nat.le_of_ble_eq_true rfl)); done) | (simp [inR, Cont.cells]; done) | (simp [inR, Cont.cells]; omega)))
 | ((with_reducible apply If_dec) <;> intro hc <;> (try (exfalso; omega)))
 | ((with_reducible apply If_any) <;> intro hc)
 | ((with_reducible first | apply PF.mk | apply DrawP.mk); (focus kernel_rfl))
 | ((with_reducible apply Same.mk); (focus rfl); (first | exact trivial | exact rfl))
 | (intro cap hcap)
 | ((fail_if_success (with_reducible first | apply Fin.mk | apply CallP.mk | apply LoopP.mk | apply VC.mk | apply falseMk | apply Round.mk | apply LookP.mk | apply RangeP.mk | apply NextP.mk | apply EntryP.mk | apply Eq.symm)); conv => whnf))
  exact Fin.vl (hk _ (by rw [hr, hc]; rfl))
def hguestOk (x : HD) : Prop := hR x
def hguestRel (x : HD) (r : Int) : Prop := r = x.guest
theorem hguest_K : ConOk Go.Proofs.Try.prog 102 (Con.of (HD) (Int) (fun x => [.agg [.v (.int .i64 x.bits), .v (.int .i64 x.size), .v (.int .i64 x.host), .v (.int .i64 x.jr), .v (.bool x.backed)]]) (fun _ => []) hguestOk hguestRel (fun _ r => .v (.int .i64 r)) (fun _ _ => [])) := by
  refine conOk_rel (T := tab) mix Go.Proofs.Try.func102 (by decide +kernel) (by kernel_rfl) [] p102 (fun n => by rw [Go.Proofs.Try.ntmps102]; exact Nat.le_of_ble_eq_true rfl) (fun x r _ _ => ⟨by simp [AV.noF, noFs, Cont.noF, recsC_noF], (fun c hc => by cases hc), Nat.le_refl _⟩) (fun x _ c hc => by cases hc) ?_
  intro x k h0 hk
  exact hguest_c x k h0 (fun r hr => hk r hr)
theorem hguest_at {avs : List AV} {H : List Chunk} {k : K} (h : HD) (h0 : hR h) (ha : argsM H [] [.agg [.v (.int .i64 h.bits), .v (.int .i64 h.size), .v (.int .i64 h.host), .v (.int .i64 h.jr), .v (.bool h.backed)]] avs) (hQ : ∀ r : Int, (r = h.guest) → k (.v (.int .i64 r)) H) : CallP Go.Proofs.Try.prog 102 avs H k :=
  CallP.mk ⟨_, hguest_K.real, Con.spec hguest_K, (h), [], ⟨h0, rfl, trivial, ha⟩, fun r hr => (numK_eq H.length (fun N => k (AV.ren (fren [] N) (.v (.int .i64 r))) (putAll H [] []))).mpr (by simpa [putAll, AV.ren, rens, Cont.ren, recsC, recAV] using hQ r hr)⟩
set_option maxHeartbeats 8000000 in
theorem hrefs_c (h : HD) (k : K) (h0 : hR h) (hk : ∀ r : Int, r = h.refs → k (.v (.int .i64 r)) []) : evFunc tab [] p108 Go.Proofs.Try.f108 [.agg [.v (.int .i64 h.bits), .v (.int .i64 h.size), .v (.int .i64 h.host), .v (.int .i64 h.jr), .v (.bool h.backed)]] [] k := by
  have b := h.clus_b
  repeat' (first
 | (with_reducible first | exact True.intro | apply And.intro | apply If_true | apply If_false | apply If_not)
 | ((with_reducible apply VC.mk); (first | trivial | omega | (simp only [inR]; omega) | (exact ⟨rfl, List.prefix_rfl⟩) | (refine ⟨rfl, rfl, rfl, ?_, rfl⟩; (simp; done)) | (focus (repeat' (first | exact True.intro | apply And.intro | rfl | exact Nat.le_of_ble_eq_true rfl)); done) | (simp [inR, Cont.cells]; done) | (simp [inR, Cont.cells]; omega)))
 | ((with_reducible apply If_dec) <;> intro hc <;> (try (exfalso; omega)))
 | ((with_reducible apply If_any) <;> intro hc)
 | ((with_reducible first | apply PF.mk | apply DrawP.mk); (focus kernel_rfl))
 | ((with_reducible apply Same.mk); (focus rfl); (first | exact trivial | exact rfl))
 | (intro cap hcap)
 | ((fail_if_success (with_reducible first | apply Fin.mk | apply CallP.mk | apply LoopP.mk | apply VC.mk | apply falseMk | apply Round.mk | apply LookP.mk | apply RangeP.mk | apply NextP.mk | apply EntryP.mk | apply Eq.symm)); conv => whnf))
  refine hclus_at h h0 ⟨⟨rfl, rfl, rfl, rfl, rfl, trivial⟩, trivial⟩ ?_
  intro c hc
  rw [← hc] at b
  repeat' (first
 | (with_reducible first | exact True.intro | apply And.intro | apply If_true | apply If_false | apply If_not)
 | ((with_reducible apply VC.mk); (first | trivial | omega | (simp only [inR]; omega) | (exact ⟨rfl, List.prefix_rfl⟩) | (refine ⟨rfl, rfl, rfl, ?_, rfl⟩; (simp; done)) | (focus (repeat' (first | exact True.intro | apply And.intro | rfl | exact Nat.le_of_ble_eq_true rfl)); done) | (simp [inR, Cont.cells]; done) | (simp [inR, Cont.cells]; omega)))
 | ((with_reducible apply If_dec) <;> intro hc <;> (try (exfalso; omega)))
 | ((with_reducible apply If_any) <;> intro hc)
 | ((with_reducible first | apply PF.mk | apply DrawP.mk); (focus kernel_rfl))
 | ((with_reducible apply Same.mk); (focus rfl); (first | exact trivial | exact rfl))
 | (intro cap hcap)
 | ((fail_if_success (with_reducible first | apply Fin.mk | apply CallP.mk | apply LoopP.mk | apply VC.mk | apply falseMk | apply Round.mk | apply LookP.mk | apply RangeP.mk | apply NextP.mk | apply EntryP.mk | apply Eq.symm)); conv => whnf))
  all_goals (try simp only [cond_true, cond_false] at *)
  refine up_at (2 * max 0 (min h.host 8192)) c (by omega) ⟨rfl, rfl, trivial⟩ ?_
  intro r hr
  repeat' (first
 | (with_reducible first | exact True.intro | apply And.intro | apply If_true | apply If_false | apply If_not)
 | ((with_reducible apply VC.mk); (first | trivial | omega | (simp only [inR]; omega) | (exact ⟨rfl, List.prefix_rfl⟩) | (refine ⟨rfl, rfl, rfl, ?_, rfl⟩; (simp; done)) | (focus (repeat' (first | exact True.intro | apply And.intro | rfl | exact Nat.le_of_ble_eq_true rfl)); done) | (simp [inR, Cont.cells]; done) | (simp [inR, Cont.cells]; omega)))
 | ((with_reducible apply If_dec) <;> intro hc <;> (try (exfalso; omega)))
 | ((with_reducible apply If_any) <;> intro hc)
 | ((with_reducible first | apply PF.mk | apply DrawP.mk); (focus kernel_rfl))
 | ((with_reducible apply Same.mk); (focus rfl); (first | exact trivial | exact rfl))
 | (intro cap hcap)
 | ((fail_if_success (with_reducible first | apply Fin.mk | apply CallP.mk | apply LoopP.mk | apply VC.mk | apply falseMk | apply Round.mk | apply LookP.mk | apply RangeP.mk | apply NextP.mk | apply EntryP.mk | apply Eq.symm)); conv => whnf))
  exact Fin.vl (hk _ (by rw [hr, hc]; rfl))
def hrefsOk (x : HD) : Prop := hR x
def hrefsRel (x : HD) (r : Int) : Prop := r = x.refs
theorem hrefs_K : ConOk Go.Proofs.Try.prog 108 (Con.of (HD) (Int) (fun x => [.agg [.v (.int .i64 x.bits), .v (.int .i64 x.size), .v (.int .i64 x.host), .v (.int .i64 x.jr), .v (.bool x.backed)]]) (fun _ => []) hrefsOk hrefsRel (fun _ r => .v (.int .i64 r)) (fun _ _ => [])) := by
  refine conOk_rel (T := tab) mix Go.Proofs.Try.func108 (by decide +kernel) (by kernel_rfl) [] p108 (fun n => by rw [Go.Proofs.Try.ntmps108]; exact Nat.le_of_ble_eq_true rfl) (fun x r _ _ => ⟨by simp [AV.noF, noFs, Cont.noF, recsC_noF], (fun c hc => by cases hc), Nat.le_refl _⟩) (fun x _ c hc => by cases hc) ?_
  intro x k h0 hk
  exact hrefs_c x k h0 (fun r hr => hk r hr)
theorem hrefs_at {avs : List AV} {H : List Chunk} {k : K} (h : HD) (h0 : hR h) (ha : argsM H [] [.agg [.v (.int .i64 h.bits), .v (.int .i64 h.size), .v (.int .i64 h.host), .v (.int .i64 h.jr), .v (.bool h.backed)]] avs) (hQ : ∀ r : Int, (r = h.refs) → k (.v (.int .i64 r)) H) : CallP Go.Proofs.Try.prog 108 avs H k :=
  CallP.mk ⟨_, hrefs_K.real, Con.spec hrefs_K, (h), [], ⟨h0, rfl, trivial, ha⟩, fun r hr => (numK_eq H.length (fun N => k (AV.ren (fren [] N) (.v (.int .i64 r))) (putAll H [] []))).mpr (by simpa [putAll, AV.ren, rens, Cont.ren, recsC, recAV] using hQ r hr)⟩
set_option maxHeartbeats 8000000 in
theorem hjat_c (h : HD) (k : K) (h0 : hR h) (hk : ∀ r : Int × Int, r = (h.clus, h.jend) → k (.agg [.v (.int .i64 r.1), .v (.int .i64 r.2)]) []) : evFunc tab [] p59 Go.Proofs.Try.f59 [.agg [.v (.int .i64 h.bits), .v (.int .i64 h.size), .v (.int .i64 h.host), .v (.int .i64 h.jr), .v (.bool h.backed)]] [] k := by
  have b := h.clus_b
  have b2 := h.jend_b
  unfold HD.jend at b2
  repeat' (first
 | (with_reducible first | exact True.intro | apply And.intro | apply If_true | apply If_false | apply If_not)
 | ((with_reducible apply VC.mk); (first | trivial | omega | (simp only [inR]; omega) | (exact ⟨rfl, List.prefix_rfl⟩) | (refine ⟨rfl, rfl, rfl, ?_, rfl⟩; (simp; done)) | (focus (repeat' (first | exact True.intro | apply And.intro | rfl | exact Nat.le_of_ble_eq_true rfl)); done) | (simp [inR, Cont.cells]; done) | (simp [inR, Cont.cells]; omega)))
 | ((with_reducible apply If_dec) <;> intro hc <;> (try (exfalso; omega)))
 | ((with_reducible apply If_any) <;> intro hc)
 | ((with_reducible first | apply PF.mk | apply DrawP.mk); (focus kernel_rfl))
 | ((with_reducible apply Same.mk); (focus rfl); (first | exact trivial | exact rfl))
 | (intro cap hcap)
 | ((fail_if_success (with_reducible first | apply Fin.mk | apply CallP.mk | apply LoopP.mk | apply VC.mk | apply falseMk | apply Round.mk | apply LookP.mk | apply RangeP.mk | apply NextP.mk | apply EntryP.mk | apply Eq.symm)); conv => whnf))
  refine hclus_at h h0 ⟨⟨rfl, rfl, rfl, rfl, rfl, trivial⟩, trivial⟩ ?_
  intro c hc
  repeat' (first
 | (with_reducible first | exact True.intro | apply And.intro | apply If_true | apply If_false | apply If_not)
 | ((with_reducible apply VC.mk); (first | trivial | omega | (simp only [inR]; omega) | (exact ⟨rfl, List.prefix_rfl⟩) | (refine ⟨rfl, rfl, rfl, ?_, rfl⟩; (simp; done)) | (focus (repeat' (first | exact True.intro | apply And.intro | rfl | exact Nat.le_of_ble_eq_true rfl)); done) | (simp [inR, Cont.cells]; done) | (simp [inR, Cont.cells]; omega)))
 | ((with_reducible apply If_dec) <;> intro hc <;> (try (exfalso; omega)))
 | ((with_reducible apply If_any) <;> intro hc)
 | ((with_reducible first | apply PF.mk | apply DrawP.mk); (focus kernel_rfl))
 | ((with_reducible apply Same.mk); (focus rfl); (first | exact trivial | exact rfl))
 | (intro cap hcap)
 | ((fail_if_success (with_reducible first | apply Fin.mk | apply CallP.mk | apply LoopP.mk | apply VC.mk | apply falseMk | apply Round.mk | apply LookP.mk | apply RangeP.mk | apply NextP.mk | apply EntryP.mk | apply Eq.symm)); conv => whnf))
  refine hclus_at h h0 ⟨⟨rfl, rfl, rfl, rfl, rfl, trivial⟩, trivial⟩ ?_
  intro d hd
  subst hc hd
  repeat' (first
 | (with_reducible first | exact True.intro | apply And.intro | apply If_true | apply If_false | apply If_not)
 | ((with_reducible apply VC.mk); (first | trivial | omega | (simp only [inR]; omega) | (exact ⟨rfl, List.prefix_rfl⟩) | (refine ⟨rfl, rfl, rfl, ?_, rfl⟩; (simp; done)) | (focus (repeat' (first | exact True.intro | apply And.intro | rfl | exact Nat.le_of_ble_eq_true rfl)); done) | (simp [inR, Cont.cells]; done) | (simp [inR, Cont.cells]; omega)))
 | ((with_reducible apply If_dec) <;> intro hc <;> (try (exfalso; omega)))
 | ((with_reducible apply If_any) <;> intro hc)
 | ((with_reducible first | apply PF.mk | apply DrawP.mk); (focus kernel_rfl))
 | ((with_reducible apply Same.mk); (focus rfl); (first | exact trivial | exact rfl))
 | (intro cap hcap)
 | ((fail_if_success (with_reducible first | apply Fin.mk | apply CallP.mk | apply LoopP.mk | apply VC.mk | apply falseMk | apply Round.mk | apply LookP.mk | apply RangeP.mk | apply NextP.mk | apply EntryP.mk | apply Eq.symm)); conv => whnf))
  all_goals (try simp only [cond_true, cond_false] at *)
  exact Fin.ag2 (hk _ rfl)
def hjatOk (x : HD) : Prop := hR x
def hjatRel (x : HD) (r : Int × Int) : Prop := r = (x.clus, x.jend)
theorem hjat_K : ConOk Go.Proofs.Try.prog 59 (Con.of (HD) (Int × Int) (fun x => [.agg [.v (.int .i64 x.bits), .v (.int .i64 x.size), .v (.int .i64 x.host), .v (.int .i64 x.jr), .v (.bool x.backed)]]) (fun _ => []) hjatOk hjatRel (fun _ r => .agg [.v (.int .i64 r.1), .v (.int .i64 r.2)]) (fun _ _ => [])) := by
  refine conOk_rel (T := tab) mix Go.Proofs.Try.func59 (by decide +kernel) (by kernel_rfl) [] p59 (fun n => by rw [Go.Proofs.Try.ntmps59]; exact Nat.le_of_ble_eq_true rfl) (fun x r _ _ => ⟨by simp [AV.noF, noFs, Cont.noF, recsC_noF], (fun c hc => by cases hc), Nat.le_refl _⟩) (fun x _ c hc => by cases hc) ?_
  intro x k h0 hk
  exact hjat_c x k h0 (fun r hr => hk r hr)
theorem hjat_at {avs : List AV} {H : List Chunk} {k : K} (h : HD) (h0 : hR h) (ha : argsM H [] [.agg [.v (.int .i64 h.bits), .v (.int .i64 h.size), .v (.int .i64 h.host), .v (.int .i64 h.jr), .v (.bool h.backed)]] avs) (hQ : ∀ r : Int × Int, (r = (h.clus, h.jend)) → k (.agg [.v (.int .i64 r.1), .v (.int .i64 r.2)]) H) : CallP Go.Proofs.Try.prog 59 avs H k :=
  CallP.mk ⟨_, hjat_K.real, Con.spec hjat_K, (h), [], ⟨h0, rfl, trivial, ha⟩, fun r hr => (numK_eq H.length (fun N => k (AV.ren (fren [] N) (.agg [.v (.int .i64 r.1), .v (.int .i64 r.2)])) (putAll H [] []))).mpr (by simpa [putAll, AV.ren, rens, Cont.ren, recsC, recAV] using hQ r hr)⟩
set_option maxHeartbeats 8000000 in
theorem hrat_c (h : HD) (k : K) (h0 : hR h) (hk : ∀ r : Int × Int, r = (h.jend, h.rend) → k (.agg [.v (.int .i64 r.1), .v (.int .i64 r.2)]) []) : evFunc tab [] p58 Go.Proofs.Try.f58 [.agg [.v (.int .i64 h.bits), .v (.int .i64 h.size), .v (.int .i64 h.host), .v (.int .i64 h.jr), .v (.bool h.backed)]] [] k := by
  have b := h.clus_b
  have b2 := h.jend_b
  have b3 := h.refs_b
  have b4 := h.rend_b
  unfold HD.rend at b4
  repeat' (first
 | (with_reducible first | exact True.intro | apply And.intro | apply If_true | apply If_false | apply If_not)
 | ((with_reducible apply VC.mk); (first | trivial | omega | (simp only [inR]; omega) | (exact ⟨rfl, List.prefix_rfl⟩) | (refine ⟨rfl, rfl, rfl, ?_, rfl⟩; (simp; done)) | (focus (repeat' (first | exact True.intro | apply And.intro | rfl | exact Nat.le_of_ble_eq_true rfl)); done) | (simp [inR, Cont.cells]; done) | (simp [inR, Cont.cells]; omega)))
 | ((with_reducible apply If_dec) <;> intro hc <;> (try (exfalso; omega)))
 | ((with_reducible apply If_any) <;> intro hc)
 | ((with_reducible first | apply PF.mk | apply DrawP.mk); (focus kernel_rfl))
 | ((with_reducible apply Same.mk); (focus rfl); (first | exact trivial | exact rfl))
 | (intro cap hcap)
 | ((fail_if_success (with_reducible first | apply Fin.mk | apply CallP.mk | apply LoopP.mk | apply VC.mk | apply falseMk | apply Round.mk | apply LookP.mk | apply RangeP.mk | apply NextP.mk | apply EntryP.mk | apply Eq.symm)); conv => whnf))
  refine hjat_at h h0 ⟨⟨rfl, rfl, rfl, rfl, rfl, trivial⟩, trivial⟩ ?_
  intro a ha
  subst ha
  repeat' (first
 | (with_reducible first | exact True.intro | apply And.intro | apply If_true | apply If_false | apply If_not)
 | ((with_reducible apply VC.mk); (first | trivial | omega | (simp only [inR]; omega) | (exact ⟨rfl, List.prefix_rfl⟩) | (refine ⟨rfl, rfl, rfl, ?_, rfl⟩; (simp; done)) | (focus (repeat' (first | exact True.intro | apply And.intro | rfl | exact Nat.le_of_ble_eq_true rfl)); done) | (simp [inR, Cont.cells]; done) | (simp [inR, Cont.cells]; omega)))
 | ((with_reducible apply If_dec) <;> intro hc <;> (try (exfalso; omega)))
 | ((with_reducible apply If_any) <;> intro hc)
 | ((with_reducible first | apply PF.mk | apply DrawP.mk); (focus kernel_rfl))
 | ((with_reducible apply Same.mk); (focus rfl); (first | exact trivial | exact rfl))
 | (intro cap hcap)
 | ((fail_if_success (with_reducible first | apply Fin.mk | apply CallP.mk | apply LoopP.mk | apply VC.mk | apply falseMk | apply Round.mk | apply LookP.mk | apply RangeP.mk | apply NextP.mk | apply EntryP.mk | apply Eq.symm)); conv => whnf))
  all_goals (try simp only [cond_true, cond_false] at *)
  refine hrefs_at h h0 ⟨⟨rfl, rfl, rfl, rfl, rfl, trivial⟩, trivial⟩ ?_
  intro c hc
  subst hc
  repeat' (first
 | (with_reducible first | exact True.intro | apply And.intro | apply If_true | apply If_false | apply If_not)
 | ((with_reducible apply VC.mk); (first | trivial | omega | (simp only [inR]; omega) | (exact ⟨rfl, List.prefix_rfl⟩) | (refine ⟨rfl, rfl, rfl, ?_, rfl⟩; (simp; done)) | (focus (repeat' (first | exact True.intro | apply And.intro | rfl | exact Nat.le_of_ble_eq_true rfl)); done) | (simp [inR, Cont.cells]; done) | (simp [inR, Cont.cells]; omega)))
 | ((with_reducible apply If_dec) <;> intro hc <;> (try (exfalso; omega)))
 | ((with_reducible apply If_any) <;> intro hc)
 | ((with_reducible first | apply PF.mk | apply DrawP.mk); (focus kernel_rfl))
 | ((with_reducible apply Same.mk); (focus rfl); (first | exact trivial | exact rfl))
 | (intro cap hcap)
 | ((fail_if_success (with_reducible first | apply Fin.mk | apply CallP.mk | apply LoopP.mk | apply VC.mk | apply falseMk | apply Round.mk | apply LookP.mk | apply RangeP.mk | apply NextP.mk | apply EntryP.mk | apply Eq.symm)); conv => whnf))
  all_goals (try simp only [cond_true, cond_false] at *)
  refine hclus_at h h0 ⟨⟨rfl, rfl, rfl, rfl, rfl, trivial⟩, trivial⟩ ?_
  intro d hd
  subst hd
  repeat' (first
 | (with_reducible first | exact True.intro | apply And.intro | apply If_true | apply If_false | apply If_not)
 | ((with_reducible apply VC.mk); (first | trivial | omega | (simp only [inR]; omega) | (exact ⟨rfl, List.prefix_rfl⟩) | (refine ⟨rfl, rfl, rfl, ?_, rfl⟩; (simp; done)) | (focus (repeat' (first | exact True.intro | apply And.intro | rfl | exact Nat.le_of_ble_eq_true rfl)); done) | (simp [inR, Cont.cells]; done) | (simp [inR, Cont.cells]; omega)))
 | ((with_reducible apply If_dec) <;> intro hc <;> (try (exfalso; omega)))
 | ((with_reducible apply If_any) <;> intro hc)
 | ((with_reducible first | apply PF.mk | apply DrawP.mk); (focus kernel_rfl))
 | ((with_reducible apply Same.mk); (focus rfl); (first | exact trivial | exact rfl))
 | (intro cap hcap)
 | ((fail_if_success (with_reducible first | apply Fin.mk | apply CallP.mk | apply LoopP.mk | apply VC.mk | apply falseMk | apply Round.mk | apply LookP.mk | apply RangeP.mk | apply NextP.mk | apply EntryP.mk | apply Eq.symm)); conv => whnf))
  all_goals (try simp only [cond_true, cond_false] at *)
  exact Fin.ag2 (hk _ rfl)
def hratOk (x : HD) : Prop := hR x
def hratRel (x : HD) (r : Int × Int) : Prop := r = (x.jend, x.rend)
theorem hrat_K : ConOk Go.Proofs.Try.prog 58 (Con.of (HD) (Int × Int) (fun x => [.agg [.v (.int .i64 x.bits), .v (.int .i64 x.size), .v (.int .i64 x.host), .v (.int .i64 x.jr), .v (.bool x.backed)]]) (fun _ => []) hratOk hratRel (fun _ r => .agg [.v (.int .i64 r.1), .v (.int .i64 r.2)]) (fun _ _ => [])) := by
  refine conOk_rel (T := tab) mix Go.Proofs.Try.func58 (by decide +kernel) (by kernel_rfl) [] p58 (fun n => by rw [Go.Proofs.Try.ntmps58]; exact Nat.le_of_ble_eq_true rfl) (fun x r _ _ => ⟨by simp [AV.noF, noFs, Cont.noF, recsC_noF], (fun c hc => by cases hc), Nat.le_refl _⟩) (fun x _ c hc => by cases hc) ?_
  intro x k h0 hk
  exact hrat_c x k h0 (fun r hr => hk r hr)
theorem hrat_at {avs : List AV} {H : List Chunk} {k : K} (h : HD) (h0 : hR h) (ha : argsM H [] [.agg [.v (.int .i64 h.bits), .v (.int .i64 h.size), .v (.int .i64 h.host), .v (.int .i64 h.jr), .v (.bool h.backed)]] avs) (hQ : ∀ r : Int × Int, (r = (h.jend, h.rend)) → k (.agg [.v (.int .i64 r.1), .v (.int .i64 r.2)]) H) : CallP Go.Proofs.Try.prog 58 avs H k :=
  CallP.mk ⟨_, hrat_K.real, Con.spec hrat_K, (h), [], ⟨h0, rfl, trivial, ha⟩, fun r hr => (numK_eq H.length (fun N => k (AV.ren (fren [] N) (.agg [.v (.int .i64 r.1), .v (.int .i64 r.2)])) (putAll H [] []))).mpr (by simpa [putAll, AV.ren, rens, Cont.ren, recsC, recAV] using hQ r hr)⟩
set_option maxHeartbeats 8000000 in
theorem hsat_c (h : HD) (k : K) (h0 : hR h) (hk : ∀ r : Int × Int, r = (h.rend, h.rend + h.clus) → k (.agg [.v (.int .i64 r.1), .v (.int .i64 r.2)]) []) : evFunc tab [] [] Go.Proofs.Try.f127 [.agg [.v (.int .i64 h.bits), .v (.int .i64 h.size), .v (.int .i64 h.host), .v (.int .i64 h.jr), .v (.bool h.backed)]] [] k := by
  have b := h.clus_b
  have b2 := h.jend_b
  have b3 := h.refs_b
  have b4 := h.rend_b
  repeat' (first
 | (with_reducible first | exact True.intro | apply And.intro | apply If_true | apply If_false | apply If_not)
 | ((with_reducible apply VC.mk); (first | trivial | omega | (simp only [inR]; omega) | (exact ⟨rfl, List.prefix_rfl⟩) | (refine ⟨rfl, rfl, rfl, ?_, rfl⟩; (simp; done)) | (focus (repeat' (first | exact True.intro | apply And.intro | rfl | exact Nat.le_of_ble_eq_true rfl)); done) | (simp [inR, Cont.cells]; done) | (simp [inR, Cont.cells]; omega)))
 | ((with_reducible apply If_dec) <;> intro hc <;> (try (exfalso; omega)))
 | ((with_reducible apply If_any) <;> intro hc)
 | ((with_reducible first | apply PF.mk | apply DrawP.mk); (focus kernel_rfl))
 | ((with_reducible apply Same.mk); (focus rfl); (first | exact trivial | exact rfl))
 | (intro cap hcap)
 | ((fail_if_success (with_reducible first | apply Fin.mk | apply CallP.mk | apply LoopP.mk | apply VC.mk | apply falseMk | apply Round.mk | apply LookP.mk | apply RangeP.mk | apply NextP.mk | apply EntryP.mk | apply Eq.symm)); conv => whnf))
  refine hrat_at h h0 ⟨⟨rfl, rfl, rfl, rfl, rfl, trivial⟩, trivial⟩ ?_
  intro a ha
  subst ha
  repeat' (first
 | (with_reducible first | exact True.intro | apply And.intro | apply If_true | apply If_false | apply If_not)
 | ((with_reducible apply VC.mk); (first | trivial | omega | (simp only [inR]; omega) | (exact ⟨rfl, List.prefix_rfl⟩) | (refine ⟨rfl, rfl, rfl, ?_, rfl⟩; (simp; done)) | (focus (repeat' (first | exact True.intro | apply And.intro | rfl | exact Nat.le_of_ble_eq_true rfl)); done) | (simp [inR, Cont.cells]; done) | (simp [inR, Cont.cells]; omega)))
 | ((with_reducible apply If_dec) <;> intro hc <;> (try (exfalso; omega)))
 | ((with_reducible apply If_any) <;> intro hc)
 | ((with_reducible first | apply PF.mk | apply DrawP.mk); (focus kernel_rfl))
 | ((with_reducible apply Same.mk); (focus rfl); (first | exact trivial | exact rfl))
 | (intro cap hcap)
 | ((fail_if_success (with_reducible first | apply Fin.mk | apply CallP.mk | apply LoopP.mk | apply VC.mk | apply falseMk | apply Round.mk | apply LookP.mk | apply RangeP.mk | apply NextP.mk | apply EntryP.mk | apply Eq.symm)); conv => whnf))
  all_goals (try simp only [cond_true, cond_false] at *)
  refine hclus_at h h0 ⟨⟨rfl, rfl, rfl, rfl, rfl, trivial⟩, trivial⟩ ?_
  intro d hd
  subst hd
  repeat' (first
 | (with_reducible first | exact True.intro | apply And.intro | apply If_true | apply If_false | apply If_not)
 | ((with_reducible apply VC.mk); (first | trivial | omega | (simp only [inR]; omega) | (exact ⟨rfl, List.prefix_rfl⟩) | (refine ⟨rfl, rfl, rfl, ?_, rfl⟩; (simp; done)) | (focus (repeat' (first | exact True.intro | apply And.intro | rfl | exact Nat.le_of_ble_eq_true rfl)); done) | (simp [inR, Cont.cells]; done) | (simp [inR, Cont.cells]; omega)))
 | ((with_reducible apply If_dec) <;> intro hc <;> (try (exfalso; omega)))
 | ((with_reducible apply If_any) <;> intro hc)
 | ((with_reducible first | apply PF.mk | apply DrawP.mk); (focus kernel_rfl))
 | ((with_reducible apply Same.mk); (focus rfl); (first | exact trivial | exact rfl))
 | (intro cap hcap)
 | ((fail_if_success (with_reducible first | apply Fin.mk | apply CallP.mk | apply LoopP.mk | apply VC.mk | apply falseMk | apply Round.mk | apply LookP.mk | apply RangeP.mk | apply NextP.mk | apply EntryP.mk | apply Eq.symm)); conv => whnf))
  all_goals (try simp only [cond_true, cond_false] at *)
  exact Fin.ag2 (hk _ rfl)
def hsatOk (x : HD) : Prop := hR x
def hsatRel (x : HD) (r : Int × Int) : Prop := r = (x.rend, x.rend + x.clus)
theorem hsat_K : ConOk Go.Proofs.Try.prog 127 (Con.of (HD) (Int × Int) (fun x => [.agg [.v (.int .i64 x.bits), .v (.int .i64 x.size), .v (.int .i64 x.host), .v (.int .i64 x.jr), .v (.bool x.backed)]]) (fun _ => []) hsatOk hsatRel (fun _ r => .agg [.v (.int .i64 r.1), .v (.int .i64 r.2)]) (fun _ _ => [])) := by
  refine conOk_rel (T := tab) mix Go.Proofs.Try.func127 (by decide +kernel) (by kernel_rfl) [] [] (fun n => by rw [Go.Proofs.Try.ntmps127]; exact Nat.le_of_ble_eq_true rfl) (fun x r _ _ => ⟨by simp [AV.noF, noFs, Cont.noF, recsC_noF], (fun c hc => by cases hc), Nat.le_refl _⟩) (fun x _ c hc => by cases hc) ?_
  intro x k h0 hk
  exact hsat_c x k h0 (fun r hr => hk r hr)
theorem hsat_at {avs : List AV} {H : List Chunk} {k : K} (h : HD) (h0 : hR h) (ha : argsM H [] [.agg [.v (.int .i64 h.bits), .v (.int .i64 h.size), .v (.int .i64 h.host), .v (.int .i64 h.jr), .v (.bool h.backed)]] avs) (hQ : ∀ r : Int × Int, (r = (h.rend, h.rend + h.clus)) → k (.agg [.v (.int .i64 r.1), .v (.int .i64 r.2)]) H) : CallP Go.Proofs.Try.prog 127 avs H k :=
  CallP.mk ⟨_, hsat_K.real, Con.spec hsat_K, (h), [], ⟨h0, rfl, trivial, ha⟩, fun r hr => (numK_eq H.length (fun N => k (AV.ren (fren [] N) (.agg [.v (.int .i64 r.1), .v (.int .i64 r.2)])) (putAll H [] []))).mpr (by simpa [putAll, AV.ren, rens, Cont.ren, recsC, recAV] using hQ r hr)⟩
set_option maxHeartbeats 8000000 in
theorem htat_c (h : HD) (k : K) (h0 : hR h) (hk : ∀ r : Int × Int, r = (h.rend + h.clus, h.rend + h.clus + h.clus) → k (.agg [.v (.int .i64 r.1), .v (.int .i64 r.2)]) []) : evFunc tab [] [] Go.Proofs.Try.f105 [.agg [.v (.int .i64 h.bits), .v (.int .i64 h.size), .v (.int .i64 h.host), .v (.int .i64 h.jr), .v (.bool h.backed)]] [] k := by
  have b := h.clus_b
  have b2 := h.jend_b
  have b3 := h.refs_b
  have b4 := h.rend_b
  repeat' (first
 | (with_reducible first | exact True.intro | apply And.intro | apply If_true | apply If_false | apply If_not)
 | ((with_reducible apply VC.mk); (first | trivial | omega | (simp only [inR]; omega) | (exact ⟨rfl, List.prefix_rfl⟩) | (refine ⟨rfl, rfl, rfl, ?_, rfl⟩; (simp; done)) | (focus (repeat' (first | exact True.intro | apply And.intro | rfl | exact Nat.le_of_ble_eq_true rfl)); done) | (simp [inR, Cont.cells]; done) | (simp [inR, Cont.cells]; omega)))
 | ((with_reducible apply If_dec) <;> intro hc <;> (try (exfalso; omega)))
 | ((with_reducible apply If_any) <;> intro hc)
 | ((with_reducible first | apply PF.mk | apply DrawP.mk); (focus kernel_rfl))
 | ((with_reducible apply Same.mk); (focus rfl); (first | exact trivial | exact rfl))
 | (intro cap hcap)
 | ((fail_if_success (with_reducible first | apply Fin.mk | apply CallP.mk | apply LoopP.mk | apply VC.mk | apply falseMk | apply Round.mk | apply LookP.mk | apply RangeP.mk | apply NextP.mk | apply EntryP.mk | apply Eq.symm)); conv => whnf))
  refine hsat_at h h0 ⟨⟨rfl, rfl, rfl, rfl, rfl, trivial⟩, trivial⟩ ?_
  intro a ha
  subst ha
  repeat' (first
 | (with_reducible first | exact True.intro | apply And.intro | apply If_true | apply If_false | apply If_not)
 | ((with_reducible apply VC.mk); (first | trivial | omega | (simp only [inR]; omega) | (exact ⟨rfl, List.prefix_rfl⟩) | (refine ⟨rfl, rfl, rfl, ?_, rfl⟩; (simp; done)) | (focus (repeat' (first | exact True.intro | apply And.intro | rfl | exact Nat.le_of_ble_eq_true rfl)); done) | (simp [inR, Cont.cells]; done) | (simp [inR, Cont.cells]; omega)))
 | ((with_reducible apply If_dec) <;> intro hc <;> (try (exfalso; omega)))
 | ((with_reducible apply If_any) <;> intro hc)
 | ((with_reducible first | apply PF.mk | apply DrawP.mk); (focus kernel_rfl))
 | ((with_reducible apply Same.mk); (focus rfl); (first | exact trivial | exact rfl))
 | (intro cap hcap)
 | ((fail_if_success (with_reducible first | apply Fin.mk | apply CallP.mk | apply LoopP.mk | apply VC.mk | apply falseMk | apply Round.mk | apply LookP.mk | apply RangeP.mk | apply NextP.mk | apply EntryP.mk | apply Eq.symm)); conv => whnf))
  all_goals (try simp only [cond_true, cond_false] at *)
  refine hclus_at h h0 ⟨⟨rfl, rfl, rfl, rfl, rfl, trivial⟩, trivial⟩ ?_
  intro d hd
  subst hd
  repeat' (first
 | (with_reducible first | exact True.intro | apply And.intro | apply If_true | apply If_false | apply If_not)
 | ((with_reducible apply VC.mk); (first | trivial | omega | (simp only [inR]; omega) | (exact ⟨rfl, List.prefix_rfl⟩) | (refine ⟨rfl, rfl, rfl, ?_, rfl⟩; (simp; done)) | (focus (repeat' (first | exact True.intro | apply And.intro | rfl | exact Nat.le_of_ble_eq_true rfl)); done) | (simp [inR, Cont.cells]; done) | (simp [inR, Cont.cells]; omega)))
 | ((with_reducible apply If_dec) <;> intro hc <;> (try (exfalso; omega)))
 | ((with_reducible apply If_any) <;> intro hc)
 | ((with_reducible first | apply PF.mk | apply DrawP.mk); (focus kernel_rfl))
 | ((with_reducible apply Same.mk); (focus rfl); (first | exact trivial | exact rfl))
 | (intro cap hcap)
 | ((fail_if_success (with_reducible first | apply Fin.mk | apply CallP.mk | apply LoopP.mk | apply VC.mk | apply falseMk | apply Round.mk | apply LookP.mk | apply RangeP.mk | apply NextP.mk | apply EntryP.mk | apply Eq.symm)); conv => whnf))
  all_goals (try simp only [cond_true, cond_false] at *)
  exact Fin.ag2 (hk _ rfl)
def htatOk (x : HD) : Prop := hR x
def htatRel (x : HD) (r : Int × Int) : Prop := r = (x.rend + x.clus, x.rend + x.clus + x.clus)
theorem htat_K : ConOk Go.Proofs.Try.prog 105 (Con.of (HD) (Int × Int) (fun x => [.agg [.v (.int .i64 x.bits), .v (.int .i64 x.size), .v (.int .i64 x.host), .v (.int .i64 x.jr), .v (.bool x.backed)]]) (fun _ => []) htatOk htatRel (fun _ r => .agg [.v (.int .i64 r.1), .v (.int .i64 r.2)]) (fun _ _ => [])) := by
  refine conOk_rel (T := tab) mix Go.Proofs.Try.func105 (by decide +kernel) (by kernel_rfl) [] [] (fun n => by rw [Go.Proofs.Try.ntmps105]; exact Nat.le_of_ble_eq_true rfl) (fun x r _ _ => ⟨by simp [AV.noF, noFs, Cont.noF, recsC_noF], (fun c hc => by cases hc), Nat.le_refl _⟩) (fun x _ c hc => by cases hc) ?_
  intro x k h0 hk
  exact htat_c x k h0 (fun r hr => hk r hr)
theorem htat_at {avs : List AV} {H : List Chunk} {k : K} (h : HD) (h0 : hR h) (ha : argsM H [] [.agg [.v (.int .i64 h.bits), .v (.int .i64 h.size), .v (.int .i64 h.host), .v (.int .i64 h.jr), .v (.bool h.backed)]] avs) (hQ : ∀ r : Int × Int, (r = (h.rend + h.clus, h.rend + h.clus + h.clus)) → k (.agg [.v (.int .i64 r.1), .v (.int .i64 r.2)]) H) : CallP Go.Proofs.Try.prog 105 avs H k :=
  CallP.mk ⟨_, htat_K.real, Con.spec htat_K, (h), [], ⟨h0, rfl, trivial, ha⟩, fun r hr => (numK_eq H.length (fun N => k (AV.ren (fren [] N) (.agg [.v (.int .i64 r.1), .v (.int .i64 r.2)])) (putAll H [] []))).mpr (by simpa [putAll, AV.ren, rens, Cont.ren, recsC, recAV] using hQ r hr)⟩
set_option maxHeartbeats 8000000 in
theorem hfirst_c (h : HD) (k : K) (h0 : hR h) (hk : ∀ r : Int, r = h.first → k (.v (.int .i64 r)) []) : evFunc tab [] p54 Go.Proofs.Try.f54 [.agg [.v (.int .i64 h.bits), .v (.int .i64 h.size), .v (.int .i64 h.host), .v (.int .i64 h.jr), .v (.bool h.backed)]] [] k := by
  have b := h.clus_b
  have b2 := h.jend_b
  have b3 := h.refs_b
  have b4 := h.rend_b
  have d := div_b (n := h.rend + h.clus + h.clus) (u := h.clus) (by omega) (by omega)
  repeat' (first
 | (with_reducible first | exact True.intro | apply And.intro | apply If_true | apply If_false | apply If_not)
 | ((with_reducible apply VC.mk); (first | trivial | omega | (simp only [inR]; omega) | (exact ⟨rfl, List.prefix_rfl⟩) | (refine ⟨rfl, rfl, rfl, ?_, rfl⟩; (simp; done)) | (focus (repeat' (first | exact True.intro | apply And.intro | rfl | exact Nat.le_of_ble_eq_true rfl)); done) | (simp [inR, Cont.cells]; done) | (simp [inR, Cont.cells]; omega)))
 | ((with_reducible apply If_dec) <;> intro hc <;> (try (exfalso; omega)))
 | ((with_reducible apply If_any) <;> intro hc)
 | ((with_reducible first | apply PF.mk | apply DrawP.mk); (focus kernel_rfl))
 | ((with_reducible apply Same.mk); (focus rfl); (first | exact trivial | exact rfl))
 | (intro cap hcap)
 | ((fail_if_success (with_reducible first | apply Fin.mk | apply CallP.mk | apply LoopP.mk | apply VC.mk | apply falseMk | apply Round.mk | apply LookP.mk | apply RangeP.mk | apply NextP.mk | apply EntryP.mk | apply Eq.symm)); conv => whnf))
  refine htat_at h h0 ⟨⟨rfl, rfl, rfl, rfl, rfl, trivial⟩, trivial⟩ ?_
  intro a ha
  subst ha
  repeat' (first
 | (with_reducible first | exact True.intro | apply And.intro | apply If_true | apply If_false | apply If_not)
 | ((with_reducible apply VC.mk); (first | trivial | omega | (simp only [inR]; omega) | (exact ⟨rfl, List.prefix_rfl⟩) | (refine ⟨rfl, rfl, rfl, ?_, rfl⟩; (simp; done)) | (focus (repeat' (first | exact True.intro | apply And.intro | rfl | exact Nat.le_of_ble_eq_true rfl)); done) | (simp [inR, Cont.cells]; done) | (simp [inR, Cont.cells]; omega)))
 | ((with_reducible apply If_dec) <;> intro hc <;> (try (exfalso; omega)))
 | ((with_reducible apply If_any) <;> intro hc)
 | ((with_reducible first | apply PF.mk | apply DrawP.mk); (focus kernel_rfl))
 | ((with_reducible apply Same.mk); (focus rfl); (first | exact trivial | exact rfl))
 | (intro cap hcap)
 | ((fail_if_success (with_reducible first | apply Fin.mk | apply CallP.mk | apply LoopP.mk | apply VC.mk | apply falseMk | apply Round.mk | apply LookP.mk | apply RangeP.mk | apply NextP.mk | apply EntryP.mk | apply Eq.symm)); conv => whnf))
  all_goals (try simp only [cond_true, cond_false] at *)
  refine hclus_at h h0 ⟨⟨rfl, rfl, rfl, rfl, rfl, trivial⟩, trivial⟩ ?_
  intro d hd
  subst hd
  repeat' (first
 | (with_reducible first | exact True.intro | apply And.intro | apply If_true | apply If_false | apply If_not)
 | ((with_reducible apply VC.mk); (first | trivial | omega | (simp only [inR]; omega) | (exact ⟨rfl, List.prefix_rfl⟩) | (refine ⟨rfl, rfl, rfl, ?_, rfl⟩; (simp; done)) | (focus (repeat' (first | exact True.intro | apply And.intro | rfl | exact Nat.le_of_ble_eq_true rfl)); done) | (simp [inR, Cont.cells]; done) | (simp [inR, Cont.cells]; omega)))
 | ((with_reducible apply If_dec) <;> intro hc <;> (try (exfalso; omega)))
 | ((with_reducible apply If_any) <;> intro hc)
 | ((with_reducible first | apply PF.mk | apply DrawP.mk); (focus kernel_rfl))
 | ((with_reducible apply Same.mk); (focus rfl); (first | exact trivial | exact rfl))
 | (intro cap hcap)
 | ((fail_if_success (with_reducible first | apply Fin.mk | apply CallP.mk | apply LoopP.mk | apply VC.mk | apply falseMk | apply Round.mk | apply LookP.mk | apply RangeP.mk | apply NextP.mk | apply EntryP.mk | apply Eq.symm)); conv => whnf))
  all_goals (try simp only [cond_true, cond_false] at *)
  exact Fin.vl (hk _ rfl)
def hfirstOk (x : HD) : Prop := hR x
def hfirstRel (x : HD) (r : Int) : Prop := r = x.first
theorem hfirst_K : ConOk Go.Proofs.Try.prog 54 (Con.of (HD) (Int) (fun x => [.agg [.v (.int .i64 x.bits), .v (.int .i64 x.size), .v (.int .i64 x.host), .v (.int .i64 x.jr), .v (.bool x.backed)]]) (fun _ => []) hfirstOk hfirstRel (fun _ r => .v (.int .i64 r)) (fun _ _ => [])) := by
  refine conOk_rel (T := tab) mix Go.Proofs.Try.func54 (by decide +kernel) (by kernel_rfl) [] p54 (fun n => by rw [Go.Proofs.Try.ntmps54]; exact Nat.le_of_ble_eq_true rfl) (fun x r _ _ => ⟨by simp [AV.noF, noFs, Cont.noF, recsC_noF], (fun c hc => by cases hc), Nat.le_refl _⟩) (fun x _ c hc => by cases hc) ?_
  intro x k h0 hk
  exact hfirst_c x k h0 (fun r hr => hk r hr)
theorem hfirst_at {avs : List AV} {H : List Chunk} {k : K} (h : HD) (h0 : hR h) (ha : argsM H [] [.agg [.v (.int .i64 h.bits), .v (.int .i64 h.size), .v (.int .i64 h.host), .v (.int .i64 h.jr), .v (.bool h.backed)]] avs) (hQ : ∀ r : Int, (r = h.first) → k (.v (.int .i64 r)) H) : CallP Go.Proofs.Try.prog 54 avs H k :=
  CallP.mk ⟨_, hfirst_K.real, Con.spec hfirst_K, (h), [], ⟨h0, rfl, trivial, ha⟩, fun r hr => (numK_eq H.length (fun N => k (AV.ren (fren [] N) (.v (.int .i64 r))) (putAll H [] []))).mpr (by simpa [putAll, AV.ren, rens, Cont.ren, recsC, recAV] using hQ r hr)⟩
set_option maxHeartbeats 8000000 in
theorem hleast_c (h : HD) (k : K) (h0 : hR h) (hk : ∀ r : Int, r = h.least → k (.v (.int .i64 r)) []) : evFunc tab [] p103 Go.Proofs.Try.f103 [.agg [.v (.int .i64 h.bits), .v (.int .i64 h.size), .v (.int .i64 h.host), .v (.int .i64 h.jr), .v (.bool h.backed)]] [] k := by
  have b := h.clus_b
  have b2 := h.jend_b
  have b3 := h.refs_b
  have b4 := h.rend_b
  have m := mul_b (a := h.refs + 18) (u := h.clus) 24594 (by omega) (by omega) (by omega) b.2
  repeat' (first
 | (with_reducible first | exact True.intro | apply And.intro | apply If_true | apply If_false | apply If_not)
 | ((with_reducible apply VC.mk); (first | trivial | omega | (simp only [inR]; omega) | (exact ⟨rfl, List.prefix_rfl⟩) | (refine ⟨rfl, rfl, rfl, ?_, rfl⟩; (simp; done)) | (focus (repeat' (first | exact True.intro | apply And.intro | rfl | exact Nat.le_of_ble_eq_true rfl)); done) | (simp [inR, Cont.cells]; done) | (simp [inR, Cont.cells]; omega)))
 | ((with_reducible apply If_dec) <;> intro hc <;> (try (exfalso; omega)))
 | ((with_reducible apply If_any) <;> intro hc)
 | ((with_reducible first | apply PF.mk | apply DrawP.mk); (focus kernel_rfl))
 | ((with_reducible apply Same.mk); (focus rfl); (first | exact trivial | exact rfl))
 | (intro cap hcap)
 | ((fail_if_success (with_reducible first | apply Fin.mk | apply CallP.mk | apply LoopP.mk | apply VC.mk | apply falseMk | apply Round.mk | apply LookP.mk | apply RangeP.mk | apply NextP.mk | apply EntryP.mk | apply Eq.symm)); conv => whnf))
  refine hrefs_at h h0 ⟨⟨rfl, rfl, rfl, rfl, rfl, trivial⟩, trivial⟩ ?_
  intro a ha
  subst ha
  repeat' (first
 | (with_reducible first | exact True.intro | apply And.intro | apply If_true | apply If_false | apply If_not)
 | ((with_reducible apply VC.mk); (first | trivial | omega | (simp only [inR]; omega) | (exact ⟨rfl, List.prefix_rfl⟩) | (refine ⟨rfl, rfl, rfl, ?_, rfl⟩; (simp; done)) | (focus (repeat' (first | exact True.intro | apply And.intro | rfl | exact Nat.le_of_ble_eq_true rfl)); done) | (simp [inR, Cont.cells]; done) | (simp [inR, Cont.cells]; omega)))
 | ((with_reducible apply If_dec) <;> intro hc <;> (try (exfalso; omega)))
 | ((with_reducible apply If_any) <;> intro hc)
 | ((with_reducible first | apply PF.mk | apply DrawP.mk); (focus kernel_rfl))
 | ((with_reducible apply Same.mk); (focus rfl); (first | exact trivial | exact rfl))
 | (intro cap hcap)
 | ((fail_if_success (with_reducible first | apply Fin.mk | apply CallP.mk | apply LoopP.mk | apply VC.mk | apply falseMk | apply Round.mk | apply LookP.mk | apply RangeP.mk | apply NextP.mk | apply EntryP.mk | apply Eq.symm)); conv => whnf))
  all_goals (try simp only [cond_true, cond_false] at *)
  refine hclus_at h h0 ⟨⟨rfl, rfl, rfl, rfl, rfl, trivial⟩, trivial⟩ ?_
  intro d hd
  subst hd
  repeat' (first
 | (with_reducible first | exact True.intro | apply And.intro | apply If_true | apply If_false | apply If_not)
 | ((with_reducible apply VC.mk); (first | trivial | omega | (simp only [inR]; omega) | (exact ⟨rfl, List.prefix_rfl⟩) | (refine ⟨rfl, rfl, rfl, ?_, rfl⟩; (simp; done)) | (focus (repeat' (first | exact True.intro | apply And.intro | rfl | exact Nat.le_of_ble_eq_true rfl)); done) | (simp [inR, Cont.cells]; done) | (simp [inR, Cont.cells]; omega)))
 | ((with_reducible apply If_dec) <;> intro hc <;> (try (exfalso; omega)))
 | ((with_reducible apply If_any) <;> intro hc)
 | ((with_reducible first | apply PF.mk | apply DrawP.mk); (focus kernel_rfl))
 | ((with_reducible apply Same.mk); (focus rfl); (first | exact trivial | exact rfl))
 | (intro cap hcap)
 | ((fail_if_success (with_reducible first | apply Fin.mk | apply CallP.mk | apply LoopP.mk | apply VC.mk | apply falseMk | apply Round.mk | apply LookP.mk | apply RangeP.mk | apply NextP.mk | apply EntryP.mk | apply Eq.symm)); conv => whnf))
  all_goals (try simp only [cond_true, cond_false] at *)
  refine hclus_at h h0 ⟨⟨rfl, rfl, rfl, rfl, rfl, trivial⟩, trivial⟩ ?_
  intro e he
  subst he
  repeat' (first
 | (with_reducible first | exact True.intro | apply And.intro | apply If_true | apply If_false | apply If_not)
 | ((with_reducible apply VC.mk); (first | trivial | omega | (simp only [inR]; omega) | (exact ⟨rfl, List.prefix_rfl⟩) | (refine ⟨rfl, rfl, rfl, ?_, rfl⟩; (simp; done)) | (focus (repeat' (first | exact True.intro | apply And.intro | rfl | exact Nat.le_of_ble_eq_true rfl)); done) | (simp [inR, Cont.cells]; done) | (simp [inR, Cont.cells]; omega)))
 | ((with_reducible apply If_dec) <;> intro hc <;> (try (exfalso; omega)))
 | ((with_reducible apply If_any) <;> intro hc)
 | ((with_reducible first | apply PF.mk | apply DrawP.mk); (focus kernel_rfl))
 | ((with_reducible apply Same.mk); (focus rfl); (first | exact trivial | exact rfl))
 | (intro cap hcap)
 | ((fail_if_success (with_reducible first | apply Fin.mk | apply CallP.mk | apply LoopP.mk | apply VC.mk | apply falseMk | apply Round.mk | apply LookP.mk | apply RangeP.mk | apply NextP.mk | apply EntryP.mk | apply Eq.symm)); conv => whnf))
  all_goals (try simp only [cond_true, cond_false] at *)
  refine up_at ((h.refs + 18) * h.clus + 4096 + 512) h.clus (by omega) ⟨rfl, rfl, trivial⟩ ?_
  intro r hr
  repeat' (first
 | (with_reducible first | exact True.intro | apply And.intro | apply If_true | apply If_false | apply If_not)
 | ((with_reducible apply VC.mk); (first | trivial | omega | (simp only [inR]; omega) | (exact ⟨rfl, List.prefix_rfl⟩) | (refine ⟨rfl, rfl, rfl, ?_, rfl⟩; (simp; done)) | (focus (repeat' (first | exact True.intro | apply And.intro | rfl | exact Nat.le_of_ble_eq_true rfl)); done) | (simp [inR, Cont.cells]; done) | (simp [inR, Cont.cells]; omega)))
 | ((with_reducible apply If_dec) <;> intro hc <;> (try (exfalso; omega)))
 | ((with_reducible apply If_any) <;> intro hc)
 | ((with_reducible first | apply PF.mk | apply DrawP.mk); (focus kernel_rfl))
 | ((with_reducible apply Same.mk); (focus rfl); (first | exact trivial | exact rfl))
 | (intro cap hcap)
 | ((fail_if_success (with_reducible first | apply Fin.mk | apply CallP.mk | apply LoopP.mk | apply VC.mk | apply falseMk | apply Round.mk | apply LookP.mk | apply RangeP.mk | apply NextP.mk | apply EntryP.mk | apply Eq.symm)); conv => whnf))
  exact Fin.vl (hk _ (by rw [hr]; rfl))
def hleastOk (x : HD) : Prop := hR x
def hleastRel (x : HD) (r : Int) : Prop := r = x.least
theorem hleast_K : ConOk Go.Proofs.Try.prog 103 (Con.of (HD) (Int) (fun x => [.agg [.v (.int .i64 x.bits), .v (.int .i64 x.size), .v (.int .i64 x.host), .v (.int .i64 x.jr), .v (.bool x.backed)]]) (fun _ => []) hleastOk hleastRel (fun _ r => .v (.int .i64 r)) (fun _ _ => [])) := by
  refine conOk_rel (T := tab) mix Go.Proofs.Try.func103 (by decide +kernel) (by kernel_rfl) [] p103 (fun n => by rw [Go.Proofs.Try.ntmps103]; exact Nat.le_of_ble_eq_true rfl) (fun x r _ _ => ⟨by simp [AV.noF, noFs, Cont.noF, recsC_noF], (fun c hc => by cases hc), Nat.le_refl _⟩) (fun x _ c hc => by cases hc) ?_
  intro x k h0 hk
  exact hleast_c x k h0 (fun r hr => hk r hr)
theorem hleast_at {avs : List AV} {H : List Chunk} {k : K} (h : HD) (h0 : hR h) (ha : argsM H [] [.agg [.v (.int .i64 h.bits), .v (.int .i64 h.size), .v (.int .i64 h.host), .v (.int .i64 h.jr), .v (.bool h.backed)]] avs) (hQ : ∀ r : Int, (r = h.least) → k (.v (.int .i64 r)) H) : CallP Go.Proofs.Try.prog 103 avs H k :=
  CallP.mk ⟨_, hleast_K.real, Con.spec hleast_K, (h), [], ⟨h0, rfl, trivial, ha⟩, fun r hr => (numK_eq H.length (fun N => k (AV.ren (fren [] N) (.v (.int .i64 r))) (putAll H [] []))).mpr (by simpa [putAll, AV.ren, rens, Cont.ren, recsC, recAV] using hQ r hr)⟩
set_option maxHeartbeats 8000000 in
theorem hcheck_c (h : HD) (k : K) (h0 : hR h) (hk : ∀ r : Int, r = h.checkV → k (.v (.int .i64 r)) []) : evFunc tab [] p52 Go.Proofs.Try.f52 [.agg [.v (.int .i64 h.bits), .v (.int .i64 h.size), .v (.int .i64 h.host), .v (.int .i64 h.jr), .v (.bool h.backed)]] [] k := by
  have b := h.clus_b
  have b2 := h.jend_b
  have b3 := h.refs_b
  have b4 := h.rend_b
  have f1 := div_b (n := h.rend + h.clus + h.clus) (u := h.clus) (by omega) (by omega)
  have m := mul_b (a := h.refs + 18) (u := h.clus) 24594 (by omega) (by omega) (by omega) b.2
  have f2 := div_b (n := (h.refs + 18) * h.clus + 4096 + 512 + h.clus - 1) (u := h.clus) (by omega) (by omega)
  have f3 := div_b (n := max 0 (min h.size 16777216) + h.clus - 1) (u := h.clus) (by omega) (by omega)
  have f4 : 0 ≤ h.clus / 8 ∧ h.clus / 8 ≤ 512 := by omega
  have f5 := mul_b (a := h.clus / 8) (u := h.clus / 8) 512 f4.1 f4.2 f4.1 (by omega)
  have f6 : 0 ≤ h.host → h.host ≤ 8192 → 0 ≤ h.host * h.clus ∧ h.host * h.clus ≤ 33554432 := fun a c => mul_b 8192 a c (by omega) b.2
  have u1 : h.guest = (max 0 (min h.size 16777216) + h.clus - 1) / h.clus := rfl
  have u2 : h.least = ((h.refs + 18) * h.clus + 4096 + 512 + h.clus - 1) / h.clus := rfl
  have u3 : h.first = (h.rend + h.clus + h.clus) / h.clus := rfl
  rw [← u1] at f3
  rw [← u2] at f2
  rw [← u3] at f1
  repeat' (first
 | (with_reducible first | exact True.intro | apply And.intro | apply If_true | apply If_false | apply If_not)
 | ((with_reducible apply VC.mk); (first | trivial | omega | (simp only [inR]; omega) | (exact ⟨rfl, List.prefix_rfl⟩) | (refine ⟨rfl, rfl, rfl, ?_, rfl⟩; (simp; done)) | (focus (repeat' (first | exact True.intro | apply And.intro | rfl | exact Nat.le_of_ble_eq_true rfl)); done) | (simp [inR, Cont.cells]; done) | (simp [inR, Cont.cells]; omega)))
 | ((with_reducible apply If_dec) <;> intro hc <;> (try (exfalso; omega)))
 | ((with_reducible apply If_any) <;> intro hc)
 | ((with_reducible first | apply PF.mk | apply DrawP.mk); (focus kernel_rfl))
 | ((with_reducible apply Same.mk); (focus rfl); (first | exact trivial | exact rfl))
 | (intro cap hcap)
 | ((fail_if_success (with_reducible first | apply Fin.mk | apply CallP.mk | apply LoopP.mk | apply VC.mk | apply falseMk | apply Round.mk | apply LookP.mk | apply RangeP.mk | apply NextP.mk | apply EntryP.mk | apply Eq.symm)); conv => whnf))
  all_goals (try simp only [cond_true, cond_false] at *)
  all_goals (try (refine Fin.vl (hk _ ?_); unfold HD.checkV; repeat (first | rw [if_pos (by omega)] | rw [if_neg (by omega)])))
  refine hguest_at h h0 ⟨⟨rfl, rfl, rfl, rfl, rfl, trivial⟩, trivial⟩ ?_
  intro a ha
  subst ha
  repeat' (first
 | (with_reducible first | exact True.intro | apply And.intro | apply If_true | apply If_false | apply If_not)
 | ((with_reducible apply VC.mk); (first | trivial | omega | (simp only [inR]; omega) | (exact ⟨rfl, List.prefix_rfl⟩) | (refine ⟨rfl, rfl, rfl, ?_, rfl⟩; (simp; done)) | (focus (repeat' (first | exact True.intro | apply And.intro | rfl | exact Nat.le_of_ble_eq_true rfl)); done) | (simp [inR, Cont.cells]; done) | (simp [inR, Cont.cells]; omega)))
 | ((with_reducible apply If_dec) <;> intro hc <;> (try (exfalso; omega)))
 | ((with_reducible apply If_any) <;> intro hc)
 | ((with_reducible first | apply PF.mk | apply DrawP.mk); (focus kernel_rfl))
 | ((with_reducible apply Same.mk); (focus rfl); (first | exact trivial | exact rfl))
 | (intro cap hcap)
 | ((fail_if_success (with_reducible first | apply Fin.mk | apply CallP.mk | apply LoopP.mk | apply VC.mk | apply falseMk | apply Round.mk | apply LookP.mk | apply RangeP.mk | apply NextP.mk | apply EntryP.mk | apply Eq.symm)); conv => whnf))
  all_goals (try simp only [cond_true, cond_false] at *)
  all_goals (try (refine Fin.vl (hk _ ?_); unfold HD.checkV; repeat (first | rw [if_pos (by omega)] | rw [if_neg (by omega)])))
  refine hentries_at h h0 ⟨⟨rfl, rfl, rfl, rfl, rfl, trivial⟩, trivial⟩ ?_
  intro c hc
  subst hc
  repeat' (first
 | (with_reducible first | exact True.intro | apply And.intro | apply If_true | apply If_false | apply If_not)
 | ((with_reducible apply VC.mk); (first | trivial | omega | (simp only [inR]; omega) | (exact ⟨rfl, List.prefix_rfl⟩) | (refine ⟨rfl, rfl, rfl, ?_, rfl⟩; (simp; done)) | (focus (repeat' (first | exact True.intro | apply And.intro | rfl | exact Nat.le_of_ble_eq_true rfl)); done) | (simp [inR, Cont.cells]; done) | (simp [inR, Cont.cells]; omega)))
 | ((with_reducible apply If_dec) <;> intro hc <;> (try (exfalso; omega)))
 | ((with_reducible apply If_any) <;> intro hc)
 | ((with_reducible first | apply PF.mk | apply DrawP.mk); (focus kernel_rfl))
 | ((with_reducible apply Same.mk); (focus rfl); (first | exact trivial | exact rfl))
 | (intro cap hcap)
 | ((fail_if_success (with_reducible first | apply Fin.mk | apply CallP.mk | apply LoopP.mk | apply VC.mk | apply falseMk | apply Round.mk | apply LookP.mk | apply RangeP.mk | apply NextP.mk | apply EntryP.mk | apply Eq.symm)); conv => whnf))
  all_goals (try simp only [cond_true, cond_false] at *)
  all_goals (try (refine Fin.vl (hk _ ?_); unfold HD.checkV; repeat (first | rw [if_pos (by omega)] | rw [if_neg (by omega)])))
  refine hentries_at h h0 ⟨⟨rfl, rfl, rfl, rfl, rfl, trivial⟩, trivial⟩ ?_
  intro d hd
  subst hd
  repeat' (first
 | (with_reducible first | exact True.intro | apply And.intro | apply If_true | apply If_false | apply If_not)
 | ((with_reducible apply VC.mk); (first | trivial | omega | (simp only [inR]; omega) | (exact ⟨rfl, List.prefix_rfl⟩) | (refine ⟨rfl, rfl, rfl, ?_, rfl⟩; (simp; done)) | (focus (repeat' (first | exact True.intro | apply And.intro | rfl | exact Nat.le_of_ble_eq_true rfl)); done) | (simp [inR, Cont.cells]; done) | (simp [inR, Cont.cells]; omega)))
 | ((with_reducible apply If_dec) <;> intro hc <;> (try (exfalso; omega)))
 | ((with_reducible apply If_any) <;> intro hc)
 | ((with_reducible first | apply PF.mk | apply DrawP.mk); (focus kernel_rfl))
 | ((with_reducible apply Same.mk); (focus rfl); (first | exact trivial | exact rfl))
 | (intro cap hcap)
 | ((fail_if_success (with_reducible first | apply Fin.mk | apply CallP.mk | apply LoopP.mk | apply VC.mk | apply falseMk | apply Round.mk | apply LookP.mk | apply RangeP.mk | apply NextP.mk | apply EntryP.mk | apply Eq.symm)); conv => whnf))
  all_goals (try simp only [cond_true, cond_false] at *)
  all_goals (try (refine Fin.vl (hk _ ?_); unfold HD.checkV; repeat (first | rw [if_pos (by omega)] | rw [if_neg (by omega)])))
  refine hclus_at h h0 ⟨⟨rfl, rfl, rfl, rfl, rfl, trivial⟩, trivial⟩ ?_
  intro e he
  subst he
  repeat' (first
 | (with_reducible first | exact True.intro | apply And.intro | apply If_true | apply If_false | apply If_not)
 | ((with_reducible apply VC.mk); (first | trivial | omega | (simp only [inR]; omega) | (exact ⟨rfl, List.prefix_rfl⟩) | (refine ⟨rfl, rfl, rfl, ?_, rfl⟩; (simp; done)) | (focus (repeat' (first | exact True.intro | apply And.intro | rfl | exact Nat.le_of_ble_eq_true rfl)); done) | (simp [inR, Cont.cells]; done) | (simp [inR, Cont.cells]; omega)))
 | ((with_reducible apply If_dec) <;> intro hc <;> (try (exfalso; omega)))
 | ((with_reducible apply If_any) <;> intro hc)
 | ((with_reducible first | apply PF.mk | apply DrawP.mk); (focus kernel_rfl))
 | ((with_reducible apply Same.mk); (focus rfl); (first | exact trivial | exact rfl))
 | (intro cap hcap)
 | ((fail_if_success (with_reducible first | apply Fin.mk | apply CallP.mk | apply LoopP.mk | apply VC.mk | apply falseMk | apply Round.mk | apply LookP.mk | apply RangeP.mk | apply NextP.mk | apply EntryP.mk | apply Eq.symm)); conv => whnf))
  all_goals (try simp only [cond_true, cond_false] at *)
  all_goals (try (refine Fin.vl (hk _ ?_); unfold HD.checkV; repeat (first | rw [if_pos (by omega)] | rw [if_neg (by omega)])))
  refine hleast_at h h0 ⟨⟨rfl, rfl, rfl, rfl, rfl, trivial⟩, trivial⟩ ?_
  intro f hf
  subst hf
  repeat' (first
 | (with_reducible first | exact True.intro | apply And.intro | apply If_true | apply If_false | apply If_not)
 | ((with_reducible apply VC.mk); (first | trivial | omega | (simp only [inR]; omega) | (exact ⟨rfl, List.prefix_rfl⟩) | (refine ⟨rfl, rfl, rfl, ?_, rfl⟩; (simp; done)) | (focus (repeat' (first | exact True.intro | apply And.intro | rfl | exact Nat.le_of_ble_eq_true rfl)); done) | (simp [inR, Cont.cells]; done) | (simp [inR, Cont.cells]; omega)))
 | ((with_reducible apply If_dec) <;> intro hc <;> (try (exfalso; omega)))
 | ((with_reducible apply If_any) <;> intro hc)
 | ((with_reducible first | apply PF.mk | apply DrawP.mk); (focus kernel_rfl))
 | ((with_reducible apply Same.mk); (focus rfl); (first | exact trivial | exact rfl))
 | (intro cap hcap)
 | ((fail_if_success (with_reducible first | apply Fin.mk | apply CallP.mk | apply LoopP.mk | apply VC.mk | apply falseMk | apply Round.mk | apply LookP.mk | apply RangeP.mk | apply NextP.mk | apply EntryP.mk | apply Eq.symm)); conv => whnf))
  all_goals (try simp only [cond_true, cond_false] at *)
  all_goals (try (refine Fin.vl (hk _ ?_); unfold HD.checkV; repeat (first | rw [if_pos (by omega)] | rw [if_neg (by omega)])))
  refine hfirst_at h h0 ⟨⟨rfl, rfl, rfl, rfl, rfl, trivial⟩, trivial⟩ ?_
  intro g hg
  subst hg
  repeat' (first
 | (with_reducible first | exact True.intro | apply And.intro | apply If_true | apply If_false | apply If_not)
 | ((with_reducible apply VC.mk); (first | trivial | omega | (simp only [inR]; omega) | (exact ⟨rfl, List.prefix_rfl⟩) | (refine ⟨rfl, rfl, rfl, ?_, rfl⟩; (simp; done)) | (focus (repeat' (first | exact True.intro | apply And.intro | rfl | exact Nat.le_of_ble_eq_true rfl)); done) | (simp [inR, Cont.cells]; done) | (simp [inR, Cont.cells]; omega)))
 | ((with_reducible apply If_dec) <;> intro hc <;> (try (exfalso; omega)))
 | ((with_reducible apply If_any) <;> intro hc)
 | ((with_reducible first | apply PF.mk | apply DrawP.mk); (focus kernel_rfl))
 | ((with_reducible apply Same.mk); (focus rfl); (first | exact trivial | exact rfl))
 | (intro cap hcap)
 | ((fail_if_success (with_reducible first | apply Fin.mk | apply CallP.mk | apply LoopP.mk | apply VC.mk | apply falseMk | apply Round.mk | apply LookP.mk | apply RangeP.mk | apply NextP.mk | apply EntryP.mk | apply Eq.symm)); conv => whnf))
  all_goals (try simp only [cond_true, cond_false] at *)
  all_goals (try (refine Fin.vl (hk _ ?_); unfold HD.checkV; repeat (first | rw [if_pos (by omega)] | rw [if_neg (by omega)])))
def hcheckOk (x : HD) : Prop := hR x
def hcheckRel (x : HD) (r : Int) : Prop := r = x.checkV
theorem hcheck_K : ConOk Go.Proofs.Try.prog 52 (Con.of (HD) (Int) (fun x => [.agg [.v (.int .i64 x.bits), .v (.int .i64 x.size), .v (.int .i64 x.host), .v (.int .i64 x.jr), .v (.bool x.backed)]]) (fun _ => []) hcheckOk hcheckRel (fun _ r => .v (.int .i64 r)) (fun _ _ => [])) := by
  refine conOk_rel (T := tab) mix Go.Proofs.Try.func52 (by decide +kernel) (by kernel_rfl) [] p52 (fun n => by rw [Go.Proofs.Try.ntmps52]; exact Nat.le_of_ble_eq_true rfl) (fun x r _ _ => ⟨by simp [AV.noF, noFs, Cont.noF, recsC_noF], (fun c hc => by cases hc), Nat.le_refl _⟩) (fun x _ c hc => by cases hc) ?_
  intro x k h0 hk
  exact hcheck_c x k h0 (fun r hr => hk r hr)
theorem hcheck_at {avs : List AV} {H : List Chunk} {k : K} (h : HD) (h0 : hR h) (ha : argsM H [] [.agg [.v (.int .i64 h.bits), .v (.int .i64 h.size), .v (.int .i64 h.host), .v (.int .i64 h.jr), .v (.bool h.backed)]] avs) (hQ : ∀ r : Int, (r = h.checkV) → k (.v (.int .i64 r)) H) : CallP Go.Proofs.Try.prog 52 avs H k :=
  CallP.mk ⟨_, hcheck_K.real, Con.spec hcheck_K, (h), [], ⟨h0, rfl, trivial, ha⟩, fun r hr => (numK_eq H.length (fun N => k (AV.ren (fren [] N) (.v (.int .i64 r))) (putAll H [] []))).mpr (by simpa [putAll, AV.ren, rens, Cont.ren, recsC, recAV] using hQ r hr)⟩
end Go.Proofs.Ytjccknmgmommcaa.Sx

