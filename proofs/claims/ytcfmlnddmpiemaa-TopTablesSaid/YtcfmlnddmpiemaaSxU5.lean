import Derived.Test.YtcfmlnddmpiemaaSxEc
import Derived.Test.YtcfmlnddmpiemaaSxU4
import Derived.Laws.BitsAllLaws
import Derived.Test.YtcfmlnddmpiemaaSxU3
import Derived.Test.YtcfmlnddmpiemaaSxU1
set_option linter.unusedVariables false
set_option linter.unusedSimpArgs false
set_option maxRecDepth 10000
namespace Go.Proofs.Ytcfmlnddmpiemaa.Sx
open Go.RowKit Go.Proofs.Ytcfmlnddmpiemaa.Sx.Tb
/-! ### A header -/
structure HD where
  bits : Int
  size : Int
  host : Int
  jr : Int
  backed : Bool
def HD.clus (h : HD) : Int := if h.bits < 9 ∨ 12 < h.bits then 512 else 2 ^ h.bits.toNat
def HD.refs (h : HD) : Int := (2 * max 0 (min h.host 8192) + h.clus - 1) / h.clus
def HD.guest (h : HD) : Int := (max 0 (min h.size 16777216) + h.clus - 1) / h.clus
def HD.jend (h : HD) : Int := h.clus * (1 + max 0 (min h.jr 8192))
def HD.rend (h : HD) : Int := h.jend + h.refs * h.clus
def HD.first (h : HD) : Int := (h.rend + h.clus + h.clus) / h.clus
def HD.least (h : HD) : Int := ((h.refs + 18) * h.clus + 4096 + 512 + h.clus - 1) / h.clus
def HD.checkV (h : HD) : Int :=
  if h.bits < 9 ∨ 12 < h.bits then 11
  else if h.size < 512 ∨ 16777216 < h.size ∨ h.size % 512 ≠ 0 then 11
  else if h.clus / 8 * (h.clus / 8) < h.guest then 20
  else if h.host < 1 ∨ 8192 < h.host ∨ 4194304 < h.host * h.clus then 20
  else if h.jr < h.least ∨ 8192 < h.jr ∨ h.host < h.first then 11
  else 0
def hR (h : HD) : Prop := inR .i64 h.bits ∧ inR .i64 h.size ∧ inR .i64 h.host ∧ inR .i64 h.jr
theorem HD.clus_cases (h : HD) : h.clus = 512 ∨ h.clus = 1024 ∨ h.clus = 2048 ∨ h.clus = 4096 := by
  unfold HD.clus
  split
  · exact .inl rfl
  · have : h.bits = 9 ∨ h.bits = 10 ∨ h.bits = 11 ∨ h.bits = 12 := by omega
    rcases this with e | e | e | e <;> rw [e] <;> simp
set_option maxHeartbeats 8000000 in
theorem hclus_c (h : HD) (k : K) (h0 : hR h) (hk : ∀ r : Int, r = h.clus → k (.v (.int .i64 r)) []) : evFunc tab [] [] Go.Proofs.Try.f53 [.agg [.v (.int .i64 h.bits), .v (.int .i64 h.size), .v (.int .i64 h.host), .v (.int .i64 h.jr), .v (.bool h.backed)]] [] k := by
  repeat' (first
    | (with_reducible first | exact True.intro | apply And.intro | apply If_true | apply If_false | apply If_not)
    | ((with_reducible apply VC.mk); exact vt)
    | ((with_reducible apply If_dec) <;> intro hc <;> (try (exfalso; omega)))
    | ((with_reducible apply If_any) <;> intro hc)
    | ((with_reducible first | apply PF.mk | apply DrawP.mk); (focus kernel_rfl))
    | ((with_reducible apply Same.mk); (focus rfl); (first | exact trivial | exact rfl))
    | (intro cap hcap)
    | ((fail_if_success (with_reducible apply st)); conv => whnf))
  · exact Fin.vl (hk _ (by unfold HD.clus; rw [if_pos (.inl hc)]))
  · exact Fin.vl (hk _ (by unfold HD.clus; rw [if_pos (.inr hc)]))
  · refine Fin.vl (hk _ ?_)
    unfold HD.clus
    rw [if_neg (by omega)]
    have : h.bits = 9 ∨ h.bits = 10 ∨ h.bits = 11 ∨ h.bits = 12 := by omega
    rcases this with e | e | e | e <;> rw [e] <;> rfl
def hclusOk (x : HD) : Prop := hR x
def hclusRel (x : HD) (r : Int) : Prop := r = x.clus
theorem hclus_K : ConOk Go.Proofs.Try.prog 53 (Con.of (HD) (Int) (fun x => [.agg [.v (.int .i64 x.bits), .v (.int .i64 x.size), .v (.int .i64 x.host), .v (.int .i64 x.jr), .v (.bool x.backed)]]) (fun _ => []) hclusOk hclusRel (fun _ r => .v (.int .i64 r)) (fun _ _ => [])) := by
  refine conOk_rel (T := tab) mix Go.Proofs.Try.func53 (by decide +kernel) (by kernel_rfl) [] [] (fun n => by rw [Go.Proofs.Try.ntmps53]; exact Nat.le_of_ble_eq_true rfl) (fun x r _ _ => ⟨by simp [AV.noF, noFs, Cont.noF, recsC_noF], (fun c hc => by cases hc), Nat.le_refl _⟩) (fun x _ c hc => by cases hc) ?_
  intro x k h0 hk
  exact hclus_c x k h0 (fun r hr => hk r hr)
theorem hclus_at {avs : List AV} {H : List Chunk} {k : K} (h : HD) (h0 : hR h) (ha : argsM H [] [.agg [.v (.int .i64 h.bits), .v (.int .i64 h.size), .v (.int .i64 h.host), .v (.int .i64 h.jr), .v (.bool h.backed)]] avs) (hQ : ∀ r : Int, (r = h.clus) → k (.v (.int .i64 r)) H) : CallP Go.Proofs.Try.prog 53 avs H k :=
  CallP.mk ⟨_, hclus_K.real, Con.spec hclus_K, (h), [], ⟨h0, rfl, trivial, ha⟩, fun r hr => (numK_eq H.length (fun N => k (AV.ren (fren [] N) (.v (.int .i64 r))) (putAll H [] []))).mpr (by simpa [putAll, AV.ren, rens, Cont.ren, recsC, recAV] using hQ r hr)⟩
set_option maxHeartbeats 8000000 in
theorem hentries_c (h : HD) (k : K) (h0 : hR h) (hk : ∀ r : Int, r = h.clus / 8 → k (.v (.int .i64 r)) []) : evFunc tab [] [] Go.Proofs.Try.f52 [.agg [.v (.int .i64 h.bits), .v (.int .i64 h.size), .v (.int .i64 h.host), .v (.int .i64 h.jr), .v (.bool h.backed)]] [] k := by
  repeat' (first
    | (with_reducible first | exact True.intro | apply And.intro | apply If_true | apply If_false | apply If_not)
    | ((with_reducible apply VC.mk); exact vt)
    | ((with_reducible apply If_dec) <;> intro hc <;> (try (exfalso; omega)))
    | ((with_reducible apply If_any) <;> intro hc)
    | ((with_reducible first | apply PF.mk | apply DrawP.mk); (focus kernel_rfl))
    | ((with_reducible apply Same.mk); (focus rfl); (first | exact trivial | exact rfl))
    | (intro cap hcap)
    | ((fail_if_success (with_reducible apply st)); conv => whnf))
  refine hclus_at h h0 ⟨⟨rfl, rfl, rfl, rfl, rfl, trivial⟩, trivial⟩ ?_
  intro r hr
  have hc := h.clus_cases
  rw [← hr] at hc
  have hk2 := hk (r / 8) (by rw [hr])
  repeat' (first
    | (with_reducible first | exact True.intro | apply And.intro | apply If_true | apply If_false | apply If_not)
    | ((with_reducible apply VC.mk); exact vt)
    | ((with_reducible apply If_dec) <;> intro hc <;> (try (exfalso; omega)))
    | ((with_reducible apply If_any) <;> intro hc)
    | ((with_reducible first | apply PF.mk | apply DrawP.mk); (focus kernel_rfl))
    | ((with_reducible apply Same.mk); (focus rfl); (first | exact trivial | exact rfl))
    | (intro cap hcap)
    | ((fail_if_success (with_reducible apply st)); conv => whnf))
  exact Fin.vl hk2
def hentriesOk (x : HD) : Prop := hR x
def hentriesRel (x : HD) (r : Int) : Prop := r = x.clus / 8
theorem hentries_K : ConOk Go.Proofs.Try.prog 52 (Con.of (HD) (Int) (fun x => [.agg [.v (.int .i64 x.bits), .v (.int .i64 x.size), .v (.int .i64 x.host), .v (.int .i64 x.jr), .v (.bool x.backed)]]) (fun _ => []) hentriesOk hentriesRel (fun _ r => .v (.int .i64 r)) (fun _ _ => [])) := by
  refine conOk_rel (T := tab) mix Go.Proofs.Try.func52 (by decide +kernel) (by kernel_rfl) [] [] (fun n => by rw [Go.Proofs.Try.ntmps52]; exact Nat.le_of_ble_eq_true rfl) (fun x r _ _ => ⟨by simp [AV.noF, noFs, Cont.noF, recsC_noF], (fun c hc => by cases hc), Nat.le_refl _⟩) (fun x _ c hc => by cases hc) ?_
  intro x k h0 hk
  exact hentries_c x k h0 (fun r hr => hk r hr)
theorem hentries_at {avs : List AV} {H : List Chunk} {k : K} (h : HD) (h0 : hR h) (ha : argsM H [] [.agg [.v (.int .i64 h.bits), .v (.int .i64 h.size), .v (.int .i64 h.host), .v (.int .i64 h.jr), .v (.bool h.backed)]] avs) (hQ : ∀ r : Int, (r = h.clus / 8) → k (.v (.int .i64 r)) H) : CallP Go.Proofs.Try.prog 52 avs H k :=
  CallP.mk ⟨_, hentries_K.real, Con.spec hentries_K, (h), [], ⟨h0, rfl, trivial, ha⟩, fun r hr => (numK_eq H.length (fun N => k (AV.ren (fren [] N) (.v (.int .i64 r))) (putAll H [] []))).mpr (by simpa [putAll, AV.ren, rens, Cont.ren, recsC, recAV] using hQ r hr)⟩
theorem up_c (n u : Int) (k : K) (h0 : 0 ≤ n ∧ n ≤ 1099511627776 ∧ 0 < u ∧ u ≤ 1099511627776) (hk : ∀ r : Int, r = (n + u - 1) / u → k (.v (.int .i64 r)) []) : evFunc tab [] [] Go.Proofs.Try.f87 [.v (.int .i64 n), .v (.int .i64 u)] [] k := by
  have m0 : 0 ≤ (n + u - 1) / u := Int.ediv_nonneg (by omega) (by omega)
  have m1 : (n + u - 1) / u ≤ n + u - 1 := Int.ediv_le_self _ (by omega)
  have m2 : Int.tdiv (n + u - 1) u = (n + u - 1) / u := Int.tdiv_eq_ediv_of_nonneg (by omega)
  repeat' (first
    | (with_reducible first | exact True.intro | apply And.intro | apply If_true | apply If_false | apply If_not)
    | ((with_reducible apply VC.mk); exact vt)
    | ((with_reducible apply If_dec) <;> intro hc <;> (try (exfalso; omega)))
    | ((with_reducible apply If_any) <;> intro hc)
    | ((with_reducible first | apply PF.mk | apply DrawP.mk); (focus kernel_rfl))
    | ((with_reducible apply Same.mk); (focus rfl); (first | exact trivial | exact rfl))
    | (intro cap hcap)
    | ((fail_if_success (with_reducible apply st)); conv => whnf))
  exact Fin.vl (hk _ rfl)
def upOk (x : Int × Int) : Prop := 0 ≤ x.1 ∧ x.1 ≤ 1099511627776 ∧ 0 < x.2 ∧ x.2 ≤ 1099511627776
def upRel (x : Int × Int) (r : Int) : Prop := r = (x.1 + x.2 - 1) / x.2
theorem up_K : ConOk Go.Proofs.Try.prog 87 (Con.of (Int × Int) (Int) (fun x => [.v (.int .i64 x.1), .v (.int .i64 x.2)]) (fun _ => []) upOk upRel (fun _ r => .v (.int .i64 r)) (fun _ _ => [])) := by
  refine conOk_rel (T := tab) mix Go.Proofs.Try.func87 (by decide +kernel) (by kernel_rfl) [] [] (fun n => by rw [Go.Proofs.Try.ntmps87]; exact Nat.le_of_ble_eq_true rfl) (fun x r _ _ => ⟨by simp [AV.noF, noFs, Cont.noF, recsC_noF], (fun c hc => by cases hc), Nat.le_refl _⟩) (fun x _ c hc => by cases hc) ?_
  intro x k h0 hk
  exact up_c x.1 x.2 k h0 (fun r hr => hk r hr)
theorem up_at {avs : List AV} {H : List Chunk} {k : K} (n : Int) (u : Int) (h0 : 0 ≤ n ∧ n ≤ 1099511627776 ∧ 0 < u ∧ u ≤ 1099511627776) (ha : argsM H [] [.v (.int .i64 n), .v (.int .i64 u)] avs) (hQ : ∀ r : Int, (r = (n + u - 1) / u) → k (.v (.int .i64 r)) H) : CallP Go.Proofs.Try.prog 87 avs H k :=
  CallP.mk ⟨_, up_K.real, Con.spec up_K, (n, u), [], ⟨h0, rfl, trivial, ha⟩, fun r hr => (numK_eq H.length (fun N => k (AV.ren (fren [] N) (.v (.int .i64 r))) (putAll H [] []))).mpr (by simpa [putAll, AV.ren, rens, Cont.ren, recsC, recAV] using hQ r hr)⟩
theorem Fin.ag2 {u v : Value} {H : List Chunk} {k : K} (hk : k (.agg [.v u, .v v]) []) : Fin 0 (.agg [.v u, .v v]) H k := Fin.ren [] [] (.agg [.v u, .v v]) [] rfl rfl trivial trivial ⟨VC.mk rfl, VC.mk rfl, trivial⟩ hk
theorem HD.clus_b (h : HD) : 512 ≤ h.clus ∧ h.clus ≤ 4096 := by rcases h.clus_cases with e | e | e | e <;> omega
theorem div_b {n u : Int} (h0 : 0 ≤ n) (h1 : 0 < u) : 0 ≤ n / u ∧ n / u ≤ n ∧ n / u * u ≤ n := ⟨Int.ediv_nonneg h0 (by omega), Int.ediv_le_self _ h0, Int.ediv_mul_le n (by omega)⟩
theorem HD.refs_b (h : HD) : 0 ≤ h.refs ∧ h.refs ≤ 24576 ∧ 0 ≤ h.refs * h.clus ∧ h.refs * h.clus ≤ 24576 := by
  have b := h.clus_b
  have d := div_b (n := 2 * max 0 (min h.host 8192) + h.clus - 1) (u := h.clus) (by omega) (by omega)
  have p : 0 ≤ h.refs * h.clus := Int.mul_nonneg d.1 (by omega)
  have e : h.refs = (2 * max 0 (min h.host 8192) + h.clus - 1) / h.clus := rfl
  rw [← e] at d
  omega
theorem mul_b {a u : Int} (A : Int) (h0 : 0 ≤ a) (h1 : a ≤ A) (h2 : 0 ≤ u) (h3 : u ≤ 4096) : 0 ≤ a * u ∧ a * u ≤ A * 4096 := ⟨Int.mul_nonneg h0 h2, Int.mul_le_mul h1 h3 h2 (by omega)⟩
theorem HD.jend_b (h : HD) : 0 ≤ h.jend ∧ h.jend ≤ 33558528 := by
  have b := h.clus_b
  have := mul_b (a := 1 + max 0 (min h.jr 8192)) (u := h.clus) 8193 (by omega) (by omega) (by omega) b.2
  unfold HD.jend
  rw [Int.mul_comm]
  omega
theorem HD.rend_b (h : HD) : 0 ≤ h.rend ∧ h.rend ≤ 33583104 := by
  have := h.jend_b
  have := h.refs_b
  unfold HD.rend
  omega
set_option maxHeartbeats 8000000 in
theorem hguest_c (h : HD) (k : K) (h0 : hR h) (hk : ∀ r : Int, r = h.guest → k (.v (.int .i64 r)) []) : evFunc tab [] p51 Go.Proofs.Try.f51 [.agg [.v (.int .i64 h.bits), .v (.int .i64 h.size), .v (.int .i64 h.host), .v (.int .i64 h.jr), .v (.bool h.backed)]] [] k := by
  have b := h.clus_b
  repeat' (first
    | (with_reducible first | exact True.intro | apply And.intro | apply If_true | apply If_false | apply If_not)
    | ((with_reducible apply VC.mk); exact vt)
    | ((with_reducible apply If_dec) <;> intro hc <;> (try (exfalso; omega)))
    | ((with_reducible apply If_any) <;> intro hc)
    | ((with_reducible first | apply PF.mk | apply DrawP.mk); (focus kernel_rfl))
    | ((with_reducible apply Same.mk); (focus rfl); (first | exact trivial | exact rfl))
    | (intro cap hcap)
    | ((fail_if_success (with_reducible apply st)); conv => whnf))
  refine hclus_at h h0 ⟨⟨rfl, rfl, rfl, rfl, rfl, trivial⟩, trivial⟩ ?_
  intro c hc
  rw [← hc] at b
  repeat' (first
    | (with_reducible first | exact True.intro | apply And.intro | apply If_true | apply If_false | apply If_not)
    | ((with_reducible apply VC.mk); exact vt)
    | ((with_reducible apply If_dec) <;> intro hc <;> (try (exfalso; omega)))
    | ((with_reducible apply If_any) <;> intro hc)
    | ((with_reducible first | apply PF.mk | apply DrawP.mk); (focus kernel_rfl))
    | ((with_reducible apply Same.mk); (focus rfl); (first | exact trivial | exact rfl))
    | (intro cap hcap)
    | ((fail_if_success (with_reducible apply st)); conv => whnf))
  all_goals (try simp only [cond_true, cond_false] at *)
  refine up_at (max 0 (min h.size 16777216)) c (by omega) ⟨rfl, rfl, trivial⟩ ?_
  intro r hr
  repeat' (first
    | (with_reducible first | exact True.intro | apply And.intro | apply If_true | apply If_false | apply If_not)
    | ((with_reducible apply VC.mk); exact vt)
    | ((with_reducible apply If_dec) <;> intro hc <;> (try (exfalso; omega)))
    | ((with_reducible apply If_any) <;> intro hc)
    | ((with_reducible first | apply PF.mk | apply DrawP.mk); (focus kernel_rfl))
    | ((with_reducible apply Same.mk); (focus rfl); (first | exact trivial | exact rfl))
    | (intro cap hcap)
    | ((fail_if_success (with_reducible apply st)); conv => whnf))
  exact Fin.vl (hk _ (by rw [hr, hc]; rfl))
def hguestOk (x : HD) : Prop := hR x
def hguestRel (x : HD) (r : Int) : Prop := r = x.guest
theorem hguest_K : ConOk Go.Proofs.Try.prog 51 (Con.of (HD) (Int) (fun x => [.agg [.v (.int .i64 x.bits), .v (.int .i64 x.size), .v (.int .i64 x.host), .v (.int .i64 x.jr), .v (.bool x.backed)]]) (fun _ => []) hguestOk hguestRel (fun _ r => .v (.int .i64 r)) (fun _ _ => [])) := by
  refine conOk_rel (T := tab) mix Go.Proofs.Try.func51 (by decide +kernel) (by kernel_rfl) [] p51 (fun n => by rw [Go.Proofs.Try.ntmps51]; exact Nat.le_of_ble_eq_true rfl) (fun x r _ _ => ⟨by simp [AV.noF, noFs, Cont.noF, recsC_noF], (fun c hc => by cases hc), Nat.le_refl _⟩) (fun x _ c hc => by cases hc) ?_
  intro x k h0 hk
  exact hguest_c x k h0 (fun r hr => hk r hr)
theorem hguest_at {avs : List AV} {H : List Chunk} {k : K} (h : HD) (h0 : hR h) (ha : argsM H [] [.agg [.v (.int .i64 h.bits), .v (.int .i64 h.size), .v (.int .i64 h.host), .v (.int .i64 h.jr), .v (.bool h.backed)]] avs) (hQ : ∀ r : Int, (r = h.guest) → k (.v (.int .i64 r)) H) : CallP Go.Proofs.Try.prog 51 avs H k :=
  CallP.mk ⟨_, hguest_K.real, Con.spec hguest_K, (h), [], ⟨h0, rfl, trivial, ha⟩, fun r hr => (numK_eq H.length (fun N => k (AV.ren (fren [] N) (.v (.int .i64 r))) (putAll H [] []))).mpr (by simpa [putAll, AV.ren, rens, Cont.ren, recsC, recAV] using hQ r hr)⟩
set_option maxHeartbeats 8000000 in
theorem hrefs_c (h : HD) (k : K) (h0 : hR h) (hk : ∀ r : Int, r = h.refs → k (.v (.int .i64 r)) []) : evFunc tab [] p57 Go.Proofs.Try.f57 [.agg [.v (.int .i64 h.bits), .v (.int .i64 h.size), .v (.int .i64 h.host), .v (.int .i64 h.jr), .v (.bool h.backed)]] [] k := by
  have b := h.clus_b
  repeat' (first
    | (with_reducible first | exact True.intro | apply And.intro | apply If_true | apply If_false | apply If_not)
    | ((with_reducible apply VC.mk); exact vt)
    | ((with_reducible apply If_dec) <;> intro hc <;> (try (exfalso; omega)))
    | ((with_reducible apply If_any) <;> intro hc)
    | ((with_reducible first | apply PF.mk | apply DrawP.mk); (focus kernel_rfl))
    | ((with_reducible apply Same.mk); (focus rfl); (first | exact trivial | exact rfl))
    | (intro cap hcap)
    | ((fail_if_success (with_reducible apply st)); conv => whnf))
  refine hclus_at h h0 ⟨⟨rfl, rfl, rfl, rfl, rfl, trivial⟩, trivial⟩ ?_
  intro c hc
  rw [← hc] at b
  repeat' (first
    | (with_reducible first | exact True.intro | apply And.intro | apply If_true | apply If_false | apply If_not)
    | ((with_reducible apply VC.mk); exact vt)
    | ((with_reducible apply If_dec) <;> intro hc <;> (try (exfalso; omega)))
    | ((with_reducible apply If_any) <;> intro hc)
    | ((with_reducible first | apply PF.mk | apply DrawP.mk); (focus kernel_rfl))
    | ((with_reducible apply Same.mk); (focus rfl); (first | exact trivial | exact rfl))
    | (intro cap hcap)
    | ((fail_if_success (with_reducible apply st)); conv => whnf))
  all_goals (try simp only [cond_true, cond_false] at *)
  refine up_at (2 * max 0 (min h.host 8192)) c (by omega) ⟨rfl, rfl, trivial⟩ ?_
  intro r hr
  repeat' (first
    | (with_reducible first | exact True.intro | apply And.intro | apply If_true | apply If_false | apply If_not)
    | ((with_reducible apply VC.mk); exact vt)
    | ((with_reducible apply If_dec) <;> intro hc <;> (try (exfalso; omega)))
    | ((with_reducible apply If_any) <;> intro hc)
    | ((with_reducible first | apply PF.mk | apply DrawP.mk); (focus kernel_rfl))
    | ((with_reducible apply Same.mk); (focus rfl); (first | exact trivial | exact rfl))
    | (intro cap hcap)
    | ((fail_if_success (with_reducible apply st)); conv => whnf))
  exact Fin.vl (hk _ (by rw [hr, hc]; rfl))
def hrefsOk (x : HD) : Prop := hR x
def hrefsRel (x : HD) (r : Int) : Prop := r = x.refs
theorem hrefs_K : ConOk Go.Proofs.Try.prog 57 (Con.of (HD) (Int) (fun x => [.agg [.v (.int .i64 x.bits), .v (.int .i64 x.size), .v (.int .i64 x.host), .v (.int .i64 x.jr), .v (.bool x.backed)]]) (fun _ => []) hrefsOk hrefsRel (fun _ r => .v (.int .i64 r)) (fun _ _ => [])) := by
  refine conOk_rel (T := tab) mix Go.Proofs.Try.func57 (by decide +kernel) (by kernel_rfl) [] p57 (fun n => by rw [Go.Proofs.Try.ntmps57]; exact Nat.le_of_ble_eq_true rfl) (fun x r _ _ => ⟨by simp [AV.noF, noFs, Cont.noF, recsC_noF], (fun c hc => by cases hc), Nat.le_refl _⟩) (fun x _ c hc => by cases hc) ?_
  intro x k h0 hk
  exact hrefs_c x k h0 (fun r hr => hk r hr)
theorem hrefs_at {avs : List AV} {H : List Chunk} {k : K} (h : HD) (h0 : hR h) (ha : argsM H [] [.agg [.v (.int .i64 h.bits), .v (.int .i64 h.size), .v (.int .i64 h.host), .v (.int .i64 h.jr), .v (.bool h.backed)]] avs) (hQ : ∀ r : Int, (r = h.refs) → k (.v (.int .i64 r)) H) : CallP Go.Proofs.Try.prog 57 avs H k :=
  CallP.mk ⟨_, hrefs_K.real, Con.spec hrefs_K, (h), [], ⟨h0, rfl, trivial, ha⟩, fun r hr => (numK_eq H.length (fun N => k (AV.ren (fren [] N) (.v (.int .i64 r))) (putAll H [] []))).mpr (by simpa [putAll, AV.ren, rens, Cont.ren, recsC, recAV] using hQ r hr)⟩
set_option maxHeartbeats 8000000 in
theorem hjat_c (h : HD) (k : K) (h0 : hR h) (hk : ∀ r : Int × Int, r = (h.clus, h.jend) → k (.agg [.v (.int .i64 r.1), .v (.int .i64 r.2)]) []) : evFunc tab [] p56 Go.Proofs.Try.f56 [.agg [.v (.int .i64 h.bits), .v (.int .i64 h.size), .v (.int .i64 h.host), .v (.int .i64 h.jr), .v (.bool h.backed)]] [] k := by
  have b := h.clus_b
  have b2 := h.jend_b
  unfold HD.jend at b2
  repeat' (first
    | (with_reducible first | exact True.intro | apply And.intro | apply If_true | apply If_false | apply If_not)
    | ((with_reducible apply VC.mk); exact vt)
    | ((with_reducible apply If_dec) <;> intro hc <;> (try (exfalso; omega)))
    | ((with_reducible apply If_any) <;> intro hc)
    | ((with_reducible first | apply PF.mk | apply DrawP.mk); (focus kernel_rfl))
    | ((with_reducible apply Same.mk); (focus rfl); (first | exact trivial | exact rfl))
    | (intro cap hcap)
    | ((fail_if_success (with_reducible apply st)); conv => whnf))
  refine hclus_at h h0 ⟨⟨rfl, rfl, rfl, rfl, rfl, trivial⟩, trivial⟩ ?_
  intro c hc
  repeat' (first
    | (with_reducible first | exact True.intro | apply And.intro | apply If_true | apply If_false | apply If_not)
    | ((with_reducible apply VC.mk); exact vt)
    | ((with_reducible apply If_dec) <;> intro hc <;> (try (exfalso; omega)))
    | ((with_reducible apply If_any) <;> intro hc)
    | ((with_reducible first | apply PF.mk | apply DrawP.mk); (focus kernel_rfl))
    | ((with_reducible apply Same.mk); (focus rfl); (first | exact trivial | exact rfl))
    | (intro cap hcap)
    | ((fail_if_success (with_reducible apply st)); conv => whnf))
  refine hclus_at h h0 ⟨⟨rfl, rfl, rfl, rfl, rfl, trivial⟩, trivial⟩ ?_
  intro d hd
  subst hc hd
  repeat' (first
    | (with_reducible first | exact True.intro | apply And.intro | apply If_true | apply If_false | apply If_not)
    | ((with_reducible apply VC.mk); exact vt)
    | ((with_reducible apply If_dec) <;> intro hc <;> (try (exfalso; omega)))
    | ((with_reducible apply If_any) <;> intro hc)
    | ((with_reducible first | apply PF.mk | apply DrawP.mk); (focus kernel_rfl))
    | ((with_reducible apply Same.mk); (focus rfl); (first | exact trivial | exact rfl))
    | (intro cap hcap)
    | ((fail_if_success (with_reducible apply st)); conv => whnf))
  all_goals (try simp only [cond_true, cond_false] at *)
  exact Fin.ag2 (hk _ rfl)
def hjatOk (x : HD) : Prop := hR x
def hjatRel (x : HD) (r : Int × Int) : Prop := r = (x.clus, x.jend)
theorem hjat_K : ConOk Go.Proofs.Try.prog 56 (Con.of (HD) (Int × Int) (fun x => [.agg [.v (.int .i64 x.bits), .v (.int .i64 x.size), .v (.int .i64 x.host), .v (.int .i64 x.jr), .v (.bool x.backed)]]) (fun _ => []) hjatOk hjatRel (fun _ r => .agg [.v (.int .i64 r.1), .v (.int .i64 r.2)]) (fun _ _ => [])) := by
  refine conOk_rel (T := tab) mix Go.Proofs.Try.func56 (by decide +kernel) (by kernel_rfl) [] p56 (fun n => by rw [Go.Proofs.Try.ntmps56]; exact Nat.le_of_ble_eq_true rfl) (fun x r _ _ => ⟨by simp [AV.noF, noFs, Cont.noF, recsC_noF], (fun c hc => by cases hc), Nat.le_refl _⟩) (fun x _ c hc => by cases hc) ?_
  intro x k h0 hk
  exact hjat_c x k h0 (fun r hr => hk r hr)
theorem hjat_at {avs : List AV} {H : List Chunk} {k : K} (h : HD) (h0 : hR h) (ha : argsM H [] [.agg [.v (.int .i64 h.bits), .v (.int .i64 h.size), .v (.int .i64 h.host), .v (.int .i64 h.jr), .v (.bool h.backed)]] avs) (hQ : ∀ r : Int × Int, (r = (h.clus, h.jend)) → k (.agg [.v (.int .i64 r.1), .v (.int .i64 r.2)]) H) : CallP Go.Proofs.Try.prog 56 avs H k :=
  CallP.mk ⟨_, hjat_K.real, Con.spec hjat_K, (h), [], ⟨h0, rfl, trivial, ha⟩, fun r hr => (numK_eq H.length (fun N => k (AV.ren (fren [] N) (.agg [.v (.int .i64 r.1), .v (.int .i64 r.2)])) (putAll H [] []))).mpr (by simpa [putAll, AV.ren, rens, Cont.ren, recsC, recAV] using hQ r hr)⟩
set_option maxHeartbeats 8000000 in
theorem hrat_c (h : HD) (k : K) (h0 : hR h) (hk : ∀ r : Int × Int, r = (h.jend, h.rend) → k (.agg [.v (.int .i64 r.1), .v (.int .i64 r.2)]) []) : evFunc tab [] p10 Go.Proofs.Try.f10 [.agg [.v (.int .i64 h.bits), .v (.int .i64 h.size), .v (.int .i64 h.host), .v (.int .i64 h.jr), .v (.bool h.backed)]] [] k := by
  have b := h.clus_b
  have b2 := h.jend_b
  have b3 := h.refs_b
  have b4 := h.rend_b
  unfold HD.rend at b4
  repeat' (first
    | (with_reducible first | exact True.intro | apply And.intro | apply If_true | apply If_false | apply If_not)
    | ((with_reducible apply VC.mk); exact vt)
    | ((with_reducible apply If_dec) <;> intro hc <;> (try (exfalso; omega)))
    | ((with_reducible apply If_any) <;> intro hc)
    | ((with_reducible first | apply PF.mk | apply DrawP.mk); (focus kernel_rfl))
    | ((with_reducible apply Same.mk); (focus rfl); (first | exact trivial | exact rfl))
    | (intro cap hcap)
    | ((fail_if_success (with_reducible apply st)); conv => whnf))
  refine hjat_at h h0 ⟨⟨rfl, rfl, rfl, rfl, rfl, trivial⟩, trivial⟩ ?_
  intro a ha
  subst ha
  repeat' (first
    | (with_reducible first | exact True.intro | apply And.intro | apply If_true | apply If_false | apply If_not)
    | ((with_reducible apply VC.mk); exact vt)
    | ((with_reducible apply If_dec) <;> intro hc <;> (try (exfalso; omega)))
    | ((with_reducible apply If_any) <;> intro hc)
    | ((with_reducible first | apply PF.mk | apply DrawP.mk); (focus kernel_rfl))
    | ((with_reducible apply Same.mk); (focus rfl); (first | exact trivial | exact rfl))
    | (intro cap hcap)
    | ((fail_if_success (with_reducible apply st)); conv => whnf))
  all_goals (try simp only [cond_true, cond_false] at *)
  refine hrefs_at h h0 ⟨⟨rfl, rfl, rfl, rfl, rfl, trivial⟩, trivial⟩ ?_
  intro c hc
  subst hc
  repeat' (first
    | (with_reducible first | exact True.intro | apply And.intro | apply If_true | apply If_false | apply If_not)
    | ((with_reducible apply VC.mk); exact vt)
    | ((with_reducible apply If_dec) <;> intro hc <;> (try (exfalso; omega)))
    | ((with_reducible apply If_any) <;> intro hc)
    | ((with_reducible first | apply PF.mk | apply DrawP.mk); (focus kernel_rfl))
    | ((with_reducible apply Same.mk); (focus rfl); (first | exact trivial | exact rfl))
    | (intro cap hcap)
    | ((fail_if_success (with_reducible apply st)); conv => whnf))
  all_goals (try simp only [cond_true, cond_false] at *)
  refine hclus_at h h0 ⟨⟨rfl, rfl, rfl, rfl, rfl, trivial⟩, trivial⟩ ?_
  intro d hd
  subst hd
  repeat' (first
    | (with_reducible first | exact True.intro | apply And.intro | apply If_true | apply If_false | apply If_not)
    | ((with_reducible apply VC.mk); exact vt)
    | ((with_reducible apply If_dec) <;> intro hc <;> (try (exfalso; omega)))
    | ((with_reducible apply If_any) <;> intro hc)
    | ((with_reducible first | apply PF.mk | apply DrawP.mk); (focus kernel_rfl))
    | ((with_reducible apply Same.mk); (focus rfl); (first | exact trivial | exact rfl))
    | (intro cap hcap)
    | ((fail_if_success (with_reducible apply st)); conv => whnf))
  all_goals (try simp only [cond_true, cond_false] at *)
  exact Fin.ag2 (hk _ rfl)
def hratOk (x : HD) : Prop := hR x
def hratRel (x : HD) (r : Int × Int) : Prop := r = (x.jend, x.rend)
theorem hrat_K : ConOk Go.Proofs.Try.prog 10 (Con.of (HD) (Int × Int) (fun x => [.agg [.v (.int .i64 x.bits), .v (.int .i64 x.size), .v (.int .i64 x.host), .v (.int .i64 x.jr), .v (.bool x.backed)]]) (fun _ => []) hratOk hratRel (fun _ r => .agg [.v (.int .i64 r.1), .v (.int .i64 r.2)]) (fun _ _ => [])) := by
  refine conOk_rel (T := tab) mix Go.Proofs.Try.func10 (by decide +kernel) (by kernel_rfl) [] p10 (fun n => by rw [Go.Proofs.Try.ntmps10]; exact Nat.le_of_ble_eq_true rfl) (fun x r _ _ => ⟨by simp [AV.noF, noFs, Cont.noF, recsC_noF], (fun c hc => by cases hc), Nat.le_refl _⟩) (fun x _ c hc => by cases hc) ?_
  intro x k h0 hk
  exact hrat_c x k h0 (fun r hr => hk r hr)
theorem hrat_at {avs : List AV} {H : List Chunk} {k : K} (h : HD) (h0 : hR h) (ha : argsM H [] [.agg [.v (.int .i64 h.bits), .v (.int .i64 h.size), .v (.int .i64 h.host), .v (.int .i64 h.jr), .v (.bool h.backed)]] avs) (hQ : ∀ r : Int × Int, (r = (h.jend, h.rend)) → k (.agg [.v (.int .i64 r.1), .v (.int .i64 r.2)]) H) : CallP Go.Proofs.Try.prog 10 avs H k :=
  CallP.mk ⟨_, hrat_K.real, Con.spec hrat_K, (h), [], ⟨h0, rfl, trivial, ha⟩, fun r hr => (numK_eq H.length (fun N => k (AV.ren (fren [] N) (.agg [.v (.int .i64 r.1), .v (.int .i64 r.2)])) (putAll H [] []))).mpr (by simpa [putAll, AV.ren, rens, Cont.ren, recsC, recAV] using hQ r hr)⟩
set_option maxHeartbeats 8000000 in
theorem hsat_c (h : HD) (k : K) (h0 : hR h) (hk : ∀ r : Int × Int, r = (h.rend, h.rend + h.clus) → k (.agg [.v (.int .i64 r.1), .v (.int .i64 r.2)]) []) : evFunc tab [] [] Go.Proofs.Try.f88 [.agg [.v (.int .i64 h.bits), .v (.int .i64 h.size), .v (.int .i64 h.host), .v (.int .i64 h.jr), .v (.bool h.backed)]] [] k := by
  have b := h.clus_b
  have b2 := h.jend_b
  have b3 := h.refs_b
  have b4 := h.rend_b
  repeat' (first
    | (with_reducible first | exact True.intro | apply And.intro | apply If_true | apply If_false | apply If_not)
    | ((with_reducible apply VC.mk); exact vt)
    | ((with_reducible apply If_dec) <;> intro hc <;> (try (exfalso; omega)))
    | ((with_reducible apply If_any) <;> intro hc)
    | ((with_reducible first | apply PF.mk | apply DrawP.mk); (focus kernel_rfl))
    | ((with_reducible apply Same.mk); (focus rfl); (first | exact trivial | exact rfl))
    | (intro cap hcap)
    | ((fail_if_success (with_reducible apply st)); conv => whnf))
  refine hrat_at h h0 ⟨⟨rfl, rfl, rfl, rfl, rfl, trivial⟩, trivial⟩ ?_
  intro a ha
  subst ha
  repeat' (first
    | (with_reducible first | exact True.intro | apply And.intro | apply If_true | apply If_false | apply If_not)
    | ((with_reducible apply VC.mk); exact vt)
    | ((with_reducible apply If_dec) <;> intro hc <;> (try (exfalso; omega)))
    | ((with_reducible apply If_any) <;> intro hc)
    | ((with_reducible first | apply PF.mk | apply DrawP.mk); (focus kernel_rfl))
    | ((with_reducible apply Same.mk); (focus rfl); (first | exact trivial | exact rfl))
    | (intro cap hcap)
    | ((fail_if_success (with_reducible apply st)); conv => whnf))
  all_goals (try simp only [cond_true, cond_false] at *)
  refine hclus_at h h0 ⟨⟨rfl, rfl, rfl, rfl, rfl, trivial⟩, trivial⟩ ?_
  intro d hd
  subst hd
  repeat' (first
    | (with_reducible first | exact True.intro | apply And.intro | apply If_true | apply If_false | apply If_not)
    | ((with_reducible apply VC.mk); exact vt)
    | ((with_reducible apply If_dec) <;> intro hc <;> (try (exfalso; omega)))
    | ((with_reducible apply If_any) <;> intro hc)
    | ((with_reducible first | apply PF.mk | apply DrawP.mk); (focus kernel_rfl))
    | ((with_reducible apply Same.mk); (focus rfl); (first | exact trivial | exact rfl))
    | (intro cap hcap)
    | ((fail_if_success (with_reducible apply st)); conv => whnf))
  all_goals (try simp only [cond_true, cond_false] at *)
  exact Fin.ag2 (hk _ rfl)
def hsatOk (x : HD) : Prop := hR x
def hsatRel (x : HD) (r : Int × Int) : Prop := r = (x.rend, x.rend + x.clus)
theorem hsat_K : ConOk Go.Proofs.Try.prog 88 (Con.of (HD) (Int × Int) (fun x => [.agg [.v (.int .i64 x.bits), .v (.int .i64 x.size), .v (.int .i64 x.host), .v (.int .i64 x.jr), .v (.bool x.backed)]]) (fun _ => []) hsatOk hsatRel (fun _ r => .agg [.v (.int .i64 r.1), .v (.int .i64 r.2)]) (fun _ _ => [])) := by
  refine conOk_rel (T := tab) mix Go.Proofs.Try.func88 (by decide +kernel) (by kernel_rfl) [] [] (fun n => by rw [Go.Proofs.Try.ntmps88]; exact Nat.le_of_ble_eq_true rfl) (fun x r _ _ => ⟨by simp [AV.noF, noFs, Cont.noF, recsC_noF], (fun c hc => by cases hc), Nat.le_refl _⟩) (fun x _ c hc => by cases hc) ?_
  intro x k h0 hk
  exact hsat_c x k h0 (fun r hr => hk r hr)
theorem hsat_at {avs : List AV} {H : List Chunk} {k : K} (h : HD) (h0 : hR h) (ha : argsM H [] [.agg [.v (.int .i64 h.bits), .v (.int .i64 h.size), .v (.int .i64 h.host), .v (.int .i64 h.jr), .v (.bool h.backed)]] avs) (hQ : ∀ r : Int × Int, (r = (h.rend, h.rend + h.clus)) → k (.agg [.v (.int .i64 r.1), .v (.int .i64 r.2)]) H) : CallP Go.Proofs.Try.prog 88 avs H k :=
  CallP.mk ⟨_, hsat_K.real, Con.spec hsat_K, (h), [], ⟨h0, rfl, trivial, ha⟩, fun r hr => (numK_eq H.length (fun N => k (AV.ren (fren [] N) (.agg [.v (.int .i64 r.1), .v (.int .i64 r.2)])) (putAll H [] []))).mpr (by simpa [putAll, AV.ren, rens, Cont.ren, recsC, recAV] using hQ r hr)⟩
set_option maxHeartbeats 8000000 in
theorem htat_c (h : HD) (k : K) (h0 : hR h) (hk : ∀ r : Int × Int, r = (h.rend + h.clus, h.rend + h.clus + h.clus) → k (.agg [.v (.int .i64 r.1), .v (.int .i64 r.2)]) []) : evFunc tab [] [] Go.Proofs.Try.f55 [.agg [.v (.int .i64 h.bits), .v (.int .i64 h.size), .v (.int .i64 h.host), .v (.int .i64 h.jr), .v (.bool h.backed)]] [] k := by
  have b := h.clus_b
  have b2 := h.jend_b
  have b3 := h.refs_b
  have b4 := h.rend_b
  repeat' (first
    | (with_reducible first | exact True.intro | apply And.intro | apply If_true | apply If_false | apply If_not)
    | ((with_reducible apply VC.mk); exact vt)
    | ((with_reducible apply If_dec) <;> intro hc <;> (try (exfalso; omega)))
    | ((with_reducible apply If_any) <;> intro hc)
    | ((with_reducible first | apply PF.mk | apply DrawP.mk); (focus kernel_rfl))
    | ((with_reducible apply Same.mk); (focus rfl); (first | exact trivial | exact rfl))
    | (intro cap hcap)
    | ((fail_if_success (with_reducible apply st)); conv => whnf))
  refine hsat_at h h0 ⟨⟨rfl, rfl, rfl, rfl, rfl, trivial⟩, trivial⟩ ?_
  intro a ha
  subst ha
  repeat' (first
    | (with_reducible first | exact True.intro | apply And.intro | apply If_true | apply If_false | apply If_not)
    | ((with_reducible apply VC.mk); exact vt)
    | ((with_reducible apply If_dec) <;> intro hc <;> (try (exfalso; omega)))
    | ((with_reducible apply If_any) <;> intro hc)
    | ((with_reducible first | apply PF.mk | apply DrawP.mk); (focus kernel_rfl))
    | ((with_reducible apply Same.mk); (focus rfl); (first | exact trivial | exact rfl))
    | (intro cap hcap)
    | ((fail_if_success (with_reducible apply st)); conv => whnf))
  all_goals (try simp only [cond_true, cond_false] at *)
  refine hclus_at h h0 ⟨⟨rfl, rfl, rfl, rfl, rfl, trivial⟩, trivial⟩ ?_
  intro d hd
  subst hd
  repeat' (first
    | (with_reducible first | exact True.intro | apply And.intro | apply If_true | apply If_false | apply If_not)
    | ((with_reducible apply VC.mk); exact vt)
    | ((with_reducible apply If_dec) <;> intro hc <;> (try (exfalso; omega)))
    | ((with_reducible apply If_any) <;> intro hc)
    | ((with_reducible first | apply PF.mk | apply DrawP.mk); (focus kernel_rfl))
    | ((with_reducible apply Same.mk); (focus rfl); (first | exact trivial | exact rfl))
    | (intro cap hcap)
    | ((fail_if_success (with_reducible apply st)); conv => whnf))
  all_goals (try simp only [cond_true, cond_false] at *)
  exact Fin.ag2 (hk _ rfl)
def htatOk (x : HD) : Prop := hR x
def htatRel (x : HD) (r : Int × Int) : Prop := r = (x.rend + x.clus, x.rend + x.clus + x.clus)
theorem htat_K : ConOk Go.Proofs.Try.prog 55 (Con.of (HD) (Int × Int) (fun x => [.agg [.v (.int .i64 x.bits), .v (.int .i64 x.size), .v (.int .i64 x.host), .v (.int .i64 x.jr), .v (.bool x.backed)]]) (fun _ => []) htatOk htatRel (fun _ r => .agg [.v (.int .i64 r.1), .v (.int .i64 r.2)]) (fun _ _ => [])) := by
  refine conOk_rel (T := tab) mix Go.Proofs.Try.func55 (by decide +kernel) (by kernel_rfl) [] [] (fun n => by rw [Go.Proofs.Try.ntmps55]; exact Nat.le_of_ble_eq_true rfl) (fun x r _ _ => ⟨by simp [AV.noF, noFs, Cont.noF, recsC_noF], (fun c hc => by cases hc), Nat.le_refl _⟩) (fun x _ c hc => by cases hc) ?_
  intro x k h0 hk
  exact htat_c x k h0 (fun r hr => hk r hr)
theorem htat_at {avs : List AV} {H : List Chunk} {k : K} (h : HD) (h0 : hR h) (ha : argsM H [] [.agg [.v (.int .i64 h.bits), .v (.int .i64 h.size), .v (.int .i64 h.host), .v (.int .i64 h.jr), .v (.bool h.backed)]] avs) (hQ : ∀ r : Int × Int, (r = (h.rend + h.clus, h.rend + h.clus + h.clus)) → k (.agg [.v (.int .i64 r.1), .v (.int .i64 r.2)]) H) : CallP Go.Proofs.Try.prog 55 avs H k :=
  CallP.mk ⟨_, htat_K.real, Con.spec htat_K, (h), [], ⟨h0, rfl, trivial, ha⟩, fun r hr => (numK_eq H.length (fun N => k (AV.ren (fren [] N) (.agg [.v (.int .i64 r.1), .v (.int .i64 r.2)])) (putAll H [] []))).mpr (by simpa [putAll, AV.ren, rens, Cont.ren, recsC, recAV] using hQ r hr)⟩
set_option maxHeartbeats 8000000 in
theorem hfirst_c (h : HD) (k : K) (h0 : hR h) (hk : ∀ r : Int, r = h.first → k (.v (.int .i64 r)) []) : evFunc tab [] p9 Go.Proofs.Try.f9 [.agg [.v (.int .i64 h.bits), .v (.int .i64 h.size), .v (.int .i64 h.host), .v (.int .i64 h.jr), .v (.bool h.backed)]] [] k := by
  have b := h.clus_b
  have b2 := h.jend_b
  have b3 := h.refs_b
  have b4 := h.rend_b
  have d := div_b (n := h.rend + h.clus + h.clus) (u := h.clus) (by omega) (by omega)
  repeat' (first
    | (with_reducible first | exact True.intro | apply And.intro | apply If_true | apply If_false | apply If_not)
    | ((with_reducible apply VC.mk); exact vt)
    | ((with_reducible apply If_dec) <;> intro hc <;> (try (exfalso; omega)))
    | ((with_reducible apply If_any) <;> intro hc)
    | ((with_reducible first | apply PF.mk | apply DrawP.mk); (focus kernel_rfl))
    | ((with_reducible apply Same.mk); (focus rfl); (first | exact trivial | exact rfl))
    | (intro cap hcap)
    | ((fail_if_success (with_reducible apply st)); conv => whnf))
  refine htat_at h h0 ⟨⟨rfl, rfl, rfl, rfl, rfl, trivial⟩, trivial⟩ ?_
  intro a ha
  subst ha
  repeat' (first
    | (with_reducible first | exact True.intro | apply And.intro | apply If_true | apply If_false | apply If_not)
    | ((with_reducible apply VC.mk); exact vt)
    | ((with_reducible apply If_dec) <;> intro hc <;> (try (exfalso; omega)))
    | ((with_reducible apply If_any) <;> intro hc)
    | ((with_reducible first | apply PF.mk | apply DrawP.mk); (focus kernel_rfl))
    | ((with_reducible apply Same.mk); (focus rfl); (first | exact trivial | exact rfl))
    | (intro cap hcap)
    | ((fail_if_success (with_reducible apply st)); conv => whnf))
  all_goals (try simp only [cond_true, cond_false] at *)
  refine hclus_at h h0 ⟨⟨rfl, rfl, rfl, rfl, rfl, trivial⟩, trivial⟩ ?_
  intro d hd
  subst hd
  repeat' (first
    | (with_reducible first | exact True.intro | apply And.intro | apply If_true | apply If_false | apply If_not)
    | ((with_reducible apply VC.mk); exact vt)
    | ((with_reducible apply If_dec) <;> intro hc <;> (try (exfalso; omega)))
    | ((with_reducible apply If_any) <;> intro hc)
    | ((with_reducible first | apply PF.mk | apply DrawP.mk); (focus kernel_rfl))
    | ((with_reducible apply Same.mk); (focus rfl); (first | exact trivial | exact rfl))
    | (intro cap hcap)
    | ((fail_if_success (with_reducible apply st)); conv => whnf))
  all_goals (try simp only [cond_true, cond_false] at *)
  exact Fin.vl (hk _ rfl)
def hfirstOk (x : HD) : Prop := hR x
def hfirstRel (x : HD) (r : Int) : Prop := r = x.first
theorem hfirst_K : ConOk Go.Proofs.Try.prog 9 (Con.of (HD) (Int) (fun x => [.agg [.v (.int .i64 x.bits), .v (.int .i64 x.size), .v (.int .i64 x.host), .v (.int .i64 x.jr), .v (.bool x.backed)]]) (fun _ => []) hfirstOk hfirstRel (fun _ r => .v (.int .i64 r)) (fun _ _ => [])) := by
  refine conOk_rel (T := tab) mix Go.Proofs.Try.func9 (by decide +kernel) (by kernel_rfl) [] p9 (fun n => by rw [Go.Proofs.Try.ntmps9]; exact Nat.le_of_ble_eq_true rfl) (fun x r _ _ => ⟨by simp [AV.noF, noFs, Cont.noF, recsC_noF], (fun c hc => by cases hc), Nat.le_refl _⟩) (fun x _ c hc => by cases hc) ?_
  intro x k h0 hk
  exact hfirst_c x k h0 (fun r hr => hk r hr)
theorem hfirst_at {avs : List AV} {H : List Chunk} {k : K} (h : HD) (h0 : hR h) (ha : argsM H [] [.agg [.v (.int .i64 h.bits), .v (.int .i64 h.size), .v (.int .i64 h.host), .v (.int .i64 h.jr), .v (.bool h.backed)]] avs) (hQ : ∀ r : Int, (r = h.first) → k (.v (.int .i64 r)) H) : CallP Go.Proofs.Try.prog 9 avs H k :=
  CallP.mk ⟨_, hfirst_K.real, Con.spec hfirst_K, (h), [], ⟨h0, rfl, trivial, ha⟩, fun r hr => (numK_eq H.length (fun N => k (AV.ren (fren [] N) (.v (.int .i64 r))) (putAll H [] []))).mpr (by simpa [putAll, AV.ren, rens, Cont.ren, recsC, recAV] using hQ r hr)⟩
set_option maxHeartbeats 8000000 in
theorem hleast_c (h : HD) (k : K) (h0 : hR h) (hk : ∀ r : Int, r = h.least → k (.v (.int .i64 r)) []) : evFunc tab [] p54 Go.Proofs.Try.f54 [.agg [.v (.int .i64 h.bits), .v (.int .i64 h.size), .v (.int .i64 h.host), .v (.int .i64 h.jr), .v (.bool h.backed)]] [] k := by
  have b := h.clus_b
  have b2 := h.jend_b
  have b3 := h.refs_b
  have b4 := h.rend_b
  have m := mul_b (a := h.refs + 18) (u := h.clus) 24594 (by omega) (by omega) (by omega) b.2
  repeat' (first
    | (with_reducible first | exact True.intro | apply And.intro | apply If_true | apply If_false | apply If_not)
    | ((with_reducible apply VC.mk); exact vt)
    | ((with_reducible apply If_dec) <;> intro hc <;> (try (exfalso; omega)))
    | ((with_reducible apply If_any) <;> intro hc)
    | ((with_reducible first | apply PF.mk | apply DrawP.mk); (focus kernel_rfl))
    | ((with_reducible apply Same.mk); (focus rfl); (first | exact trivial | exact rfl))
    | (intro cap hcap)
    | ((fail_if_success (with_reducible apply st)); conv => whnf))
  refine hrefs_at h h0 ⟨⟨rfl, rfl, rfl, rfl, rfl, trivial⟩, trivial⟩ ?_
  intro a ha
  subst ha
  repeat' (first
    | (with_reducible first | exact True.intro | apply And.intro | apply If_true | apply If_false | apply If_not)
    | ((with_reducible apply VC.mk); exact vt)
    | ((with_reducible apply If_dec) <;> intro hc <;> (try (exfalso; omega)))
    | ((with_reducible apply If_any) <;> intro hc)
    | ((with_reducible first | apply PF.mk | apply DrawP.mk); (focus kernel_rfl))
    | ((with_reducible apply Same.mk); (focus rfl); (first | exact trivial | exact rfl))
    | (intro cap hcap)
    | ((fail_if_success (with_reducible apply st)); conv => whnf))
  all_goals (try simp only [cond_true, cond_false] at *)
  refine hclus_at h h0 ⟨⟨rfl, rfl, rfl, rfl, rfl, trivial⟩, trivial⟩ ?_
  intro d hd
  subst hd
  repeat' (first
    | (with_reducible first | exact True.intro | apply And.intro | apply If_true | apply If_false | apply If_not)
    | ((with_reducible apply VC.mk); exact vt)
    | ((with_reducible apply If_dec) <;> intro hc <;> (try (exfalso; omega)))
    | ((with_reducible apply If_any) <;> intro hc)
    | ((with_reducible first | apply PF.mk | apply DrawP.mk); (focus kernel_rfl))
    | ((with_reducible apply Same.mk); (focus rfl); (first | exact trivial | exact rfl))
    | (intro cap hcap)
    | ((fail_if_success (with_reducible apply st)); conv => whnf))
  all_goals (try simp only [cond_true, cond_false] at *)
  refine hclus_at h h0 ⟨⟨rfl, rfl, rfl, rfl, rfl, trivial⟩, trivial⟩ ?_
  intro e he
  subst he
  repeat' (first
    | (with_reducible first | exact True.intro | apply And.intro | apply If_true | apply If_false | apply If_not)
    | ((with_reducible apply VC.mk); exact vt)
    | ((with_reducible apply If_dec) <;> intro hc <;> (try (exfalso; omega)))
    | ((with_reducible apply If_any) <;> intro hc)
    | ((with_reducible first | apply PF.mk | apply DrawP.mk); (focus kernel_rfl))
    | ((with_reducible apply Same.mk); (focus rfl); (first | exact trivial | exact rfl))
    | (intro cap hcap)
    | ((fail_if_success (with_reducible apply st)); conv => whnf))
  all_goals (try simp only [cond_true, cond_false] at *)
  refine up_at ((h.refs + 18) * h.clus + 4096 + 512) h.clus (by omega) ⟨rfl, rfl, trivial⟩ ?_
  intro r hr
  repeat' (first
    | (with_reducible first | exact True.intro | apply And.intro | apply If_true | apply If_false | apply If_not)
    | ((with_reducible apply VC.mk); exact vt)
    | ((with_reducible apply If_dec) <;> intro hc <;> (try (exfalso; omega)))
    | ((with_reducible apply If_any) <;> intro hc)
    | ((with_reducible first | apply PF.mk | apply DrawP.mk); (focus kernel_rfl))
    | ((with_reducible apply Same.mk); (focus rfl); (first | exact trivial | exact rfl))
    | (intro cap hcap)
    | ((fail_if_success (with_reducible apply st)); conv => whnf))
  exact Fin.vl (hk _ (by rw [hr]; rfl))
def hleastOk (x : HD) : Prop := hR x
def hleastRel (x : HD) (r : Int) : Prop := r = x.least
theorem hleast_K : ConOk Go.Proofs.Try.prog 54 (Con.of (HD) (Int) (fun x => [.agg [.v (.int .i64 x.bits), .v (.int .i64 x.size), .v (.int .i64 x.host), .v (.int .i64 x.jr), .v (.bool x.backed)]]) (fun _ => []) hleastOk hleastRel (fun _ r => .v (.int .i64 r)) (fun _ _ => [])) := by
  refine conOk_rel (T := tab) mix Go.Proofs.Try.func54 (by decide +kernel) (by kernel_rfl) [] p54 (fun n => by rw [Go.Proofs.Try.ntmps54]; exact Nat.le_of_ble_eq_true rfl) (fun x r _ _ => ⟨by simp [AV.noF, noFs, Cont.noF, recsC_noF], (fun c hc => by cases hc), Nat.le_refl _⟩) (fun x _ c hc => by cases hc) ?_
  intro x k h0 hk
  exact hleast_c x k h0 (fun r hr => hk r hr)
theorem hleast_at {avs : List AV} {H : List Chunk} {k : K} (h : HD) (h0 : hR h) (ha : argsM H [] [.agg [.v (.int .i64 h.bits), .v (.int .i64 h.size), .v (.int .i64 h.host), .v (.int .i64 h.jr), .v (.bool h.backed)]] avs) (hQ : ∀ r : Int, (r = h.least) → k (.v (.int .i64 r)) H) : CallP Go.Proofs.Try.prog 54 avs H k :=
  CallP.mk ⟨_, hleast_K.real, Con.spec hleast_K, (h), [], ⟨h0, rfl, trivial, ha⟩, fun r hr => (numK_eq H.length (fun N => k (AV.ren (fren [] N) (.v (.int .i64 r))) (putAll H [] []))).mpr (by simpa [putAll, AV.ren, rens, Cont.ren, recsC, recAV] using hQ r hr)⟩
set_option maxHeartbeats 8000000 in
theorem hcheck_c (h : HD) (k : K) (h0 : hR h) (hk : ∀ r : Int, r = h.checkV → k (.v (.int .i64 r)) []) : evFunc tab [] p8 Go.Proofs.Try.f8 [.agg [.v (.int .i64 h.bits), .v (.int .i64 h.size), .v (.int .i64 h.host), .v (.int .i64 h.jr), .v (.bool h.backed)]] [] k := by
  have b := h.clus_b
  have b2 := h.jend_b
  have b3 := h.refs_b
  have b4 := h.rend_b
  have f1 := div_b (n := h.rend + h.clus + h.clus) (u := h.clus) (by omega) (by omega)
  have m := mul_b (a := h.refs + 18) (u := h.clus) 24594 (by omega) (by omega) (by omega) b.2
  have f2 := div_b (n := (h.refs + 18) * h.clus + 4096 + 512 + h.clus - 1) (u := h.clus) (by omega) (by omega)
  have f3 := div_b (n := max 0 (min h.size 16777216) + h.clus - 1) (u := h.clus) (by omega) (by omega)
  have f4 : 0 ≤ h.clus / 8 ∧ h.clus / 8 ≤ 512 := by omega
  have f5 := mul_b (a := h.clus / 8) (u := h.clus / 8) 512 f4.1 f4.2 f4.1 (by omega)
  have f6 : 0 ≤ h.host → h.host ≤ 8192 → 0 ≤ h.host * h.clus ∧ h.host * h.clus ≤ 33554432 := fun a c => mul_b 8192 a c (by omega) b.2
  have u1 : h.guest = (max 0 (min h.size 16777216) + h.clus - 1) / h.clus := rfl
  have u2 : h.least = ((h.refs + 18) * h.clus + 4096 + 512 + h.clus - 1) / h.clus := rfl
  have u3 : h.first = (h.rend + h.clus + h.clus) / h.clus := rfl
  rw [← u1] at f3
  rw [← u2] at f2
  rw [← u3] at f1
  repeat' (first
    | (with_reducible first | exact True.intro | apply And.intro | apply If_true | apply If_false | apply If_not)
    | ((with_reducible apply VC.mk); exact vt)
    | ((with_reducible apply If_dec) <;> intro hc <;> (try (exfalso; omega)))
    | ((with_reducible apply If_any) <;> intro hc)
    | ((with_reducible first | apply PF.mk | apply DrawP.mk); (focus kernel_rfl))
    | ((with_reducible apply Same.mk); (focus rfl); (first | exact trivial | exact rfl))
    | (intro cap hcap)
    | ((fail_if_success (with_reducible apply st)); conv => whnf))
  all_goals (try simp only [cond_true, cond_false] at *)
  all_goals (try (refine Fin.vl (hk _ ?_); unfold HD.checkV; repeat (first | rw [if_pos (by omega)] | rw [if_neg (by omega)])))
  refine hguest_at h h0 ⟨⟨rfl, rfl, rfl, rfl, rfl, trivial⟩, trivial⟩ ?_
  intro a ha
  subst ha
  repeat' (first
    | (with_reducible first | exact True.intro | apply And.intro | apply If_true | apply If_false | apply If_not)
    | ((with_reducible apply VC.mk); exact vt)
    | ((with_reducible apply If_dec) <;> intro hc <;> (try (exfalso; omega)))
    | ((with_reducible apply If_any) <;> intro hc)
    | ((with_reducible first | apply PF.mk | apply DrawP.mk); (focus kernel_rfl))
    | ((with_reducible apply Same.mk); (focus rfl); (first | exact trivial | exact rfl))
    | (intro cap hcap)
    | ((fail_if_success (with_reducible apply st)); conv => whnf))
  all_goals (try simp only [cond_true, cond_false] at *)
  all_goals (try (refine Fin.vl (hk _ ?_); unfold HD.checkV; repeat (first | rw [if_pos (by omega)] | rw [if_neg (by omega)])))
  refine hentries_at h h0 ⟨⟨rfl, rfl, rfl, rfl, rfl, trivial⟩, trivial⟩ ?_
  intro c hc
  subst hc
  repeat' (first
    | (with_reducible first | exact True.intro | apply And.intro | apply If_true | apply If_false | apply If_not)
    | ((with_reducible apply VC.mk); exact vt)
    | ((with_reducible apply If_dec) <;> intro hc <;> (try (exfalso; omega)))
    | ((with_reducible apply If_any) <;> intro hc)
    | ((with_reducible first | apply PF.mk | apply DrawP.mk); (focus kernel_rfl))
    | ((with_reducible apply Same.mk); (focus rfl); (first | exact trivial | exact rfl))
    | (intro cap hcap)
    | ((fail_if_success (with_reducible apply st)); conv => whnf))
  all_goals (try simp only [cond_true, cond_false] at *)
  all_goals (try (refine Fin.vl (hk _ ?_); unfold HD.checkV; repeat (first | rw [if_pos (by omega)] | rw [if_neg (by omega)])))
  refine hentries_at h h0 ⟨⟨rfl, rfl, rfl, rfl, rfl, trivial⟩, trivial⟩ ?_
  intro d hd
  subst hd
  repeat' (first
    | (with_reducible first | exact True.intro | apply And.intro | apply If_true | apply If_false | apply If_not)
    | ((with_reducible apply VC.mk); exact vt)
    | ((with_reducible apply If_dec) <;> intro hc <;> (try (exfalso; omega)))
    | ((with_reducible apply If_any) <;> intro hc)
    | ((with_reducible first | apply PF.mk | apply DrawP.mk); (focus kernel_rfl))
    | ((with_reducible apply Same.mk); (focus rfl); (first | exact trivial | exact rfl))
    | (intro cap hcap)
    | ((fail_if_success (with_reducible apply st)); conv => whnf))
  all_goals (try simp only [cond_true, cond_false] at *)
  all_goals (try (refine Fin.vl (hk _ ?_); unfold HD.checkV; repeat (first | rw [if_pos (by omega)] | rw [if_neg (by omega)])))
  refine hclus_at h h0 ⟨⟨rfl, rfl, rfl, rfl, rfl, trivial⟩, trivial⟩ ?_
  intro e he
  subst he
  repeat' (first
    | (with_reducible first | exact True.intro | apply And.intro | apply If_true | apply If_false | apply If_not)
    | ((with_reducible apply VC.mk); exact vt)
    | ((with_reducible apply If_dec) <;> intro hc <;> (try (exfalso; omega)))
    | ((with_reducible apply If_any) <;> intro hc)
    | ((with_reducible first | apply PF.mk | apply DrawP.mk); (focus kernel_rfl))
    | ((with_reducible apply Same.mk); (focus rfl); (first | exact trivial | exact rfl))
    | (intro cap hcap)
    | ((fail_if_success (with_reducible apply st)); conv => whnf))
  all_goals (try simp only [cond_true, cond_false] at *)
  all_goals (try (refine Fin.vl (hk _ ?_); unfold HD.checkV; repeat (first | rw [if_pos (by omega)] | rw [if_neg (by omega)])))
  refine hleast_at h h0 ⟨⟨rfl, rfl, rfl, rfl, rfl, trivial⟩, trivial⟩ ?_
  intro f hf
  subst hf
  repeat' (first
    | (with_reducible first | exact True.intro | apply And.intro | apply If_true | apply If_false | apply If_not)
    | ((with_reducible apply VC.mk); exact vt)
    | ((with_reducible apply If_dec) <;> intro hc <;> (try (exfalso; omega)))
    | ((with_reducible apply If_any) <;> intro hc)
    | ((with_reducible first | apply PF.mk | apply DrawP.mk); (focus kernel_rfl))
    | ((with_reducible apply Same.mk); (focus rfl); (first | exact trivial | exact rfl))
    | (intro cap hcap)
    | ((fail_if_success (with_reducible apply st)); conv => whnf))
  all_goals (try simp only [cond_true, cond_false] at *)
  all_goals (try (refine Fin.vl (hk _ ?_); unfold HD.checkV; repeat (first | rw [if_pos (by omega)] | rw [if_neg (by omega)])))
  refine hfirst_at h h0 ⟨⟨rfl, rfl, rfl, rfl, rfl, trivial⟩, trivial⟩ ?_
  intro g hg
  subst hg
  repeat' (first
    | (with_reducible first | exact True.intro | apply And.intro | apply If_true | apply If_false | apply If_not)
    | ((with_reducible apply VC.mk); exact vt)
    | ((with_reducible apply If_dec) <;> intro hc <;> (try (exfalso; omega)))
    | ((with_reducible apply If_any) <;> intro hc)
    | ((with_reducible first | apply PF.mk | apply DrawP.mk); (focus kernel_rfl))
    | ((with_reducible apply Same.mk); (focus rfl); (first | exact trivial | exact rfl))
    | (intro cap hcap)
    | ((fail_if_success (with_reducible apply st)); conv => whnf))
  all_goals (try simp only [cond_true, cond_false] at *)
  all_goals (try (refine Fin.vl (hk _ ?_); unfold HD.checkV; repeat (first | rw [if_pos (by omega)] | rw [if_neg (by omega)])))
def hcheckOk (x : HD) : Prop := hR x
def hcheckRel (x : HD) (r : Int) : Prop := r = x.checkV
theorem hcheck_K : ConOk Go.Proofs.Try.prog 8 (Con.of (HD) (Int) (fun x => [.agg [.v (.int .i64 x.bits), .v (.int .i64 x.size), .v (.int .i64 x.host), .v (.int .i64 x.jr), .v (.bool x.backed)]]) (fun _ => []) hcheckOk hcheckRel (fun _ r => .v (.int .i64 r)) (fun _ _ => [])) := by
  refine conOk_rel (T := tab) mix Go.Proofs.Try.func8 (by decide +kernel) (by kernel_rfl) [] p8 (fun n => by rw [Go.Proofs.Try.ntmps8]; exact Nat.le_of_ble_eq_true rfl) (fun x r _ _ => ⟨by simp [AV.noF, noFs, Cont.noF, recsC_noF], (fun c hc => by cases hc), Nat.le_refl _⟩) (fun x _ c hc => by cases hc) ?_
  intro x k h0 hk
  exact hcheck_c x k h0 (fun r hr => hk r hr)
theorem hcheck_at {avs : List AV} {H : List Chunk} {k : K} (h : HD) (h0 : hR h) (ha : argsM H [] [.agg [.v (.int .i64 h.bits), .v (.int .i64 h.size), .v (.int .i64 h.host), .v (.int .i64 h.jr), .v (.bool h.backed)]] avs) (hQ : ∀ r : Int, (r = h.checkV) → k (.v (.int .i64 r)) H) : CallP Go.Proofs.Try.prog 8 avs H k :=
  CallP.mk ⟨_, hcheck_K.real, Con.spec hcheck_K, (h), [], ⟨h0, rfl, trivial, ha⟩, fun r hr => (numK_eq H.length (fun N => k (AV.ren (fren [] N) (.v (.int .i64 r))) (putAll H [] []))).mpr (by simpa [putAll, AV.ren, rens, Cont.ren, recsC, recAV] using hQ r hr)⟩
end Go.Proofs.Ytcfmlnddmpiemaa.Sx


set_option maxRecDepth 10000
namespace Go.Proofs.Ytcfmlnddmpiemaa.Sx
open Go.RowKit Go.Proofs.Ytcfmlnddmpiemaa.Sx.Tb
/-! ### Entries -/
theorem and63n (a : Nat) (h1 : a < 2 ^ 64) : a &&& 2 ^ 63 = if a < 2 ^ 63 then 0 else 2 ^ 63 := by
  apply Nat.eq_of_testBit_eq
  intro i
  rw [Nat.testBit_and, Nat.testBit_two_pow]
  by_cases hi : 63 = i
  · subst hi
    by_cases h : a < 2 ^ 63
    · rw [if_pos h, Nat.testBit_lt_two_pow h]; simp
    · rw [if_neg h, Nat.testBit_two_pow]
      have : a.testBit 63 = true := by
        rw [Nat.testBit_eq_decide_div_mod_eq]
        have : a / 2 ^ 63 = 1 := by omega
        rw [this]; decide
      rw [this]; simp
  · have hz : (2 ^ 63 : Nat).testBit i = false := by rw [Nat.testBit_two_pow]; simp [hi]
    by_cases h : a < 2 ^ 63
    · rw [if_pos h]; simp [hi]
    · rw [if_neg h, hz]; simp [hi]
theorem and63 (v : Int) (h0 : 0 ≤ v) (h1 : v < 18446744073709551616) : Go.bits .and .u64 v 9223372036854775808 = if v < 9223372036854775808 then 0 else 9223372036854775808 := by
  rw [u64_and v _ h0 h1 (by omega) (by omega)]
  have e := and63n v.toNat (by omega)
  rw [show (9223372036854775808 : Int).toNat = 2 ^ 63 from rfl, e]
  split <;> split <;> omega
theorem andNot63 (v : Int) (h0 : 0 ≤ v) (h1 : v < 18446744073709551616) : Go.bits .andNot .u64 v 9223372036854775808 = if v < 9223372036854775808 then v else v - 9223372036854775808 := by
  rw [u64_andNot v _ h0 h1 (by omega) (by omega)]
  rw [show (18446744073709551615 - (9223372036854775808 : Int).toNat) = 2 ^ 63 - 1 from rfl, Nat.and_two_pow_sub_one_eq_mod]
  split <;> omega
theorem or63 (y : Int) (h0 : 0 ≤ y) (h1 : y < 9223372036854775808) : Go.bits .or .u64 9223372036854775808 y = 9223372036854775808 + y :=
  bits_join .u64 64 (by decide) wraps_u64 63 9223372036854775808 y (by decide) (by decide) (by decide) h0 (by omega) (by omega)
structure ER where
  kind : Int
  cl : Int
  own : Bool
  deriving DecidableEq
def encV (x : ER) : Int × Int :=
  if x.kind = 0 ∨ x.kind = 1 then (if x.cl ≠ 0 ∨ x.own = true then (0, 11) else (x.kind, 0))
  else if x.kind ≠ 2 ∨ x.cl < 1 ∨ 8192 ≤ x.cl then (0, 11)
  else if x.own = true then (9223372036854775808 + x.cl * 256, 0) else (x.cl * 256, 0)
theorem Fin.tp2 {u v : Value} {H : List Chunk} {k : K} (hk : k (.tup [.v u, .v v]) []) : Fin 0 (.tup [.v u, .v v]) H k := Fin.ren [] [] (.tup [.v u, .v v]) [] rfl rfl trivial trivial ⟨VC.mk rfl, VC.mk rfl, trivial⟩ hk
theorem Fin.tpA {a b c d : Value} {H : List Chunk} {k : K} (hk : k (.tup [.agg [.v a, .v b, .v c], .v d]) []) : Fin 0 (.tup [.agg [.v a, .v b, .v c], .v d]) H k := Fin.ren [] [] (.tup [.agg [.v a, .v b, .v c], .v d]) [] rfl rfl trivial trivial ⟨⟨VC.mk rfl, VC.mk rfl, VC.mk rfl, trivial⟩, VC.mk rfl, trivial⟩ hk
theorem menc_c (x : ER) (k : K) (h0 : inR .i64 x.kind ∧ inR .i64 x.cl) (hk : ∀ r : Int × Int, r = encV x → k (.tup [.v (.int .u64 r.1), .v (.int .i64 r.2)]) []) : evFunc tab [] [] Go.Proofs.Try.f64 [.agg [.v (.int .i64 x.kind), .v (.int .i64 x.cl), .v (.bool x.own)]] [] k := by
  repeat' (first
    | (with_reducible first | exact True.intro | apply And.intro | apply If_true | apply If_false | apply If_not)
    | ((with_reducible apply VC.mk); exact vt)
    | ((with_reducible apply If_dec) <;> intro hc <;> (try (exfalso; omega)))
    | ((with_reducible apply If_any) <;> intro hc)
    | ((with_reducible first | apply PF.mk | apply DrawP.mk); (focus kernel_rfl))
    | ((with_reducible apply Same.mk); (focus rfl); (first | exact trivial | exact rfl))
    | (intro cap hcap)
    | ((fail_if_success (with_reducible apply st)); conv => whnf))
  all_goals refine Fin.tp2 (hk (_, _) ?_)
  all_goals unfold encV
  all_goals (try (simp [*]; done))
  · show (Go.bits .or .u64 9223372036854775808 (IntKind.u64.wrap (x.cl * 256)), (0 : Int)) = _
    rw [wraps_u64 _ (by omega) (by omega), or63 _ (by omega) (by omega), if_neg (by omega), if_neg (by omega), if_pos hc]
  · show (IntKind.u64.wrap (x.cl * 256), (0 : Int)) = _
    rw [wraps_u64 _ (by omega) (by omega), if_neg (by omega), if_neg (by omega), hc]
    rfl
def mencOk (x : ER) : Prop := inR .i64 x.kind ∧ inR .i64 x.cl
def mencRel (x : ER) (r : Int × Int) : Prop := r = encV x
theorem menc_K : ConOk Go.Proofs.Try.prog 64 (Con.of (ER) (Int × Int) (fun x => [.agg [.v (.int .i64 x.kind), .v (.int .i64 x.cl), .v (.bool x.own)]]) (fun _ => []) mencOk mencRel (fun _ r => .tup [.v (.int .u64 r.1), .v (.int .i64 r.2)]) (fun _ _ => [])) := by
  refine conOk_rel (T := tab) mix Go.Proofs.Try.func64 (by decide +kernel) (by kernel_rfl) [] [] (fun n => by rw [Go.Proofs.Try.ntmps64]; exact Nat.le_of_ble_eq_true rfl) (fun x r _ _ => ⟨by simp [AV.noF, noFs, Cont.noF, recsC_noF], (fun c hc => by cases hc), Nat.le_refl _⟩) (fun x _ c hc => by cases hc) ?_
  intro x k h0 hk
  exact menc_c x k h0 (fun r hr => hk r hr)
theorem menc_at {avs : List AV} {H : List Chunk} {k : K} (x : ER) (h0 : inR .i64 x.kind ∧ inR .i64 x.cl) (ha : argsM H [] [.agg [.v (.int .i64 x.kind), .v (.int .i64 x.cl), .v (.bool x.own)]] avs) (hQ : ∀ r : Int × Int, (r = encV x) → k (.tup [.v (.int .u64 r.1), .v (.int .i64 r.2)]) H) : CallP Go.Proofs.Try.prog 64 avs H k :=
  CallP.mk ⟨_, menc_K.real, Con.spec menc_K, (x), [], ⟨h0, rfl, trivial, ha⟩, fun r hr => (numK_eq H.length (fun N => k (AV.ren (fren [] N) (.tup [.v (.int .u64 r.1), .v (.int .i64 r.2)])) (putAll H [] []))).mpr (by simpa [putAll, AV.ren, rens, Cont.ren, recsC, recAV] using hQ r hr)⟩
def decE (v : Int) : ER := ⟨2, (if v < 9223372036854775808 then v else v - 9223372036854775808) / 256, decide (9223372036854775808 ≤ v)⟩
def decV (v : Int) : ER × Int := if v = 0 ∨ v = 1 then (⟨v, 0, false⟩, 0) else if encV (decE v) = (v, 0) then (decE v, 0) else (⟨0, 0, false⟩, 11)
theorem mdec_c (v : Int) (k : K) (h0 : 0 ≤ v ∧ v < 18446744073709551616) (hk : ∀ r : ER × Int, r = decV v → k (.tup [.agg [.v (.int .i64 r.1.kind), .v (.int .i64 r.1.cl), .v (.bool r.1.own)], .v (.int .i64 r.2)]) []) : evFunc tab [] [] Go.Proofs.Try.f62 [.v (.int .u64 v)] [] k := by
  have eA := andNot63 v h0.1 h0.2
  have eB : decide (Go.bits .and .u64 v 9223372036854775808 ≠ 0) = decide (9223372036854775808 ≤ v) := by
    rw [and63 v h0.1 h0.2]
    by_cases h : v < 9223372036854775808
    · rw [if_pos h]; simp; omega
    · rw [if_neg h]; simp; omega
  have eC : (2 : Int) ^ min (Int.toNat 8) IntKind.u64.bits = 256 := rfl
  have eD : 0 ≤ (decE v).cl ∧ (decE v).cl < 36028797018963968 := by unfold decE; simp only; split <;> omega
  repeat' (first
    | (with_reducible first | exact True.intro | apply And.intro | apply If_true | apply If_false | apply If_not)
    | ((with_reducible apply VC.mk); exact vt)
    | ((with_reducible apply If_dec) <;> intro hc <;> (try (exfalso; omega)))
    | ((with_reducible apply If_any) <;> intro hc)
    | ((with_reducible first | apply PF.mk | apply DrawP.mk); (focus kernel_rfl))
    | ((with_reducible apply Same.mk); (focus rfl); (first | exact trivial | exact rfl))
    | (intro cap hcap)
    | ((fail_if_success (with_reducible apply st)); conv => whnf))
  · refine Fin.tpA (hk (⟨v, 0, false⟩, 0) ?_)
    unfold decV; rw [if_pos (.inl hc)]
  · refine Fin.tpA (hk (⟨v, 0, false⟩, 0) ?_)
    unfold decV; rw [if_pos (.inr hc)]
  · refine VC.mk ?_
    rw [eA, eC]
    simp only [inR]
    split <;> omega
  · rw [eA, eB, eC]
    refine menc_at (decE v) ⟨by simp [inR, decE], by simp only [inR]; omega⟩ ⟨⟨rfl, rfl, rfl, trivial⟩, trivial⟩ ?_
    rintro ⟨w, e⟩ hw
    have hd : decV v = if encV (decE v) = (v, 0) then (decE v, 0) else (⟨0, 0, false⟩, 11) := by
      unfold decV; rw [if_neg (by omega)]
    rw [← hw] at hd
    repeat' (first
    | (with_reducible first | exact True.intro | apply And.intro | apply If_true | apply If_false | apply If_not)
    | ((with_reducible apply VC.mk); exact vt)
    | ((with_reducible apply If_dec) <;> intro hc <;> (try (exfalso; omega)))
    | ((with_reducible apply If_any) <;> intro hc)
    | ((with_reducible first | apply PF.mk | apply DrawP.mk); (focus kernel_rfl))
    | ((with_reducible apply Same.mk); (focus rfl); (first | exact trivial | exact rfl))
    | (intro cap hcap)
    | ((fail_if_success (with_reducible apply st)); conv => whnf))
    · refine Fin.tpA (hk (⟨0, 0, false⟩, 11) ?_)
      rw [hd, if_neg]
      intro h
      exact hc (congrArg Prod.snd h)
    · refine Fin.tpA (hk (⟨0, 0, false⟩, 11) ?_)
      rw [hd, if_neg]
      intro h
      exact hc (congrArg Prod.fst h)
    · refine Fin.tpA (hk (decE v, 0) ?_)
      rw [hd, if_pos]
      exact Prod.ext (Decidable.not_not.1 hc) (Decidable.not_not.1 (by assumption))
def mdecOk (x : Int) : Prop := 0 ≤ x ∧ x < 18446744073709551616
def mdecRel (x : Int) (r : ER × Int) : Prop := r = decV x
theorem mdec_K : ConOk Go.Proofs.Try.prog 62 (Con.of (Int) (ER × Int) (fun x => [.v (.int .u64 x)]) (fun _ => []) mdecOk mdecRel (fun _ r => .tup [.agg [.v (.int .i64 r.1.kind), .v (.int .i64 r.1.cl), .v (.bool r.1.own)], .v (.int .i64 r.2)]) (fun _ _ => [])) := by
  refine conOk_rel (T := tab) mix Go.Proofs.Try.func62 (by decide +kernel) (by kernel_rfl) [] [] (fun n => by rw [Go.Proofs.Try.ntmps62]; exact Nat.le_of_ble_eq_true rfl) (fun x r _ _ => ⟨by simp [AV.noF, noFs, Cont.noF, recsC_noF], (fun c hc => by cases hc), Nat.le_refl _⟩) (fun x _ c hc => by cases hc) ?_
  intro x k h0 hk
  exact mdec_c x k h0 (fun r hr => hk r hr)
theorem mdec_at {avs : List AV} {H : List Chunk} {k : K} (v : Int) (h0 : 0 ≤ v ∧ v < 18446744073709551616) (ha : argsM H [] [.v (.int .u64 v)] avs) (hQ : ∀ r : ER × Int, (r = decV v) → k (.tup [.agg [.v (.int .i64 r.1.kind), .v (.int .i64 r.1.cl), .v (.bool r.1.own)], .v (.int .i64 r.2)]) H) : CallP Go.Proofs.Try.prog 62 avs H k :=
  CallP.mk ⟨_, mdec_K.real, Con.spec mdec_K, (v), [], ⟨h0, rfl, trivial, ha⟩, fun r hr => (numK_eq H.length (fun N => k (AV.ren (fren [] N) (.tup [.agg [.v (.int .i64 r.1.kind), .v (.int .i64 r.1.cl), .v (.bool r.1.own)], .v (.int .i64 r.2)])) (putAll H [] []))).mpr (by simpa [putAll, AV.ren, rens, Cont.ren, recsC, recAV] using hQ r hr)⟩
end Go.Proofs.Ytcfmlnddmpiemaa.Sx


set_option maxRecDepth 10000
namespace Go.Proofs.Ytcfmlnddmpiemaa.Sx
open Go.RowKit Go.Proofs.Ytcfmlnddmpiemaa.Sx.Tb
/-! ### Begin -/
def TR.zero : TR := ⟨[], [], 0, false⟩
theorem nth_lt {H : List Chunk} {i : Nat} {c : Chunk} (h : nth H i = some c) : Nat.blt i H.length = true := by
  rw [nth_eq] at h
  rw [Nat.blt_eq]
  exact lt_of_get h
theorem T5.leG {H : List Chunk} {fz : List Nat} {f : Nat → Nat} {ph : Nat → Bool} {t : TR} {j : JR} {s : DF} {a b c d e : Nat} {σ : List Nat} {cs : List Chunk} (f1 : f 1 = b) (f2 : f 2 = c) (f3 : f 3 = d) (f4 : f 4 = e) (h0 : nth H a = some (t.c0 d b c)) (h1 : nth H b = some t.c1) (h2 : nth H c = some t.c2) (h3 : nth H d = some (j.blk e)) (h4 : nth H e = some s.pk) (hz : memN a fz = false ∧ memN b fz = false ∧ memN c fz = false ∧ memN d fz = false ∧ memN e fz = false) (hx : chunksLe H fz f ph σ cs) : chunksLe H fz f ph (a :: b :: c :: d :: e :: σ) (tpre t j s ++ cs) := by
  refine ⟨?_, ?_, ?_, ?_, ?_, hx⟩
  · unfold Chunk.le TR.c0
    simp only
    rw [nth_lt h0, hz.1, h0]
    exact ⟨VC.mk ⟨rfl, rfl⟩, VC.mk ⟨f3, rfl, rfl, rfl⟩, VC.mk f1, VC.mk ⟨f2, rfl, rfl, rfl, rfl⟩, VC.mk rfl, trivial⟩
  · unfold Chunk.le TR.c1
    simp only
    rw [nth_lt h1, hz.2.1, h1]
    exact ⟨VC.mk ⟨rfl, .inl trivial⟩, arr_les t.dirty⟩
  · unfold Chunk.le TR.c2
    simp only
    rw [nth_lt h2, hz.2.2.1, h2]
    exact ⟨VC.mk ⟨rfl, rfl⟩, VC.mk ⟨rfl, Nat.le_refl _⟩, fun j _ => recs_les _⟩
  · unfold Chunk.le JR.blk
    simp only
    rw [nth_lt h3, hz.2.2.2.1, h3]
    exact ⟨VC.mk ⟨rfl, rfl⟩, VC.mk ⟨f4, rfl, rfl, rfl⟩, VC.mk rfl, VC.mk rfl, VC.mk rfl, trivial⟩
  · unfold Chunk.le DF.pk
    simp only
    rw [nth_lt h4, hz.2.2.2.2, h4]
    exact VC.mk ⟨rfl, rfl, rfl, rfl⟩
theorem begin_c (j : JR) (s : DF) (k : K) (hk : k (.tup [.p 2 0 1 0, .v (.int .i64 0)]) [j.blk 1, s.pk, TR.zero.c0 0 3 4, TR.zero.c1, TR.zero.c2]) : evFunc tab [] [] Go.Proofs.Try.f25 [.p 0 0 1 0] [j.blk 1, s.pk] k := by
  repeat' (first
    | (with_reducible first | exact True.intro | apply And.intro | apply If_true | apply If_false | apply If_not)
    | ((with_reducible apply VC.mk); exact vt)
    | ((with_reducible apply If_dec) <;> intro hc <;> (try (exfalso; omega)))
    | ((with_reducible apply If_any) <;> intro hc)
    | ((with_reducible first | apply PF.mk | apply DrawP.mk); (focus kernel_rfl))
    | ((with_reducible apply Same.mk); (focus rfl); (first | exact trivial | exact rfl))
    | (intro cap hcap)
    | ((fail_if_success (with_reducible apply st)); conv => whnf))
  refine Fin.ren [0, 1, 3, 2, 4] [] (.tup [.p 2 0 1 0, .v (.int .i64 0)]) [j.blk 1, s.pk, TR.zero.c0 0 3 4, TR.zero.c1, TR.zero.c2] rfl rfl trivial ⟨⟨VC.mk ⟨rfl, rfl⟩, VC.mk ⟨rfl, rfl, rfl, rfl⟩, VC.mk rfl, VC.mk rfl, VC.mk rfl, trivial⟩, VC.mk ⟨rfl, rfl, rfl, rfl⟩, ⟨VC.mk ⟨rfl, rfl⟩, VC.mk ⟨rfl, rfl, rfl, rfl⟩, VC.mk rfl, VC.mk ⟨rfl, rfl⟩, VC.mk rfl, trivial⟩, ⟨VC.mk ⟨rfl, .inl rfl⟩, trivial⟩, ⟨VC.mk rfl, VC.mk rfl⟩, trivial⟩ ⟨VC.mk ⟨rfl, rfl, rfl, rfl⟩, VC.mk rfl, trivial⟩ hk
theorem begin_K : ConOk Go.Proofs.Try.prog 25 (Con.of (JR × DF) Unit (fun _ => [.p 0 0 1 0]) (fun x => [x.1.blk 1, x.2.pk]) (fun _ => True) (fun _ _ => True) (fun _ _ => .tup [.p 2 0 1 0, .v (.int .i64 0)]) (fun x _ => [x.1.blk 1, x.2.pk, TR.zero.c0 0 3 4, TR.zero.c1, TR.zero.c2])) := by
  refine conOk_rel (T := tab) mix Go.Proofs.Try.func25 (by decide +kernel) (by kernel_rfl) [] [] (fun n => by rw [Go.Proofs.Try.ntmps25]; exact Nat.le_of_ble_eq_true rfl) (fun x r _ _ => ⟨⟨trivial, trivial, trivial⟩, (fun c hc => ?_), (by show 2 ≤ 5; decide)⟩) (fun x _ => J2.nd) (fun x k _ hk => begin_c x.1 x.2 k (hk () trivial))
  simp at hc
  rcases hc with rfl | rfl | rfl | rfl | rfl
  · exact JR.noF _ _
  · exact DF.pk_noF _
  · exact .blk ⟨trivial, trivial, trivial, trivial, trivial⟩
  · exact .mp trivial
  · exact .blk (recsC_noF _)
theorem begin_at {avs : List AV} {H : List Chunk} {k : K} (j : JR) (s : DF) (a b : Nat) (hab : nodupN [a, b] = true) (ha0 : nth H a = some (j.blk b)) (hb0 : nth H b = some s.pk) (ha : argsM H [a, b] [.p 0 0 1 0] avs)
    (hQ : k (.tup [.p H.length 0 1 0, .v (.int .i64 0)]) (((H.set a (j.blk b)).set b s.pk) ++ [TR.zero.c0 a (H.length + 1) (H.length + 2), TR.zero.c1, TR.zero.c2])) : CallP Go.Proofs.Try.prog 25 avs H k :=
  CallP.mk ⟨_, begin_K.real, Con.spec begin_K, (j, s), [a, b], ⟨trivial, hab, ⟨ha0, hb0, trivial⟩, ha⟩, fun _ _ => (numK_eq _ _).mpr (by simpa [putAll, TR.c0_ren, TR.c1_ren, TR.c2_ren, JR.blk_ren, DF.pk_ren, AV.ren, rens, fren, nth] using hQ)⟩
/-! ### Tables -/
def HD.m : HD := ⟨9, 32768, 60, 29, false⟩
end Go.Proofs.Ytcfmlnddmpiemaa.Sx


set_option maxRecDepth 10000
namespace Go.Proofs.Ytcfmlnddmpiemaa.Sx
/-! ### What is seen behind a Put, plain -/
theorem lkS_upS (n m : Int) (v : List Int) : ∀ (d : List (Int × List Int)), lkS n (upS m v d) = if n = m then some v else lkS n d
  | [] => by
    show (if m = n then _ else _) = _
    by_cases h : n = m
    · rw [if_pos h, if_pos h.symm]
    · rw [if_neg h, if_neg (fun e => h e.symm)]
  | (a, u) :: r => by
    unfold upS
    by_cases h : a = m
    · rw [if_pos h]
      show (if a = n then _ else _) = _
      subst h
      by_cases h2 : n = a
      · rw [if_pos h2, if_pos h2.symm]
      · rw [if_neg h2, if_neg (fun e => h2 e.symm)]
        show _ = (if a = n then _ else _)
        rw [if_neg (fun e => h2 e.symm)]
    · rw [if_neg h]
      show (if a = n then _ else _) = _
      by_cases h2 : a = n
      · rw [if_pos h2, if_neg (by omega)]
        show _ = (if a = n then _ else _)
        rw [if_pos h2]
      · rw [if_neg h2, lkS_upS n m v r]
        show _ = (if n = m then _ else (if a = n then _ else _))
        rw [if_neg h2]
theorem wr1_sec (t : TR) (now : List Int) (a : Nat) (xs : List Int) (n : Nat) : (t.wr1 now a xs).sec now n = if n = a / 512 then putG (t.sec now (a / 512 : Nat)) (a % 512) xs else t.sec now n := by
  unfold TR.sec
  show (match lkS (n : Int) (upS _ _ _) with | some l => l | none => _) = _
  rw [lkS_upS]
  by_cases h : n = a / 512
  · subst h
    rw [if_pos rfl, if_pos rfl]
    rfl
  · rw [if_neg h, if_neg (by omega)]
    rfl
theorem wr1_V {t : TR} (ht : t.Ok) (now : List Int) (a : Nat) (xs : List Int) (hx : a % 512 + xs.length ≤ 512) (i : Nat) : (t.wr1 now a xs).V now i = if a ≤ i ∧ i < a + xs.length then xs.getD (i - a) 0 else t.V now i := by
  unfold TR.V
  rw [wr1_sec]
  have hl := ht.sec_length now (a / 512 : Nat) (by omega)
  by_cases h : i / 512 = a / 512
  · rw [if_pos h, putG_get (by omega)]
    by_cases h2 : a ≤ i ∧ i < a + xs.length
    · rw [if_pos h2, if_pos (by omega), show i % 512 - a % 512 = i - a by omega]
    · rw [if_neg h2, if_neg (by omega), h]
  · rw [if_neg h, if_neg (by omega)]
theorem putF_V : ∀ (f : Nat) (t : TR) (now : List Int) (a : Nat) (p : List Int), t.Ok → p.length ≤ f → (TR.putF f t now a p).Ok ∧ (TR.putF f t now a p).fresh = t.fresh ∧ (TR.putF f t now a p).over = t.over ∧ (TR.putF f t now a p).cap = t.cap ∧ ∀ i, (TR.putF f t now a p).V now i = if a ≤ i ∧ i < a + p.length then p.getD (i - a) 0 else t.V now i
  | 0, t, now, a, p, h, hp => ⟨h, rfl, rfl, rfl, fun i => by rw [if_neg (by omega)]; rfl⟩
  | f + 1, t, now, a, p, h, hp => by
    by_cases h0 : p.length = 0
    · rw [putF_nil _ _ _ _ _ h0]
      exact ⟨h, rfl, rfl, rfl, fun i => by rw [if_neg (by omega)]⟩
    · have e : TR.putF (f + 1) t now a p = TR.putF f (t.wr1 now a (p.take (min p.length (512 - a % 512)))) now (a + min p.length (512 - a % 512)) (p.drop (min p.length (512 - a % 512))) := by
        show (if _ then _ else _) = _; rw [if_neg h0]
      rw [e]
      generalize hk : min p.length (512 - a % 512) = k
      have hkl : (p.take k).length = k := by rw [List.length_take]; omega
      have hdl : (p.drop k).length = p.length - k := List.length_drop ..
      have ho := h.wr1 now a (p.take k) (by omega)
      obtain ⟨i1, i2, i3, i4, i5⟩ := putF_V f (t.wr1 now a (p.take k)) now (a + k) (p.drop k) ho (by omega)
      refine ⟨i1, i2, i3, i4, fun i => ?_⟩
      rw [i5, wr1_V h now a _ (by omega), hkl, hdl]
      by_cases c1 : a + k ≤ i ∧ i < a + k + (p.length - k)
      · rw [if_pos c1, if_pos (by omega)]
        rw [List.getD_eq_getElem?_getD, List.getElem?_drop, List.getD_eq_getElem?_getD, show k + (i - (a + k)) = i - a by omega]
      · rw [if_neg c1]
        by_cases c2 : a ≤ i ∧ i < a + k
        · rw [if_pos c2, if_pos (by omega), List.getD_eq_getElem?_getD, List.getElem?_take, if_pos (by omega), List.getD_eq_getElem?_getD]
        · rw [if_neg c2, if_neg (by omega)]
theorem put_V {t : TR} (h : t.Ok) (now : List Int) (a : Nat) (p : List Int) : (t.put now a p).Ok ∧ (t.put now a p).fresh = t.fresh ∧ (t.put now a p).over = t.over ∧ (t.put now a p).cap = t.cap ∧ ∀ i, (t.put now a p).V now i = if a ≤ i ∧ i < a + p.length then p.getD (i - a) 0 else t.V now i := putF_V _ t now a p h (Nat.le_refl _)
theorem TR.rd_get (t : TR) (now : List Int) (a n i : Nat) (h : i < n) : (t.rd now a n).getD i 0 = t.V now (a + i) := by
  unfold TR.rd
  rw [List.getD_eq_getElem?_getD, List.getElem?_map, List.getElem?_range h]
  rfl
theorem rd_congr {t t' : TR} {now now' : List Int} {a n : Nat} (h : ∀ i, i < n → t.V now (a + i) = t'.V now' (a + i)) : t.rd now a n = t'.rd now' a n := by
  unfold TR.rd
  exact List.map_congr_left (fun i hi => h i (List.mem_range.1 hi))
/-- What is put is read. -/
theorem put_rd {t : TR} (h : t.Ok) (now : List Int) (a : Nat) (p : List Int) : (t.put now a p).rd now a p.length = p := by
  refine ext_getD (by rw [TR.rd_length]) (fun i hi => ?_)
  rw [TR.rd_length] at hi
  rw [TR.rd_get _ _ _ _ _ hi, (put_V h now a p).2.2.2.2, if_pos ⟨by omega, by omega⟩, show a + i - a = i by omega]
/-- All bytes are bytes. -/
def TR.B (t : TR) (now : List Int) : Prop := ∀ i, 0 ≤ t.V now i ∧ t.V now i < 256
theorem TR.B.rd {t : TR} {now : List Int} (h : t.B now) (a n : Nat) : B8 (t.rd now a n) := by
  intro x hx
  unfold TR.rd at hx
  rw [List.mem_map] at hx
  obtain ⟨i, -, rfl⟩ := hx
  exact h _
theorem TR.B.put {t : TR} {now : List Int} (h : t.B now) (ho : t.Ok) (a : Nat) {p : List Int} (hp : B8 p) : (t.put now a p).B now := by
  intro i
  rw [(put_V ho now a p).2.2.2.2]
  split
  · exact hp.getD _
  · exact h i
theorem zero_V (now : List Int) (i : Nat) : TR.zero.V now i = now.getD i 0 := by
  unfold TR.V TR.sec
  show (secF now ((i / 512 : Nat) : Int)).getD (i % 512) 0 = _
  unfold secF padS
  have e : (512 * ((i / 512 : Nat) : Int)).toNat = 512 * (i / 512) := by omega
  rw [e]
  by_cases h : i % 512 < ((now.drop (512 * (i / 512))).take 512).length
  · rw [List.getD_eq_getElem?_getD, List.getElem?_append_left h, List.getElem?_take, if_pos (by omega), List.getElem?_drop, List.getD_eq_getElem?_getD, show 512 * (i / 512) + i % 512 = i by omega]
  · rw [List.getD_eq_getElem?_getD, List.getElem?_append_right (by omega), List.getElem?_replicate]
    rw [List.length_take, List.length_drop] at h
    rw [getD_of_le (l := now) (by omega)]
    split <;> rfl
end Go.Proofs.Ytcfmlnddmpiemaa.Sx


set_option maxRecDepth 10000
namespace Go.Proofs.Ytcfmlnddmpiemaa.Sx
open Go.RowKit Go.Proofs.Ytcfmlnddmpiemaa.Sx.Tb
/-! ### Fresh -/
def TR.lay1 (t : TR) (r : RecR) (n : Int) : TR := match lkS n t.dirty with
  | some l => { t with dirty := upS n (layR (n * 512) l r) t.dirty }
  | none => t
def TR.layN : Nat → TR → RecR → Nat → TR
  | 0, t, _, _ => t
  | k + 1, t, r, n => TR.layN k (t.lay1 r (n : Int)) r (n + 1)
def TR.addF (t : TR) (r : RecR) (c : Nat) : TR := { t with fresh := t.fresh ++ [r], cap := c }
def TR.freshT (t : TR) (a : Nat) (p : List Int) (c : Nat) : TR := TR.layN ((p.length + 511) / 512) (t.addF ((a : Int), p) c) ((a : Int), p) (a / 512)
/-- The same five, the row of fresh ones under a new number. -/
def tmv (t : TR) (j : JR) (s : DF) : List Chunk := [t.c0 3 1 5, t.c1, .dead, j.blk 4, s.pk, t.c2]
theorem c2_le {H : List Chunk} {fz : List Nat} {f : Nat → Nat} {ph : Nat → Bool} {t : TR} {c : Nat} (h : nth H c = some t.c2) (hz : memN c fz = false) : (t.c2).le H fz f ph c := by
  unfold Chunk.le TR.c2
  simp only
  rw [nth_lt h, hz, h]
  exact ⟨VC.mk ⟨rfl, rfl⟩, VC.mk ⟨rfl, Nat.le_refl _⟩, fun j _ => recs_les _⟩
theorem TR.lay1_ok {t : TR} (h : t.Ok) (r : RecR) (n : Int) (hn : 0 ≤ n) : (t.lay1 r n).Ok ∧ (t.lay1 r n).fresh = t.fresh ∧ (t.lay1 r n).over = t.over ∧ (t.lay1 r n).cap = t.cap := by
  unfold TR.lay1
  cases hq : lkS n t.dirty with
  | none => exact ⟨h, rfl, rfl, rfl⟩
  | some l =>
    refine ⟨⟨?_, h.frs, h.cap, h.len⟩, rfl, rfl, rfl⟩
    show ∀ x ∈ upS _ _ _, _
    exact upS_len (layR_length _ _ _ (h.sec _ (lkS_mem hq)) (by omega)) _ h.sec
theorem M6.good {t : TR} {j : JR} {s : DF} {v : AV} (h : v.noF) : Good 5 v (tmv t j s) := by
  refine ⟨h, fun c hc => ?_, Nat.le_of_ble_eq_true rfl⟩
  simp [tmv] at hc
  rcases hc with rfl | rfl | rfl | rfl | rfl | rfl
  · exact .blk ⟨trivial, trivial, trivial, trivial, trivial⟩
  · exact .mp (arr_noF t.dirty)
  · exact .dead
  · exact j.noF _
  · exact s.pk_noF
  · exact .blk (recsC_noF _)
end Go.Proofs.Ytcfmlnddmpiemaa.Sx


set_option maxRecDepth 10000
namespace Go.Proofs.Ytcfmlnddmpiemaa.Sx
open Go.RowKit Go.Proofs.Ytcfmlnddmpiemaa.Sx.Tb
theorem sort_K : ConOk Go.Proofs.Try.prog 93 (sortC 2) :=
  sort_conOk 2 ⟨_, Go.Proofs.Try.func93, by decide +kernel, by kernel_rfl⟩ (fun blk cap zs w h1 h2 h3 => AnyG.slices_Sort_int Sx.sortI64 blk 0 cap zs w h1 h2 h3) (fun p cap w => AnyG.slices_Sort_int_none Sx.sortI64 p cap w)
theorem sort_at {avs : List AV} {H : List Chunk} {k : K} (l : List Int) (c : Nat) (i : Nat) (h0 : l.length < 4611686018427387904) (hc : nth H i = some (.blk 2 (.ints .i64 l) c)) (ha : argsM H [i] [.s 0 0 1 l.length c] avs)
    (h : ∀ r, r = l.mergeSort (fun a b => decide (a ≤ b)) → k (.tup []) (H.set i (.blk 2 (.ints .i64 r) c))) : CallP Go.Proofs.Try.prog 93 avs H k :=
  CallP.mk ⟨_, sort_K.real, Con.spec sort_K, (l, c), [i], ⟨h0, rfl, ⟨hc, trivial⟩, ha⟩, fun r hr => (numK_eq H.length (fun N => k (AV.ren (fren [i] N) (.tup [])) (putAll H [i] [Chunk.ren (fren [i] N) (.blk 2 (.ints .i64 r) c)]))).mpr (by simpa [putAll, AV.ren, rens, Chunk.ren, Cont.ren] using h r hr)⟩
#print axioms sort_K
end Go.Proofs.Ytcfmlnddmpiemaa.Sx

