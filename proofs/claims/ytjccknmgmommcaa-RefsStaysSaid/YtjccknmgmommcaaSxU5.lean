import Derived.Test.YtjccknmgmommcaaSxU3
import Derived.Test.YtjccknmgmommcaaSxU4
import Derived.Laws.BitsAllLaws
import Derived.Test.YtjccknmgmommcaaSxU1
import Derived.Test.YtjccknmgmommcaaSxEc
import Derived.Sort.Row
import Derived.Sort.Grow
import Derived.Test.YtjccknmgmommcaaSxT
import Derived.Shelf.SortG.Plain
import Derived.Shelf.SortG.SortNone
import Derived.Ground.SlgnProg
set_option linter.unusedVariables false
set_option linter.unusedSimpArgs false
set_option maxRecDepth 10000
namespace Go.Proofs.Ytjccknmgmommcaa.Sx
open Go.RowKit Go.Proofs.Ytjccknmgmommcaa.Sx.Tb
/-! ### A header -/
structure HD where
  bits : Int
  size : Int
  host : Int
  jr : Int
  backed : Bool
def HD.clus (h : HD) : Int := if h.bits < 9 ∨ 12 < h.bits then 512 else 2 ^ h.bits.toNat
def HD.refs (h : HD) : Int := (2 * max 0 (min h.host 8192) + h.clus - 1) / h.clus
def HD.guest (h : HD) : Int := (max 0 (min h.size 16777216) + h.clus - 1) / h.clus
def HD.jend (h : HD) : Int := h.clus * (1 + max 0 (min h.jr 8192))
def HD.rend (h : HD) : Int := h.jend + h.refs * h.clus
def HD.first (h : HD) : Int := (h.rend + h.clus + h.clus) / h.clus
def HD.least (h : HD) : Int := ((h.refs + 18) * h.clus + 4096 + 512 + h.clus - 1) / h.clus
def HD.checkV (h : HD) : Int :=
  if h.bits < 9 ∨ 12 < h.bits then 11
  else if h.size < 512 ∨ 16777216 < h.size ∨ h.size % 512 ≠ 0 then 11
  else if h.clus / 8 * (h.clus / 8) < h.guest then 20
  else if h.host < 1 ∨ 8192 < h.host ∨ 4194304 < h.host * h.clus then 20
  else if h.jr < h.least ∨ 8192 < h.jr ∨ h.host < h.first then 11
  else 0
def hR (h : HD) : Prop := inR .i64 h.bits ∧ inR .i64 h.size ∧ inR .i64 h.host ∧ inR .i64 h.jr
theorem HD.clus_cases (h : HD) : h.clus = 512 ∨ h.clus = 1024 ∨ h.clus = 2048 ∨ h.clus = 4096 := by
  unfold HD.clus
  split
  · exact .inl rfl
  · have : h.bits = 9 ∨ h.bits = 10 ∨ h.bits = 11 ∨ h.bits = 12 := by omega
    rcases this with e | e | e | e <;> rw [e] <;> simp
set_option maxHeartbeats 8000000 in
theorem hclus_c (h : HD) (k : K) (h0 : hR h) (hk : ∀ r : Int, r = h.clus → k (.v (.int .i64 r)) []) : evFunc tab [] [] Go.Proofs.Try.f97 [.agg [.v (.int .i64 h.bits), .v (.int .i64 h.size), .v (.int .i64 h.host), .v (.int .i64 h.jr), .v (.bool h.backed)]] [] k := by
  repeat' (first
 | (with_reducible first | exact True.intro | apply And.intro | apply If_true | apply If_false | apply If_not)
 | ((with_reducible apply VC.mk); (first | trivial | omega | (simp only [inR]; omega) | (exact ⟨rfl, List.prefix_rfl⟩) | (refine ⟨rfl, rfl, rfl, ?_, rfl⟩; (simp; done)) | (focus (repeat' (first | exact True.intro | apply And.intro | rfl | exact Nat.le_of_ble_eq_true rfl)); done) | (simp [inR, Cont.cells]; done) | (simp [inR, Cont.cells]; omega)))
 | ((with_reducible apply If_dec) <;> intro hc <;> (try (exfalso; omega)))
 | ((with_reducible apply If_any) <;> intro hc)
 | ((with_reducible first | apply PF.mk | apply DrawP.mk); (focus kernel_rfl))
 | ((with_reducible apply Same.mk); (focus rfl); (first | exact trivial | exact rfl))
 | (intro cap hcap)
 | ((fail_if_success (with_reducible first | apply Fin.mk | apply CallP.mk | apply LoopP.mk | apply VC.mk | apply falseMk | apply Round.mk | apply LookP.mk | apply RangeP.mk | apply NextP.mk | apply EntryP.mk | apply Eq.symm)); conv => whnf))
  · exact Fin.vl (hk _ (by unfold HD.clus; rw [if_pos (.inl hc)]))
  · exact Fin.vl (hk _ (by unfold HD.clus; rw [if_pos (.inr hc)]))
  · refine Fin.vl (hk _ ?_)
    unfold HD.clus
    rw [if_neg (by omega)]
    have : h.bits = 9 ∨ h.bits = 10 ∨ h.bits = 11 ∨ h.bits = 12 := by omega
    rcases this with e | e | e | e <;> rw [e] <;> rfl
def hclusOk (x : HD) : Prop := hR x
def hclusRel (x : HD) (r : Int) : Prop := r = x.clus
theorem hclus_K : ConOk Go.Proofs.Try.prog 97 (Con.of (HD) (Int) (fun x => [.agg [.v (.int .i64 x.bits), .v (.int .i64 x.size), .v (.int .i64 x.host), .v (.int .i64 x.jr), .v (.bool x.backed)]]) (fun _ => []) hclusOk hclusRel (fun _ r => .v (.int .i64 r)) (fun _ _ => [])) := by
  refine conOk_rel (T := tab) mix Go.Proofs.Try.func97 (by decide +kernel) (by kernel_rfl) [] [] (fun n => by rw [Go.Proofs.Try.ntmps97]; exact Nat.le_of_ble_eq_true rfl) (fun x r _ _ => ⟨by simp [AV.noF, noFs, Cont.noF, recsC_noF], (fun c hc => by cases hc), Nat.le_refl _⟩) (fun x _ c hc => by cases hc) ?_
  intro x k h0 hk
  exact hclus_c x k h0 (fun r hr => hk r hr)
theorem hclus_at {avs : List AV} {H : List Chunk} {k : K} (h : HD) (h0 : hR h) (ha : argsM H [] [.agg [.v (.int .i64 h.bits), .v (.int .i64 h.size), .v (.int .i64 h.host), .v (.int .i64 h.jr), .v (.bool h.backed)]] avs) (hQ : ∀ r : Int, (r = h.clus) → k (.v (.int .i64 r)) H) : CallP Go.Proofs.Try.prog 97 avs H k :=
  CallP.mk ⟨_, hclus_K.real, Con.spec hclus_K, (h), [], ⟨h0, rfl, trivial, ha⟩, fun r hr => (numK_eq H.length (fun N => k (AV.ren (fren [] N) (.v (.int .i64 r))) (putAll H [] []))).mpr (by simpa [putAll, AV.ren, rens, Cont.ren, recsC, recAV] using hQ r hr)⟩
set_option maxHeartbeats 8000000 in
theorem hentries_c (h : HD) (k : K) (h0 : hR h) (hk : ∀ r : Int, r = h.clus / 8 → k (.v (.int .i64 r)) []) : evFunc tab [] [] Go.Proofs.Try.f95 [.agg [.v (.int .i64 h.bits), .v (.int .i64 h.size), .v (.int .i64 h.host), .v (.int .i64 h.jr), .v (.bool h.backed)]] [] k := by
  repeat' (first
 | (with_reducible first | exact True.intro | apply And.intro | apply If_true | apply If_false | apply If_not)
 | ((with_reducible apply VC.mk); (first | trivial | omega | (simp only [inR]; omega) | (exact ⟨rfl, List.prefix_rfl⟩) | (refine ⟨rfl, rfl, rfl, ?_, rfl⟩; (simp; done)) | (focus (repeat' (first | exact True.intro | apply And.intro | rfl | exact Nat.le_of_ble_eq_true rfl)); done) | (simp [inR, Cont.cells]; done) | (simp [inR, Cont.cells]; omega)))
 | ((with_reducible apply If_dec) <;> intro hc <;> (try (exfalso; omega)))
 | ((with_reducible apply If_any) <;> intro hc)
 | ((with_reducible first | apply PF.mk | apply DrawP.mk); (focus kernel_rfl))
 | ((with_reducible apply Same.mk); (focus rfl); (first | exact trivial | exact rfl))
 | (intro cap hcap)
 | ((fail_if_success (with_reducible first | apply Fin.mk | apply CallP.mk | apply LoopP.mk | apply VC.mk | apply falseMk | apply Round.mk | apply LookP.mk | apply RangeP.mk | apply NextP.mk | apply EntryP.mk | apply Eq.symm)); conv => whnf))
  refine hclus_at h h0 ⟨⟨rfl, rfl, rfl, rfl, rfl, trivial⟩, trivial⟩ ?_
  intro r hr
  have hc := h.clus_cases
  rw [← hr] at hc
  have hk2 := hk (r / 8) (by rw [hr])
  repeat' (first
 | (with_reducible first | exact True.intro | apply And.intro | apply If_true | apply If_false | apply If_not)
 | ((with_reducible apply VC.mk); (first | trivial | omega | (simp only [inR]; omega) | (exact ⟨rfl, List.prefix_rfl⟩) | (refine ⟨rfl, rfl, rfl, ?_, rfl⟩; (simp; done)) | (focus (repeat' (first | exact True.intro | apply And.intro | rfl | exact Nat.le_of_ble_eq_true rfl)); done) | (simp [inR, Cont.cells]; done) | (simp [inR, Cont.cells]; omega)))
 | ((with_reducible apply If_dec) <;> intro hc <;> (try (exfalso; omega)))
 | ((with_reducible apply If_any) <;> intro hc)
 | ((with_reducible first | apply PF.mk | apply DrawP.mk); (focus kernel_rfl))
 | ((with_reducible apply Same.mk); (focus rfl); (first | exact trivial | exact rfl))
 | (intro cap hcap)
 | ((fail_if_success (with_reducible first | apply Fin.mk | apply CallP.mk | apply LoopP.mk | apply VC.mk | apply falseMk | apply Round.mk | apply LookP.mk | apply RangeP.mk | apply NextP.mk | apply EntryP.mk | apply Eq.symm)); conv => whnf))
  exact Fin.vl hk2
def hentriesOk (x : HD) : Prop := hR x
def hentriesRel (x : HD) (r : Int) : Prop := r = x.clus / 8
theorem hentries_K : ConOk Go.Proofs.Try.prog 95 (Con.of (HD) (Int) (fun x => [.agg [.v (.int .i64 x.bits), .v (.int .i64 x.size), .v (.int .i64 x.host), .v (.int .i64 x.jr), .v (.bool x.backed)]]) (fun _ => []) hentriesOk hentriesRel (fun _ r => .v (.int .i64 r)) (fun _ _ => [])) := by
  refine conOk_rel (T := tab) mix Go.Proofs.Try.func95 (by decide +kernel) (by kernel_rfl) [] [] (fun n => by rw [Go.Proofs.Try.ntmps95]; exact Nat.le_of_ble_eq_true rfl) (fun x r _ _ => ⟨by simp [AV.noF, noFs, Cont.noF, recsC_noF], (fun c hc => by cases hc), Nat.le_refl _⟩) (fun x _ c hc => by cases hc) ?_
  intro x k h0 hk
  exact hentries_c x k h0 (fun r hr => hk r hr)
theorem hentries_at {avs : List AV} {H : List Chunk} {k : K} (h : HD) (h0 : hR h) (ha : argsM H [] [.agg [.v (.int .i64 h.bits), .v (.int .i64 h.size), .v (.int .i64 h.host), .v (.int .i64 h.jr), .v (.bool h.backed)]] avs) (hQ : ∀ r : Int, (r = h.clus / 8) → k (.v (.int .i64 r)) H) : CallP Go.Proofs.Try.prog 95 avs H k :=
  CallP.mk ⟨_, hentries_K.real, Con.spec hentries_K, (h), [], ⟨h0, rfl, trivial, ha⟩, fun r hr => (numK_eq H.length (fun N => k (AV.ren (fren [] N) (.v (.int .i64 r))) (putAll H [] []))).mpr (by simpa [putAll, AV.ren, rens, Cont.ren, recsC, recAV] using hQ r hr)⟩
theorem up_c (n u : Int) (k : K) (h0 : 0 ≤ n ∧ n ≤ 1099511627776 ∧ 0 < u ∧ u ≤ 1099511627776) (hk : ∀ r : Int, r = (n + u - 1) / u → k (.v (.int .i64 r)) []) : evFunc tab [] [] Go.Proofs.Try.f125 [.v (.int .i64 n), .v (.int .i64 u)] [] k := by
  have m0 : 0 ≤ (n + u - 1) / u := Int.ediv_nonneg (by omega) (by omega)
  have m1 : (n + u - 1) / u ≤ n + u - 1 := Int.ediv_le_self _ (by omega)
  have m2 : Int.tdiv (n + u - 1) u = (n + u - 1) / u := Int.tdiv_eq_ediv_of_nonneg (by omega)
  repeat' (first
 | (with_reducible first | exact True.intro | apply And.intro | apply If_true | apply If_false | apply If_not)
 | ((with_reducible apply VC.mk); (first | trivial | omega | (simp only [inR]; omega) | (exact ⟨rfl, List.prefix_rfl⟩) | (refine ⟨rfl, rfl, rfl, ?_, rfl⟩; (simp; done)) | (focus (repeat' (first | exact True.intro | apply And.intro | rfl | exact Nat.le_of_ble_eq_true rfl)); done) | (simp [inR, Cont.cells]; done) | (simp [inR, Cont.cells]; omega)))
 | ((with_reducible apply If_dec) <;> intro hc <;> (try (exfalso; omega)))
 | ((with_reducible apply If_any) <;> intro hc)
 | ((with_reducible first | apply PF.mk | apply DrawP.mk); (focus kernel_rfl))
 | ((with_reducible apply Same.mk); (focus rfl); (first | exact trivial | exact rfl))
 | (intro cap hcap)
 | ((fail_if_success (with_reducible first | apply Fin.mk | apply CallP.mk | apply LoopP.mk | apply VC.mk | apply falseMk | apply Round.mk | apply LookP.mk | apply RangeP.mk | apply NextP.mk | apply EntryP.mk | apply Eq.symm)); conv => whnf))
  exact Fin.vl (hk _ rfl)
def upOk (x : Int × Int) : Prop := 0 ≤ x.1 ∧ x.1 ≤ 1099511627776 ∧ 0 < x.2 ∧ x.2 ≤ 1099511627776
def upRel (x : Int × Int) (r : Int) : Prop := r = (x.1 + x.2 - 1) / x.2
theorem up_K : ConOk Go.Proofs.Try.prog 125 (Con.of (Int × Int) (Int) (fun x => [.v (.int .i64 x.1), .v (.int .i64 x.2)]) (fun _ => []) upOk upRel (fun _ r => .v (.int .i64 r)) (fun _ _ => [])) := by
  refine conOk_rel (T := tab) mix Go.Proofs.Try.func125 (by decide +kernel) (by kernel_rfl) [] [] (fun n => by rw [Go.Proofs.Try.ntmps125]; exact Nat.le_of_ble_eq_true rfl) (fun x r _ _ => ⟨by simp [AV.noF, noFs, Cont.noF, recsC_noF], (fun c hc => by cases hc), Nat.le_refl _⟩) (fun x _ c hc => by cases hc) ?_
  intro x k h0 hk
  exact up_c x.1 x.2 k h0 (fun r hr => hk r hr)
theorem up_at {avs : List AV} {H : List Chunk} {k : K} (n : Int) (u : Int) (h0 : 0 ≤ n ∧ n ≤ 1099511627776 ∧ 0 < u ∧ u ≤ 1099511627776) (ha : argsM H [] [.v (.int .i64 n), .v (.int .i64 u)] avs) (hQ : ∀ r : Int, (r = (n + u - 1) / u) → k (.v (.int .i64 r)) H) : CallP Go.Proofs.Try.prog 125 avs H k :=
  CallP.mk ⟨_, up_K.real, Con.spec up_K, (n, u), [], ⟨h0, rfl, trivial, ha⟩, fun r hr => (numK_eq H.length (fun N => k (AV.ren (fren [] N) (.v (.int .i64 r))) (putAll H [] []))).mpr (by simpa [putAll, AV.ren, rens, Cont.ren, recsC, recAV] using hQ r hr)⟩
theorem Fin.ag2 {u v : Value} {H : List Chunk} {k : K} (hk : k (.agg [.v u, .v v]) []) : Fin 0 (.agg [.v u, .v v]) H k := Fin.ren [] [] (.agg [.v u, .v v]) [] rfl rfl trivial trivial ⟨VC.mk rfl, VC.mk rfl, trivial⟩ hk
theorem HD.clus_b (h : HD) : 512 ≤ h.clus ∧ h.clus ≤ 4096 := by rcases h.clus_cases with e | e | e | e <;> omega
theorem div_b {n u : Int} (h0 : 0 ≤ n) (h1 : 0 < u) : 0 ≤ n / u ∧ n / u ≤ n ∧ n / u * u ≤ n := ⟨Int.ediv_nonneg h0 (by omega), Int.ediv_le_self _ h0, Int.ediv_mul_le n (by omega)⟩
theorem HD.refs_b (h : HD) : 0 ≤ h.refs ∧ h.refs ≤ 24576 ∧ 0 ≤ h.refs * h.clus ∧ h.refs * h.clus ≤ 24576 := by
  have b := h.clus_b
  have d := div_b (n := 2 * max 0 (min h.host 8192) + h.clus - 1) (u := h.clus) (by omega) (by omega)
  have p : 0 ≤ h.refs * h.clus := Int.mul_nonneg d.1 (by omega)
  have e : h.refs = (2 * max 0 (min h.host 8192) + h.clus - 1) / h.clus := rfl
  rw [← e] at d
  omega
theorem mul_b {a u : Int} (A : Int) (h0 : 0 ≤ a) (h1 : a ≤ A) (h2 : 0 ≤ u) (h3 : u ≤ 4096) : 0 ≤ a * u ∧ a * u ≤ A * 4096 := ⟨Int.mul_nonneg h0 h2, Int.mul_le_mul h1 h3 h2 (by omega)⟩
theorem HD.jend_b (h : HD) : 0 ≤ h.jend ∧ h.jend ≤ 33558528 := by
  have b := h.clus_b
  have := mul_b (a := 1 + max 0 (min h.jr 8192)) (u := h.clus) 8193 (by omega) (by omega) (by omega) b.2
  unfold HD.jend
  rw [Int.mul_comm]
  omega
theorem HD.rend_b (h : HD) : 0 ≤ h.rend ∧ h.rend ≤ 33583104 := by
  have := h.jend_b
  have := h.refs_b
  unfold HD.rend
  omega
set_option maxHeartbeats 8000000 in
theorem hguest_c (h : HD) (k : K) (h0 : hR h) (hk : ∀ r : Int, r = h.guest → k (.v (.int .i64 r)) []) : evFunc tab [] p102 Go.Proofs.Try.f102 [.agg [.v (.int .i64 h.bits), .v (.int .i64 h.size), .v (.int .i64 h.host), .v (.int .i64 h.jr), .v (.bool h.backed)]] [] k := by
  have b := h.clus_b
  repeat' (first
 | (with_reducible first | exact True.intro | apply And.intro | apply If_true | apply If_false | apply If_not)
 | ((with_reducible apply VC.mk); (first | trivial | omega | (simp only [inR]; omega) | (exact ⟨rfl, List.prefix_rfl⟩) | (refine ⟨rfl, rfl, rfl, ?_, rfl⟩; (simp; done)) | (focus (repeat' (first | exact True.intro | apply And.intro | rfl | exact Nat.le_of_ble_eq_true rfl)); done) | (simp [inR, Cont.cells]; done) | (simp [inR, Cont.cells]; omega)))
 | ((with_reducible apply If_dec) <;> intro hc <;> (try (exfalso; omega)))
 | ((with_reducible apply If_any) <;> intro hc)
 | ((with_reducible first | apply PF.mk | apply DrawP.mk); (focus kernel_rfl))
 | ((with_reducible apply Same.mk); (focus rfl); (first | exact trivial | exact rfl))
 | (intro cap hcap)
 | ((fail_if_success (with_reducible first | apply Fin.mk | apply CallP.mk | apply LoopP.mk | apply VC.mk | apply falseMk | apply Round.mk | apply LookP.mk | apply RangeP.mk | apply NextP.mk | apply EntryP.mk | apply Eq.symm)); conv => whnf))
  refine hclus_at h h0 ⟨⟨rfl, rfl, rfl, rfl, rfl, trivial⟩, trivial⟩ ?_
  intro c hc
  rw [← hc] at b
  repeat' (first
 | (with_reducible first | exact True.intro | apply And.intro | apply If_true | apply If_false | apply If_not)
 | ((with_reducible apply VC.mk); (first | trivial | omega | (simp only [inR]; omega) | (exact ⟨rfl, List.prefix_rfl⟩) | (refine ⟨rfl, rfl, rfl, ?_, rfl⟩; (simp; done)) | (focus (repeat' (first | exact True.intro | apply And.intro | rfl | exact Nat.le_of_ble_eq_true rfl)); done) | (simp [inR, Cont.cells]; done) | (simp [inR, Cont.cells]; omega)))
 | ((with_reducible apply If_dec) <;> intro hc <;> (try (exfalso; omega)))
 | ((with_reducible apply If_any) <;> intro hc)
 | ((with_reducible first | apply PF.mk | apply DrawP.mk); (focus kernel_rfl))
 | ((with_reducible apply Same.mk); (focus rfl); (first | exact trivial | exact rfl))
 | (intro cap hcap)
 | ((fail_if_success (with_reducible first | apply Fin.mk | apply CallP.mk | apply LoopP.mk | apply VC.mk | apply falseMk | apply Round.mk | apply LookP.mk | apply RangeP.mk | apply NextP.mk | apply EntryP.mk | apply Eq.symm)); conv => whnf))
  all_goals (try simp only [cond_true, cond_false] at *)
  refine up_at (max 0 (min h.size 16777216)) c (by omega) ⟨rfl, rfl, trivial⟩ ?_
  intro r hr
  repeat' (first
 | (with_reducible first | exact True.intro | apply And.intro | apply If_true | apply If_false | apply If_not)
 | ((with_reducible apply VC.mk); (first | trivial | omega | (simp only [inR]; omega) | (exact ⟨rfl, List.prefix_rfl⟩) | (refine ⟨rfl, rfl, rfl, ?_, rfl⟩; (simp; done)) | (focus (repeat' (first | exact True.intro | apply And.intro | rfl | exact Nat.le_of_ble_eq_true rfl)); done) | (simp [inR, Cont.cells]; done) | (simp [inR, Cont.cells]; omega)))
 | ((with_reducible apply If_dec) <;> intro hc <;> (try (exfalso; omega)))
 | ((with_reducible apply If_any) <;> intro hc)
 | ((with_reducible first | apply PF.mk | apply DrawP.mk); (focus kernel_rfl))
 | ((with_reducible apply Same.mk); (focus rfl); (first | exact trivial | exact rfl))
 | (intro cap hcap)
 | ((fail_if_success (with_reducible first | apply Fin.mk | apply CallP.mk | apply LoopP.mk | apply VC.mk | apply falseMk | apply Round.mk | apply LookP.mk | apply RangeP.mk | apply NextP.mk | apply EntryP.mk | apply Eq.symm)); conv => whnf))
  exact Fin.vl (hk _ (by rw [hr, hc]; rfl))
def hguestOk (x : HD) : Prop := hR x
def hguestRel (x : HD) (r : Int) : Prop := r = x.guest
theorem hguest_K : ConOk Go.Proofs.Try.prog 102 (Con.of (HD) (Int) (fun x => [.agg [.v (.int .i64 x.bits), .v (.int .i64 x.size), .v (.int .i64 x.host), .v (.int .i64 x.jr), .v (.bool x.backed)]]) (fun _ => []) hguestOk hguestRel (fun _ r => .v (.int .i64 r)) (fun _ _ => [])) := by
  refine conOk_rel (T := tab) mix Go.Proofs.Try.func102 (by decide +kernel) (by kernel_rfl) [] p102 (fun n => by rw [Go.Proofs.Try.ntmps102]; exact Nat.le_of_ble_eq_true rfl) (fun x r _ _ => ⟨by simp [AV.noF, noFs, Cont.noF, recsC_noF], (fun c hc => by cases hc), Nat.le_refl _⟩) (fun x _ c hc => by cases hc) ?_
  intro x k h0 hk
  exact hguest_c x k h0 (fun r hr => hk r hr)
theorem hguest_at {avs : List AV} {H : List Chunk} {k : K} (h : HD) (h0 : hR h) (ha : argsM H [] [.agg [.v (.int .i64 h.bits), .v (.int .i64 h.size), .v (.int .i64 h.host), .v (.int .i64 h.jr), .v (.bool h.backed)]] avs) (hQ : ∀ r : Int, (r = h.guest) → k (.v (.int .i64 r)) H) : CallP Go.Proofs.Try.prog 102 avs H k :=
  CallP.mk ⟨_, hguest_K.real, Con.spec hguest_K, (h), [], ⟨h0, rfl, trivial, ha⟩, fun r hr => (numK_eq H.length (fun N => k (AV.ren (fren [] N) (.v (.int .i64 r))) (putAll H [] []))).mpr (by simpa [putAll, AV.ren, rens, Cont.ren, recsC, recAV] using hQ r hr)⟩
set_option maxHeartbeats 8000000 in
theorem hrefs_c (h : HD) (k : K) (h0 : hR h) (hk : ∀ r : Int, r = h.refs → k (.v (.int .i64 r)) []) : evFunc tab [] p108 Go.Proofs.Try.f108 [.agg [.v (.int .i64 h.bits), .v (.int .i64 h.size), .v (.int .i64 h.host), .v (.int .i64 h.jr), .v (.bool h.backed)]] [] k := by
  have b := h.clus_b
  repeat' (first
 | (with_reducible first | exact True.intro | apply And.intro | apply If_true | apply If_false | apply If_not)
 | ((with_reducible apply VC.mk); (first | trivial | omega | (simp only [inR]; omega) | (exact ⟨rfl, List.prefix_rfl⟩) | (refine ⟨rfl, rfl, rfl, ?_, rfl⟩; (simp; done)) | (focus (repeat' (first | exact True.intro | apply And.intro | rfl | exact Nat.le_of_ble_eq_true rfl)); done) | (simp [inR, Cont.cells]; done) | (simp [inR, Cont.cells]; omega)))
 | ((with_reducible apply If_dec) <;> intro hc <;> (try (exfalso; omega)))
 | ((with_reducible apply If_any) <;> intro hc)
 | ((with_reducible first | apply PF.mk | apply DrawP.mk); (focus kernel_rfl))
 | ((with_reducible apply Same.mk); (focus rfl); (first | exact trivial | exact rfl))
 | (intro cap hcap)
 | ((fail_if_success (with_reducible first | apply Fin.mk | apply CallP.mk | apply LoopP.mk | apply VC.mk | apply falseMk | apply Round.mk | apply LookP.mk | apply RangeP.mk | apply NextP.mk | apply EntryP.mk | apply Eq.symm)); conv => whnf))
  refine hclus_at h h0 ⟨⟨rfl, rfl, rfl, rfl, rfl, trivial⟩, trivial⟩ ?_
  intro c hc
  rw [← hc] at b
  repeat' (first
 | (with_reducible first | exact True.intro | apply And.intro | apply If_true | apply If_false | apply If_not)
 | ((with_reducible apply VC.mk); (first | trivial | omega | (simp only [inR]; omega) | (exact ⟨rfl, List.prefix_rfl⟩) | (refine ⟨rfl, rfl, rfl, ?_, rfl⟩; (simp; done)) | (focus (repeat' (first | exact True.intro | apply And.intro | rfl | exact Nat.le_of_ble_eq_true rfl)); done) | (simp [inR, Cont.cells]; done) | (simp [inR, Cont.cells]; omega)))
 | ((with_reducible apply If_dec) <;> intro hc <;> (try (exfalso; omega)))
 | ((with_reducible apply If_any) <;> intro hc)
 | ((with_reducible first | apply PF.mk | apply DrawP.mk); (focus kernel_rfl))
 | ((with_reducible apply Same.mk); (focus rfl); (first | exact trivial | exact rfl))
 | (intro cap hcap)
 | ((fail_if_success (with_reducible first | apply Fin.mk | apply CallP.mk | apply LoopP.mk | apply VC.mk | apply falseMk | apply Round.mk | apply LookP.mk | apply RangeP.mk | apply NextP.mk | apply EntryP.mk | apply Eq.symm)); conv => whnf))
  all_goals (try simp only [cond_true, cond_false] at *)
  refine up_at (2 * max 0 (min h.host 8192)) c (by omega) ⟨rfl, rfl, trivial⟩ ?_
  intro r hr
  repeat' (first
 | (with_reducible first | exact True.intro | apply And.intro | apply If_true | apply If_false | apply If_not)
 | ((with_reducible apply VC.mk); (first | trivial | omega | (simp only [inR]; omega) | (exact ⟨rfl, List.prefix_rfl⟩) | (refine ⟨rfl, rfl, rfl, ?_, rfl⟩; (simp; done)) | (focus (repeat' (first | exact True.intro | apply And.intro | rfl | exact Nat.le_of_ble_eq_true rfl)); done) | (simp [inR, Cont.cells]; done) | (simp [inR, Cont.cells]; omega)))
 | ((with_reducible apply If_dec) <;> intro hc <;> (try (exfalso; omega)))
 | ((with_reducible apply If_any) <;> intro hc)
 | ((with_reducible first | apply PF.mk | apply DrawP.mk); (focus kernel_rfl))
 | ((with_reducible apply Same.mk); (focus rfl); (first | exact trivial | exact rfl))
 | (intro cap hcap)
 | ((fail_if_success (with_reducible first | apply Fin.mk | apply CallP.mk | apply LoopP.mk | apply VC.mk | apply falseMk | apply Round.mk | apply LookP.mk | apply RangeP.mk | apply NextP.mk | apply EntryP.mk | apply Eq.symm)); conv => whnf))
  exact Fin.vl (hk _ (by rw [hr, hc]; rfl))
def hrefsOk (x : HD) : Prop := hR x
def hrefsRel (x : HD) (r : Int) : Prop := r = x.refs
theorem hrefs_K : ConOk Go.Proofs.Try.prog 108 (Con.of (HD) (Int) (fun x => [.agg [.v (.int .i64 x.bits), .v (.int .i64 x.size), .v (.int .i64 x.host), .v (.int .i64 x.jr), .v (.bool x.backed)]]) (fun _ => []) hrefsOk hrefsRel (fun _ r => .v (.int .i64 r)) (fun _ _ => [])) := by
  refine conOk_rel (T := tab) mix Go.Proofs.Try.func108 (by decide +kernel) (by kernel_rfl) [] p108 (fun n => by rw [Go.Proofs.Try.ntmps108]; exact Nat.le_of_ble_eq_true rfl) (fun x r _ _ => ⟨by simp [AV.noF, noFs, Cont.noF, recsC_noF], (fun c hc => by cases hc), Nat.le_refl _⟩) (fun x _ c hc => by cases hc) ?_
  intro x k h0 hk
  exact hrefs_c x k h0 (fun r hr => hk r hr)
theorem hrefs_at {avs : List AV} {H : List Chunk} {k : K} (h : HD) (h0 : hR h) (ha : argsM H [] [.agg [.v (.int .i64 h.bits), .v (.int .i64 h.size), .v (.int .i64 h.host), .v (.int .i64 h.jr), .v (.bool h.backed)]] avs) (hQ : ∀ r : Int, (r = h.refs) → k (.v (.int .i64 r)) H) : CallP Go.Proofs.Try.prog 108 avs H k :=
  CallP.mk ⟨_, hrefs_K.real, Con.spec hrefs_K, (h), [], ⟨h0, rfl, trivial, ha⟩, fun r hr => (numK_eq H.length (fun N => k (AV.ren (fren [] N) (.v (.int .i64 r))) (putAll H [] []))).mpr (by simpa [putAll, AV.ren, rens, Cont.ren, recsC, recAV] using hQ r hr)⟩
set_option maxHeartbeats 8000000 in
theorem hjat_c (h : HD) (k : K) (h0 : hR h) (hk : ∀ r : Int × Int, r = (h.clus, h.jend) → k (.agg [.v (.int .i64 r.1), .v (.int .i64 r.2)]) []) : evFunc tab [] p59 Go.Proofs.Try.f59 [.agg [.v (.int .i64 h.bits), .v (.int .i64 h.size), .v (.int .i64 h.host), .v (.int .i64 h.jr), .v (.bool h.backed)]] [] k := by
  have b := h.clus_b
  have b2 := h.jend_b
  unfold HD.jend at b2
  repeat' (first
 | (with_reducible first | exact True.intro | apply And.intro | apply If_true | apply If_false | apply If_not)
 | ((with_reducible apply VC.mk); (first | trivial | omega | (simp only [inR]; omega) | (exact ⟨rfl, List.prefix_rfl⟩) | (refine ⟨rfl, rfl, rfl, ?_, rfl⟩; (simp; done)) | (focus (repeat' (first | exact True.intro | apply And.intro | rfl | exact Nat.le_of_ble_eq_true rfl)); done) | (simp [inR, Cont.cells]; done) | (simp [inR, Cont.cells]; omega)))
 | ((with_reducible apply If_dec) <;> intro hc <;> (try (exfalso; omega)))
 | ((with_reducible apply If_any) <;> intro hc)
 | ((with_reducible first | apply PF.mk | apply DrawP.mk); (focus kernel_rfl))
 | ((with_reducible apply Same.mk); (focus rfl); (first | exact trivial | exact rfl))
 | (intro cap hcap)
 | ((fail_if_success (with_reducible first | apply Fin.mk | apply CallP.mk | apply LoopP.mk | apply VC.mk | apply falseMk | apply Round.mk | apply LookP.mk | apply RangeP.mk | apply NextP.mk | apply EntryP.mk | apply Eq.symm)); conv => whnf))
  refine hclus_at h h0 ⟨⟨rfl, rfl, rfl, rfl, rfl, trivial⟩, trivial⟩ ?_
  intro c hc
  repeat' (first
 | (with_reducible first | exact True.intro | apply And.intro | apply If_true | apply If_false | apply If_not)
 | ((with_reducible apply VC.mk); (first | trivial | omega | (simp only [inR]; omega) | (exact ⟨rfl, List.prefix_rfl⟩) | (refine ⟨rfl, rfl, rfl, ?_, rfl⟩; (simp; done)) | (focus (repeat' (first | exact True.intro | apply And.intro | rfl | exact Nat.le_of_ble_eq_true rfl)); done) | (simp [inR, Cont.cells]; done) | (simp [inR, Cont.cells]; omega)))
 | ((with_reducible apply If_dec) <;> intro hc <;> (try (exfalso; omega)))
 | ((with_reducible apply If_any) <;> intro hc)
 | ((with_reducible first | apply PF.mk | apply DrawP.mk); (focus kernel_rfl))
 | ((with_reducible apply Same.mk); (focus rfl); (first | exact trivial | exact rfl))
 | (intro cap hcap)
 | ((fail_if_success (with_reducible first | apply Fin.mk | apply CallP.mk | apply LoopP.mk | apply VC.mk | apply falseMk | apply Round.mk | apply LookP.mk | apply RangeP.mk | apply NextP.mk | apply EntryP.mk | apply Eq.symm)); conv => whnf))
  refine hclus_at h h0 ⟨⟨rfl, rfl, rfl, rfl, rfl, trivial⟩, trivial⟩ ?_
  intro d hd
  subst hc hd
  repeat' (first
 | (with_reducible first | exact True.intro | apply And.intro | apply If_true | apply If_false | apply If_not)
 | ((with_reducible apply VC.mk); (first | trivial | omega | (simp only [inR]; omega) | (exact ⟨rfl, List.prefix_rfl⟩) | (refine ⟨rfl, rfl, rfl, ?_, rfl⟩; (simp; done)) | (focus (repeat' (first | exact True.intro | apply And.intro | rfl | exact Nat.le_of_ble_eq_true rfl)); done) | (simp [inR, Cont.cells]; done) | (simp [inR, Cont.cells]; omega)))
 | ((with_reducible apply If_dec) <;> intro hc <;> (try (exfalso; omega)))
 | ((with_reducible apply If_any) <;> intro hc)
 | ((with_reducible first | apply PF.mk | apply DrawP.mk); (focus kernel_rfl))
 | ((with_reducible apply Same.mk); (focus rfl); (first | exact trivial | exact rfl))
 | (intro cap hcap)
 | ((fail_if_success (with_reducible first | apply Fin.mk | apply CallP.mk | apply LoopP.mk | apply VC.mk | apply falseMk | apply Round.mk | apply LookP.mk | apply RangeP.mk | apply NextP.mk | apply EntryP.mk | apply Eq.symm)); conv => whnf))
  all_goals (try simp only [cond_true, cond_false] at *)
  exact Fin.ag2 (hk _ rfl)
def hjatOk (x : HD) : Prop := hR x
def hjatRel (x : HD) (r : Int × Int) : Prop := r = (x.clus, x.jend)
theorem hjat_K : ConOk Go.Proofs.Try.prog 59 (Con.of (HD) (Int × Int) (fun x => [.agg [.v (.int .i64 x.bits), .v (.int .i64 x.size), .v (.int .i64 x.host), .v (.int .i64 x.jr), .v (.bool x.backed)]]) (fun _ => []) hjatOk hjatRel (fun _ r => .agg [.v (.int .i64 r.1), .v (.int .i64 r.2)]) (fun _ _ => [])) := by
  refine conOk_rel (T := tab) mix Go.Proofs.Try.func59 (by decide +kernel) (by kernel_rfl) [] p59 (fun n => by rw [Go.Proofs.Try.ntmps59]; exact Nat.le_of_ble_eq_true rfl) (fun x r _ _ => ⟨by simp [AV.noF, noFs, Cont.noF, recsC_noF], (fun c hc => by cases hc), Nat.le_refl _⟩) (fun x _ c hc => by cases hc) ?_
  intro x k h0 hk
  exact hjat_c x k h0 (fun r hr => hk r hr)
theorem hjat_at {avs : List AV} {H : List Chunk} {k : K} (h : HD) (h0 : hR h) (ha : argsM H [] [.agg [.v (.int .i64 h.bits), .v (.int .i64 h.size), .v (.int .i64 h.host), .v (.int .i64 h.jr), .v (.bool h.backed)]] avs) (hQ : ∀ r : Int × Int, (r = (h.clus, h.jend)) → k (.agg [.v (.int .i64 r.1), .v (.int .i64 r.2)]) H) : CallP Go.Proofs.Try.prog 59 avs H k :=
  CallP.mk ⟨_, hjat_K.real, Con.spec hjat_K, (h), [], ⟨h0, rfl, trivial, ha⟩, fun r hr => (numK_eq H.length (fun N => k (AV.ren (fren [] N) (.agg [.v (.int .i64 r.1), .v (.int .i64 r.2)])) (putAll H [] []))).mpr (by simpa [putAll, AV.ren, rens, Cont.ren, recsC, recAV] using hQ r hr)⟩
set_option maxHeartbeats 8000000 in
theorem hrat_c (h : HD) (k : K) (h0 : hR h) (hk : ∀ r : Int × Int, r = (h.jend, h.rend) → k (.agg [.v (.int .i64 r.1), .v (.int .i64 r.2)]) []) : evFunc tab [] p58 Go.Proofs.Try.f58 [.agg [.v (.int .i64 h.bits), .v (.int .i64 h.size), .v (.int .i64 h.host), .v (.int .i64 h.jr), .v (.bool h.backed)]] [] k := by
  have b := h.clus_b
  have b2 := h.jend_b
  have b3 := h.refs_b
  have b4 := h.rend_b
  unfold HD.rend at b4
  repeat' (first
 | (with_reducible first | exact True.intro | apply And.intro | apply If_true | apply If_false | apply If_not)
 | ((with_reducible apply VC.mk); (first | trivial | omega | (simp only [inR]; omega) | (exact ⟨rfl, List.prefix_rfl⟩) | (refine ⟨rfl, rfl, rfl, ?_, rfl⟩; (simp; done)) | (focus (repeat' (first | exact True.intro | apply And.intro | rfl | exact Nat.le_of_ble_eq_true rfl)); done) | (simp [inR, Cont.cells]; done) | (simp [inR, Cont.cells]; omega)))
 | ((with_reducible apply If_dec) <;> intro hc <;> (try (exfalso; omega)))
 | ((with_reducible apply If_any) <;> intro hc)
 | ((with_reducible first | apply PF.mk | apply DrawP.mk); (focus kernel_rfl))
 | ((with_reducible apply Same.mk); (focus rfl); (first | exact trivial | exact rfl))
 | (intro cap hcap)
 | ((fail_if_success (with_reducible first | apply Fin.mk | apply CallP.mk | apply LoopP.mk | apply VC.mk | apply falseMk | apply Round.mk | apply LookP.mk | apply RangeP.mk | apply NextP.mk | apply EntryP.mk | apply Eq.symm)); conv => whnf))
  refine hjat_at h h0 ⟨⟨rfl, rfl, rfl, rfl, rfl, trivial⟩, trivial⟩ ?_
  intro a ha
  subst ha
  repeat' (first
 | (with_reducible first | exact True.intro | apply And.intro | apply If_true | apply If_false | apply If_not)
 | ((with_reducible apply VC.mk); (first | trivial | omega | (simp only [inR]; omega) | (exact ⟨rfl, List.prefix_rfl⟩) | (refine ⟨rfl, rfl, rfl, ?_, rfl⟩; (simp; done)) | (focus (repeat' (first | exact True.intro | apply And.intro | rfl | exact Nat.le_of_ble_eq_true rfl)); done) | (simp [inR, Cont.cells]; done) | (simp [inR, Cont.cells]; omega)))
 | ((with_reducible apply If_dec) <;> intro hc <;> (try (exfalso; omega)))
 | ((with_reducible apply If_any) <;> intro hc)
 | ((with_reducible first | apply PF.mk | apply DrawP.mk); (focus kernel_rfl))
 | ((with_reducible apply Same.mk); (focus rfl); (first | exact trivial | exact rfl))
 | (intro cap hcap)
 | ((fail_if_success (with_reducible first | apply Fin.mk | apply CallP.mk | apply LoopP.mk | apply VC.mk | apply falseMk | apply Round.mk | apply LookP.mk | apply RangeP.mk | apply NextP.mk | apply EntryP.mk | apply Eq.symm)); conv => whnf))
  all_goals (try simp only [cond_true, cond_false] at *)
  refine hrefs_at h h0 ⟨⟨rfl, rfl, rfl, rfl, rfl, trivial⟩, trivial⟩ ?_
  intro c hc
  subst hc
  repeat' (first
 | (with_reducible first | exact True.intro | apply And.intro | apply If_true | apply If_false | apply If_not)
 | ((with_reducible apply VC.mk); (first | trivial | omega | (simp only [inR]; omega) | (exact ⟨rfl, List.prefix_rfl⟩) | (refine ⟨rfl, rfl, rfl, ?_, rfl⟩; (simp; done)) | (focus (repeat' (first | exact True.intro | apply And.intro | rfl | exact Nat.le_of_ble_eq_true rfl)); done) | (simp [inR, Cont.cells]; done) | (simp [inR, Cont.cells]; omega)))
 | ((with_reducible apply If_dec) <;> intro hc <;> (try (exfalso; omega)))
 | ((with_reducible apply If_any) <;> intro hc)
 | ((with_reducible first | apply PF.mk | apply DrawP.mk); (focus kernel_rfl))
 | ((with_reducible apply Same.mk); (focus rfl); (first | exact trivial | exact rfl))
 | (intro cap hcap)
 | ((fail_if_success (with_reducible first | apply Fin.mk | apply CallP.mk | apply LoopP.mk | apply VC.mk | apply falseMk | apply Round.mk | apply LookP.mk | apply RangeP.mk | apply NextP.mk | apply EntryP.mk | apply Eq.symm)); conv => whnf))
  all_goals (try simp only [cond_true, cond_false] at *)
  refine hclus_at h h0 ⟨⟨rfl, rfl, rfl, rfl, rfl, trivial⟩, trivial⟩ ?_
  intro d hd
  subst hd
  repeat' (first
 | (with_reducible first | exact True.intro | apply And.intro | apply If_true | apply If_false | apply If_not)
 | ((with_reducible apply VC.mk); (first | trivial | omega | (simp only [inR]; omega) | (exact ⟨rfl, List.prefix_rfl⟩) | (refine ⟨rfl, rfl, rfl, ?_, rfl⟩; (simp; done)) | (focus (repeat' (first | exact True.intro | apply And.intro | rfl | exact Nat.le_of_ble_eq_true rfl)); done) | (simp [inR, Cont.cells]; done) | (simp [inR, Cont.cells]; omega)))
 | ((with_reducible apply If_dec) <;> intro hc <;> (try (exfalso; omega)))
 | ((with_reducible apply If_any) <;> intro hc)
 | ((with_reducible first | apply PF.mk | apply DrawP.mk); (focus kernel_rfl))
 | ((with_reducible apply Same.mk); (focus rfl); (first | exact trivial | exact rfl))
 | (intro cap hcap)
 | ((fail_if_success (with_reducible first | apply Fin.mk | apply CallP.mk | apply LoopP.mk | apply VC.mk | apply falseMk | apply Round.mk | apply LookP.mk | apply RangeP.mk | apply NextP.mk | apply EntryP.mk | apply Eq.symm)); conv => whnf))
  all_goals (try simp only [cond_true, cond_false] at *)
  exact Fin.ag2 (hk _ rfl)
def hratOk (x : HD) : Prop := hR x
def hratRel (x : HD) (r : Int × Int) : Prop := r = (x.jend, x.rend)
theorem hrat_K : ConOk Go.Proofs.Try.prog 58 (Con.of (HD) (Int × Int) (fun x => [.agg [.v (.int .i64 x.bits), .v (.int .i64 x.size), .v (.int .i64 x.host), .v (.int .i64 x.jr), .v (.bool x.backed)]]) (fun _ => []) hratOk hratRel (fun _ r => .agg [.v (.int .i64 r.1), .v (.int .i64 r.2)]) (fun _ _ => [])) := by
  refine conOk_rel (T := tab) mix Go.Proofs.Try.func58 (by decide +kernel) (by kernel_rfl) [] p58 (fun n => by rw [Go.Proofs.Try.ntmps58]; exact Nat.le_of_ble_eq_true rfl) (fun x r _ _ => ⟨by simp [AV.noF, noFs, Cont.noF, recsC_noF], (fun c hc => by cases hc), Nat.le_refl _⟩) (fun x _ c hc => by cases hc) ?_
  intro x k h0 hk
  exact hrat_c x k h0 (fun r hr => hk r hr)
theorem hrat_at {avs : List AV} {H : List Chunk} {k : K} (h : HD) (h0 : hR h) (ha : argsM H [] [.agg [.v (.int .i64 h.bits), .v (.int .i64 h.size), .v (.int .i64 h.host), .v (.int .i64 h.jr), .v (.bool h.backed)]] avs) (hQ : ∀ r : Int × Int, (r = (h.jend, h.rend)) → k (.agg [.v (.int .i64 r.1), .v (.int .i64 r.2)]) H) : CallP Go.Proofs.Try.prog 58 avs H k :=
  CallP.mk ⟨_, hrat_K.real, Con.spec hrat_K, (h), [], ⟨h0, rfl, trivial, ha⟩, fun r hr => (numK_eq H.length (fun N => k (AV.ren (fren [] N) (.agg [.v (.int .i64 r.1), .v (.int .i64 r.2)])) (putAll H [] []))).mpr (by simpa [putAll, AV.ren, rens, Cont.ren, recsC, recAV] using hQ r hr)⟩
set_option maxHeartbeats 8000000 in
theorem hsat_c (h : HD) (k : K) (h0 : hR h) (hk : ∀ r : Int × Int, r = (h.rend, h.rend + h.clus) → k (.agg [.v (.int .i64 r.1), .v (.int .i64 r.2)]) []) : evFunc tab [] [] Go.Proofs.Try.f127 [.agg [.v (.int .i64 h.bits), .v (.int .i64 h.size), .v (.int .i64 h.host), .v (.int .i64 h.jr), .v (.bool h.backed)]] [] k := by
  have b := h.clus_b
  have b2 := h.jend_b
  have b3 := h.refs_b
  have b4 := h.rend_b
  repeat' (first
 | (with_reducible first | exact True.intro | apply And.intro | apply If_true | apply If_false | apply If_not)
 | ((with_reducible apply VC.mk); (first | trivial | omega | (simp only [inR]; omega) | (exact ⟨rfl, List.prefix_rfl⟩) | (refine ⟨rfl, rfl, rfl, ?_, rfl⟩; (simp; done)) | (focus (repeat' (first | exact True.intro | apply And.intro | rfl | exact Nat.le_of_ble_eq_true rfl)); done) | (simp [inR, Cont.cells]; done) | (simp [inR, Cont.cells]; omega)))
 | ((with_reducible apply If_dec) <;> intro hc <;> (try (exfalso; omega)))
 | ((with_reducible apply If_any) <;> intro hc)
 | ((with_reducible first | apply PF.mk | apply DrawP.mk); (focus kernel_rfl))
 | ((with_reducible apply Same.mk); (focus rfl); (first | exact trivial | exact rfl))
 | (intro cap hcap)
 | ((fail_if_success (with_reducible first | apply Fin.mk | apply CallP.mk | apply LoopP.mk | apply VC.mk | apply falseMk | apply Round.mk | apply LookP.mk | apply RangeP.mk | apply NextP.mk | apply EntryP.mk | apply Eq.symm)); conv => whnf))
  refine hrat_at h h0 ⟨⟨rfl, rfl, rfl, rfl, rfl, trivial⟩, trivial⟩ ?_
  intro a ha
  subst ha
  repeat' (first
 | (with_reducible first | exact True.intro | apply And.intro | apply If_true | apply If_false | apply If_not)
 | ((with_reducible apply VC.mk); (first | trivial | omega | (simp only [inR]; omega) | (exact ⟨rfl, List.prefix_rfl⟩) | (refine ⟨rfl, rfl, rfl, ?_, rfl⟩; (simp; done)) | (focus (repeat' (first | exact True.intro | apply And.intro | rfl | exact Nat.le_of_ble_eq_true rfl)); done) | (simp [inR, Cont.cells]; done) | (simp [inR, Cont.cells]; omega)))
 | ((with_reducible apply If_dec) <;> intro hc <;> (try (exfalso; omega)))
 | ((with_reducible apply If_any) <;> intro hc)
 | ((with_reducible first | apply PF.mk | apply DrawP.mk); (focus kernel_rfl))
 | ((with_reducible apply Same.mk); (focus rfl); (first | exact trivial | exact rfl))
 | (intro cap hcap)
 | ((fail_if_success (with_reducible first | apply Fin.mk | apply CallP.mk | apply LoopP.mk | apply VC.mk | apply falseMk | apply Round.mk | apply LookP.mk | apply RangeP.mk | apply NextP.mk | apply EntryP.mk | apply Eq.symm)); conv => whnf))
  all_goals (try simp only [cond_true, cond_false] at *)
  refine hclus_at h h0 ⟨⟨rfl, rfl, rfl, rfl, rfl, trivial⟩, trivial⟩ ?_
  intro d hd
  subst hd
  repeat' (first
 | (with_reducible first | exact True.intro | apply And.intro | apply If_true | apply If_false | apply If_not)
 | ((with_reducible apply VC.mk); (first | trivial | omega | (simp only [inR]; omega) | (exact ⟨rfl, List.prefix_rfl⟩) | (refine ⟨rfl, rfl, rfl, ?_, rfl⟩; (simp; done)) | (focus (repeat' (first | exact True.intro | apply And.intro | rfl | exact Nat.le_of_ble_eq_true rfl)); done) | (simp [inR, Cont.cells]; done) | (simp [inR, Cont.cells]; omega)))
 | ((with_reducible apply If_dec) <;> intro hc <;> (try (exfalso; omega)))
 | ((with_reducible apply If_any) <;> intro hc)
 | ((with_reducible first | apply PF.mk | apply DrawP.mk); (focus kernel_rfl))
 | ((with_reducible apply Same.mk); (focus rfl); (first | exact trivial | exact rfl))
 | (intro cap hcap)
 | ((fail_if_success (with_reducible first | apply Fin.mk | apply CallP.mk | apply LoopP.mk | apply VC.mk | apply falseMk | apply Round.mk | apply LookP.mk | apply RangeP.mk | apply NextP.mk | apply EntryP.mk | apply Eq.symm)); conv => whnf))
  all_goals (try simp only [cond_true, cond_false] at *)
  exact Fin.ag2 (hk _ rfl)
def hsatOk (x : HD) : Prop := hR x
def hsatRel (x : HD) (r : Int × Int) : Prop := r = (x.rend, x.rend + x.clus)
theorem hsat_K : ConOk Go.Proofs.Try.prog 127 (Con.of (HD) (Int × Int) (fun x => [.agg [.v (.int .i64 x.bits), .v (.int .i64 x.size), .v (.int .i64 x.host), .v (.int .i64 x.jr), .v (.bool x.backed)]]) (fun _ => []) hsatOk hsatRel (fun _ r => .agg [.v (.int .i64 r.1), .v (.int .i64 r.2)]) (fun _ _ => [])) := by
  refine conOk_rel (T := tab) mix Go.Proofs.Try.func127 (by decide +kernel) (by kernel_rfl) [] [] (fun n => by rw [Go.Proofs.Try.ntmps127]; exact Nat.le_of_ble_eq_true rfl) (fun x r _ _ => ⟨by simp [AV.noF, noFs, Cont.noF, recsC_noF], (fun c hc => by cases hc), Nat.le_refl _⟩) (fun x _ c hc => by cases hc) ?_
  intro x k h0 hk
  exact hsat_c x k h0 (fun r hr => hk r hr)
theorem hsat_at {avs : List AV} {H : List Chunk} {k : K} (h : HD) (h0 : hR h) (ha : argsM H [] [.agg [.v (.int .i64 h.bits), .v (.int .i64 h.size), .v (.int .i64 h.host), .v (.int .i64 h.jr), .v (.bool h.backed)]] avs) (hQ : ∀ r : Int × Int, (r = (h.rend, h.rend + h.clus)) → k (.agg [.v (.int .i64 r.1), .v (.int .i64 r.2)]) H) : CallP Go.Proofs.Try.prog 127 avs H k :=
  CallP.mk ⟨_, hsat_K.real, Con.spec hsat_K, (h), [], ⟨h0, rfl, trivial, ha⟩, fun r hr => (numK_eq H.length (fun N => k (AV.ren (fren [] N) (.agg [.v (.int .i64 r.1), .v (.int .i64 r.2)])) (putAll H [] []))).mpr (by simpa [putAll, AV.ren, rens, Cont.ren, recsC, recAV] using hQ r hr)⟩
set_option maxHeartbeats 8000000 in
theorem htat_c (h : HD) (k : K) (h0 : hR h) (hk : ∀ r : Int × Int, r = (h.rend + h.clus, h.rend + h.clus + h.clus) → k (.agg [.v (.int .i64 r.1), .v (.int .i64 r.2)]) []) : evFunc tab [] [] Go.Proofs.Try.f105 [.agg [.v (.int .i64 h.bits), .v (.int .i64 h.size), .v (.int .i64 h.host), .v (.int .i64 h.jr), .v (.bool h.backed)]] [] k := by
  have b := h.clus_b
  have b2 := h.jend_b
  have b3 := h.refs_b
  have b4 := h.rend_b
  repeat' (first
 | (with_reducible first | exact True.intro | apply And.intro | apply If_true | apply If_false | apply If_not)
 | ((with_reducible apply VC.mk); (first | trivial | omega | (simp only [inR]; omega) | (exact ⟨rfl, List.prefix_rfl⟩) | (refine ⟨rfl, rfl, rfl, ?_, rfl⟩; (simp; done)) | (focus (repeat' (first | exact True.intro | apply And.intro | rfl | exact Nat.le_of_ble_eq_true rfl)); done) | (simp [inR, Cont.cells]; done) | (simp [inR, Cont.cells]; omega)))
 | ((with_reducible apply If_dec) <;> intro hc <;> (try (exfalso; omega)))
 | ((with_reducible apply If_any) <;> intro hc)
 | ((with_reducible first | apply PF.mk | apply DrawP.mk); (focus kernel_rfl))
 | ((with_reducible apply Same.mk); (focus rfl); (first | exact trivial | exact rfl))
 | (intro cap hcap)
 | ((fail_if_success (with_reducible first | apply Fin.mk | apply CallP.mk | apply LoopP.mk | apply VC.mk | apply falseMk | apply Round.mk | apply LookP.mk | apply RangeP.mk | apply NextP.mk | apply EntryP.mk | apply Eq.symm)); conv => whnf))
  refine hsat_at h h0 ⟨⟨rfl, rfl, rfl, rfl, rfl, trivial⟩, trivial⟩ ?_
  intro a ha
  subst ha
  repeat' (first
 | (with_reducible first | exact True.intro | apply And.intro | apply If_true | apply If_false | apply If_not)
 | ((with_reducible apply VC.mk); (first | trivial | omega | (simp only [inR]; omega) | (exact ⟨rfl, List.prefix_rfl⟩) | (refine ⟨rfl, rfl, rfl, ?_, rfl⟩; (simp; done)) | (focus (repeat' (first | exact True.intro | apply And.intro | rfl | exact Nat.le_of_ble_eq_true rfl)); done) | (simp [inR, Cont.cells]; done) | (simp [inR, Cont.cells]; omega)))
 | ((with_reducible apply If_dec) <;> intro hc <;> (try (exfalso; omega)))
 | ((with_reducible apply If_any) <;> intro hc)
 | ((with_reducible first | apply PF.mk | apply DrawP.mk); (focus kernel_rfl))
 | ((with_reducible apply Same.mk); (focus rfl); (first | exact trivial | exact rfl))
 | (intro cap hcap)
 | ((fail_if_success (with_reducible first | apply Fin.mk | apply CallP.mk | apply LoopP.mk | apply VC.mk | apply falseMk | apply Round.mk | apply LookP.mk | apply RangeP.mk | apply NextP.mk | apply EntryP.mk | apply Eq.symm)); conv => whnf))
  all_goals (try simp only [cond_true, cond_false] at *)
  refine hclus_at h h0 ⟨⟨rfl, rfl, rfl, rfl, rfl, trivial⟩, trivial⟩ ?_
  intro d hd
  subst hd
  repeat' (first
 | (with_reducible first | exact True.intro | apply And.intro | apply If_true | apply If_false | apply If_not)
 | ((with_reducible apply VC.mk); (first | trivial | omega | (simp only [inR]; omega) | (exact ⟨rfl, List.prefix_rfl⟩) | (refine ⟨rfl, rfl, rfl, ?_, rfl⟩; (simp; done)) | (focus (repeat' (first | exact True.intro | apply And.intro | rfl | exact Nat.le_of_ble_eq_true rfl)); done) | (simp [inR, Cont.cells]; done) | (simp [inR, Cont.cells]; omega)))
 | ((with_reducible apply If_dec) <;> intro hc <;> (try (exfalso; omega)))
 | ((with_reducible apply If_any) <;> intro hc)
 | ((with_reducible first | apply PF.mk | apply DrawP.mk); (focus kernel_rfl))
 | ((with_reducible apply Same.mk); (focus rfl); (first | exact trivial | exact rfl))
 | (intro cap hcap)
 | ((fail_if_success (with_reducible first | apply Fin.mk | apply CallP.mk | apply LoopP.mk | apply VC.mk | apply falseMk | apply Round.mk | apply LookP.mk | apply RangeP.mk | apply NextP.mk | apply EntryP.mk | apply Eq.symm)); conv => whnf))
  all_goals (try simp only [cond_true, cond_false] at *)
  exact Fin.ag2 (hk _ rfl)
def htatOk (x : HD) : Prop := hR x
def htatRel (x : HD) (r : Int × Int) : Prop := r = (x.rend + x.clus, x.rend + x.clus + x.clus)
theorem htat_K : ConOk Go.Proofs.Try.prog 105 (Con.of (HD) (Int × Int) (fun x => [.agg [.v (.int .i64 x.bits), .v (.int .i64 x.size), .v (.int .i64 x.host), .v (.int .i64 x.jr), .v (.bool x.backed)]]) (fun _ => []) htatOk htatRel (fun _ r => .agg [.v (.int .i64 r.1), .v (.int .i64 r.2)]) (fun _ _ => [])) := by
  refine conOk_rel (T := tab) mix Go.Proofs.Try.func105 (by decide +kernel) (by kernel_rfl) [] [] (fun n => by rw [Go.Proofs.Try.ntmps105]; exact Nat.le_of_ble_eq_true rfl) (fun x r _ _ => ⟨by simp [AV.noF, noFs, Cont.noF, recsC_noF], (fun c hc => by cases hc), Nat.le_refl _⟩) (fun x _ c hc => by cases hc) ?_
  intro x k h0 hk
  exact htat_c x k h0 (fun r hr => hk r hr)
theorem htat_at {avs : List AV} {H : List Chunk} {k : K} (h : HD) (h0 : hR h) (ha : argsM H [] [.agg [.v (.int .i64 h.bits), .v (.int .i64 h.size), .v (.int .i64 h.host), .v (.int .i64 h.jr), .v (.bool h.backed)]] avs) (hQ : ∀ r : Int × Int, (r = (h.rend + h.clus, h.rend + h.clus + h.clus)) → k (.agg [.v (.int .i64 r.1), .v (.int .i64 r.2)]) H) : CallP Go.Proofs.Try.prog 105 avs H k :=
  CallP.mk ⟨_, htat_K.real, Con.spec htat_K, (h), [], ⟨h0, rfl, trivial, ha⟩, fun r hr => (numK_eq H.length (fun N => k (AV.ren (fren [] N) (.agg [.v (.int .i64 r.1), .v (.int .i64 r.2)])) (putAll H [] []))).mpr (by simpa [putAll, AV.ren, rens, Cont.ren, recsC, recAV] using hQ r hr)⟩
set_option maxHeartbeats 8000000 in
theorem hfirst_c (h : HD) (k : K) (h0 : hR h) (hk : ∀ r : Int, r = h.first → k (.v (.int .i64 r)) []) : evFunc tab [] p54 Go.Proofs.Try.f54 [.agg [.v (.int .i64 h.bits), .v (.int .i64 h.size), .v (.int .i64 h.host), .v (.int .i64 h.jr), .v (.bool h.backed)]] [] k := by
  have b := h.clus_b
  have b2 := h.jend_b
  have b3 := h.refs_b
  have b4 := h.rend_b
  have d := div_b (n := h.rend + h.clus + h.clus) (u := h.clus) (by omega) (by omega)
  repeat' (first
 | (with_reducible first | exact True.intro | apply And.intro | apply If_true | apply If_false | apply If_not)
 | ((with_reducible apply VC.mk); (first | trivial | omega | (simp only [inR]; omega) | (exact ⟨rfl, List.prefix_rfl⟩) | (refine ⟨rfl, rfl, rfl, ?_, rfl⟩; (simp; done)) | (focus (repeat' (first | exact True.intro | apply And.intro | rfl | exact Nat.le_of_ble_eq_true rfl)); done) | (simp [inR, Cont.cells]; done) | (simp [inR, Cont.cells]; omega)))
 | ((with_reducible apply If_dec) <;> intro hc <;> (try (exfalso; omega)))
 | ((with_reducible apply If_any) <;> intro hc)
 | ((with_reducible first | apply PF.mk | apply DrawP.mk); (focus kernel_rfl))
 | ((with_reducible apply Same.mk); (focus rfl); (first | exact trivial | exact rfl))
 | (intro cap hcap)
 | ((fail_if_success (with_reducible first | apply Fin.mk | apply CallP.mk | apply LoopP.mk | apply VC.mk | apply falseMk | apply Round.mk | apply LookP.mk | apply RangeP.mk | apply NextP.mk | apply EntryP.mk | apply Eq.symm)); conv => whnf))
  refine htat_at h h0 ⟨⟨rfl, rfl, rfl, rfl, rfl, trivial⟩, trivial⟩ ?_
  intro a ha
  subst ha
  repeat' (first
 | (with_reducible first | exact True.intro | apply And.intro | apply If_true | apply If_false | apply If_not)
 | ((with_reducible apply VC.mk); (first | trivial | omega | (simp only [inR]; omega) | (exact ⟨rfl, List.prefix_rfl⟩) | (refine ⟨rfl, rfl, rfl, ?_, rfl⟩; (simp; done)) | (focus (repeat' (first | exact True.intro | apply And.intro | rfl | exact Nat.le_of_ble_eq_true rfl)); done) | (simp [inR, Cont.cells]; done) | (simp [inR, Cont.cells]; omega)))
 | ((with_reducible apply If_dec) <;> intro hc <;> (try (exfalso; omega)))
 | ((with_reducible apply If_any) <;> intro hc)
 | ((with_reducible first | apply PF.mk | apply DrawP.mk); (focus kernel_rfl))
 | ((with_reducible apply Same.mk); (focus rfl); (first | exact trivial | exact rfl))
 | (intro cap hcap)
 | ((fail_if_success (with_reducible first | apply Fin.mk | apply CallP.mk | apply LoopP.mk | apply VC.mk | apply falseMk | apply Round.mk | apply LookP.mk | apply RangeP.mk | apply NextP.mk | apply EntryP.mk | apply Eq.symm)); conv => whnf))
  all_goals (try simp only [cond_true, cond_false] at *)
  refine hclus_at h h0 ⟨⟨rfl, rfl, rfl, rfl, rfl, trivial⟩, trivial⟩ ?_
  intro d hd
  subst hd
  repeat' (first
 | (with_reducible first | exact True.intro | apply And.intro | apply If_true | apply If_false | apply If_not)
 | ((with_reducible apply VC.mk); (first | trivial | omega | (simp only [inR]; omega) | (exact ⟨rfl, List.prefix_rfl⟩) | (refine ⟨rfl, rfl, rfl, ?_, rfl⟩; (simp; done)) | (focus (repeat' (first | exact True.intro | apply And.intro | rfl | exact Nat.le_of_ble_eq_true rfl)); done) | (simp [inR, Cont.cells]; done) | (simp [inR, Cont.cells]; omega)))
 | ((with_reducible apply If_dec) <;> intro hc <;> (try (exfalso; omega)))
 | ((with_reducible apply If_any) <;> intro hc)
 | ((with_reducible first | apply PF.mk | apply DrawP.mk); (focus kernel_rfl))
 | ((with_reducible apply Same.mk); (focus rfl); (first | exact trivial | exact rfl))
 | (intro cap hcap)
 | ((fail_if_success (with_reducible first | apply Fin.mk | apply CallP.mk | apply LoopP.mk | apply VC.mk | apply falseMk | apply Round.mk | apply LookP.mk | apply RangeP.mk | apply NextP.mk | apply EntryP.mk | apply Eq.symm)); conv => whnf))
  all_goals (try simp only [cond_true, cond_false] at *)
  exact Fin.vl (hk _ rfl)
def hfirstOk (x : HD) : Prop := hR x
def hfirstRel (x : HD) (r : Int) : Prop := r = x.first
theorem hfirst_K : ConOk Go.Proofs.Try.prog 54 (Con.of (HD) (Int) (fun x => [.agg [.v (.int .i64 x.bits), .v (.int .i64 x.size), .v (.int .i64 x.host), .v (.int .i64 x.jr), .v (.bool x.backed)]]) (fun _ => []) hfirstOk hfirstRel (fun _ r => .v (.int .i64 r)) (fun _ _ => [])) := by
  refine conOk_rel (T := tab) mix Go.Proofs.Try.func54 (by decide +kernel) (by kernel_rfl) [] p54 (fun n => by rw [Go.Proofs.Try.ntmps54]; exact Nat.le_of_ble_eq_true rfl) (fun x r _ _ => ⟨by simp [AV.noF, noFs, Cont.noF, recsC_noF], (fun c hc => by cases hc), Nat.le_refl _⟩) (fun x _ c hc => by cases hc) ?_
  intro x k h0 hk
  exact hfirst_c x k h0 (fun r hr => hk r hr)
theorem hfirst_at {avs : List AV} {H : List Chunk} {k : K} (h : HD) (h0 : hR h) (ha : argsM H [] [.agg [.v (.int .i64 h.bits), .v (.int .i64 h.size), .v (.int .i64 h.host), .v (.int .i64 h.jr), .v (.bool h.backed)]] avs) (hQ : ∀ r : Int, (r = h.first) → k (.v (.int .i64 r)) H) : CallP Go.Proofs.Try.prog 54 avs H k :=
  CallP.mk ⟨_, hfirst_K.real, Con.spec hfirst_K, (h), [], ⟨h0, rfl, trivial, ha⟩, fun r hr => (numK_eq H.length (fun N => k (AV.ren (fren [] N) (.v (.int .i64 r))) (putAll H [] []))).mpr (by simpa [putAll, AV.ren, rens, Cont.ren, recsC, recAV] using hQ r hr)⟩
set_option maxHeartbeats 8000000 in
theorem hleast_c (h : HD) (k : K) (h0 : hR h) (hk : ∀ r : Int, r = h.least → k (.v (.int .i64 r)) []) : evFunc tab [] p103 Go.Proofs.Try.f103 [.agg [.v (.int .i64 h.bits), .v (.int .i64 h.size), .v (.int .i64 h.host), .v (.int .i64 h.jr), .v (.bool h.backed)]] [] k := by
  have b := h.clus_b
  have b2 := h.jend_b
  have b3 := h.refs_b
  have b4 := h.rend_b
  have m := mul_b (a := h.refs + 18) (u := h.clus) 24594 (by omega) (by omega) (by omega) b.2
  repeat' (first
 | (with_reducible first | exact True.intro | apply And.intro | apply If_true | apply If_false | apply If_not)
 | ((with_reducible apply VC.mk); (first | trivial | omega | (simp only [inR]; omega) | (exact ⟨rfl, List.prefix_rfl⟩) | (refine ⟨rfl, rfl, rfl, ?_, rfl⟩; (simp; done)) | (focus (repeat' (first | exact True.intro | apply And.intro | rfl | exact Nat.le_of_ble_eq_true rfl)); done) | (simp [inR, Cont.cells]; done) | (simp [inR, Cont.cells]; omega)))
 | ((with_reducible apply If_dec) <;> intro hc <;> (try (exfalso; omega)))
 | ((with_reducible apply If_any) <;> intro hc)
 | ((with_reducible first | apply PF.mk | apply DrawP.mk); (focus kernel_rfl))
 | ((with_reducible apply Same.mk); (focus rfl); (first | exact trivial | exact rfl))
 | (intro cap hcap)
 | ((fail_if_success (with_reducible first | apply Fin.mk | apply CallP.mk | apply LoopP.mk | apply VC.mk | apply falseMk | apply Round.mk | apply LookP.mk | apply RangeP.mk | apply NextP.mk | apply EntryP.mk | apply Eq.symm)); conv => whnf))
  refine hrefs_at h h0 ⟨⟨rfl, rfl, rfl, rfl, rfl, trivial⟩, trivial⟩ ?_
  intro a ha
  subst ha
  repeat' (first
 | (with_reducible first | exact True.intro | apply And.intro | apply If_true | apply If_false | apply If_not)
 | ((with_reducible apply VC.mk); (first | trivial | omega | (simp only [inR]; omega) | (exact ⟨rfl, List.prefix_rfl⟩) | (refine ⟨rfl, rfl, rfl, ?_, rfl⟩; (simp; done)) | (focus (repeat' (first | exact True.intro | apply And.intro | rfl | exact Nat.le_of_ble_eq_true rfl)); done) | (simp [inR, Cont.cells]; done) | (simp [inR, Cont.cells]; omega)))
 | ((with_reducible apply If_dec) <;> intro hc <;> (try (exfalso; omega)))
 | ((with_reducible apply If_any) <;> intro hc)
 | ((with_reducible first | apply PF.mk | apply DrawP.mk); (focus kernel_rfl))
 | ((with_reducible apply Same.mk); (focus rfl); (first | exact trivial | exact rfl))
 | (intro cap hcap)
 | ((fail_if_success (with_reducible first | apply Fin.mk | apply CallP.mk | apply LoopP.mk | apply VC.mk | apply falseMk | apply Round.mk | apply LookP.mk | apply RangeP.mk | apply NextP.mk | apply EntryP.mk | apply Eq.symm)); conv => whnf))
  all_goals (try simp only [cond_true, cond_false] at *)
  refine hclus_at h h0 ⟨⟨rfl, rfl, rfl, rfl, rfl, trivial⟩, trivial⟩ ?_
  intro d hd
  subst hd
  repeat' (first
 | (with_reducible first | exact True.intro | apply And.intro | apply If_true | apply If_false | apply If_not)
 | ((with_reducible apply VC.mk); (first | trivial | omega | (simp only [inR]; omega) | (exact ⟨rfl, List.prefix_rfl⟩) | (refine ⟨rfl, rfl, rfl, ?_, rfl⟩; (simp; done)) | (focus (repeat' (first | exact True.intro | apply And.intro | rfl | exact Nat.le_of_ble_eq_true rfl)); done) | (simp [inR, Cont.cells]; done) | (simp [inR, Cont.cells]; omega)))
 | ((with_reducible apply If_dec) <;> intro hc <;> (try (exfalso; omega)))
 | ((with_reducible apply If_any) <;> intro hc)
 | ((with_reducible first | apply PF.mk | apply DrawP.mk); (focus kernel_rfl))
 | ((with_reducible apply Same.mk); (focus rfl); (first | exact trivial | exact rfl))
 | (intro cap hcap)
 | ((fail_if_success (with_reducible first | apply Fin.mk | apply CallP.mk | apply LoopP.mk | apply VC.mk | apply falseMk | apply Round.mk | apply LookP.mk | apply RangeP.mk | apply NextP.mk | apply EntryP.mk | apply Eq.symm)); conv => whnf))
  all_goals (try simp only [cond_true, cond_false] at *)
  refine hclus_at h h0 ⟨⟨rfl, rfl, rfl, rfl, rfl, trivial⟩, trivial⟩ ?_
  intro e he
  subst he
  repeat' (first
 | (with_reducible first | exact True.intro | apply And.intro | apply If_true | apply If_false | apply If_not)
 | ((with_reducible apply VC.mk); (first | trivial | omega | (simp only [inR]; omega) | (exact ⟨rfl, List.prefix_rfl⟩) | (refine ⟨rfl, rfl, rfl, ?_, rfl⟩; (simp; done)) | (focus (repeat' (first | exact True.intro | apply And.intro | rfl | exact Nat.le_of_ble_eq_true rfl)); done) | (simp [inR, Cont.cells]; done) | (simp [inR, Cont.cells]; omega)))
 | ((with_reducible apply If_dec) <;> intro hc <;> (try (exfalso; omega)))
 | ((with_reducible apply If_any) <;> intro hc)
 | ((with_reducible first | apply PF.mk | apply DrawP.mk); (focus kernel_rfl))
 | ((with_reducible apply Same.mk); (focus rfl); (first | exact trivial | exact rfl))
 | (intro cap hcap)
 | ((fail_if_success (with_reducible first | apply Fin.mk | apply CallP.mk | apply LoopP.mk | apply VC.mk | apply falseMk | apply Round.mk | apply LookP.mk | apply RangeP.mk | apply NextP.mk | apply EntryP.mk | apply Eq.symm)); conv => whnf))
  all_goals (try simp only [cond_true, cond_false] at *)
  refine up_at ((h.refs + 18) * h.clus + 4096 + 512) h.clus (by omega) ⟨rfl, rfl, trivial⟩ ?_
  intro r hr
  repeat' (first
 | (with_reducible first | exact True.intro | apply And.intro | apply If_true | apply If_false | apply If_not)
 | ((with_reducible apply VC.mk); (first | trivial | omega | (simp only [inR]; omega) | (exact ⟨rfl, List.prefix_rfl⟩) | (refine ⟨rfl, rfl, rfl, ?_, rfl⟩; (simp; done)) | (focus (repeat' (first | exact True.intro | apply And.intro | rfl | exact Nat.le_of_ble_eq_true rfl)); done) | (simp [inR, Cont.cells]; done) | (simp [inR, Cont.cells]; omega)))
 | ((with_reducible apply If_dec) <;> intro hc <;> (try (exfalso; omega)))
 | ((with_reducible apply If_any) <;> intro hc)
 | ((with_reducible first | apply PF.mk | apply DrawP.mk); (focus kernel_rfl))
 | ((with_reducible apply Same.mk); (focus rfl); (first | exact trivial | exact rfl))
 | (intro cap hcap)
 | ((fail_if_success (with_reducible first | apply Fin.mk | apply CallP.mk | apply LoopP.mk | apply VC.mk | apply falseMk | apply Round.mk | apply LookP.mk | apply RangeP.mk | apply NextP.mk | apply EntryP.mk | apply Eq.symm)); conv => whnf))
  exact Fin.vl (hk _ (by rw [hr]; rfl))
def hleastOk (x : HD) : Prop := hR x
def hleastRel (x : HD) (r : Int) : Prop := r = x.least
theorem hleast_K : ConOk Go.Proofs.Try.prog 103 (Con.of (HD) (Int) (fun x => [.agg [.v (.int .i64 x.bits), .v (.int .i64 x.size), .v (.int .i64 x.host), .v (.int .i64 x.jr), .v (.bool x.backed)]]) (fun _ => []) hleastOk hleastRel (fun _ r => .v (.int .i64 r)) (fun _ _ => [])) := by
  refine conOk_rel (T := tab) mix Go.Proofs.Try.func103 (by decide +kernel) (by kernel_rfl) [] p103 (fun n => by rw [Go.Proofs.Try.ntmps103]; exact Nat.le_of_ble_eq_true rfl) (fun x r _ _ => ⟨by simp [AV.noF, noFs, Cont.noF, recsC_noF], (fun c hc => by cases hc), Nat.le_refl _⟩) (fun x _ c hc => by cases hc) ?_
  intro x k h0 hk
  exact hleast_c x k h0 (fun r hr => hk r hr)
theorem hleast_at {avs : List AV} {H : List Chunk} {k : K} (h : HD) (h0 : hR h) (ha : argsM H [] [.agg [.v (.int .i64 h.bits), .v (.int .i64 h.size), .v (.int .i64 h.host), .v (.int .i64 h.jr), .v (.bool h.backed)]] avs) (hQ : ∀ r : Int, (r = h.least) → k (.v (.int .i64 r)) H) : CallP Go.Proofs.Try.prog 103 avs H k :=
  CallP.mk ⟨_, hleast_K.real, Con.spec hleast_K, (h), [], ⟨h0, rfl, trivial, ha⟩, fun r hr => (numK_eq H.length (fun N => k (AV.ren (fren [] N) (.v (.int .i64 r))) (putAll H [] []))).mpr (by simpa [putAll, AV.ren, rens, Cont.ren, recsC, recAV] using hQ r hr)⟩
set_option maxHeartbeats 8000000 in
theorem hcheck_c (h : HD) (k : K) (h0 : hR h) (hk : ∀ r : Int, r = h.checkV → k (.v (.int .i64 r)) []) : evFunc tab [] p52 Go.Proofs.Try.f52 [.agg [.v (.int .i64 h.bits), .v (.int .i64 h.size), .v (.int .i64 h.host), .v (.int .i64 h.jr), .v (.bool h.backed)]] [] k := by
  have b := h.clus_b
  have b2 := h.jend_b
  have b3 := h.refs_b
  have b4 := h.rend_b
  have f1 := div_b (n := h.rend + h.clus + h.clus) (u := h.clus) (by omega) (by omega)
  have m := mul_b (a := h.refs + 18) (u := h.clus) 24594 (by omega) (by omega) (by omega) b.2
  have f2 := div_b (n := (h.refs + 18) * h.clus + 4096 + 512 + h.clus - 1) (u := h.clus) (by omega) (by omega)
  have f3 := div_b (n := max 0 (min h.size 16777216) + h.clus - 1) (u := h.clus) (by omega) (by omega)
  have f4 : 0 ≤ h.clus / 8 ∧ h.clus / 8 ≤ 512 := by omega
  have f5 := mul_b (a := h.clus / 8) (u := h.clus / 8) 512 f4.1 f4.2 f4.1 (by omega)
  have f6 : 0 ≤ h.host → h.host ≤ 8192 → 0 ≤ h.host * h.clus ∧ h.host * h.clus ≤ 33554432 := fun a c => mul_b 8192 a c (by omega) b.2
  have u1 : h.guest = (max 0 (min h.size 16777216) + h.clus - 1) / h.clus := rfl
  have u2 : h.least = ((h.refs + 18) * h.clus + 4096 + 512 + h.clus - 1) / h.clus := rfl
  have u3 : h.first = (h.rend + h.clus + h.clus) / h.clus := rfl
  rw [← u1] at f3
  rw [← u2] at f2
  rw [← u3] at f1
  repeat' (first
 | (with_reducible first | exact True.intro | apply And.intro | apply If_true | apply If_false | apply If_not)
 | ((with_reducible apply VC.mk); (first | trivial | omega | (simp only [inR]; omega) | (exact ⟨rfl, List.prefix_rfl⟩) | (refine ⟨rfl, rfl, rfl, ?_, rfl⟩; (simp; done)) | (focus (repeat' (first | exact True.intro | apply And.intro | rfl | exact Nat.le_of_ble_eq_true rfl)); done) | (simp [inR, Cont.cells]; done) | (simp [inR, Cont.cells]; omega)))
 | ((with_reducible apply If_dec) <;> intro hc <;> (try (exfalso; omega)))
 | ((with_reducible apply If_any) <;> intro hc)
 | ((with_reducible first | apply PF.mk | apply DrawP.mk); (focus kernel_rfl))
 | ((with_reducible apply Same.mk); (focus rfl); (first | exact trivial | exact rfl))
 | (intro cap hcap)
 | ((fail_if_success (with_reducible first | apply Fin.mk | apply CallP.mk | apply LoopP.mk | apply VC.mk | apply falseMk | apply Round.mk | apply LookP.mk | apply RangeP.mk | apply NextP.mk | apply EntryP.mk | apply Eq.symm)); conv => whnf))
  all_goals (try simp only [cond_true, cond_false] at *)
  all_goals (try (refine Fin.vl (hk _ ?_); unfold HD.checkV; repeat (first | rw [if_pos (by omega)] | rw [if_neg (by omega)])))
  refine hguest_at h h0 ⟨⟨rfl, rfl, rfl, rfl, rfl, trivial⟩, trivial⟩ ?_
  intro a ha
  subst ha
  repeat' (first
 | (with_reducible first | exact True.intro | apply And.intro | apply If_true | apply If_false | apply If_not)
 | ((with_reducible apply VC.mk); (first | trivial | omega | (simp only [inR]; omega) | (exact ⟨rfl, List.prefix_rfl⟩) | (refine ⟨rfl, rfl, rfl, ?_, rfl⟩; (simp; done)) | (focus (repeat' (first | exact True.intro | apply And.intro | rfl | exact Nat.le_of_ble_eq_true rfl)); done) | (simp [inR, Cont.cells]; done) | (simp [inR, Cont.cells]; omega)))
 | ((with_reducible apply If_dec) <;> intro hc <;> (try (exfalso; omega)))
 | ((with_reducible apply If_any) <;> intro hc)
 | ((with_reducible first | apply PF.mk | apply DrawP.mk); (focus kernel_rfl))
 | ((with_reducible apply Same.mk); (focus rfl); (first | exact trivial | exact rfl))
 | (intro cap hcap)
 | ((fail_if_success (with_reducible first | apply Fin.mk | apply CallP.mk | apply LoopP.mk | apply VC.mk | apply falseMk | apply Round.mk | apply LookP.mk | apply RangeP.mk | apply NextP.mk | apply EntryP.mk | apply Eq.symm)); conv => whnf))
  all_goals (try simp only [cond_true, cond_false] at *)
  all_goals (try (refine Fin.vl (hk _ ?_); unfold HD.checkV; repeat (first | rw [if_pos (by omega)] | rw [if_neg (by omega)])))
  refine hentries_at h h0 ⟨⟨rfl, rfl, rfl, rfl, rfl, trivial⟩, trivial⟩ ?_
  intro c hc
  subst hc
  repeat' (first
 | (with_reducible first | exact True.intro | apply And.intro | apply If_true | apply If_false | apply If_not)
 | ((with_reducible apply VC.mk); (first | trivial | omega | (simp only [inR]; omega) | (exact ⟨rfl, List.prefix_rfl⟩) | (refine ⟨rfl, rfl, rfl, ?_, rfl⟩; (simp; done)) | (focus (repeat' (first | exact True.intro | apply And.intro | rfl | exact Nat.le_of_ble_eq_true rfl)); done) | (simp [inR, Cont.cells]; done) | (simp [inR, Cont.cells]; omega)))
 | ((with_reducible apply If_dec) <;> intro hc <;> (try (exfalso; omega)))
 | ((with_reducible apply If_any) <;> intro hc)
 | ((with_reducible first | apply PF.mk | apply DrawP.mk); (focus kernel_rfl))
 | ((with_reducible apply Same.mk); (focus rfl); (first | exact trivial | exact rfl))
 | (intro cap hcap)
 | ((fail_if_success (with_reducible first | apply Fin.mk | apply CallP.mk | apply LoopP.mk | apply VC.mk | apply falseMk | apply Round.mk | apply LookP.mk | apply RangeP.mk | apply NextP.mk | apply EntryP.mk | apply Eq.symm)); conv => whnf))
  all_goals (try simp only [cond_true, cond_false] at *)
  all_goals (try (refine Fin.vl (hk _ ?_); unfold HD.checkV; repeat (first | rw [if_pos (by omega)] | rw [if_neg (by omega)])))
  refine hentries_at h h0 ⟨⟨rfl, rfl, rfl, rfl, rfl, trivial⟩, trivial⟩ ?_
  intro d hd
  subst hd
  repeat' (first
 | (with_reducible first | exact True.intro | apply And.intro | apply If_true | apply If_false | apply If_not)
 | ((with_reducible apply VC.mk); (first | trivial | omega | (simp only [inR]; omega) | (exact ⟨rfl, List.prefix_rfl⟩) | (refine ⟨rfl, rfl, rfl, ?_, rfl⟩; (simp; done)) | (focus (repeat' (first | exact True.intro | apply And.intro | rfl | exact Nat.le_of_ble_eq_true rfl)); done) | (simp [inR, Cont.cells]; done) | (simp [inR, Cont.cells]; omega)))
 | ((with_reducible apply If_dec) <;> intro hc <;> (try (exfalso; omega)))
 | ((with_reducible apply If_any) <;> intro hc)
 | ((with_reducible first | apply PF.mk | apply DrawP.mk); (focus kernel_rfl))
 | ((with_reducible apply Same.mk); (focus rfl); (first | exact trivial | exact rfl))
 | (intro cap hcap)
 | ((fail_if_success (with_reducible first | apply Fin.mk | apply CallP.mk | apply LoopP.mk | apply VC.mk | apply falseMk | apply Round.mk | apply LookP.mk | apply RangeP.mk | apply NextP.mk | apply EntryP.mk | apply Eq.symm)); conv => whnf))
  all_goals (try simp only [cond_true, cond_false] at *)
  all_goals (try (refine Fin.vl (hk _ ?_); unfold HD.checkV; repeat (first | rw [if_pos (by omega)] | rw [if_neg (by omega)])))
  refine hclus_at h h0 ⟨⟨rfl, rfl, rfl, rfl, rfl, trivial⟩, trivial⟩ ?_
  intro e he
  subst he
  repeat' (first
 | (with_reducible first | exact True.intro | apply And.intro | apply If_true | apply If_false | apply If_not)
 | ((with_reducible apply VC.mk); (first | trivial | omega | (simp only [inR]; omega) | (exact ⟨rfl, List.prefix_rfl⟩) | (refine ⟨rfl, rfl, rfl, ?_, rfl⟩; (simp; done)) | (focus (repeat' (first | exact True.intro | apply And.intro | rfl | exact Nat.le_of_ble_eq_true rfl)); done) | (simp [inR, Cont.cells]; done) | (simp [inR, Cont.cells]; omega)))
 | ((with_reducible apply If_dec) <;> intro hc <;> (try (exfalso; omega)))
 | ((with_reducible apply If_any) <;> intro hc)
 | ((with_reducible first | apply PF.mk | apply DrawP.mk); (focus kernel_rfl))
 | ((with_reducible apply Same.mk); (focus rfl); (first | exact trivial | exact rfl))
 | (intro cap hcap)
 | ((fail_if_success (with_reducible first | apply Fin.mk | apply CallP.mk | apply LoopP.mk | apply VC.mk | apply falseMk | apply Round.mk | apply LookP.mk | apply RangeP.mk | apply NextP.mk | apply EntryP.mk | apply Eq.symm)); conv => whnf))
  all_goals (try simp only [cond_true, cond_false] at *)
  all_goals (try (refine Fin.vl (hk _ ?_); unfold HD.checkV; repeat (first | rw [if_pos (by omega)] | rw [if_neg (by omega)])))
  refine hleast_at h h0 ⟨⟨rfl, rfl, rfl, rfl, rfl, trivial⟩, trivial⟩ ?_
  intro f hf
  subst hf
  repeat' (first
 | (with_reducible first | exact True.intro | apply And.intro | apply If_true | apply If_false | apply If_not)
 | ((with_reducible apply VC.mk); (first | trivial | omega | (simp only [inR]; omega) | (exact ⟨rfl, List.prefix_rfl⟩) | (refine ⟨rfl, rfl, rfl, ?_, rfl⟩; (simp; done)) | (focus (repeat' (first | exact True.intro | apply And.intro | rfl | exact Nat.le_of_ble_eq_true rfl)); done) | (simp [inR, Cont.cells]; done) | (simp [inR, Cont.cells]; omega)))
 | ((with_reducible apply If_dec) <;> intro hc <;> (try (exfalso; omega)))
 | ((with_reducible apply If_any) <;> intro hc)
 | ((with_reducible first | apply PF.mk | apply DrawP.mk); (focus kernel_rfl))
 | ((with_reducible apply Same.mk); (focus rfl); (first | exact trivial | exact rfl))
 | (intro cap hcap)
 | ((fail_if_success (with_reducible first | apply Fin.mk | apply CallP.mk | apply LoopP.mk | apply VC.mk | apply falseMk | apply Round.mk | apply LookP.mk | apply RangeP.mk | apply NextP.mk | apply EntryP.mk | apply Eq.symm)); conv => whnf))
  all_goals (try simp only [cond_true, cond_false] at *)
  all_goals (try (refine Fin.vl (hk _ ?_); unfold HD.checkV; repeat (first | rw [if_pos (by omega)] | rw [if_neg (by omega)])))
  refine hfirst_at h h0 ⟨⟨rfl, rfl, rfl, rfl, rfl, trivial⟩, trivial⟩ ?_
  intro g hg
  subst hg
  repeat' (first
 | (with_reducible first | exact True.intro | apply And.intro | apply If_true | apply If_false | apply If_not)
 | ((with_reducible apply VC.mk); (first | trivial | omega | (simp only [inR]; omega) | (exact ⟨rfl, List.prefix_rfl⟩) | (refine ⟨rfl, rfl, rfl, ?_, rfl⟩; (simp; done)) | (focus (repeat' (first | exact True.intro | apply And.intro | rfl | exact Nat.le_of_ble_eq_true rfl)); done) | (simp [inR, Cont.cells]; done) | (simp [inR, Cont.cells]; omega)))
 | ((with_reducible apply If_dec) <;> intro hc <;> (try (exfalso; omega)))
 | ((with_reducible apply If_any) <;> intro hc)
 | ((with_reducible first | apply PF.mk | apply DrawP.mk); (focus kernel_rfl))
 | ((with_reducible apply Same.mk); (focus rfl); (first | exact trivial | exact rfl))
 | (intro cap hcap)
 | ((fail_if_success (with_reducible first | apply Fin.mk | apply CallP.mk | apply LoopP.mk | apply VC.mk | apply falseMk | apply Round.mk | apply LookP.mk | apply RangeP.mk | apply NextP.mk | apply EntryP.mk | apply Eq.symm)); conv => whnf))
  all_goals (try simp only [cond_true, cond_false] at *)
  all_goals (try (refine Fin.vl (hk _ ?_); unfold HD.checkV; repeat (first | rw [if_pos (by omega)] | rw [if_neg (by omega)])))
def hcheckOk (x : HD) : Prop := hR x
def hcheckRel (x : HD) (r : Int) : Prop := r = x.checkV
theorem hcheck_K : ConOk Go.Proofs.Try.prog 52 (Con.of (HD) (Int) (fun x => [.agg [.v (.int .i64 x.bits), .v (.int .i64 x.size), .v (.int .i64 x.host), .v (.int .i64 x.jr), .v (.bool x.backed)]]) (fun _ => []) hcheckOk hcheckRel (fun _ r => .v (.int .i64 r)) (fun _ _ => [])) := by
  refine conOk_rel (T := tab) mix Go.Proofs.Try.func52 (by decide +kernel) (by kernel_rfl) [] p52 (fun n => by rw [Go.Proofs.Try.ntmps52]; exact Nat.le_of_ble_eq_true rfl) (fun x r _ _ => ⟨by simp [AV.noF, noFs, Cont.noF, recsC_noF], (fun c hc => by cases hc), Nat.le_refl _⟩) (fun x _ c hc => by cases hc) ?_
  intro x k h0 hk
  exact hcheck_c x k h0 (fun r hr => hk r hr)
theorem hcheck_at {avs : List AV} {H : List Chunk} {k : K} (h : HD) (h0 : hR h) (ha : argsM H [] [.agg [.v (.int .i64 h.bits), .v (.int .i64 h.size), .v (.int .i64 h.host), .v (.int .i64 h.jr), .v (.bool h.backed)]] avs) (hQ : ∀ r : Int, (r = h.checkV) → k (.v (.int .i64 r)) H) : CallP Go.Proofs.Try.prog 52 avs H k :=
  CallP.mk ⟨_, hcheck_K.real, Con.spec hcheck_K, (h), [], ⟨h0, rfl, trivial, ha⟩, fun r hr => (numK_eq H.length (fun N => k (AV.ren (fren [] N) (.v (.int .i64 r))) (putAll H [] []))).mpr (by simpa [putAll, AV.ren, rens, Cont.ren, recsC, recAV] using hQ r hr)⟩
end Go.Proofs.Ytjccknmgmommcaa.Sx


set_option maxRecDepth 10000
namespace Go.Proofs.Ytjccknmgmommcaa.Sx
open Go.RowKit Go.Proofs.Ytjccknmgmommcaa.Sx.Tb
/-! ### Entries -/
structure ER where
  kind : Int
  cl : Int
  own : Bool
  deriving DecidableEq
end Go.Proofs.Ytjccknmgmommcaa.Sx


set_option maxRecDepth 10000
namespace Go.Proofs.Ytjccknmgmommcaa.Sx
open Go.RowKit Go.Proofs.Ytjccknmgmommcaa.Sx.Tb
/-! ### Begin -/
def TR.zero : TR := ⟨[], [], 0, false⟩
theorem nth_lt {H : List Chunk} {i : Nat} {c : Chunk} (h : nth H i = some c) : Nat.blt i H.length = true := by
  rw [nth_eq] at h
  rw [Nat.blt_eq]
  exact lt_of_get h
theorem T5.leG {H : List Chunk} {fz : List Nat} {f : Nat → Nat} {ph : Nat → Bool} {t : TR} {j : JR} {s : DF} {a b c d e : Nat} {σ : List Nat} {cs : List Chunk} (f1 : f 1 = b) (f2 : f 2 = c) (f3 : f 3 = d) (f4 : f 4 = e) (h0 : nth H a = some (t.c0 d b c)) (h1 : nth H b = some t.c1) (h2 : nth H c = some t.c2) (h3 : nth H d = some (j.blk e)) (h4 : nth H e = some s.pk) (hz : memN a fz = false ∧ memN b fz = false ∧ memN c fz = false ∧ memN d fz = false ∧ memN e fz = false) (hx : chunksLe H fz f ph σ cs) : chunksLe H fz f ph (a :: b :: c :: d :: e :: σ) (tpre t j s ++ cs) := by
  refine ⟨?_, ?_, ?_, ?_, ?_, hx⟩
  · unfold Chunk.le TR.c0
    simp only
    rw [nth_lt h0, hz.1, h0]
    exact ⟨VC.mk ⟨rfl, rfl⟩, VC.mk ⟨f3, rfl, rfl, rfl⟩, VC.mk f1, VC.mk ⟨f2, rfl, rfl, rfl, rfl⟩, VC.mk rfl, trivial⟩
  · unfold Chunk.le TR.c1
    simp only
    rw [nth_lt h1, hz.2.1, h1]
    exact ⟨VC.mk ⟨rfl, .inl trivial⟩, arr_les t.dirty⟩
  · unfold Chunk.le TR.c2
    simp only
    rw [nth_lt h2, hz.2.2.1, h2]
    exact ⟨VC.mk ⟨rfl, rfl⟩, VC.mk ⟨rfl, Nat.le_refl _⟩, fun j _ => recs_les _⟩
  · unfold Chunk.le JR.blk
    simp only
    rw [nth_lt h3, hz.2.2.2.1, h3]
    exact ⟨VC.mk ⟨rfl, rfl⟩, VC.mk ⟨f4, rfl, rfl, rfl⟩, VC.mk rfl, VC.mk rfl, VC.mk rfl, trivial⟩
  · unfold Chunk.le DF.pk
    simp only
    rw [nth_lt h4, hz.2.2.2.2, h4]
    exact VC.mk ⟨rfl, rfl, rfl, rfl⟩
theorem begin_c (j : JR) (s : DF) (k : K) (hk : k (.tup [.p 2 0 1 0, .v (.int .i64 0)]) [j.blk 1, s.pk, TR.zero.c0 0 3 4, TR.zero.c1, TR.zero.c2]) : evFunc tab [] [] Go.Proofs.Try.f78 [.p 0 0 1 0] [j.blk 1, s.pk] k := by
  repeat' (first
 | (with_reducible first | exact True.intro | apply And.intro | apply If_true | apply If_false | apply If_not)
 | ((with_reducible apply VC.mk); (first | trivial | omega | (simp only [inR]; omega) | (exact ⟨rfl, List.prefix_rfl⟩) | (refine ⟨rfl, rfl, rfl, ?_, rfl⟩; (simp; done)) | (focus (repeat' (first | exact True.intro | apply And.intro | rfl | exact Nat.le_of_ble_eq_true rfl)); done) | (simp [inR, Cont.cells]; done) | (simp [inR, Cont.cells]; omega)))
 | ((with_reducible apply If_dec) <;> intro hc <;> (try (exfalso; omega)))
 | ((with_reducible apply If_any) <;> intro hc)
 | ((with_reducible first | apply PF.mk | apply DrawP.mk); (focus kernel_rfl))
 | ((with_reducible apply Same.mk); (focus rfl); (first | exact trivial | exact rfl))
 | (intro cap hcap)
 | ((fail_if_success (with_reducible first | apply Fin.mk | apply CallP.mk | apply LoopP.mk | apply VC.mk | apply falseMk | apply Round.mk | apply LookP.mk | apply RangeP.mk | apply NextP.mk | apply EntryP.mk | apply Eq.symm)); conv => whnf))
  refine Fin.ren [0, 1, 3, 2, 4] [] (.tup [.p 2 0 1 0, .v (.int .i64 0)]) [j.blk 1, s.pk, TR.zero.c0 0 3 4, TR.zero.c1, TR.zero.c2] rfl rfl trivial ⟨⟨VC.mk ⟨rfl, rfl⟩, VC.mk ⟨rfl, rfl, rfl, rfl⟩, VC.mk rfl, VC.mk rfl, VC.mk rfl, trivial⟩, VC.mk ⟨rfl, rfl, rfl, rfl⟩, ⟨VC.mk ⟨rfl, rfl⟩, VC.mk ⟨rfl, rfl, rfl, rfl⟩, VC.mk rfl, VC.mk ⟨rfl, rfl⟩, VC.mk rfl, trivial⟩, ⟨VC.mk ⟨rfl, .inl rfl⟩, trivial⟩, ⟨VC.mk rfl, VC.mk rfl⟩, trivial⟩ ⟨VC.mk ⟨rfl, rfl, rfl, rfl⟩, VC.mk rfl, trivial⟩ hk
theorem begin_K : ConOk Go.Proofs.Try.prog 78 (Con.of (JR × DF) Unit (fun _ => [.p 0 0 1 0]) (fun x => [x.1.blk 1, x.2.pk]) (fun _ => True) (fun _ _ => True) (fun _ _ => .tup [.p 2 0 1 0, .v (.int .i64 0)]) (fun x _ => [x.1.blk 1, x.2.pk, TR.zero.c0 0 3 4, TR.zero.c1, TR.zero.c2])) := by
  refine conOk_rel (T := tab) mix Go.Proofs.Try.func78 (by decide +kernel) (by kernel_rfl) [] [] (fun n => by rw [Go.Proofs.Try.ntmps78]; exact Nat.le_of_ble_eq_true rfl) (fun x r _ _ => ⟨⟨trivial, trivial, trivial⟩, (fun c hc => ?_), (by show 2 ≤ 5; decide)⟩) (fun x _ => J2.nd) (fun x k _ hk => begin_c x.1 x.2 k (hk () trivial))
  simp at hc
  rcases hc with rfl | rfl | rfl | rfl | rfl
  · exact JR.noF _ _
  · exact DF.pk_noF _
  · exact .blk ⟨trivial, trivial, trivial, trivial, trivial⟩
  · exact .mp trivial
  · exact .blk (recsC_noF _)
theorem begin_at {avs : List AV} {H : List Chunk} {k : K} (j : JR) (s : DF) (a b : Nat) (hab : nodupN [a, b] = true) (ha0 : nth H a = some (j.blk b)) (hb0 : nth H b = some s.pk) (ha : argsM H [a, b] [.p 0 0 1 0] avs)
    (hQ : k (.tup [.p H.length 0 1 0, .v (.int .i64 0)]) (((H.set a (j.blk b)).set b s.pk) ++ [TR.zero.c0 a (H.length + 1) (H.length + 2), TR.zero.c1, TR.zero.c2])) : CallP Go.Proofs.Try.prog 78 avs H k :=
  CallP.mk ⟨_, begin_K.real, Con.spec begin_K, (j, s), [a, b], ⟨trivial, hab, ⟨ha0, hb0, trivial⟩, ha⟩, fun _ _ => (numK_eq _ _).mpr (by simpa [putAll, TR.c0_ren, TR.c1_ren, TR.c2_ren, JR.blk_ren, DF.pk_ren, AV.ren, rens, fren, nth] using hQ)⟩
/-! ### Tables -/
def HD.m : HD := ⟨9, 32768, 60, 29, false⟩
end Go.Proofs.Ytjccknmgmommcaa.Sx


set_option maxRecDepth 10000
namespace Go.Proofs.Ytjccknmgmommcaa.Sx
/-! ### What is seen behind a Put, plain -/
theorem lkS_upS (n m : Int) (v : List Int) : ∀ (d : List (Int × List Int)), lkS n (upS m v d) = if n = m then some v else lkS n d
  | [] => by
    show (if m = n then _ else _) = _
    by_cases h : n = m
    · rw [if_pos h, if_pos h.symm]
    · rw [if_neg h, if_neg (fun e => h e.symm)]
  | (a, u) :: r => by
    unfold upS
    by_cases h : a = m
    · rw [if_pos h]
      show (if a = n then _ else _) = _
      subst h
      by_cases h2 : n = a
      · rw [if_pos h2, if_pos h2.symm]
      · rw [if_neg h2, if_neg (fun e => h2 e.symm)]
        show _ = (if a = n then _ else _)
        rw [if_neg (fun e => h2 e.symm)]
    · rw [if_neg h]
      show (if a = n then _ else _) = _
      by_cases h2 : a = n
      · rw [if_pos h2, if_neg (by omega)]
        show _ = (if a = n then _ else _)
        rw [if_pos h2]
      · rw [if_neg h2, lkS_upS n m v r]
        show _ = (if n = m then _ else (if a = n then _ else _))
        rw [if_neg h2]
theorem wr1_sec (t : TR) (now : List Int) (a : Nat) (xs : List Int) (n : Nat) : (t.wr1 now a xs).sec now n = if n = a / 512 then putG (t.sec now (a / 512 : Nat)) (a % 512) xs else t.sec now n := by
  unfold TR.sec
  show (match lkS (n : Int) (upS _ _ _) with | some l => l | none => _) = _
  rw [lkS_upS]
  by_cases h : n = a / 512
  · subst h
    rw [if_pos rfl, if_pos rfl]
    rfl
  · rw [if_neg h, if_neg (by omega)]
    rfl
theorem wr1_V {t : TR} (ht : t.Ok) (now : List Int) (a : Nat) (xs : List Int) (hx : a % 512 + xs.length ≤ 512) (i : Nat) : (t.wr1 now a xs).V now i = if a ≤ i ∧ i < a + xs.length then xs.getD (i - a) 0 else t.V now i := by
  unfold TR.V
  rw [wr1_sec]
  have hl := ht.sec_length now (a / 512 : Nat) (by omega)
  by_cases h : i / 512 = a / 512
  · rw [if_pos h, putG_get (by omega)]
    by_cases h2 : a ≤ i ∧ i < a + xs.length
    · rw [if_pos h2, if_pos (by omega), show i % 512 - a % 512 = i - a by omega]
    · rw [if_neg h2, if_neg (by omega), h]
  · rw [if_neg h, if_neg (by omega)]
theorem putF_V : ∀ (f : Nat) (t : TR) (now : List Int) (a : Nat) (p : List Int), t.Ok → p.length ≤ f → (TR.putF f t now a p).Ok ∧ (TR.putF f t now a p).fresh = t.fresh ∧ (TR.putF f t now a p).over = t.over ∧ (TR.putF f t now a p).cap = t.cap ∧ ∀ i, (TR.putF f t now a p).V now i = if a ≤ i ∧ i < a + p.length then p.getD (i - a) 0 else t.V now i
  | 0, t, now, a, p, h, hp => ⟨h, rfl, rfl, rfl, fun i => by rw [if_neg (by omega)]; rfl⟩
  | f + 1, t, now, a, p, h, hp => by
    by_cases h0 : p.length = 0
    · rw [putF_nil _ _ _ _ _ h0]
      exact ⟨h, rfl, rfl, rfl, fun i => by rw [if_neg (by omega)]⟩
    · have e : TR.putF (f + 1) t now a p = TR.putF f (t.wr1 now a (p.take (min p.length (512 - a % 512)))) now (a + min p.length (512 - a % 512)) (p.drop (min p.length (512 - a % 512))) := by
        show (if _ then _ else _) = _; rw [if_neg h0]
      rw [e]
      generalize hk : min p.length (512 - a % 512) = k
      have hkl : (p.take k).length = k := by rw [List.length_take]; omega
      have hdl : (p.drop k).length = p.length - k := List.length_drop ..
      have ho := h.wr1 now a (p.take k) (by omega)
      obtain ⟨i1, i2, i3, i4, i5⟩ := putF_V f (t.wr1 now a (p.take k)) now (a + k) (p.drop k) ho (by omega)
      refine ⟨i1, i2, i3, i4, fun i => ?_⟩
      rw [i5, wr1_V h now a _ (by omega), hkl, hdl]
      by_cases c1 : a + k ≤ i ∧ i < a + k + (p.length - k)
      · rw [if_pos c1, if_pos (by omega)]
        rw [List.getD_eq_getElem?_getD, List.getElem?_drop, List.getD_eq_getElem?_getD, show k + (i - (a + k)) = i - a by omega]
      · rw [if_neg c1]
        by_cases c2 : a ≤ i ∧ i < a + k
        · rw [if_pos c2, if_pos (by omega), List.getD_eq_getElem?_getD, List.getElem?_take, if_pos (by omega), List.getD_eq_getElem?_getD]
        · rw [if_neg c2, if_neg (by omega)]
theorem put_V {t : TR} (h : t.Ok) (now : List Int) (a : Nat) (p : List Int) : (t.put now a p).Ok ∧ (t.put now a p).fresh = t.fresh ∧ (t.put now a p).over = t.over ∧ (t.put now a p).cap = t.cap ∧ ∀ i, (t.put now a p).V now i = if a ≤ i ∧ i < a + p.length then p.getD (i - a) 0 else t.V now i := putF_V _ t now a p h (Nat.le_refl _)
theorem TR.rd_get (t : TR) (now : List Int) (a n i : Nat) (h : i < n) : (t.rd now a n).getD i 0 = t.V now (a + i) := by
  unfold TR.rd
  rw [List.getD_eq_getElem?_getD, List.getElem?_map, List.getElem?_range h]
  rfl
theorem rd_congr {t t' : TR} {now now' : List Int} {a n : Nat} (h : ∀ i, i < n → t.V now (a + i) = t'.V now' (a + i)) : t.rd now a n = t'.rd now' a n := by
  unfold TR.rd
  exact List.map_congr_left (fun i hi => h i (List.mem_range.1 hi))
/-- What is put is read. -/
theorem put_rd {t : TR} (h : t.Ok) (now : List Int) (a : Nat) (p : List Int) : (t.put now a p).rd now a p.length = p := by
  refine ext_getD (by rw [TR.rd_length]) (fun i hi => ?_)
  rw [TR.rd_length] at hi
  rw [TR.rd_get _ _ _ _ _ hi, (put_V h now a p).2.2.2.2, if_pos ⟨by omega, by omega⟩, show a + i - a = i by omega]
/-- All bytes are bytes. -/
def TR.B (t : TR) (now : List Int) : Prop := ∀ i, 0 ≤ t.V now i ∧ t.V now i < 256
theorem TR.B.rd {t : TR} {now : List Int} (h : t.B now) (a n : Nat) : B8 (t.rd now a n) := by
  intro x hx
  unfold TR.rd at hx
  rw [List.mem_map] at hx
  obtain ⟨i, -, rfl⟩ := hx
  exact h _
theorem TR.B.put {t : TR} {now : List Int} (h : t.B now) (ho : t.Ok) (a : Nat) {p : List Int} (hp : B8 p) : (t.put now a p).B now := by
  intro i
  rw [(put_V ho now a p).2.2.2.2]
  split
  · exact hp.getD _
  · exact h i
theorem zero_V (now : List Int) (i : Nat) : TR.zero.V now i = now.getD i 0 := by
  unfold TR.V TR.sec
  show (secF now ((i / 512 : Nat) : Int)).getD (i % 512) 0 = _
  unfold secF padS
  have e : (512 * ((i / 512 : Nat) : Int)).toNat = 512 * (i / 512) := by omega
  rw [e]
  by_cases h : i % 512 < ((now.drop (512 * (i / 512))).take 512).length
  · rw [List.getD_eq_getElem?_getD, List.getElem?_append_left h, List.getElem?_take, if_pos (by omega), List.getElem?_drop, List.getD_eq_getElem?_getD, show 512 * (i / 512) + i % 512 = i by omega]
  · rw [List.getD_eq_getElem?_getD, List.getElem?_append_right (by omega), List.getElem?_replicate]
    rw [List.length_take, List.length_drop] at h
    rw [getD_of_le (l := now) (by omega)]
    split <;> rfl
end Go.Proofs.Ytjccknmgmommcaa.Sx


set_option maxRecDepth 10000
namespace Go.Proofs.Ytjccknmgmommcaa.Sx
open Go.RowKit Go.Proofs.Ytjccknmgmommcaa.Sx.Tb
/-! ### Fresh -/
/-- The same five, the row of fresh ones under a new number. -/
def tmv (t : TR) (j : JR) (s : DF) : List Chunk := [t.c0 3 1 5, t.c1, .dead, j.blk 4, s.pk, t.c2]
theorem c2_le {H : List Chunk} {fz : List Nat} {f : Nat → Nat} {ph : Nat → Bool} {t : TR} {c : Nat} (h : nth H c = some t.c2) (hz : memN c fz = false) : (t.c2).le H fz f ph c := by
  unfold Chunk.le TR.c2
  simp only
  rw [nth_lt h, hz, h]
  exact ⟨VC.mk ⟨rfl, rfl⟩, VC.mk ⟨rfl, Nat.le_refl _⟩, fun j _ => recs_les _⟩
theorem M6.good {t : TR} {j : JR} {s : DF} {v : AV} (h : v.noF) : Good 5 v (tmv t j s) := by
  refine ⟨h, fun c hc => ?_, Nat.le_of_ble_eq_true rfl⟩
  simp [tmv] at hc
  rcases hc with rfl | rfl | rfl | rfl | rfl | rfl
  · exact .blk ⟨trivial, trivial, trivial, trivial, trivial⟩
  · exact .mp (arr_noF t.dirty)
  · exact .dead
  · exact j.noF _
  · exact s.pk_noF
  · exact .blk (recsC_noF _)
end Go.Proofs.Ytjccknmgmommcaa.Sx


set_option maxRecDepth 10000
namespace Go.Proofs.Ytjccknmgmommcaa.Sx
open Go.RowKit Go.Proofs.Ytjccknmgmommcaa.Sx.Tb
/-! ### At -/
def mtb (h : HD) (n : Int) (i : Nat) : Chunk := .blk 158 (.lst [.v (.int .i64 h.bits), .v (.int .i64 h.size), .v (.int .i64 h.host), .v (.int .i64 h.jr), .v (.bool h.backed), .p i 0 1 0, .v (.int .i64 n)]) 7
/-! ### The law MapsNils -/
end Go.Proofs.Ytjccknmgmommcaa.Sx


set_option maxRecDepth 10000
namespace Go.Proofs.Ytjccknmgmommcaa.Sx
open Go.RowKit Go.Proofs.Ytjccknmgmommcaa.Sx.Tb
/-! ### A table over its tx -/
def entAV (x : ER) : List AV := [.v (.int .i64 x.kind), .v (.int .i64 x.cl), .v (.bool x.own)]
def entsC (es : List ER) : Cont := .recs 3 es.length (fun i => entAV (es.getD i ⟨0, 0, false⟩))
theorem entsC_noF (es : List ER) : (entsC es).noF := fun j hj => ⟨trivial, trivial, trivial, trivial⟩
theorem entsC_ren (es : List ER) (f : Nat → Nat) : (entsC es).ren f = entsC es := rfl
def tp6 (t : TR) (j : JR) (s : DF) (h : HD) (n : Int) : List Chunk := [t.c0 3 1 2, t.c1, t.c2, j.blk 4, s.pk, mtb h n 0]
theorem mtb_le {H : List Chunk} {fz : List Nat} {f : Nat → Nat} {ph : Nat → Bool} {h : HD} {n : Int} {a i : Nat} (fi : f 0 = a) (h0 : nth H i = some (mtb h n a)) (hz : memN i fz = false) : (mtb h n 0).le H fz f ph i := by
  unfold Chunk.le mtb
  simp only
  rw [nth_lt h0, hz, h0]
  exact ⟨VC.mk ⟨rfl, rfl⟩, VC.mk rfl, VC.mk rfl, VC.mk rfl, VC.mk rfl, VC.mk rfl, VC.mk ⟨fi, rfl, rfl, rfl⟩, VC.mk rfl, trivial⟩
theorem fix6 {N : Nat} {σ : List Nat} : ∀ i, i < 6 → fren (0 :: 1 :: 2 :: 3 :: 4 :: 5 :: σ) N i = i := fun i hi => by
  match i, hi with
  | 0, _ => rfl
  | 1, _ => rfl
  | 2, _ => rfl
  | 3, _ => rfl
  | 4, _ => rfl
  | 5, _ => rfl
theorem T6.le {H : List Chunk} {f : Nat → Nat} {ph : Nat → Bool} {t : TR} {j : JR} {s : DF} {h : HD} {n : Int} {σ : List Nat} {cs : List Chunk} (f0 : f 0 = 0) (f1 : f 1 = 1) (f2 : f 2 = 2) (f3 : f 3 = 3) (f4 : f 4 = 4) (h0 : nth H 0 = some (t.c0 3 1 2)) (h1 : nth H 1 = some t.c1) (h2 : nth H 2 = some t.c2) (h3 : nth H 3 = some (j.blk 4)) (h4 : nth H 4 = some s.pk) (h5 : nth H 5 = some (mtb h n 0)) (hx : chunksLe H [] f ph σ cs) : chunksLe H [] f ph (0 :: 1 :: 2 :: 3 :: 4 :: 5 :: σ) (tp6 t j s h n ++ cs) :=
  T5.leG f1 f2 f3 f4 h0 h1 h2 h3 h4 ⟨rfl, rfl, rfl, rfl, rfl⟩ (cs := mtb h n 0 :: cs) ⟨mtb_le f0 h5 rfl, hx⟩
theorem T6.fin {H : List Chunk} {t : TR} {j : JR} {s : DF} {h : HD} {n : Int} {v : AV} {k : K} (h0 : nth H 0 = some (t.c0 3 1 2)) (h1 : nth H 1 = some t.c1) (h2 : nth H 2 = some t.c2) (h3 : nth H 3 = some (j.blk 4)) (h4 : nth H 4 = some s.pk) (h5 : nth H 5 = some (mtb h n 0)) (hk : k v (tp6 t j s h n)) (hv : v.inN 6 := by simp [AV.inN, inNs, Cont.inN]) : Fin 6 v H k :=
  Fin.ren [0, 1, 2, 3, 4, 5] [] v (tp6 t j s h n) rfl rfl trivial (T6.le rfl rfl rfl rfl rfl h0 h1 h2 h3 h4 h5 (cs := []) trivial) (AV.le_refl fix6 hv) hk
theorem T6.good {t : TR} {j : JR} {s : DF} {h : HD} {n : Int} {v : AV} (hv : v.noF) : Good 6 v (tp6 t j s h n) := by
  refine ⟨hv, fun c hc => ?_, Nat.le_refl _⟩
  rcases List.mem_append.1 (show c ∈ tpre t j s ++ [mtb h n 0] from hc) with hc | hc
  · exact (T5.good (v := .v (.bool true)) trivial).2.1 c hc
  · simp at hc; subst hc; exact .blk ⟨trivial, trivial, trivial, trivial, trivial, trivial, trivial, trivial⟩
theorem T6.nd {t : TR} {j : JR} {s : DF} {h : HD} {n : Int} : ∀ c ∈ tp6 t j s h n, c.lives := by
  intro c hc
  rcases List.mem_append.1 (show c ∈ tpre t j s ++ [mtb h n 0] from hc) with hc | hc
  · exact T5.nd c hc
  · simp at hc; subst hc; trivial
end Go.Proofs.Ytjccknmgmommcaa.Sx


set_option maxRecDepth 10000
namespace Go.Proofs.Ytjccknmgmommcaa.Sx
open Go.RowKit Go.Proofs.Ytjccknmgmommcaa.Sx.Tb
/-! ### Set -/
end Go.Proofs.Ytjccknmgmommcaa.Sx


set_option maxRecDepth 10000
namespace Go.Proofs.Ytjccknmgmommcaa.Sx
open Go.RowKit Go.Proofs.Ytjccknmgmommcaa.Sx.Tb
/-! ### List, All -/
attribute [local simp] entsC_noF entsC_ren
end Go.Proofs.Ytjccknmgmommcaa.Sx


set_option maxRecDepth 10000
namespace Go.Proofs.Ytjccknmgmommcaa.Sx
open Go.RowKit Go.Proofs.Ytjccknmgmommcaa.Sx.Tb
attribute [local simp] entsC_noF entsC_ren
/-! ### The reference -/
end Go.Proofs.Ytjccknmgmommcaa.Sx


set_option maxRecDepth 10000
namespace Go.Proofs.Ytjccknmgmommcaa.Sx
open Go.RowKit Go.Proofs.Ytjccknmgmommcaa.Sx.Tb
/-! ### The counts' header, the nil ones, New -/
def HD.r (H : Int) : HD := ⟨9, 32768, H, 29, false⟩
theorem Fin.ag5 {a b c d e : Value} {H : List Chunk} {k : K} (hk : k (.agg [.v a, .v b, .v c, .v d, .v e]) []) : Fin 0 (.agg [.v a, .v b, .v c, .v d, .v e]) H k := Fin.ren [] [] (.agg [.v a, .v b, .v c, .v d, .v e]) [] rfl rfl trivial trivial ⟨VC.mk rfl, VC.mk rfl, VC.mk rfl, VC.mk rfl, VC.mk rfl, trivial⟩ hk
def rH (n : Int) : Int := 40 + n % 18446744073709551616 % 60
theorem rhead_c (n : Int) (k : K) (h0 : inR .i64 n) (hk : ∀ r : HD, r = HD.r (rH n) → k (.agg [.v (.int .i64 r.bits), .v (.int .i64 r.size), .v (.int .i64 r.host), .v (.int .i64 r.jr), .v (.bool r.backed)]) []) : evFunc tab [4] [] Go.Proofs.Try.f44 [.v (.int .i64 n)] [] k := by
  have w : IntKind.u64.wrap n = n % 18446744073709551616 := rfl
  have hk2 := hk (HD.r (rH n)) rfl
  repeat' (first
 | (with_reducible first | exact True.intro | apply And.intro | apply If_true | apply If_false | apply If_not)
 | ((with_reducible apply VC.mk); (first | trivial | omega | (simp only [inR]; omega) | (exact ⟨rfl, List.prefix_rfl⟩) | (refine ⟨rfl, rfl, rfl, ?_, rfl⟩; (simp; done)) | (focus (repeat' (first | exact True.intro | apply And.intro | rfl | exact Nat.le_of_ble_eq_true rfl)); done) | (simp [inR, Cont.cells]; done) | (simp [inR, Cont.cells]; omega)))
 | ((with_reducible apply If_dec) <;> intro hc <;> (try (exfalso; omega)))
 | ((with_reducible apply If_any) <;> intro hc)
 | ((with_reducible first | apply PF.mk | apply DrawP.mk); (focus kernel_rfl))
 | ((with_reducible apply Same.mk); (focus rfl); (first | exact trivial | exact rfl))
 | (intro cap hcap)
 | ((fail_if_success (with_reducible first | apply Fin.mk | apply CallP.mk | apply LoopP.mk | apply VC.mk | apply falseMk | apply Round.mk | apply LookP.mk | apply RangeP.mk | apply NextP.mk | apply EntryP.mk | apply Eq.symm)); conv => whnf))
  exact Fin.ag5 hk2
def rheadOk (x : Int) : Prop := inR .i64 x
def rheadRel (x : Int) (r : HD) : Prop := r = HD.r (rH x)
theorem rhead_K : ConOk Go.Proofs.Try.prog 44 (Con.of (Int) (HD) (fun x => [.v (.int .i64 x)]) (fun _ => []) rheadOk rheadRel (fun _ r => .agg [.v (.int .i64 r.bits), .v (.int .i64 r.size), .v (.int .i64 r.host), .v (.int .i64 r.jr), .v (.bool r.backed)]) (fun _ _ => [])) := by
  refine conOk_rel (T := tab) mix Go.Proofs.Try.func44 (by decide +kernel) (by kernel_rfl) [4] [] (fun n => by rw [Go.Proofs.Try.ntmps44]; exact Nat.le_of_ble_eq_true rfl) (fun x r _ _ => ⟨by simp [AV.noF, noFs, Cont.noF, recsC_noF], (fun c hc => by cases hc), Nat.le_refl _⟩) (fun x _ c hc => by cases hc) ?_
  intro x k h0 hk
  exact rhead_c x k h0 (fun r hr => hk r hr)
theorem rhead_at {avs : List AV} {H : List Chunk} {k : K} (n : Int) (h0 : inR .i64 n) (ha : argsM H [] [.v (.int .i64 n)] avs) (hQ : ∀ r : HD, (r = HD.r (rH n)) → k (.agg [.v (.int .i64 r.bits), .v (.int .i64 r.size), .v (.int .i64 r.host), .v (.int .i64 r.jr), .v (.bool r.backed)]) H) : CallP Go.Proofs.Try.prog 44 avs H k :=
  CallP.mk ⟨_, rhead_K.real, Con.spec rhead_K, (n), [], ⟨h0, rfl, trivial, ha⟩, fun r hr => (numK_eq H.length (fun N => k (AV.ren (fren [] N) (.agg [.v (.int .i64 r.bits), .v (.int .i64 r.size), .v (.int .i64 r.host), .v (.int .i64 r.jr), .v (.bool r.backed)])) (putAll H [] []))).mpr (by simpa [putAll, AV.ren, rens, Cont.ren, recsC, recAV] using hQ r hr)⟩
def rfb (h : HD) (i : Nat) : Chunk := .blk 163 (.lst [.v (.int .i64 h.bits), .v (.int .i64 h.size), .v (.int .i64 h.host), .v (.int .i64 h.jr), .v (.bool h.backed), .p i 0 1 0]) 6
theorem rfb_ren (h : HD) (i : Nat) (f : Nat → Nat) : (rfb h i).ren f = rfb h (f i) := rfl
set_option maxHeartbeats 8000000 in
theorem rnew_c (t : TR) (j : JR) (s : DF) (h : HD) (k : K) (h0 : hR h) (hk1 : h.checkV ≠ 0 → k (.tup [.v (.pointer none), .v (.int .i64 h.checkV)]) (tpre t j s)) (hk2 : h.checkV = 0 → k (.tup [.p 5 0 1 0, .v (.int .i64 0)]) (tpre t j s ++ [rfb h 0])) : evFunc tab [] [] Go.Proofs.Try.f45 [.agg [.v (.int .i64 h.bits), .v (.int .i64 h.size), .v (.int .i64 h.host), .v (.int .i64 h.jr), .v (.bool h.backed)], .p 0 0 1 0] (tpre t j s) k := by
  repeat' (first
 | (with_reducible first | exact True.intro | apply And.intro | apply If_true | apply If_false | apply If_not)
 | ((with_reducible apply VC.mk); (first | trivial | omega | (simp only [inR]; omega) | (exact ⟨rfl, List.prefix_rfl⟩) | (refine ⟨rfl, rfl, rfl, ?_, rfl⟩; (simp; done)) | (focus (repeat' (first | exact True.intro | apply And.intro | rfl | exact Nat.le_of_ble_eq_true rfl)); done) | (simp [inR, Cont.cells]; done) | (simp [inR, Cont.cells]; omega)))
 | ((with_reducible apply If_dec) <;> intro hc <;> (try (exfalso; omega)))
 | ((with_reducible apply If_any) <;> intro hc)
 | ((with_reducible first | apply PF.mk | apply DrawP.mk); (focus kernel_rfl))
 | ((with_reducible apply Same.mk); (focus rfl); (first | exact trivial | exact rfl))
 | (intro cap hcap)
 | ((fail_if_success (with_reducible first | apply Fin.mk | apply CallP.mk | apply LoopP.mk | apply VC.mk | apply falseMk | apply Round.mk | apply LookP.mk | apply RangeP.mk | apply NextP.mk | apply EntryP.mk | apply Eq.symm)); conv => whnf))
  refine hcheck_at h h0 ⟨⟨rfl, rfl, rfl, rfl, rfl, trivial⟩, trivial⟩ ?_
  rintro r rfl
  repeat' (first
 | (with_reducible first | exact True.intro | apply And.intro | apply If_true | apply If_false | apply If_not)
 | ((with_reducible apply VC.mk); (first | trivial | omega | (simp only [inR]; omega) | (exact ⟨rfl, List.prefix_rfl⟩) | (refine ⟨rfl, rfl, rfl, ?_, rfl⟩; (simp; done)) | (focus (repeat' (first | exact True.intro | apply And.intro | rfl | exact Nat.le_of_ble_eq_true rfl)); done) | (simp [inR, Cont.cells]; done) | (simp [inR, Cont.cells]; omega)))
 | ((with_reducible apply If_dec) <;> intro hc <;> (try (exfalso; omega)))
 | ((with_reducible apply If_any) <;> intro hc)
 | ((with_reducible first | apply PF.mk | apply DrawP.mk); (focus kernel_rfl))
 | ((with_reducible apply Same.mk); (focus rfl); (first | exact trivial | exact rfl))
 | (intro cap hcap)
 | ((fail_if_success (with_reducible first | apply Fin.mk | apply CallP.mk | apply LoopP.mk | apply VC.mk | apply falseMk | apply Round.mk | apply LookP.mk | apply RangeP.mk | apply NextP.mk | apply EntryP.mk | apply Eq.symm)); conv => whnf))
  · exact T5.fin rfl rfl rfl rfl rfl rfl (hk1 hc)
  · refine Fin.ren [0, 1, 2, 3, 4, 6] [] (.tup [.p 5 0 1 0, .v (.int .i64 0)]) (tpre t j s ++ [rfb h 0]) rfl rfl trivial (T5.leX rfl rfl rfl rfl rfl rfl rfl rfl rfl rfl ⟨⟨VC.mk ⟨rfl, rfl⟩, VC.mk rfl, VC.mk rfl, VC.mk rfl, VC.mk rfl, VC.mk rfl, VC.mk ⟨rfl, rfl, rfl, rfl⟩, trivial⟩, trivial⟩) ⟨VC.mk ⟨rfl, rfl, rfl, rfl⟩, VC.mk rfl, trivial⟩ (hk2 (by omega))
theorem rnew_K : ConOk Go.Proofs.Try.prog 45 ⟨TR × JR × DF × HD, fun x => [.agg [.v (.int .i64 x.2.2.2.bits), .v (.int .i64 x.2.2.2.size), .v (.int .i64 x.2.2.2.host), .v (.int .i64 x.2.2.2.jr), .v (.bool x.2.2.2.backed)], .p 0 0 1 0], fun x => tpre x.1 x.2.1 x.2.2.1, fun x => hR x.2.2.2, fun x k => (x.2.2.2.checkV ≠ 0 → k (.tup [.v (.pointer none), .v (.int .i64 (x.2.2.2.checkV))]) (tpre x.1 x.2.1 x.2.2.1)) ∧ (x.2.2.2.checkV = 0 → k (.tup [.p 5 0 1 0, .v (.int .i64 0)]) (tpre x.1 x.2.1 x.2.2.1 ++ [rfb x.2.2.2 0]))⟩ := by
  refine conOk_fin (T := tab) mix Go.Proofs.Try.func45 (by decide +kernel) (by kernel_rfl) [] [] ?_ ?_ ?_ ?_
  · intro x h0; rw [Go.Proofs.Try.ntmps45]; exact Nat.le_of_ble_eq_true rfl
  · intro x k h0 hk
    refine ⟨fun h => ⟨hk.1 h, T5.good (by simp [AV.noF, noFs])⟩, fun h => ⟨hk.2 h, ⟨by simp [AV.noF, noFs], fun c hc => ?_, ?_⟩⟩⟩
    · rcases List.mem_append.1 hc with hc | hc
      · exact (T5.good (v := .v (.bool true)) trivial).2.1 c hc
      · simp at hc; subst hc; exact .blk ⟨trivial, trivial, trivial, trivial, trivial, trivial, trivial⟩
    · show 5 ≤ (tpre _ _ _ ++ [_]).length
      exact Nat.le_of_ble_eq_true rfl
  · intro x h0; exact T5.nd
  · intro x k h0 hk; exact rnew_c x.1 x.2.1 x.2.2.1 x.2.2.2 _ h0 (fun h => Fin.same (hk.1 h)) (fun h => Fin.same (hk.2 h))
theorem rnew_at {avs : List AV} {H : List Chunk} {k : K} (t : TR) (j : JR) (s : DF) (h : HD) (ta tb tc td te : Nat) (h0 : hR h) (hn : nodupN [ta, tb, tc, td, te] = true) (ha0 : nth H ta = some (t.c0 td tb tc)) (hb0 : nth H tb = some t.c1) (hc0 : nth H tc = some t.c2) (hd0 : nth H td = some (j.blk te)) (he0 : nth H te = some s.pk) (ha : argsM H [ta, tb, tc, td, te] [.agg [.v (.int .i64 h.bits), .v (.int .i64 h.size), .v (.int .i64 h.host), .v (.int .i64 h.jr), .v (.bool h.backed)], .p 0 0 1 0] avs)
    (hQ1 : h.checkV ≠ 0 → k (.tup [.v (.pointer none), .v (.int .i64 (h.checkV))]) (((((H.set ta (t.c0 td tb tc)).set tb t.c1).set tc t.c2).set td (j.blk te)).set te s.pk))
    (hQ2 : h.checkV = 0 → k (.tup [.p H.length 0 1 0, .v (.int .i64 0)]) ((((((H.set ta (t.c0 td tb tc)).set tb t.c1).set tc t.c2).set td (j.blk te)).set te s.pk) ++ [rfb h ta])) : CallP Go.Proofs.Try.prog 45 avs H k :=
  CallP.mk ⟨_, rnew_K.real, Con.spec rnew_K, (t, j, s, h), [ta, tb, tc, td, te], ⟨h0, hn, ⟨ha0, hb0.trans (congrArg some (TR.c1_ren t _).symm), hc0, hd0, he0, trivial⟩, ha⟩, fun hh => (numK_eq _ _).mpr (by simpa [tpre, putAll, TR.c0_ren, TR.c1_ren, TR.c2_ren, JR.blk_ren, DF.pk_ren, AV.ren, rens, fren, nth] using hQ1 hh), fun hh => (numK_eq _ _).mpr (by simpa [tpre, putAll, TR.c0_ren, TR.c1_ren, TR.c2_ren, JR.blk_ren, DF.pk_ren, rfb_ren, AV.ren, rens, fren, nth] using hQ2 hh)⟩
end Go.Proofs.Ytjccknmgmommcaa.Sx


set_option maxRecDepth 10000
namespace Go.Proofs.Ytjccknmgmommcaa.Sx
open Go.RowKit Go.Proofs.Ytjccknmgmommcaa.Sx.Tb
/-! ### A nil tx; the law's files -/
end Go.Proofs.Ytjccknmgmommcaa.Sx


set_option maxRecDepth 10000
namespace Go.Proofs.Ytjccknmgmommcaa.Sx
open Go.RowKit Go.Proofs.Ytjccknmgmommcaa.Sx.Tb
/-! ### The law's records -/
/-! ### The law's file -/
structure CaseR where
  n : Int
  fill : List Int
  pos : Int
  size : Int
  recs : List RecR
end Go.Proofs.Ytjccknmgmommcaa.Sx


set_option maxRecDepth 10000
namespace Go.Proofs.Ytjccknmgmommcaa.Sx
open Go.RowKit Go.Proofs.Ytjccknmgmommcaa.Sx.Tb
/-! ### The document's Done -/
/-! ### The law -/
end Go.Proofs.Ytjccknmgmommcaa.Sx


set_option maxRecDepth 10000
namespace Go.Proofs.Ytjccknmgmommcaa.Sx
open Go.RowKit
/-! ### slices.Sort of an owned row of numbers, as a contract -/
def sortC (T : TypeId) : Con := Con.of (List Int × Nat) (List Int) (fun x => [.s 0 0 1 x.1.length x.2]) (fun x => [.blk T (.ints .i64 x.1) x.2]) (fun x => x.1.length < 4611686018427387904) (fun x r => r = x.1.mergeSort (fun a b => decide (a ≤ b))) (fun _ _ => .tup []) (fun x r => [.blk T (.ints .i64 r) x.2])
theorem sort_conOk {P : Program} {f : FuncId} (T : TypeId) (hr : Real P f)
    (hS : ∀ (blk cap : Nat) (zs : List Int) (w : World), Go.Sort.Holds (Value.int .i64) w blk 0 zs.toArray → blk < w.heap.size → zs.length < 4611686018427387904 → Calls P f #[.slice (some ⟨blk, 0, none⟩) zs.length cap] w fun e w' => e = .returned (.tuple #[]) ∧ ∃ n os, w' = Go.Sort.grow (Go.Sort.putRow (Value.int .i64) (Go.Sort.ahead w n) blk 0 (zs.mergeSort fun x y => decide (x ≤ y)).toArray) os)
    (hN : ∀ (p : Option Addr) (cap : Nat) (w : World), Calls P f #[.slice p 0 cap] w fun e w' => e = .returned (.tuple #[]) ∧ w' = w) : ConOk P f (sortC T) := by
  refine ⟨hr, ?_, ?_, ?_⟩
  · intro x k hok hk r hrel
    refine ⟨hk r hrel, trivial, fun c hc => ?_, Nat.le_refl _⟩
    simp at hc; subst hc; exact .blk trivial
  · intro x hok c hc
    simp [sortC, Con.of] at hc; subst hc; trivial
  · rintro ⟨l, c⟩ k w0 M J0 J ρ φ w vs hok hk hs ha
    have hk : k (.tup []) [.blk T (.ints .i64 (l.mergeSort (fun a b => decide (a ≤ b)))) c] := hk _ rfl
    have hok : l.length < 4611686018427387904 := hok
    obtain ⟨v, rfl, hv⟩ : ∃ v, vs = [v] ∧ Rep ρ J w (.s 0 0 1 l.length c) v := by
      cases ha with
      | cons h hs => cases hs; exact ⟨_, rfl, h⟩
    have h0 := hs.hold 0 _ rfl
    by_cases hl : l = []
    · subst hl
      cases hv with
      | s h h0' h1 h2 =>
        have hk : k (.tup []) [.blk T (.ints .i64 []) c] := by simpa using hk
        refine (hN _ _ w).mono ?_
        rintro e w' ⟨rfl, rfl⟩
        exact ⟨_, _, _, ρ, φ, J, rfl, hk, hs, .tup .nil⟩
    · have hll : l.length ≠ 0 := fun e => hl (List.eq_nil_of_length_eq_zero e)
      generalize hb0 : ρ 0 = b0 at h0
      cases hv with
      | @s i e sz n c' b a h ha0 h1 h2 =>
        have hbb : b0 = some b := hb0.symm.trans h
        subst hbb
        have hc0 : c ≠ 0 := by omega
        obtain rfl := ha0 hc0
        cases h0 with
        | @blk _ _ _ _ _ _ cs gs hc hb hz h1' hp =>
          cases hc
          have hz : (l.map (Value.int .i64) ++ gs).length = c := hz
          have hlt : b < w.heap.size := (Array.getElem?_eq_some_iff.1 hb).1
          refine (hS b c l w ?_ hlt hok).mono ?_
          · intro j hj
            have hj : j < l.length := by simpa using hj
            have hjv : (l.toArray)[j]! = l[j] := by simp [hj]
            have hcell : (l.map (Value.int IntKind.i64) ++ gs).toArray[0 + j]? = some (Value.int .i64 (l[j])) := by
              rw [Nat.zero_add, List.getElem?_toArray, List.getElem?_append_left (by simpa using hj), List.getElem?_map, List.getElem?_eq_getElem hj]; rfl
            constructor
            · rw [hjv]
              simp only [World.cell?, hb]
              exact hcell
            · simp only [World.frozen?, hb]
              simp
          · rintro e w' ⟨rfl, n, os, rfl⟩
            obtain ⟨r, hr⟩ : ∃ r, r = l.mergeSort (fun a b => decide (a ≤ b)) := ⟨_, rfl⟩
            rw [← hr] at hk ⊢
            have hrl : r.length = l.length := by rw [hr]; exact List.length_mergeSort ..
            obtain ⟨w1, hw1⟩ : ∃ w1, w1 = Go.Sort.putRow (Value.int .i64) (Go.Sort.ahead w n) b 0 r.toArray := ⟨_, rfl⟩
            rw [← hw1]
            have hsz : w1.heap.size = w.heap.size := by rw [hw1, Go.Sort.size_putRow]; rfl
            have hoth : ∀ q, q ≠ b → w1.heap[q]? = w.heap[q]? := by
              intro q hq
              rw [hw1]
              simp only [Go.Sort.putRow, Go.Sort.mapBlock, Go.Sort.ahead, Array.getElem?_modify]
              rw [if_neg (fun e => hq e.symm)]
            have hblk : w1.heap[b]? = some (.cells (r.map (Value.int .i64) ++ gs).toArray T (0, 0)) := by
              rw [hw1]
              simp only [Go.Sort.putRow, Go.Sort.mapBlock, Go.Sort.ahead, Array.getElem?_modify, if_true, hb, Option.map_some, Go.Sort.onCells]
              congr 2
              apply Array.ext_getElem?
              intro q
              simp only [Go.Sort.putCells, Array.getElem?_mapIdx, List.getElem?_toArray, List.size_toArray, Nat.sub_zero]
              by_cases hq : q < l.length
              · have hq2 : q < r.length := by omega
                rw [List.getElem?_append_left (by simpa using hq), List.getElem?_append_left (by simpa using hq2), List.getElem?_map, List.getElem?_map, List.getElem?_eq_getElem hq, List.getElem?_eq_getElem hq2]
                simp [hq2]
              · rw [List.getElem?_append_right (by simpa using Nat.le_of_not_lt hq), List.getElem?_append_right (by rw [List.length_map]; omega), List.length_map, List.length_map, hrl]
                cases gs[q - l.length]? with
                | none => rfl
                | some u => simp only [Option.map_some]; rw [if_neg (by omega)]
            have P1 := hs.put (w' := w1) (i := 0) (c := .blk T (.ints .i64 r) c) (p' := φ 0) (fun q h => .inl h) (fun q h => by rw [hsz]; exact hs.lt _ _ h) (fun q h1 h2 => hoth q (fun e => h2 ((hp q).2 e))) (by rw [hsz]; exact Nat.le_refl _) (by rw [hw1]; rfl) (by rw [hw1]; rfl) (by rw [hw1]; rfl) Nat.one_pos ?_
            rotate_left
            · rw [hb0]
              exact .blk .ints hblk (by rw [← hz]; simp [hrl]) (by simp [Value.oneCell']) hp
            have P2 := P1.1.below (w' := Go.Sort.grow w1 os) ⟨rfl, rfl, rfl, by simp [Go.Sort.grow], fun q h => by simp only [Go.Sort.grow]; rw [Array.getElem?_append_left h]⟩
            exact ⟨_, _, _, ρ, _, J, rfl, hk, P2.1, .tup .nil⟩
        | none hc hp => exact absurd rfl hc0
end Go.Proofs.Ytjccknmgmommcaa.Sx


set_option maxRecDepth 10000
namespace Go.Proofs.Ytjccknmgmommcaa.Sx
open Go.Shelf
def sortI64_ren : Go.Shelf.Ren := ⟨fun | 53 => 128 | 64 => 137 | 63 => 136 | 78 => 149 | 79 => 150 | 70 => 140 | 71 => 141 | 72 => 142 | 73 => 143 | 74 => 144 | 75 => 145 | 59 => 146 | 76 => 147 | 77 => 148 | 88 => 151 | 89 => 152 | 90 => 153 | 91 => 154 | 92 => 155 | 68 => 156 | 96 => 157 | n => n, fun | 22 => 55 | 23 => 2 | 3 => 3 | 51 => 198 | 0 => 0 | 67 => 177 | 69 => 47 | 4 => 4 | 61 => 219 | 60 => 218 | 44 => 223 | 5 => 5 | 9 => 9 | 75 => 227 | 79 => 231 | 83 => 234 | 84 => 235 | n => n, fun | n => n⟩
theorem sortI64 : Go.Proofs.SlLaysN.n53 Try.prog sortI64_ren := {
  mixed := by kernel_rfl
  f53 := ⟨Try.f128.name, by decide, Try.func128.trans (congrArg some (by kernel_rfl))⟩
  f59 := ⟨Try.f146.name, by decide, Try.func146.trans (congrArg some (by kernel_rfl))⟩
  f63 := ⟨Try.f136.name, by decide, Try.func136.trans (congrArg some (by kernel_rfl))⟩
  f64 := Try.func137.trans (congrArg some (by kernel_rfl))
  f68 := ⟨Try.f156.name, by decide, Try.func156.trans (congrArg some (by kernel_rfl))⟩
  f70 := ⟨Try.f140.name, by decide, Try.func140.trans (congrArg some (by kernel_rfl))⟩
  f71 := ⟨Try.f141.name, by decide, Try.func141.trans (congrArg some (by kernel_rfl))⟩
  f72 := ⟨Try.f142.name, by decide, Try.func142.trans (congrArg some (by kernel_rfl))⟩
  f73 := ⟨Try.f143.name, by decide, Try.func143.trans (congrArg some (by kernel_rfl))⟩
  f74 := ⟨Try.f144.name, by decide, Try.func144.trans (congrArg some (by kernel_rfl))⟩
  f75 := ⟨Try.f145.name, by decide, Try.func145.trans (congrArg some (by kernel_rfl))⟩
  f76 := ⟨Try.f147.name, by decide, Try.func147.trans (congrArg some (by kernel_rfl))⟩
  f77 := ⟨Try.f148.name, by decide, Try.func148.trans (congrArg some (by kernel_rfl))⟩
  f78 := Try.func149.trans (congrArg some (by kernel_rfl))
  f79 := Try.func150.trans (congrArg some (by kernel_rfl))
  f88 := ⟨Try.f151.name, by decide, Try.func151.trans (congrArg some (by kernel_rfl))⟩
  f89 := Try.func152.trans (congrArg some (by kernel_rfl))
  f90 := Try.func153.trans (congrArg some (by kernel_rfl))
  f91 := ⟨Try.f154.name, by decide, Try.func154.trans (congrArg some (by kernel_rfl))⟩
  f92 := ⟨Try.f155.name, by decide, Try.func155.trans (congrArg some (by kernel_rfl))⟩
  f96 := ⟨Try.f157.name, by decide, Try.func157.trans (congrArg some (by kernel_rfl))⟩
  t0 := Try.underlying0
  a0 := Try.isAgg0
  z0 := Try.sizeOf0
  v0 := Try.zeroValue0
  t3 := Try.underlying3
  a3 := Try.isAgg3
  z3 := Try.sizeOf3
  v3 := Try.zeroValue3
  t4 := Try.underlying4
  a4 := Try.isAgg4
  z4 := Try.sizeOf4
  v4 := Try.zeroValue4
  t5 := Try.underlying5
  a5 := Try.isAgg5
  z5 := Try.sizeOf5
  v5 := Try.zeroValue5
  t9 := Try.underlying9
  a9 := Try.isAgg9
  z9 := Try.sizeOf9
  v9 := Try.zeroValue9
  t22 := Try.underlying55
  a22 := Try.isAgg55
  z22 := Try.sizeOf55
  v22 := Try.zeroValue55
  t23 := Try.underlying2
  a23 := Try.isAgg2
  z23 := Try.sizeOf2
  v23 := Try.zeroValue2
  t44 := Try.underlying223
  a44 := Try.isAgg223
  z44 := Try.sizeOf223
  v44 := Try.zeroValue223
  t51 := Try.underlying198
  a51 := Try.isAgg198
  z51 := Try.sizeOf198
  v51 := Try.zeroValue198
  t60 := Try.underlying218
  a60 := Try.isAgg218
  z60 := Try.sizeOf218
  v60 := Try.zeroValue218
  t61 := Try.underlying219
  a61 := Try.isAgg219
  z61 := Try.sizeOf219
  v61 := Try.zeroValue219
  t67 := Try.underlying177
  a67 := Try.isAgg177
  z67 := Try.sizeOf177
  v67 := Try.zeroValue177
  t69 := Try.underlying47
  a69 := Try.isAgg47
  z69 := Try.sizeOf47
  v69 := Try.zeroValue47
  t75 := Try.underlying227
  a75 := Try.isAgg227
  z75 := Try.sizeOf227
  v75 := Try.zeroValue227
  t79 := Try.underlying231
  a79 := Try.isAgg231
  z79 := Try.sizeOf231
  v79 := Try.zeroValue231
  t83 := Try.underlying234
  a83 := Try.isAgg234
  z83 := Try.sizeOf234
  v83 := Try.zeroValue234
  t84 := Try.underlying235
  a84 := Try.isAgg235
  z84 := Try.sizeOf235
  v84 := Try.zeroValue235 }
end Go.Proofs.Ytjccknmgmommcaa.Sx

