import Derived.Test.YtjccknmgmommcaaSxF1
set_option linter.unusedVariables false
set_option linter.unusedSimpArgs false
set_option maxRecDepth 10000
namespace Go.Proofs.Ytjccknmgmommcaa.Sx
open Go.RowKit Go.Proofs.Ytjccknmgmommcaa.Sx.Tb
theorem rlay_K : ConOk Go.Proofs.Try.prog 134 (Con.of (List Int × Bool × Int × List Int) (List Int) (fun (b, cut, at_, xs) => [.im false 1 b.length (.ints .u8 b), .agg [.v (.bool cut), .v (.int .i64 at_), .im false 1 xs.length (.ints .u8 xs)]]) (fun _ => [])
    (fun (b, _, at_, xs) => b.length ≤ 4194304 ∧ 0 ≤ at_ ∧ at_ + xs.length ≤ 4194304) (fun _ l => l.length ≤ 4194304) (fun _ l => .im true 1 l.length (.ints .u8 l)) (fun _ _ => [])) := by
  refine conOk_rel (T := tab) mix Go.Proofs.Try.func134 (by decide +kernel) (by kernel_rfl) [] p134 (fun x => by rw [Go.Proofs.Try.ntmps134]; exact Nat.le_of_ble_eq_true rfl) (fun x l _ _ => ⟨⟨rfl, trivial⟩, (fun c hc => by cases hc), Nat.le_refl _⟩) (fun x _ c hc => by cases hc) ?_
  rintro ⟨b, cut, at_, xs⟩ k h0 hk
  exact rlay_c b cut at_ xs k h0 (fun l hl => hk l hl)
theorem rlay_at {avs : List AV} {H : List Chunk} {k : K} (b : List Int) (cut : Bool) (at_ : Int) (xs : List Int) (h0 : b.length ≤ 4194304 ∧ 0 ≤ at_ ∧ at_ + xs.length ≤ 4194304) (ha : argsM H [] [.im false 1 b.length (.ints .u8 b), .agg [.v (.bool cut), .v (.int .i64 at_), .im false 1 xs.length (.ints .u8 xs)]] avs)
    (h : ∀ l : List Int, l.length ≤ 4194304 → k (.im true 1 l.length (.ints .u8 l)) H) : CallP Go.Proofs.Try.prog 134 avs H k :=
  CallP.mk ⟨_, rlay_K.real, Con.spec rlay_K, (b, cut, at_, xs), [], ⟨h0, rfl, trivial, ha⟩, fun l hl => (numK_eq _ _).mpr (by simpa [putAll, AV.ren, Cont.ren] using h l hl)⟩
def RF.asked (s : RF) : RF := { s with ops := s.ops + 1 }
theorem RF.nd (s : RF) (c : Nat) : ∀ x ∈ s.chs c, x.lives := by
  intro x hx
  simp [RF.chs] at hx
  rcases hx with rfl | rfl <;> trivial
theorem RF.good (s : RF) (c : Nat) {v : AV} (h : v.noF) : Good 2 v (s.chs c) := by
  refine ⟨h, fun x hx => ?_, Nat.le_refl _⟩
  simp [RF.chs] at hx
  rcases hx with rfl | rfl
  · exact .blk ⟨⟨rfl, trivial⟩, trivial, trivial, trivial, trivial, trivial, trivial⟩
  · exact .blk (fun j _ => itAV_noF _)
set_option maxHeartbeats 4000000 in
theorem rask_c (s : RF) (c : Nat) (k : K) (h0 : 0 ≤ s.ops ∧ s.ops ≤ 1099511627776) (hk : ∀ r : Int, k (.v (.int .i64 r)) (s.asked.chs c)) : evFunc tab [] p120 Go.Proofs.Try.f120 [.p 0 0 1 0] (s.chs c) k := by
  repeat' (first
    | (with_reducible exact True.intro)
    | (with_reducible apply And.intro)
    | ((with_reducible apply VC.mk); (first | trivial | omega | (simp only [inR]; omega) | (exact ⟨rfl, List.prefix_rfl⟩) | (refine ⟨rfl, rfl, rfl, ?_, rfl⟩; (simp; done)) | (focus (repeat' (first | exact True.intro | apply And.intro | rfl | exact Nat.le_of_ble_eq_true rfl)); done) | (simp [inR, Cont.cells]; done) | (simp [inR, Cont.cells]; omega)))
    | (with_reducible apply If_true)
    | (with_reducible apply If_false)
    | ((with_reducible apply If_dec) <;> intro hc <;> (try (exfalso; omega)))
    | (with_reducible apply If_not)
    | ((with_reducible apply If_any) <;> intro hc)
    | ((with_reducible apply PF.mk); (focus kernel_rfl))
    | ((with_reducible apply DrawP.mk); (focus kernel_rfl))
    | ((with_reducible apply Same.mk); (focus rfl); (first | exact trivial | exact rfl))
    | (intro cap hcap)
    | ((fail_if_success (with_reducible apply Fin.mk)); (fail_if_success (with_reducible apply CallP.mk)); (fail_if_success (with_reducible apply LoopP.mk)); (fail_if_success (with_reducible apply VC.mk)); (fail_if_success (with_reducible apply falseMk)); (fail_if_success (with_reducible apply Round.mk)); (fail_if_success (with_reducible apply Eq.symm)); conv => whnf))
  all_goals exact Fin.same (hk _)
theorem rask_K : ConOk Go.Proofs.Try.prog 120 (Con.of (RF × Nat) Int (fun _ => [.p 0 0 1 0]) (fun (s, c) => s.chs c) (fun (s, _) => 0 ≤ s.ops ∧ s.ops ≤ 1099511627776) (fun _ _ => True) (fun _ r => .v (.int .i64 r)) (fun (s, c) _ => s.asked.chs c)) :=
  conOk_rel (T := tab) mix Go.Proofs.Try.func120 (by decide +kernel) (by kernel_rfl) [] p120 (fun x => by rw [Go.Proofs.Try.ntmps120]; exact Nat.le_of_ble_eq_true rfl) (fun (s, c) r _ _ => s.asked.good c trivial) (fun (s, c) _ => s.nd c) (fun (s, c) k h0 hk => rask_c s c k h0 (fun r => hk r trivial))
theorem rask_at {avs : List AV} {H : List Chunk} {k : K} (s : RF) (c : Nat) (σ : List Nat) (h0 : 0 ≤ s.ops ∧ s.ops ≤ 1099511627776) (hn : nodupN σ = true) (hc : chunksAt H (fren σ H.length) σ (s.chs c)) (ha : argsM H σ [.p 0 0 1 0] avs)
    (h : ∀ r : Int, numK H.length (fun N => k (.v (.int .i64 r)) (putAll H σ ((s.asked.chs c).map (Chunk.ren (fren σ N)))))) : CallP Go.Proofs.Try.prog 120 avs H k :=
  CallP.mk ⟨_, rask_K.real, Con.spec rask_K, (s, c), σ, ⟨h0, hn, hc, ha⟩, fun r _ => h r⟩
theorem RF.le1 (s : RF) (c : Nat) {H : List Chunk} {f : Nat → Nat} {ph : Nat → Bool} (hf : f 1 = 1) (h : 2 ≤ H.length) (h0 : nth H 0 = some (s.st c)) (h1 : nth H 1 = some (s.rowC c)) : chunksLe H [] f ph [0, 1] (s.chs c) := by
  refine ⟨?_, ?_, trivial⟩
  · unfold Chunk.le RF.st
    simp only
    rw [show Nat.blt 0 H.length = true by rw [Nat.blt_eq]; omega, h0]
    exact ⟨VC.mk ⟨rfl, rfl⟩, ⟨VC.mk ⟨rfl, rfl, rfl⟩, VC.mk ⟨rfl, rfl⟩⟩, VC.mk ⟨hf, rfl, rfl, rfl, rfl⟩, VC.mk rfl, VC.mk rfl, VC.mk rfl, VC.mk rfl, trivial⟩
  · unfold Chunk.le RF.rowC
    simp only
    rw [show Nat.blt 1 H.length = true by rw [Nat.blt_eq]; omega, h1]
    exact ⟨VC.mk ⟨rfl, rfl⟩, VC.mk ⟨rfl, Nat.le_refl _⟩, fun j _ => itAV_le _⟩
theorem RF.fin2 {s : RF} {c : Nat} {H : List Chunk} {v : AV} {k : K} (v' : AV) (h : 2 ≤ H.length) (h0 : nth H 0 = some (s.st c)) (h1 : nth H 1 = some (s.rowC c)) (hy : s.row.length ≤ c) (hk : k v' [s.pk]) (hv : v'.le H [] (fren [0, 1] H.length) (phan [0, 1] H.length) v) (hn : v'.inN 1 := by simp [AV.inN, inNs, Cont.inN]) : Fin 1 v H k :=
  Fin.fit (Fit.ren (E' := [(0, v')]) (H' := s.chs c) [0, 1] [] rfl rfl trivial (s.le1 c rfl h h0 h1) ⟨hv, trivial⟩) (RF.fin hy hk hn)
set_option maxHeartbeats 4000000 in
theorem seen_c (s : RF) (n : Int) (c : Nat) (k : K) (h0 : s.Ok n ∧ n ≤ 1099511627776) (hk : ∀ l : List Int, l.length ≤ 4194304 → k (.im true 1 l.length (.ints .u8 l)) (s.chs c)) : evFunc tab [] [] Go.Proofs.Try.f121 [.p 0 0 1 0] (s.chs c) k := by
  obtain ⟨⟨a1, a2, a3, a4, a5⟩, a6⟩ := h0
  repeat' (first
    | (with_reducible exact True.intro)
    | (with_reducible apply And.intro)
    | ((with_reducible apply VC.mk); (first | trivial | omega | (simp only [inR]; omega) | (exact ⟨rfl, List.prefix_rfl⟩) | (refine ⟨rfl, rfl, rfl, ?_, rfl⟩; (simp; done)) | (focus (repeat' (first | exact True.intro | apply And.intro | rfl | exact Nat.le_of_ble_eq_true rfl)); done) | (simp [inR, Cont.cells]; done) | (simp [inR, Cont.cells]; omega)))
    | (with_reducible apply If_true)
    | (with_reducible apply If_false)
    | ((with_reducible apply If_dec) <;> intro hc <;> (try (exfalso; omega)))
    | (with_reducible apply If_not)
    | ((with_reducible apply If_any) <;> intro hc)
    | ((with_reducible apply PF.mk); (focus kernel_rfl))
    | ((with_reducible apply DrawP.mk); (focus kernel_rfl))
    | ((with_reducible apply Same.mk); (focus rfl); (first | exact trivial | exact rfl))
    | (intro cap hcap)
    | ((fail_if_success (with_reducible apply Fin.mk)); (fail_if_success (with_reducible apply CallP.mk)); (fail_if_success (with_reducible apply LoopP.mk)); (fail_if_success (with_reducible apply VC.mk)); (fail_if_success (with_reducible apply falseMk)); (fail_if_success (with_reducible apply Round.mk)); (fail_if_success (with_reducible apply Eq.symm)); conv => whnf))
  refine LoopP.mk ⟨Nat × List Int, fun y => y.1 ≤ s.row.length ∧ y.2.length ≤ 4194304, fun y => ([(0, .p 0 0 1 0), (3, .im true 1 y.2.length (.ints .u8 y.2)), (4, .v (.int .i64 y.1))], s.chs c), fun y => s.row.length - y.1, (0, s.safe), ⟨Nat.zero_le _, a1⟩, Fit.ren [0, 1] [] rfl rfl trivial (s.le1 c rfl (Nat.le_refl _) rfl rfl) ?_, ?_⟩
  · repeat' (first
    | (with_reducible exact True.intro)
    | (with_reducible apply And.intro)
    | ((with_reducible apply VC.mk); (first | trivial | omega | (simp only [inR]; omega) | (exact ⟨rfl, List.prefix_rfl⟩) | (refine ⟨rfl, rfl, rfl, ?_, rfl⟩; (simp; done)) | (focus (repeat' (first | exact True.intro | apply And.intro | rfl | exact Nat.le_of_ble_eq_true rfl)); done) | (simp [inR, Cont.cells]; done) | (simp [inR, Cont.cells]; omega)))
    | (with_reducible apply If_true)
    | (with_reducible apply If_false)
    | ((with_reducible apply If_dec) <;> intro hc <;> (try (exfalso; omega)))
    | (with_reducible apply If_not)
    | ((with_reducible apply If_any) <;> intro hc)
    | ((with_reducible apply PF.mk); (focus kernel_rfl))
    | ((with_reducible apply DrawP.mk); (focus kernel_rfl))
    | ((with_reducible apply Same.mk); (focus rfl); (first | exact trivial | exact rfl))
    | (intro cap hcap)
    | ((fail_if_success (with_reducible apply Fin.mk)); (fail_if_success (with_reducible apply CallP.mk)); (fail_if_success (with_reducible apply LoopP.mk)); (fail_if_success (with_reducible apply VC.mk)); (fail_if_success (with_reducible apply falseMk)); (fail_if_success (with_reducible apply Round.mk)); (fail_if_success (with_reducible apply Eq.symm)); conv => whnf))
  · intro y hy
    obtain ⟨g1, g2⟩ := hy
    have e : 0 + ((y.1 : Nat) : Int).toNat = y.1 := by omega
    repeat' (first
    | (with_reducible exact True.intro)
    | (with_reducible apply And.intro)
    | ((with_reducible apply VC.mk); (first | trivial | omega | (simp only [inR]; omega) | (exact ⟨rfl, List.prefix_rfl⟩) | (refine ⟨rfl, rfl, rfl, ?_, rfl⟩; (simp; done)) | (focus (repeat' (first | exact True.intro | apply And.intro | rfl | exact Nat.le_of_ble_eq_true rfl)); done) | (simp [inR, Cont.cells]; done) | (simp [inR, Cont.cells]; omega)))
    | (with_reducible apply If_true)
    | (with_reducible apply If_false)
    | ((with_reducible apply If_dec) <;> intro hc <;> (try (exfalso; omega)))
    | (with_reducible apply If_not)
    | ((with_reducible apply If_any) <;> intro hc)
    | ((with_reducible apply PF.mk); (focus kernel_rfl))
    | ((with_reducible apply DrawP.mk); (focus kernel_rfl))
    | ((with_reducible apply Same.mk); (focus rfl); (first | exact trivial | exact rfl))
    | (intro cap hcap)
    | ((fail_if_success (with_reducible apply Fin.mk)); (fail_if_success (with_reducible apply CallP.mk)); (fail_if_success (with_reducible apply LoopP.mk)); (fail_if_success (with_reducible apply VC.mk)); (fail_if_success (with_reducible apply falseMk)); (fail_if_success (with_reducible apply Round.mk)); (fail_if_success (with_reducible apply Eq.symm)); conv => whnf))
    · simp only [e]
      have hm : s.row.getD y.1 (false, 0, []) ∈ s.row := by
        have hlt : y.1 < s.row.length := by omega
        rw [show s.row.getD y.1 (false, 0, []) = s.row[y.1] by simp [List.getD_eq_getElem?_getD, hlt]]; exact List.getElem_mem hlt
      have hit := a2 _ hm
      generalize s.row.getD y.1 (false, 0, []) = it at *
      refine rlay_at y.2 it.1 it.2.1 it.2.2 ⟨g2, hit.1, hit.2⟩ ⟨⟨rfl, rfl, rfl⟩, ⟨rfl, rfl, ⟨rfl, rfl, rfl⟩, trivial⟩, trivial⟩ ?_
      intro l hl
      repeat' (first
    | (with_reducible exact True.intro)
    | (with_reducible apply And.intro)
    | ((with_reducible apply VC.mk); (first | trivial | omega | (simp only [inR]; omega) | (exact ⟨rfl, List.prefix_rfl⟩) | (refine ⟨rfl, rfl, rfl, ?_, rfl⟩; (simp; done)) | (focus (repeat' (first | exact True.intro | apply And.intro | rfl | exact Nat.le_of_ble_eq_true rfl)); done) | (simp [inR, Cont.cells]; done) | (simp [inR, Cont.cells]; omega)))
    | (with_reducible apply If_true)
    | (with_reducible apply If_false)
    | ((with_reducible apply If_dec) <;> intro hc <;> (try (exfalso; omega)))
    | (with_reducible apply If_not)
    | ((with_reducible apply If_any) <;> intro hc)
    | ((with_reducible apply PF.mk); (focus kernel_rfl))
    | ((with_reducible apply DrawP.mk); (focus kernel_rfl))
    | ((with_reducible apply Same.mk); (focus rfl); (first | exact trivial | exact rfl))
    | (intro cap hcap)
    | ((fail_if_success (with_reducible apply Fin.mk)); (fail_if_success (with_reducible apply CallP.mk)); (fail_if_success (with_reducible apply LoopP.mk)); (fail_if_success (with_reducible apply VC.mk)); (fail_if_success (with_reducible apply falseMk)); (fail_if_success (with_reducible apply Round.mk)); (fail_if_success (with_reducible apply Eq.symm)); conv => whnf))
      refine Round.mk ⟨(y.1 + 1, l), ⟨by show y.1 + 1 ≤ _; omega, hl⟩, by show s.row.length - (y.1 + 1) < s.row.length - y.1; omega, Fit.ren [0, 1] [] rfl rfl trivial (s.le1 c rfl (Nat.le_refl _) rfl rfl) ?_⟩
      repeat' (first
    | (with_reducible exact True.intro)
    | (with_reducible apply And.intro)
    | ((with_reducible apply VC.mk); (first | trivial | omega | (simp only [inR]; omega) | (exact ⟨rfl, List.prefix_rfl⟩) | (refine ⟨rfl, rfl, rfl, ?_, rfl⟩; (simp; done)) | (focus (repeat' (first | exact True.intro | apply And.intro | rfl | exact Nat.le_of_ble_eq_true rfl)); done) | (simp [inR, Cont.cells]; done) | (simp [inR, Cont.cells]; omega)))
    | (with_reducible apply If_true)
    | (with_reducible apply If_false)
    | ((with_reducible apply If_dec) <;> intro hc <;> (try (exfalso; omega)))
    | (with_reducible apply If_not)
    | ((with_reducible apply If_any) <;> intro hc)
    | ((with_reducible apply PF.mk); (focus kernel_rfl))
    | ((with_reducible apply DrawP.mk); (focus kernel_rfl))
    | ((with_reducible apply Same.mk); (focus rfl); (first | exact trivial | exact rfl))
    | (intro cap hcap)
    | ((fail_if_success (with_reducible apply Fin.mk)); (fail_if_success (with_reducible apply CallP.mk)); (fail_if_success (with_reducible apply LoopP.mk)); (fail_if_success (with_reducible apply VC.mk)); (fail_if_success (with_reducible apply falseMk)); (fail_if_success (with_reducible apply Round.mk)); (fail_if_success (with_reducible apply Eq.symm)); conv => whnf))
    · exact Fin.same (hk _ g2)
theorem seen_K : ConOk Go.Proofs.Try.prog 121 (Con.of (RF × Int × Nat) (List Int) (fun _ => [.p 0 0 1 0]) (fun (s, _, c) => s.chs c) (fun (s, n, _) => s.Ok n ∧ n ≤ 1099511627776) (fun _ l => l.length ≤ 4194304) (fun _ l => .im true 1 l.length (.ints .u8 l)) (fun (s, _, c) _ => s.chs c)) :=
  conOk_rel (T := tab) mix Go.Proofs.Try.func121 (by decide +kernel) (by kernel_rfl) [] [] (fun x => by rw [Go.Proofs.Try.ntmps121]; exact Nat.le_of_ble_eq_true rfl) (fun (s, n, c) r _ _ => s.good c ⟨rfl, trivial⟩) (fun (s, n, c) _ => s.nd c) (fun (s, n, c) k h0 hk => seen_c s n c k h0 (fun l hl => hk l hl))
theorem seen_at {avs : List AV} {H : List Chunk} {k : K} (s : RF) (n : Int) (c : Nat) (σ : List Nat) (h0 : s.Ok n ∧ n ≤ 1099511627776) (hn : nodupN σ = true) (hc : chunksAt H (fren σ H.length) σ (s.chs c)) (ha : argsM H σ [.p 0 0 1 0] avs)
    (h : ∀ l : List Int, l.length ≤ 4194304 → numK H.length (fun N => k (AV.ren (fren σ N) (.im true 1 l.length (.ints .u8 l))) (putAll H σ ((s.chs c).map (Chunk.ren (fren σ N)))))) : CallP Go.Proofs.Try.prog 121 avs H k :=
  CallP.mk ⟨_, seen_K.real, Con.spec seen_K, (s, n, c), σ, ⟨h0, hn, hc, ha⟩, h⟩
theorem RF.Ok.ask {s : RF} {n : Int} (h : s.Ok n) : s.asked.Ok (n + 1) := by
  obtain ⟨a1, a2, a3, a4, a5⟩ := h
  exact ⟨a1, a2, by show (s.row.length : Int) ≤ _; omega, by show 0 ≤ s.ops + 1 ∧ s.ops + 1 ≤ _; omega, by show 0 ≤ s.wrote ∧ s.wrote ≤ _; omega⟩
set_option maxHeartbeats 4000000 in
theorem rread_c (s : RF) (n : Int) (c : Nat) (at_ m : Int) (k : K) (h0 : s.Ok n ∧ n ≤ 549755813888) (hy : s.row.length ≤ c) (hk : ∀ (l : List Int) (r : Int) (s' : RF), s'.Ok (n + 1) → k (.tup [.im true 1 l.length (.ints .u8 l), .v (.int .i64 r)]) [s'.pk]) : evFuncM tab [] [] 1 Go.Proofs.Try.f88 [.p 0 0 1 0, .v (.int .i64 at_), .v (.int .i64 m)] (s.chs c) k := by
  have hop := h0.1.ops
  have hn := h0.2
  repeat' (first
    | (with_reducible exact True.intro)
    | (with_reducible apply And.intro)
    | ((with_reducible apply VC.mk); (first | trivial | omega | (simp only [inR]; omega) | (exact ⟨rfl, List.prefix_rfl⟩) | (refine ⟨rfl, rfl, rfl, ?_, rfl⟩; (simp; done)) | (focus (repeat' (first | exact True.intro | apply And.intro | rfl | exact Nat.le_of_ble_eq_true rfl)); done) | (simp [inR, Cont.cells]; done) | (simp [inR, Cont.cells]; omega)))
    | (with_reducible apply If_true)
    | (with_reducible apply If_false)
    | ((with_reducible apply If_dec) <;> intro hc <;> (try (exfalso; omega)))
    | (with_reducible apply If_not)
    | ((with_reducible apply If_any) <;> intro hc)
    | ((with_reducible apply PF.mk); (focus kernel_rfl))
    | ((with_reducible apply DrawP.mk); (focus kernel_rfl))
    | ((with_reducible apply Same.mk); (focus rfl); (first | exact trivial | exact rfl))
    | (intro cap hcap)
    | ((fail_if_success (with_reducible apply Fin.mk)); (fail_if_success (with_reducible apply CallP.mk)); (fail_if_success (with_reducible apply LoopP.mk)); (fail_if_success (with_reducible apply VC.mk)); (fail_if_success (with_reducible apply falseMk)); (fail_if_success (with_reducible apply Round.mk)); (fail_if_success (with_reducible apply Eq.symm)); conv => whnf))
  refine rask_at s c [0, 1] (by omega) rfl ⟨rfl, rfl, trivial⟩ ⟨rfl, trivial⟩ ?_
  intro r
  have h1 := h0.1.ask
  repeat' (first
    | (with_reducible exact True.intro)
    | (with_reducible apply And.intro)
    | ((with_reducible apply VC.mk); (first | trivial | omega | (simp only [inR]; omega) | (exact ⟨rfl, List.prefix_rfl⟩) | (refine ⟨rfl, rfl, rfl, ?_, rfl⟩; (simp; done)) | (focus (repeat' (first | exact True.intro | apply And.intro | rfl | exact Nat.le_of_ble_eq_true rfl)); done) | (simp [inR, Cont.cells]; done) | (simp [inR, Cont.cells]; omega) | (simp [inR, Cont.cells, RF.asked]; done) | (simp [inR, Cont.cells, RF.asked]; omega)))
    | (with_reducible apply If_true)
    | (with_reducible apply If_false)
    | ((with_reducible apply If_dec) <;> intro hc <;> (try (exfalso; omega)))
    | (with_reducible apply If_not)
    | ((with_reducible apply If_any) <;> intro hc)
    | ((with_reducible apply PF.mk); (focus kernel_rfl))
    | ((with_reducible apply DrawP.mk); (focus kernel_rfl))
    | ((with_reducible apply Same.mk); (focus rfl); (first | exact trivial | exact rfl))
    | (intro cap hcap)
    | ((fail_if_success (with_reducible apply Fin.mk)); (fail_if_success (with_reducible apply CallP.mk)); (fail_if_success (with_reducible apply LoopP.mk)); (fail_if_success (with_reducible apply VC.mk)); (fail_if_success (with_reducible apply falseMk)); (fail_if_success (with_reducible apply Round.mk)); (fail_if_success (with_reducible apply Eq.symm)); conv => whnf))
  · exact RF.fin2 (s := s.asked) (.tup [.im true 1 0 (.ints .u8 []), .v (.int .i64 5)]) (Nat.le_refl _) rfl rfl hy (hk [] 5 _ h1) ⟨⟨VC.mk rfl, VC.mk rfl⟩, VC.mk rfl, trivial⟩
  refine seen_at s.asked (n + 1) c [0, 1] ⟨h1, by omega⟩ rfl ⟨rfl, rfl, trivial⟩ ⟨rfl, trivial⟩ ?_
  intro l hl
  repeat' (first
    | (with_reducible exact True.intro)
    | (with_reducible apply And.intro)
    | ((with_reducible apply VC.mk); (first | trivial | omega | (simp only [inR]; omega) | (exact ⟨rfl, List.prefix_rfl⟩) | (refine ⟨rfl, rfl, rfl, ?_, rfl⟩; (simp; done)) | (focus (repeat' (first | exact True.intro | apply And.intro | rfl | exact Nat.le_of_ble_eq_true rfl)); done) | (simp [inR, Cont.cells]; done) | (simp [inR, Cont.cells]; omega) | (simp [inR, Cont.cells, RF.asked]; done) | (simp [inR, Cont.cells, RF.asked]; omega)))
    | (with_reducible apply If_true)
    | (with_reducible apply If_false)
    | ((with_reducible apply If_dec) <;> intro hc <;> (try (exfalso; omega)))
    | (with_reducible apply If_not)
    | ((with_reducible apply If_any) <;> intro hc)
    | ((with_reducible apply PF.mk); (focus kernel_rfl))
    | ((with_reducible apply DrawP.mk); (focus kernel_rfl))
    | ((with_reducible apply Same.mk); (focus rfl); (first | exact trivial | exact rfl))
    | (intro cap hcap)
    | ((fail_if_success (with_reducible apply Fin.mk)); (fail_if_success (with_reducible apply CallP.mk)); (fail_if_success (with_reducible apply LoopP.mk)); (fail_if_success (with_reducible apply VC.mk)); (fail_if_success (with_reducible apply falseMk)); (fail_if_success (with_reducible apply Round.mk)); (fail_if_success (with_reducible apply Eq.symm)); conv => whnf))
  all_goals first
    | exact RF.fin2 (s := s.asked) (.tup [.im true 1 0 (.ints .u8 []), .v (.int .i64 4)]) (Nat.le_refl _) rfl rfl hy (hk [] 4 _ h1) ⟨⟨VC.mk rfl, VC.mk rfl⟩, VC.mk rfl, trivial⟩
    | skip
  · refine RF.fin2 (s := s.asked) (.tup [.im true 1 ((l.drop at_.toNat).take m.toNat).length (.ints .u8 ((l.drop at_.toNat).take m.toNat)), .v (.int .i64 0)]) (Nat.le_refl _) rfl rfl hy (hk _ 0 _ h1) ⟨⟨VC.mk ⟨rfl, rfl, ?_⟩, VC.mk ⟨rfl, ?_⟩⟩, VC.mk rfl, trivial⟩
    · rw [List.length_take, List.length_drop]; omega
    · rw [show (at_ + m).toNat - at_.toNat = m.toNat by omega]
theorem rread_K : ConOk Go.Proofs.Try.prog 88 (Con.of (RF × Int × Int × Int) (List Int × Int × RF) (fun (s, n, at_, m) => [.p 0 0 1 0, .v (.int .i64 at_), .v (.int .i64 m)]) (fun (s, n, at_, m) => [s.pk]) (fun (s, n, at_, m) => s.Ok n ∧ n ≤ 549755813888) (fun (s, n, at_, m) (l, r, s') => s'.Ok (n + 1)) (fun (s, n, at_, m) (l, r, s') => .tup [.im true 1 l.length (.ints .u8 l), .v (.int .i64 r)]) (fun (s, n, at_, m) (l, r, s') => [RF.pk (s')])) := by
  refine conOk_unpackM (T := tab) mix Go.Proofs.Try.func88 (by decide +kernel) (by kernel_rfl) [] [] ?_ ?_ ?_ (fun _ => []) 2 (fun x => x.1.κ) (fun x => x.1.cs) (by decide) (fun x => x.1.cs_lives) (fun x => ⟨_, rfl⟩) ?_
  · rintro ⟨s, n, at_, m⟩ h0; rw [Go.Proofs.Try.ntmps88]; exact Nat.le_of_ble_eq_true rfl
  · rintro ⟨s, n, at_, m⟩ k h0 hk ⟨l, r, s'⟩ hr; exact ⟨hk (l, r, s') hr, RF.goodP _ (by simp [AV.noF, noFs, Cont.noF])⟩
  · rintro ⟨s, n, at_, m⟩ h0; exact RF.ndP s
  · rintro ⟨s, n, at_, m⟩ k y h0 hk hy; exact rread_c s n _ at_ m k h0 hy (fun l r s' hr => hk (l, r, s') hr)
theorem rread_at {avs : List AV} {H : List Chunk} {k : K} (s : RF) (n : Int) (at_ : Int) (m : Int) (i : Nat) (h0 : s.Ok n ∧ n ≤ 549755813888) (hc : nth H i = some s.pk) (ha : argsM H [i] [.p 0 0 1 0, .v (.int .i64 at_), .v (.int .i64 m)] avs)
    (h : ∀ (l : List Int) (r : Int) (s' : RF), s'.Ok (n + 1) → k (.tup [.im true 1 l.length (.ints .u8 l), .v (.int .i64 r)]) (H.set i (RF.pk (s')))) : CallP Go.Proofs.Try.prog 88 avs H k :=
  CallP.mk ⟨_, rread_K.real, Con.spec rread_K, (s, n, at_, m), [i], ⟨h0, rfl, ⟨hc, trivial⟩, ha⟩, fun ⟨l, r, s'⟩ hr => (numK_eq _ _).mpr (by simpa [putAll, AV.ren, rens, Cont.ren, Chunk.ren, RF.pk] using h l r s' hr)⟩
set_option maxHeartbeats 4000000 in
theorem rin_c (s : RF) (n : Int) (c : Nat) (m : Int) (k : K) (h0 : s.Ok n ∧ n ≤ 549755813888) (hy : s.row.length ≤ c) (hk : ∀ (r : Int), True → k (.v (.int .i64 r)) [s.pk]) : evFuncM tab [] [] 1 Go.Proofs.Try.f92 [.p 0 0 1 0, .v (.int .i64 m)] (s.chs c) k := by
  have hop := h0.1.ops
  have hn := h0.2
  repeat' (first
    | (with_reducible exact True.intro)
    | (with_reducible apply And.intro)
    | ((with_reducible apply VC.mk); (first | trivial | omega | (simp only [inR]; omega) | (exact ⟨rfl, List.prefix_rfl⟩) | (refine ⟨rfl, rfl, rfl, ?_, rfl⟩; (simp; done)) | (focus (repeat' (first | exact True.intro | apply And.intro | rfl | exact Nat.le_of_ble_eq_true rfl)); done) | (simp [inR, Cont.cells]; done) | (simp [inR, Cont.cells]; omega)))
    | (with_reducible apply If_true)
    | (with_reducible apply If_false)
    | ((with_reducible apply If_dec) <;> intro hc <;> (try (exfalso; omega)))
    | (with_reducible apply If_not)
    | ((with_reducible apply If_any) <;> intro hc)
    | ((with_reducible apply PF.mk); (focus kernel_rfl))
    | ((with_reducible apply DrawP.mk); (focus kernel_rfl))
    | ((with_reducible apply Same.mk); (focus rfl); (first | exact trivial | exact rfl))
    | (intro cap hcap)
    | ((fail_if_success (with_reducible apply Fin.mk)); (fail_if_success (with_reducible apply CallP.mk)); (fail_if_success (with_reducible apply LoopP.mk)); (fail_if_success (with_reducible apply VC.mk)); (fail_if_success (with_reducible apply falseMk)); (fail_if_success (with_reducible apply Round.mk)); (fail_if_success (with_reducible apply Eq.symm)); conv => whnf))
  all_goals exact RF.fin hy (hk _ trivial)
theorem rin_K : ConOk Go.Proofs.Try.prog 92 (Con.of (RF × Int × Int) (Int) (fun (s, n, m) => [.p 0 0 1 0, .v (.int .i64 m)]) (fun (s, n, m) => [s.pk]) (fun (s, n, m) => s.Ok n ∧ n ≤ 549755813888) (fun (s, n, m) r => True) (fun (s, n, m) r => .v (.int .i64 r)) (fun (s, n, m) r => [RF.pk (s)])) := by
  refine conOk_unpackM (T := tab) mix Go.Proofs.Try.func92 (by decide +kernel) (by kernel_rfl) [] [] ?_ ?_ ?_ (fun _ => []) 2 (fun x => x.1.κ) (fun x => x.1.cs) (by decide) (fun x => x.1.cs_lives) (fun x => ⟨_, rfl⟩) ?_
  · rintro ⟨s, n, m⟩ h0; rw [Go.Proofs.Try.ntmps92]; exact Nat.le_of_ble_eq_true rfl
  · rintro ⟨s, n, m⟩ k h0 hk r hr; exact ⟨hk r hr, RF.goodP _ (by simp [AV.noF, noFs, Cont.noF])⟩
  · rintro ⟨s, n, m⟩ h0; exact RF.ndP s
  · rintro ⟨s, n, m⟩ k y h0 hk hy; exact rin_c s n _ m k h0 hy (fun r hr => hk r hr)
theorem rin_at {avs : List AV} {H : List Chunk} {k : K} (s : RF) (n : Int) (m : Int) (i : Nat) (h0 : s.Ok n ∧ n ≤ 549755813888) (hc : nth H i = some s.pk) (ha : argsM H [i] [.p 0 0 1 0, .v (.int .i64 m)] avs)
    (h : ∀ (r : Int), True → k (.v (.int .i64 r)) (H.set i (RF.pk (s)))) : CallP Go.Proofs.Try.prog 92 avs H k :=
  CallP.mk ⟨_, rin_K.real, Con.spec rin_K, (s, n, m), [i], ⟨h0, rfl, ⟨hc, trivial⟩, ha⟩, fun r hr => (numK_eq _ _).mpr (by simpa [putAll, AV.ren, rens, Cont.ren, Chunk.ren, RF.pk] using h r hr)⟩
def RF.cutted (s : RF) (m : Int) : RF := { s with ops := s.ops + 1, wrote := s.wrote + 1, row := s.row ++ [(true, m, [])] }
set_option maxHeartbeats 4000000 in
theorem rcut_c (s : RF) (n : Int) (c : Nat) (m : Int) (k : K) (h0 : s.Ok n ∧ n ≤ 549755813888) (hy : s.row.length ≤ c) (hk : ∀ (r : Int) (s' : RF), s'.Ok (n + 1) → k (.v (.int .i64 r)) [s'.pk]) : evFuncM tab [] [] 1 Go.Proofs.Try.f90 [.p 0 0 1 0, .v (.int .i64 m)] (s.chs c) k := by
  have hop := h0.1.ops
  have hwr := h0.1.wrote
  have hln := h0.1.len
  have hn := h0.2
  repeat' (first
    | (with_reducible exact True.intro)
    | (with_reducible apply And.intro)
    | ((with_reducible apply VC.mk); (first | trivial | omega | (simp only [inR]; omega) | (exact ⟨rfl, List.prefix_rfl⟩) | (refine ⟨rfl, rfl, rfl, ?_, rfl⟩; (simp; done)) | (focus (repeat' (first | exact True.intro | apply And.intro | rfl | exact Nat.le_of_ble_eq_true rfl)); done) | (simp [inR, Cont.cells]; done) | (simp [inR, Cont.cells]; omega)))
    | (with_reducible apply If_true)
    | (with_reducible apply If_false)
    | ((with_reducible apply If_dec) <;> intro hc <;> (try (exfalso; omega)))
    | (with_reducible apply If_not)
    | ((with_reducible apply If_any) <;> intro hc)
    | ((with_reducible apply PF.mk); (focus kernel_rfl))
    | ((with_reducible apply DrawP.mk); (focus kernel_rfl))
    | ((with_reducible apply Same.mk); (focus rfl); (first | exact trivial | exact rfl))
    | (intro cap hcap)
    | ((fail_if_success (with_reducible apply Fin.mk)); (fail_if_success (with_reducible apply CallP.mk)); (fail_if_success (with_reducible apply LoopP.mk)); (fail_if_success (with_reducible apply VC.mk)); (fail_if_success (with_reducible apply falseMk)); (fail_if_success (with_reducible apply Round.mk)); (fail_if_success (with_reducible apply Eq.symm)); conv => whnf))
  refine rask_at s c [0, 1] (by omega) rfl ⟨rfl, rfl, trivial⟩ ⟨rfl, trivial⟩ ?_
  intro r
  have h1 := h0.1.ask
  repeat' (first
    | (with_reducible exact True.intro)
    | (with_reducible apply And.intro)
    | ((with_reducible apply VC.mk); (first | trivial | omega | (simp only [inR]; omega) | (exact ⟨rfl, List.prefix_rfl⟩) | (refine ⟨rfl, rfl, rfl, ?_, rfl⟩; (simp; done)) | (focus (repeat' (first | exact True.intro | apply And.intro | rfl | exact Nat.le_of_ble_eq_true rfl)); done) | (simp [inR, Cont.cells]; done) | (simp [inR, Cont.cells]; omega) | (simp [inR, Cont.cells, RF.asked]; done) | (simp [inR, Cont.cells, RF.asked]; omega)))
    | (with_reducible apply If_true)
    | (with_reducible apply If_false)
    | ((with_reducible apply If_dec) <;> intro hc <;> (try (exfalso; omega)))
    | (with_reducible apply If_not)
    | ((with_reducible apply If_any) <;> intro hc)
    | ((with_reducible apply PF.mk); (focus kernel_rfl))
    | ((with_reducible apply DrawP.mk); (focus kernel_rfl))
    | ((with_reducible apply Same.mk); (focus rfl); (first | exact trivial | exact rfl))
    | (intro cap hcap)
    | ((fail_if_success (with_reducible apply Fin.mk)); (fail_if_success (with_reducible apply CallP.mk)); (fail_if_success (with_reducible apply LoopP.mk)); (fail_if_success (with_reducible apply VC.mk)); (fail_if_success (with_reducible apply falseMk)); (fail_if_success (with_reducible apply Round.mk)); (fail_if_success (with_reducible apply Eq.symm)); conv => whnf))
  all_goals first
    | exact RF.fin2 (s := s.asked) (.v (.int .i64 5)) (Nat.le_refl _) rfl rfl hy (hk _ _ h1) (VC.mk rfl)
    | exact RF.fin2 (s := s.asked) (.v (.int .i64 3)) (Nat.le_refl _) rfl rfl hy (hk _ _ h1) (VC.mk rfl)
    | skip
  rename_i cap hcap
  have h2 : (s.cutted m).Ok (n + 1) := by
    obtain ⟨a1, a2, a3, a4, a5⟩ := h0.1
    refine ⟨a1, fun it hit => ?_, ?_, ?_, ?_⟩
    · rcases List.mem_append.1 hit with hit | hit
      · exact a2 it hit
      · simp at hit; subst hit; simp only [List.length_nil]; omega
    · show ((s.row ++ [_]).length : Int) ≤ _; rw [List.length_append]; simp; omega
    · show 0 ≤ s.ops + 1 ∧ s.ops + 1 ≤ _; omega
    · show 0 ≤ s.wrote + 1 ∧ s.wrote + 1 ≤ _; omega
  refine Fin.fit (Fit.ren (E' := [(0, .v (.int .i64 0))]) (H' := (s.cutted m).chs cap) [0, 3] [] rfl rfl trivial ⟨?_, ?_, trivial⟩ ⟨VC.mk rfl, trivial⟩) (RF.fin (s := s.cutted m) (by show (s.row ++ [_]).length ≤ _; rw [List.length_append]; exact hcap) (hk _ _ h2))
  · exact ⟨VC.mk ⟨rfl, rfl⟩, ⟨VC.mk ⟨rfl, rfl, rfl⟩, VC.mk ⟨rfl, rfl⟩⟩, VC.mk ⟨rfl, rfl, rfl, by simp [RF.cutted, RF.asked], rfl⟩, VC.mk rfl, VC.mk rfl, VC.mk rfl, VC.mk rfl, trivial⟩
  · refine ⟨VC.mk ⟨rfl, rfl⟩, VC.mk ⟨rfl, by show (s.row ++ [_]).length ≤ _; rw [List.length_append]; exact Nat.le_refl _⟩, ?_⟩
    refine snoc_le itAV (false, 0, []) s.row (true, m, []) _ ?_ ?_
    · intro j hj
      have hj2 : j < s.asked.row.length := hj
      simp only [if_pos hj2]; exact itAV_le _
    · have hj2 : ¬ s.row.length < s.asked.row.length := Nat.lt_irrefl _
      simp only [if_neg hj2]
      exact ⟨VC.mk rfl, VC.mk rfl, ⟨VC.mk rfl, VC.mk rfl⟩, trivial⟩
theorem rcut_K : ConOk Go.Proofs.Try.prog 90 (Con.of (RF × Int × Int) (Int × RF) (fun (s, n, m) => [.p 0 0 1 0, .v (.int .i64 m)]) (fun (s, n, m) => [s.pk]) (fun (s, n, m) => s.Ok n ∧ n ≤ 549755813888) (fun (s, n, m) (r, s') => s'.Ok (n + 1)) (fun (s, n, m) (r, s') => .v (.int .i64 r)) (fun (s, n, m) (r, s') => [RF.pk (s')])) := by
  refine conOk_unpackM (T := tab) mix Go.Proofs.Try.func90 (by decide +kernel) (by kernel_rfl) [] [] ?_ ?_ ?_ (fun _ => []) 2 (fun x => x.1.κ) (fun x => x.1.cs) (by decide) (fun x => x.1.cs_lives) (fun x => ⟨_, rfl⟩) ?_
  · rintro ⟨s, n, m⟩ h0; rw [Go.Proofs.Try.ntmps90]; exact Nat.le_of_ble_eq_true rfl
  · rintro ⟨s, n, m⟩ k h0 hk ⟨r, s'⟩ hr; exact ⟨hk (r, s') hr, RF.goodP _ (by simp [AV.noF, noFs, Cont.noF])⟩
  · rintro ⟨s, n, m⟩ h0; exact RF.ndP s
  · rintro ⟨s, n, m⟩ k y h0 hk hy; exact rcut_c s n _ m k h0 hy (fun r s' hr => hk (r, s') hr)
theorem rcut_at {avs : List AV} {H : List Chunk} {k : K} (s : RF) (n : Int) (m : Int) (i : Nat) (h0 : s.Ok n ∧ n ≤ 549755813888) (hc : nth H i = some s.pk) (ha : argsM H [i] [.p 0 0 1 0, .v (.int .i64 m)] avs)
    (h : ∀ (r : Int) (s' : RF), s'.Ok (n + 1) → k (.v (.int .i64 r)) (H.set i (RF.pk (s')))) : CallP Go.Proofs.Try.prog 90 avs H k :=
  CallP.mk ⟨_, rcut_K.real, Con.spec rcut_K, (s, n, m), [i], ⟨h0, rfl, ⟨hc, trivial⟩, ha⟩, fun ⟨r, s'⟩ hr => (numK_eq _ _).mpr (by simpa [putAll, AV.ren, rens, Cont.ren, Chunk.ren, RF.pk] using h r s' hr)⟩
def RF.flushed (s : RF) (l : List Int) : RF := { s with ops := s.ops + 1, safe := l, row := [] }
set_option maxHeartbeats 4000000 in
theorem rflush_c (s : RF) (n : Int) (c : Nat) (k : K) (h0 : s.Ok n ∧ n ≤ 549755813888) (hy : s.row.length ≤ c) (hk : ∀ (r : Int) (s' : RF), s'.Ok (n + 1) → k (.v (.int .i64 r)) [s'.pk]) : evFuncM tab [] [] 1 Go.Proofs.Try.f91 [.p 0 0 1 0] (s.chs c) k := by
  have hop := h0.1.ops
  have hwr := h0.1.wrote
  have hln := h0.1.len
  have hn := h0.2
  repeat' (first
    | (with_reducible exact True.intro)
    | (with_reducible apply And.intro)
    | ((with_reducible apply VC.mk); (first | trivial | omega | (simp only [inR]; omega) | (exact ⟨rfl, List.prefix_rfl⟩) | (refine ⟨rfl, rfl, rfl, ?_, rfl⟩; (simp; done)) | (focus (repeat' (first | exact True.intro | apply And.intro | rfl | exact Nat.le_of_ble_eq_true rfl)); done) | (simp [inR, Cont.cells]; done) | (simp [inR, Cont.cells]; omega)))
    | (with_reducible apply If_true)
    | (with_reducible apply If_false)
    | ((with_reducible apply If_dec) <;> intro hc <;> (try (exfalso; omega)))
    | (with_reducible apply If_not)
    | ((with_reducible apply If_any) <;> intro hc)
    | ((with_reducible apply PF.mk); (focus kernel_rfl))
    | ((with_reducible apply DrawP.mk); (focus kernel_rfl))
    | ((with_reducible apply Same.mk); (focus rfl); (first | exact trivial | exact rfl))
    | (intro cap hcap)
    | ((fail_if_success (with_reducible apply Fin.mk)); (fail_if_success (with_reducible apply CallP.mk)); (fail_if_success (with_reducible apply LoopP.mk)); (fail_if_success (with_reducible apply VC.mk)); (fail_if_success (with_reducible apply falseMk)); (fail_if_success (with_reducible apply Round.mk)); (fail_if_success (with_reducible apply Eq.symm)); conv => whnf))
  refine rask_at s c [0, 1] (by omega) rfl ⟨rfl, rfl, trivial⟩ ⟨rfl, trivial⟩ ?_
  intro r
  have h1 := h0.1.ask
  repeat' (first
    | (with_reducible exact True.intro)
    | (with_reducible apply And.intro)
    | ((with_reducible apply VC.mk); (first | trivial | omega | (simp only [inR]; omega) | (exact ⟨rfl, List.prefix_rfl⟩) | (refine ⟨rfl, rfl, rfl, ?_, rfl⟩; (simp; done)) | (focus (repeat' (first | exact True.intro | apply And.intro | rfl | exact Nat.le_of_ble_eq_true rfl)); done) | (simp [inR, Cont.cells]; done) | (simp [inR, Cont.cells]; omega) | (simp [inR, Cont.cells, RF.asked]; done) | (simp [inR, Cont.cells, RF.asked]; omega)))
    | (with_reducible apply If_true)
    | (with_reducible apply If_false)
    | ((with_reducible apply If_dec) <;> intro hc <;> (try (exfalso; omega)))
    | (with_reducible apply If_not)
    | ((with_reducible apply If_any) <;> intro hc)
    | ((with_reducible apply PF.mk); (focus kernel_rfl))
    | ((with_reducible apply DrawP.mk); (focus kernel_rfl))
    | ((with_reducible apply Same.mk); (focus rfl); (first | exact trivial | exact rfl))
    | (intro cap hcap)
    | ((fail_if_success (with_reducible apply Fin.mk)); (fail_if_success (with_reducible apply CallP.mk)); (fail_if_success (with_reducible apply LoopP.mk)); (fail_if_success (with_reducible apply VC.mk)); (fail_if_success (with_reducible apply falseMk)); (fail_if_success (with_reducible apply Round.mk)); (fail_if_success (with_reducible apply Eq.symm)); conv => whnf))
  · exact RF.fin2 (s := s.asked) (.v (.int .i64 5)) (Nat.le_refl _) rfl rfl hy (hk _ _ h1) (VC.mk rfl)
  refine seen_at s.asked (n + 1) c [0, 1] ⟨h1, by omega⟩ rfl ⟨rfl, rfl, trivial⟩ ⟨rfl, trivial⟩ ?_
  intro l hl
  repeat' (first
    | (with_reducible exact True.intro)
    | (with_reducible apply And.intro)
    | ((with_reducible apply VC.mk); (first | trivial | omega | (simp only [inR]; omega) | (exact ⟨rfl, List.prefix_rfl⟩) | (refine ⟨rfl, rfl, rfl, ?_, rfl⟩; (simp; done)) | (focus (repeat' (first | exact True.intro | apply And.intro | rfl | exact Nat.le_of_ble_eq_true rfl)); done) | (simp [inR, Cont.cells]; done) | (simp [inR, Cont.cells]; omega) | (simp [inR, Cont.cells, RF.asked]; done) | (simp [inR, Cont.cells, RF.asked]; omega)))
    | (with_reducible apply If_true)
    | (with_reducible apply If_false)
    | ((with_reducible apply If_dec) <;> intro hc <;> (try (exfalso; omega)))
    | (with_reducible apply If_not)
    | ((with_reducible apply If_any) <;> intro hc)
    | ((with_reducible apply PF.mk); (focus kernel_rfl))
    | ((with_reducible apply DrawP.mk); (focus kernel_rfl))
    | ((with_reducible apply Same.mk); (focus rfl); (first | exact trivial | exact rfl))
    | (intro cap hcap)
    | ((fail_if_success (with_reducible apply Fin.mk)); (fail_if_success (with_reducible apply CallP.mk)); (fail_if_success (with_reducible apply LoopP.mk)); (fail_if_success (with_reducible apply VC.mk)); (fail_if_success (with_reducible apply falseMk)); (fail_if_success (with_reducible apply Round.mk)); (fail_if_success (with_reducible apply Eq.symm)); conv => whnf))
  have h2 : (s.flushed l).Ok (n + 1) := by
    obtain ⟨a1, a2, a3, a4, a5⟩ := h0.1
    refine ⟨hl, fun it hit => absurd hit (by simp [RF.flushed]), ?_, ?_, ?_⟩
    · show ((0 : Nat) : Int) ≤ _; omega
    · show 0 ≤ s.ops + 1 ∧ s.ops + 1 ≤ _; omega
    · show 0 ≤ s.wrote ∧ s.wrote ≤ _; omega
  refine Fin.fit (Fit.ren (E' := [(0, .v (.int .i64 0))]) (H' := (s.flushed l).chs 0) [0, 2] [] rfl rfl trivial ⟨?_, ?_, trivial⟩ ⟨VC.mk rfl, trivial⟩) (RF.fin (s := s.flushed l) (Nat.le_refl _) (hk _ _ h2))
  · exact ⟨VC.mk ⟨rfl, rfl⟩, ⟨VC.mk ⟨rfl, rfl, rfl⟩, VC.mk ⟨rfl, rfl⟩⟩, VC.mk ⟨rfl, rfl⟩, VC.mk rfl, VC.mk rfl, VC.mk rfl, VC.mk rfl, trivial⟩
  · exact ⟨VC.mk rfl, VC.mk rfl⟩
theorem rflush_K : ConOk Go.Proofs.Try.prog 91 (Con.of (RF × Int) (Int × RF) (fun (s, n) => [.p 0 0 1 0]) (fun (s, n) => [s.pk]) (fun (s, n) => s.Ok n ∧ n ≤ 549755813888) (fun (s, n) (r, s') => s'.Ok (n + 1)) (fun (s, n) (r, s') => .v (.int .i64 r)) (fun (s, n) (r, s') => [RF.pk (s')])) := by
  refine conOk_unpackM (T := tab) mix Go.Proofs.Try.func91 (by decide +kernel) (by kernel_rfl) [] [] ?_ ?_ ?_ (fun _ => []) 2 (fun x => x.1.κ) (fun x => x.1.cs) (by decide) (fun x => x.1.cs_lives) (fun x => ⟨_, rfl⟩) ?_
  · rintro ⟨s, n⟩ h0; rw [Go.Proofs.Try.ntmps91]; exact Nat.le_of_ble_eq_true rfl
  · rintro ⟨s, n⟩ k h0 hk ⟨r, s'⟩ hr; exact ⟨hk (r, s') hr, RF.goodP _ (by simp [AV.noF, noFs, Cont.noF])⟩
  · rintro ⟨s, n⟩ h0; exact RF.ndP s
  · rintro ⟨s, n⟩ k y h0 hk hy; exact rflush_c s n _ k h0 hy (fun r s' hr => hk (r, s') hr)
theorem rflush_at {avs : List AV} {H : List Chunk} {k : K} (s : RF) (n : Int) (i : Nat) (h0 : s.Ok n ∧ n ≤ 549755813888) (hc : nth H i = some s.pk) (ha : argsM H [i] [.p 0 0 1 0] avs)
    (h : ∀ (r : Int) (s' : RF), s'.Ok (n + 1) → k (.v (.int .i64 r)) (H.set i (RF.pk (s')))) : CallP Go.Proofs.Try.prog 91 avs H k :=
  CallP.mk ⟨_, rflush_K.real, Con.spec rflush_K, (s, n), [i], ⟨h0, rfl, ⟨hc, trivial⟩, ha⟩, fun ⟨r, s'⟩ hr => (numK_eq _ _).mpr (by simpa [putAll, AV.ren, rens, Cont.ren, Chunk.ren, RF.pk] using h r s' hr)⟩
/-- So much is put. -/
def putI (s : RF) (at_ : Int) (xs : List Int) (y : Nat × RF × Nat) : Env × List Chunk :=
  ([(0, .p 0 0 1 0), (2, .im true 1 xs.length (.ints .u8 xs)), (7, .v (.int .i64 at_)), (8, .v (.int .i64 y.1))], y.2.1.chs y.2.2)
set_option maxHeartbeats 4000000 in
theorem put_c (s : RF) (n : Int) (c : Nat) (at_ : Int) (xs : List Int) (k : K) (h0 : s.Ok n ∧ n ≤ 549755813888 ∧ xs.length ≤ 4194304) (hy : s.row.length ≤ c) (hk : ∀ (r : Int) (s' : RF), s'.Ok (n + 1 + xs.length) → k (.v (.int .i64 r)) [s'.pk]) : evFuncM tab [] p89 1 Go.Proofs.Try.f89 [.p 0 0 1 0, .v (.int .i64 at_), .im true 1 xs.length (.ints .u8 xs)] (s.chs c) k := by
  have hop := h0.1.ops
  have hwr := h0.1.wrote
  have hln := h0.1.len
  have hn := h0.2.1
  have hx := h0.2.2
  repeat' (first
    | (with_reducible exact True.intro)
    | (with_reducible apply And.intro)
    | ((with_reducible apply VC.mk); (first | trivial | omega | (simp only [inR]; omega) | (exact ⟨rfl, List.prefix_rfl⟩) | (refine ⟨rfl, rfl, rfl, ?_, rfl⟩; (simp; done)) | (focus (repeat' (first | exact True.intro | apply And.intro | rfl | exact Nat.le_of_ble_eq_true rfl)); done) | (simp [inR, Cont.cells]; done) | (simp [inR, Cont.cells]; omega)))
    | (with_reducible apply If_true)
    | (with_reducible apply If_false)
    | ((with_reducible apply If_dec) <;> intro hc <;> (try (exfalso; omega)))
    | (with_reducible apply If_not)
    | ((with_reducible apply If_any) <;> intro hc)
    | ((with_reducible apply PF.mk); (focus kernel_rfl))
    | ((with_reducible apply DrawP.mk); (focus kernel_rfl))
    | ((with_reducible apply Same.mk); (focus rfl); (first | exact trivial | exact rfl))
    | (intro cap hcap)
    | ((fail_if_success (with_reducible apply Fin.mk)); (fail_if_success (with_reducible apply CallP.mk)); (fail_if_success (with_reducible apply LoopP.mk)); (fail_if_success (with_reducible apply VC.mk)); (fail_if_success (with_reducible apply falseMk)); (fail_if_success (with_reducible apply Round.mk)); (fail_if_success (with_reducible apply Eq.symm)); conv => whnf))
  refine rask_at s c [0, 1] (by omega) rfl ⟨rfl, rfl, trivial⟩ ⟨rfl, trivial⟩ ?_
  intro r
  have h1 := h0.1.ask
  have h1' : s.asked.Ok (n + 1 + xs.length) := ⟨h1.safe, h1.its, by have := h1.len; omega, by have := h1.ops; omega, by have := h1.wrote; omega⟩
  repeat' (first
    | (with_reducible exact True.intro)
    | (with_reducible apply And.intro)
    | ((with_reducible apply VC.mk); (first | trivial | omega | (simp only [inR]; omega) | (exact ⟨rfl, List.prefix_rfl⟩) | (refine ⟨rfl, rfl, rfl, ?_, rfl⟩; (simp; done)) | (focus (repeat' (first | exact True.intro | apply And.intro | rfl | exact Nat.le_of_ble_eq_true rfl)); done) | (simp [inR, Cont.cells]; done) | (simp [inR, Cont.cells]; omega) | (simp [inR, Cont.cells, RF.asked]; done) | (simp [inR, Cont.cells, RF.asked]; omega)))
    | (with_reducible apply If_true)
    | (with_reducible apply If_false)
    | ((with_reducible apply If_dec) <;> intro hc <;> (try (exfalso; omega)))
    | (with_reducible apply If_not)
    | ((with_reducible apply If_any) <;> intro hc)
    | ((with_reducible apply PF.mk); (focus kernel_rfl))
    | ((with_reducible apply DrawP.mk); (focus kernel_rfl))
    | ((with_reducible apply Same.mk); (focus rfl); (first | exact trivial | exact rfl))
    | (intro cap hcap)
    | ((fail_if_success (with_reducible apply Fin.mk)); (fail_if_success (with_reducible apply CallP.mk)); (fail_if_success (with_reducible apply LoopP.mk)); (fail_if_success (with_reducible apply VC.mk)); (fail_if_success (with_reducible apply falseMk)); (fail_if_success (with_reducible apply Round.mk)); (fail_if_success (with_reducible apply Eq.symm)); conv => whnf))
  all_goals first
    | exact RF.fin2 (s := s.asked) (.v (.int .i64 5)) (Nat.le_refl _) rfl rfl hy (hk _ _ h1') (VC.mk rfl)
    | exact RF.fin2 (s := s.asked) (.v (.int .i64 4)) (Nat.le_refl _) rfl rfl hy (hk _ _ h1') (VC.mk rfl)
    | exact RF.fin2 (s := s.asked) (.v (.int .i64 3)) (Nat.le_refl _) rfl rfl hy (hk _ _ h1') (VC.mk rfl)
    | skip
  refine LoopP.mk ⟨Nat × RF × Nat, fun y => y.1 ≤ xs.length ∧ y.2.1.Ok (n + 1 + y.1) ∧ y.2.1.row.length ≤ y.2.2, putI s at_ xs, fun y => xs.length - y.1, (0, { s.asked with wrote := s.wrote + 1 }, c), ⟨Nat.zero_le _, ?_, hy⟩, Fit.ren [0, 1] [] rfl rfl trivial ?_ ?_, ?_⟩
  · obtain ⟨a1, a2, a3, a4, a5⟩ := h1
    exact ⟨a1, a2, by show (s.row.length : Int) ≤ n + 1 + (0 : Nat); omega, by show 0 ≤ s.ops + 1 ∧ s.ops + 1 ≤ n + 1 + (0 : Nat); omega, by show 0 ≤ s.wrote + 1 ∧ s.wrote + 1 ≤ n + 1 + (0 : Nat); omega⟩
  · exact RF.le1 { s.asked with wrote := s.wrote + 1 } c rfl (Nat.le_refl _) rfl rfl
  · repeat' (first
    | (with_reducible exact True.intro)
    | (with_reducible apply And.intro)
    | ((with_reducible apply VC.mk); (first | trivial | omega | (simp only [inR]; omega) | (exact ⟨rfl, List.prefix_rfl⟩) | (refine ⟨rfl, rfl, rfl, ?_, rfl⟩; (simp; done)) | (focus (repeat' (first | exact True.intro | apply And.intro | rfl | exact Nat.le_of_ble_eq_true rfl)); done) | (simp [inR, Cont.cells]; done) | (simp [inR, Cont.cells]; omega)))
    | (with_reducible apply If_true)
    | (with_reducible apply If_false)
    | ((with_reducible apply If_dec) <;> intro hc <;> (try (exfalso; omega)))
    | (with_reducible apply If_not)
    | ((with_reducible apply If_any) <;> intro hc)
    | ((with_reducible apply PF.mk); (focus kernel_rfl))
    | ((with_reducible apply DrawP.mk); (focus kernel_rfl))
    | ((with_reducible apply Same.mk); (focus rfl); (first | exact trivial | exact rfl))
    | (intro cap hcap)
    | ((fail_if_success (with_reducible apply Fin.mk)); (fail_if_success (with_reducible apply CallP.mk)); (fail_if_success (with_reducible apply LoopP.mk)); (fail_if_success (with_reducible apply VC.mk)); (fail_if_success (with_reducible apply falseMk)); (fail_if_success (with_reducible apply Round.mk)); (fail_if_success (with_reducible apply Eq.symm)); conv => whnf))
  · intro y hyy
    obtain ⟨g1, g2, g3⟩ := hyy
    have hl2 := g2.len
    repeat' (first
    | (with_reducible exact True.intro)
    | (with_reducible apply And.intro)
    | ((with_reducible apply VC.mk); (first | trivial | omega | (simp only [inR]; omega) | (exact ⟨rfl, List.prefix_rfl⟩) | (refine ⟨rfl, rfl, rfl, ?_, rfl⟩; (simp; done)) | (focus (repeat' (first | exact True.intro | apply And.intro | rfl | exact Nat.le_of_ble_eq_true rfl)); done) | (simp [inR, Cont.cells]; done) | (simp [inR, Cont.cells]; omega)))
    | (with_reducible apply If_true)
    | (with_reducible apply If_false)
    | ((with_reducible apply If_dec) <;> intro hc <;> (try (exfalso; omega)))
    | (with_reducible apply If_not)
    | ((with_reducible apply If_any) <;> intro hc)
    | ((with_reducible apply PF.mk); (focus kernel_rfl))
    | ((with_reducible apply DrawP.mk); (focus kernel_rfl))
    | ((with_reducible apply Same.mk); (focus rfl); (first | exact trivial | exact rfl))
    | (intro cap hcap)
    | ((fail_if_success (with_reducible apply Fin.mk)); (fail_if_success (with_reducible apply CallP.mk)); (fail_if_success (with_reducible apply LoopP.mk)); (fail_if_success (with_reducible apply VC.mk)); (fail_if_success (with_reducible apply falseMk)); (fail_if_success (with_reducible apply Round.mk)); (fail_if_success (with_reducible apply Eq.symm)); conv => whnf))
    · rename_i cap hcap
      have hdd : 0 < ((xs.length : Int) - (y.1 : Int) : Int) ∧ (y.1 : Int) + ((xs.length : Int) - (y.1 : Int)) ≤ xs.length := by omega
      generalize ((xs.length : Int) - (y.1 : Int) : Int) = dd at *
      have e1 : ((y.1 : Int) + dd).toNat - ((y.1 : Nat) : Int).toNat = dd.toNat := by omega
      have e2 : ((y.1 : Nat) : Int).toNat = y.1 := by omega
      have hlt : ((xs.drop y.1).take dd.toNat).length = dd.toNat := by rw [List.length_take, List.length_drop]; omega
      have hok : RF.Ok { y.2.1 with row := y.2.1.row ++ [(false, at_ + y.1, (xs.drop y.1).take dd.toNat)] } (n + 1 + (y.1 + dd.toNat : Nat)) := by
        obtain ⟨a1, a2, a3, a4, a5⟩ := g2
        refine ⟨a1, fun it hit => ?_, ?_, ?_, ?_⟩
        · rcases List.mem_append.1 hit with hit | hit
          · exact a2 it hit
          · simp only [List.mem_singleton] at hit; subst hit; simp only [hlt]; omega
        · show ((y.2.1.row ++ [_]).length : Int) ≤ _; rw [List.length_append, List.length_singleton]; omega
        · show 0 ≤ y.2.1.ops ∧ y.2.1.ops ≤ _; omega
        · show 0 ≤ y.2.1.wrote ∧ y.2.1.wrote ≤ _; omega
      refine Round.mk ⟨(y.1 + dd.toNat, { y.2.1 with row := y.2.1.row ++ [(false, at_ + y.1, (xs.drop y.1).take dd.toNat)] }, cap), ⟨by show y.1 + dd.toNat ≤ _; omega, hok, by show (y.2.1.row ++ [_]).length ≤ _; rw [List.length_append]; exact hcap⟩, by show xs.length - (y.1 + dd.toNat) < xs.length - y.1; omega, Fit.ren [0, 3] [] rfl rfl trivial ⟨?_, ?_, trivial⟩ ?_⟩
      · exact ⟨VC.mk ⟨rfl, rfl⟩, ⟨VC.mk ⟨rfl, rfl, rfl⟩, VC.mk ⟨rfl, rfl⟩⟩, VC.mk ⟨rfl, rfl, rfl, by simp, rfl⟩, VC.mk rfl, VC.mk rfl, VC.mk rfl, VC.mk rfl, trivial⟩
      · refine ⟨VC.mk ⟨rfl, rfl⟩, VC.mk ⟨rfl, by show (y.2.1.row ++ [_]).length ≤ _; rw [List.length_append]; exact Nat.le_refl _⟩, ?_⟩
        refine snoc_le itAV (false, 0, []) y.2.1.row (false, at_ + y.1, (xs.drop y.1).take dd.toNat) _ ?_ ?_
        · intro j hj
          simp only [if_pos hj]; exact itAV_le _
        · simp only [Nat.lt_irrefl, if_false]
          exact ⟨VC.mk rfl, VC.mk rfl, ⟨VC.mk ⟨rfl, rfl, by rw [hlt]; exact e1⟩, VC.mk ⟨rfl, by rw [e1, e2]⟩⟩, trivial⟩
      · repeat' (first
    | (with_reducible exact True.intro)
    | (with_reducible apply And.intro)
    | ((with_reducible apply VC.mk); (first | trivial | omega | (simp only [inR]; omega) | (exact ⟨rfl, List.prefix_rfl⟩) | (refine ⟨rfl, rfl, rfl, ?_, rfl⟩; (simp; done)) | (focus (repeat' (first | exact True.intro | apply And.intro | rfl | exact Nat.le_of_ble_eq_true rfl)); done) | (simp [inR, Cont.cells]; done) | (simp [inR, Cont.cells]; omega)))
    | (with_reducible apply If_true)
    | (with_reducible apply If_false)
    | ((with_reducible apply If_dec) <;> intro hc <;> (try (exfalso; omega)))
    | (with_reducible apply If_not)
    | ((with_reducible apply If_any) <;> intro hc)
    | ((with_reducible apply PF.mk); (focus kernel_rfl))
    | ((with_reducible apply DrawP.mk); (focus kernel_rfl))
    | ((with_reducible apply Same.mk); (focus rfl); (first | exact trivial | exact rfl))
    | (intro cap hcap)
    | ((fail_if_success (with_reducible apply Fin.mk)); (fail_if_success (with_reducible apply CallP.mk)); (fail_if_success (with_reducible apply LoopP.mk)); (fail_if_success (with_reducible apply VC.mk)); (fail_if_success (with_reducible apply falseMk)); (fail_if_success (with_reducible apply Round.mk)); (fail_if_success (with_reducible apply Eq.symm)); conv => whnf))
        all_goals (apply VC.mk; show Value.int _ _ = Value.int _ _; congr 1; show _ = ((y.1 + dd.toNat : Nat) : Int); omega)
    · rename_i cap hcap
      have hdd : 0 < (512 - (at_ + (y.1 : Int)) % 512 : Int) ∧ (y.1 : Int) + (512 - (at_ + (y.1 : Int)) % 512) ≤ xs.length := by omega
      generalize (512 - (at_ + (y.1 : Int)) % 512 : Int) = dd at *
      have e1 : ((y.1 : Int) + dd).toNat - ((y.1 : Nat) : Int).toNat = dd.toNat := by omega
      have e2 : ((y.1 : Nat) : Int).toNat = y.1 := by omega
      have hlt : ((xs.drop y.1).take dd.toNat).length = dd.toNat := by rw [List.length_take, List.length_drop]; omega
      have hok : RF.Ok { y.2.1 with row := y.2.1.row ++ [(false, at_ + y.1, (xs.drop y.1).take dd.toNat)] } (n + 1 + (y.1 + dd.toNat : Nat)) := by
        obtain ⟨a1, a2, a3, a4, a5⟩ := g2
        refine ⟨a1, fun it hit => ?_, ?_, ?_, ?_⟩
        · rcases List.mem_append.1 hit with hit | hit
          · exact a2 it hit
          · simp only [List.mem_singleton] at hit; subst hit; simp only [hlt]; omega
        · show ((y.2.1.row ++ [_]).length : Int) ≤ _; rw [List.length_append, List.length_singleton]; omega
        · show 0 ≤ y.2.1.ops ∧ y.2.1.ops ≤ _; omega
        · show 0 ≤ y.2.1.wrote ∧ y.2.1.wrote ≤ _; omega
      refine Round.mk ⟨(y.1 + dd.toNat, { y.2.1 with row := y.2.1.row ++ [(false, at_ + y.1, (xs.drop y.1).take dd.toNat)] }, cap), ⟨by show y.1 + dd.toNat ≤ _; omega, hok, by show (y.2.1.row ++ [_]).length ≤ _; rw [List.length_append]; exact hcap⟩, by show xs.length - (y.1 + dd.toNat) < xs.length - y.1; omega, Fit.ren [0, 3] [] rfl rfl trivial ⟨?_, ?_, trivial⟩ ?_⟩
      · exact ⟨VC.mk ⟨rfl, rfl⟩, ⟨VC.mk ⟨rfl, rfl, rfl⟩, VC.mk ⟨rfl, rfl⟩⟩, VC.mk ⟨rfl, rfl, rfl, by simp, rfl⟩, VC.mk rfl, VC.mk rfl, VC.mk rfl, VC.mk rfl, trivial⟩
      · refine ⟨VC.mk ⟨rfl, rfl⟩, VC.mk ⟨rfl, by show (y.2.1.row ++ [_]).length ≤ _; rw [List.length_append]; exact Nat.le_refl _⟩, ?_⟩
        refine snoc_le itAV (false, 0, []) y.2.1.row (false, at_ + y.1, (xs.drop y.1).take dd.toNat) _ ?_ ?_
        · intro j hj
          simp only [if_pos hj]; exact itAV_le _
        · simp only [Nat.lt_irrefl, if_false]
          exact ⟨VC.mk rfl, VC.mk rfl, ⟨VC.mk ⟨rfl, rfl, by rw [hlt]; exact e1⟩, VC.mk ⟨rfl, by rw [e1, e2]⟩⟩, trivial⟩
      · repeat' (first
    | (with_reducible exact True.intro)
    | (with_reducible apply And.intro)
    | ((with_reducible apply VC.mk); (first | trivial | omega | (simp only [inR]; omega) | (exact ⟨rfl, List.prefix_rfl⟩) | (refine ⟨rfl, rfl, rfl, ?_, rfl⟩; (simp; done)) | (focus (repeat' (first | exact True.intro | apply And.intro | rfl | exact Nat.le_of_ble_eq_true rfl)); done) | (simp [inR, Cont.cells]; done) | (simp [inR, Cont.cells]; omega)))
    | (with_reducible apply If_true)
    | (with_reducible apply If_false)
    | ((with_reducible apply If_dec) <;> intro hc <;> (try (exfalso; omega)))
    | (with_reducible apply If_not)
    | ((with_reducible apply If_any) <;> intro hc)
    | ((with_reducible apply PF.mk); (focus kernel_rfl))
    | ((with_reducible apply DrawP.mk); (focus kernel_rfl))
    | ((with_reducible apply Same.mk); (focus rfl); (first | exact trivial | exact rfl))
    | (intro cap hcap)
    | ((fail_if_success (with_reducible apply Fin.mk)); (fail_if_success (with_reducible apply CallP.mk)); (fail_if_success (with_reducible apply LoopP.mk)); (fail_if_success (with_reducible apply VC.mk)); (fail_if_success (with_reducible apply falseMk)); (fail_if_success (with_reducible apply Round.mk)); (fail_if_success (with_reducible apply Eq.symm)); conv => whnf))
        all_goals (apply VC.mk; show Value.int _ _ = Value.int _ _; congr 1; show _ = ((y.1 + dd.toNat : Nat) : Int); omega)
    · exact RF.fin g3 (hk _ _ ⟨g2.safe, g2.its, by have := g2.len; omega, by have := g2.ops; omega, by have := g2.wrote; omega⟩)
theorem put_K : ConOk Go.Proofs.Try.prog 89 (Con.of (RF × Int × Int × List Int) (Int × RF) (fun (s, n, at_, xs) => [.p 0 0 1 0, .v (.int .i64 at_), .im true 1 xs.length (.ints .u8 xs)]) (fun (s, n, at_, xs) => [s.pk]) (fun (s, n, at_, xs) => s.Ok n ∧ n ≤ 549755813888 ∧ xs.length ≤ 4194304) (fun (s, n, at_, xs) (r, s') => s'.Ok (n + 1 + xs.length)) (fun (s, n, at_, xs) (r, s') => .v (.int .i64 r)) (fun (s, n, at_, xs) (r, s') => [RF.pk (s')])) := by
  refine conOk_unpackM (T := tab) mix Go.Proofs.Try.func89 (by decide +kernel) (by kernel_rfl) [] p89 ?_ ?_ ?_ (fun _ => []) 2 (fun x => x.1.κ) (fun x => x.1.cs) (by decide) (fun x => x.1.cs_lives) (fun x => ⟨_, rfl⟩) ?_
  · rintro ⟨s, n, at_, xs⟩ h0; rw [Go.Proofs.Try.ntmps89]; exact Nat.le_of_ble_eq_true rfl
  · rintro ⟨s, n, at_, xs⟩ k h0 hk ⟨r, s'⟩ hr; exact ⟨hk (r, s') hr, RF.goodP _ (by simp [AV.noF, noFs, Cont.noF])⟩
  · rintro ⟨s, n, at_, xs⟩ h0; exact RF.ndP s
  · rintro ⟨s, n, at_, xs⟩ k y h0 hk hy; exact put_c s n _ at_ xs k h0 hy (fun r s' hr => hk (r, s') hr)
theorem put_at {avs : List AV} {H : List Chunk} {k : K} (s : RF) (n : Int) (at_ : Int) (xs : List Int) (i : Nat) (h0 : s.Ok n ∧ n ≤ 549755813888 ∧ xs.length ≤ 4194304) (hc : nth H i = some s.pk) (ha : argsM H [i] [.p 0 0 1 0, .v (.int .i64 at_), .im true 1 xs.length (.ints .u8 xs)] avs)
    (h : ∀ (r : Int) (s' : RF), s'.Ok (n + 1 + xs.length) → k (.v (.int .i64 r)) (H.set i (RF.pk (s')))) : CallP Go.Proofs.Try.prog 89 avs H k :=
  CallP.mk ⟨_, put_K.real, Con.spec put_K, (s, n, at_, xs), [i], ⟨h0, rfl, ⟨hc, trivial⟩, ha⟩, fun ⟨r, s'⟩ hr => (numK_eq _ _).mpr (by simpa [putAll, AV.ren, rens, Cont.ren, Chunk.ren, RF.pk] using h r s' hr)⟩
end Go.Proofs.Ytjccknmgmommcaa.Sx
