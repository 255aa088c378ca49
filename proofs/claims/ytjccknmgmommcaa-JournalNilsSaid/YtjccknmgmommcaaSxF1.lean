import Derived.Test.YtjccknmgmommcaaSxL2
set_option linter.unusedVariables false
set_option linter.unusedSimpArgs false
set_option maxRecDepth 10000
namespace Go.Proofs.Ytjccknmgmommcaa.Sx
open Go.RowKit Go.Proofs.Ytjccknmgmommcaa.Sx.Tb
/-- The document's file. -/
structure RF where
  safe : List Int
  row : List (Bool × Int × List Int)
  ops : Int
  wrote : Int
  fail : Int
  stop : Int
def RF.st (s : RF) (c : Nat) : Chunk := .blk 41 (.lst [.im true 1 s.safe.length (.ints .u8 s.safe), .s 1 0 3 s.row.length c, .v (.int .i64 s.ops), .v (.int .i64 s.wrote), .v (.int .i64 s.fail), .v (.int .i64 s.stop)]) 6
def RF.rowC (s : RF) (c : Nat) : Chunk := .blk 197 (.recs 3 s.row.length (fun k => itAV (s.row.getD k (false, 0, [])))) (c * 3)
def RF.κ (s : RF) (y : List Nat) : Prop := s.row.length ≤ y.getD 0 0
def RF.chs (s : RF) (c : Nat) : List Chunk := [s.st c, s.rowC c]
def RF.cs (s : RF) (y : List Nat) : List Chunk := s.chs (y.getD 0 0)
def RF.pk (s : RF) : Chunk := .pack [] 2 s.κ s.cs
theorem RF.cs_lives (s : RF) (y : List Nat) : ∀ c ∈ s.cs y, c.lives := by
  intro c hc
  simp [RF.cs, RF.chs] at hc
  rcases hc with rfl | rfl <;> trivial
theorem RF.pk_noF (s : RF) : ChunkNoF s.pk := by
  refine .pack (fun y c hc => ?_)
  simp [RF.cs, RF.chs] at hc
  rcases hc with rfl | rfl
  · exact .blk ⟨⟨rfl, trivial⟩, trivial, trivial, trivial, trivial, trivial, trivial⟩
  · exact .blk (fun j _ => itAV_noF _)
theorem RF.goodP (s : RF) {v : AV} (h : v.noF) : Good 1 v [s.pk] := ⟨h, fun c hc => by simp at hc; subst hc; exact s.pk_noF, Nat.le_refl _⟩
theorem RF.ndP (s : RF) : ∀ c ∈ [s.pk], c.lives := by intro c hc; simp at hc; subst hc; trivial
theorem RF.fin {s : RF} {c : Nat} {v : AV} {k : K} (h : s.row.length ≤ c) (hk : k v [s.pk]) (hv : v.inN 1 := by simp [AV.inN, inNs, Cont.inN]) : Fin 1 v (s.chs c) k := by
  refine Fin.pk (Pk.pack [0, 1] [] s.κ s.cs [c] rfl h ⟨rfl, rfl, trivial⟩ ⟨trivial, trivial⟩) ?_
  exact Fin.ren [0] [] v [s.pk] rfl rfl trivial ⟨VC.mk ⟨rfl, rfl, rfl, rfl⟩, trivial⟩ (AV.le_refl fix1 hv) hk
/-- It is within the limits. -/
structure RF.Ok (s : RF) (n : Int) : Prop where
  safe : s.safe.length ≤ 4194304
  its : ∀ it ∈ s.row, 0 ≤ it.2.1 ∧ it.2.1 + it.2.2.length ≤ 4194304
  len : s.row.length ≤ n
  ops : 0 ≤ s.ops ∧ s.ops ≤ n
  wrote : 0 ≤ s.wrote ∧ s.wrote ≤ n
theorem Fin.frz {i n c cap : Nat} {T : TypeId} {L : List Int} {kd : IntKind} {H : List Chunk} {k : K} (hi : nth H i = some (.blk T (.ints kd L) cap)) (hn : n = L.length) (hk : k (.im true 1 L.length (.ints kd L)) []) : Fin 0 (.s i 0 1 n c) H k := by
  subst hn
  refine Fin.ren [] [i] (.im true 1 L.length (.ints kd L)) [] rfl rfl ⟨by rw [hi]; trivial, trivial⟩ trivial ?_ hk
  have hm : memN i [i] = true := memN_iff.2 (by simp)
  unfold AV.le
  simp only [hm, cond_true, hi, Cont.ext]
  constructor <;> apply VC.mk <;> simp
set_option maxHeartbeats 4000000 in
theorem rlay_c (b : List Int) (cut : Bool) (at_ : Int) (xs : List Int) (k : K) (h0 : b.length ≤ 4194304 ∧ 0 ≤ at_ ∧ at_ + xs.length ≤ 4194304) (hk : ∀ l : List Int, l.length ≤ 4194304 → k (.im true 1 l.length (.ints .u8 l)) []) :
    evFunc tab [] p134 Go.Proofs.Try.f134 [.im false 1 b.length (.ints .u8 b), .agg [.v (.bool cut), .v (.int .i64 at_), .im false 1 xs.length (.ints .u8 xs)]] [] k := by
  repeat' (first
    | (with_reducible exact True.intro)
    | (with_reducible apply And.intro)
    | ((with_reducible apply VC.mk); (first | trivial | omega | (simp only [inR]; omega) | (exact ⟨rfl, List.prefix_rfl⟩) | (refine ⟨rfl, rfl, rfl, ?_, rfl⟩; (simp; done)) | (focus (repeat' (first | exact True.intro | apply And.intro | rfl | exact Nat.le_of_ble_eq_true rfl)); done) | (simp [inR, Cont.cells]; done) | (simp [inR, Cont.cells]; omega)))
    | (with_reducible apply If_true)
    | (with_reducible apply If_false)
    | ((with_reducible apply If_dec) <;> intro hc <;> (try (exfalso; omega)))
    | (with_reducible apply If_not)
    | ((with_reducible apply If_any) <;> intro hc)
    | ((with_reducible apply PF.mk); (focus kernel_rfl))
    | ((with_reducible apply DrawP.mk); (focus kernel_rfl))
    | ((with_reducible apply Same.mk); (focus rfl); (first | exact trivial | exact rfl))
    | (intro cap hcap)
    | ((fail_if_success (with_reducible apply Fin.mk)); (fail_if_success (with_reducible apply CallP.mk)); (fail_if_success (with_reducible apply LoopP.mk)); (fail_if_success (with_reducible apply VC.mk)); (fail_if_success (with_reducible apply falseMk)); (fail_if_success (with_reducible apply Round.mk)); (fail_if_success (with_reducible apply Eq.symm)); conv => whnf))
  · refine LoopP.mk ⟨Nat × List Int × Nat, fun y => y.2.1.length = y.1 ∧ y.1 ≤ at_.toNat, fun y => ([(0, .im false 1 b.length (.ints .u8 b)), (3, .p 0 0 1 0), (5, .s 1 0 1 y.2.1.length y.2.2), (6, .v (.int .i64 y.1))], [.blk 197 (.lst [.v (.bool cut), .v (.int .i64 at_), .im false 1 xs.length (.ints .u8 xs)]) 3, .blk 5 (.ints .u8 y.2.1) y.2.2]), fun y => at_.toNat - y.1, (0, [], 0), ⟨rfl, Nat.zero_le _⟩, Fit.ren [0, 1] [] rfl rfl trivial ?_ ?_, ?_⟩
    · repeat' (first
    | (with_reducible exact True.intro)
    | (with_reducible apply And.intro)
    | ((with_reducible apply VC.mk); (first | trivial | omega | (simp only [inR]; omega) | (exact ⟨rfl, List.prefix_rfl⟩) | (refine ⟨rfl, rfl, rfl, ?_, rfl⟩; (simp; done)) | (focus (repeat' (first | exact True.intro | apply And.intro | rfl | exact Nat.le_of_ble_eq_true rfl)); done) | (simp [inR, Cont.cells]; done) | (simp [inR, Cont.cells]; omega)))
    | (with_reducible apply If_true)
    | (with_reducible apply If_false)
    | ((with_reducible apply If_dec) <;> intro hc <;> (try (exfalso; omega)))
    | (with_reducible apply If_not)
    | ((with_reducible apply If_any) <;> intro hc)
    | ((with_reducible apply PF.mk); (focus kernel_rfl))
    | ((with_reducible apply DrawP.mk); (focus kernel_rfl))
    | ((with_reducible apply Same.mk); (focus rfl); (first | exact trivial | exact rfl))
    | (intro cap hcap)
    | ((fail_if_success (with_reducible apply Fin.mk)); (fail_if_success (with_reducible apply CallP.mk)); (fail_if_success (with_reducible apply LoopP.mk)); (fail_if_success (with_reducible apply VC.mk)); (fail_if_success (with_reducible apply falseMk)); (fail_if_success (with_reducible apply Round.mk)); (fail_if_success (with_reducible apply Eq.symm)); conv => whnf))
    · repeat' (first
    | (with_reducible exact True.intro)
    | (with_reducible apply And.intro)
    | ((with_reducible apply VC.mk); (first | trivial | omega | (simp only [inR]; omega) | (exact ⟨rfl, List.prefix_rfl⟩) | (refine ⟨rfl, rfl, rfl, ?_, rfl⟩; (simp; done)) | (focus (repeat' (first | exact True.intro | apply And.intro | rfl | exact Nat.le_of_ble_eq_true rfl)); done) | (simp [inR, Cont.cells]; done) | (simp [inR, Cont.cells]; omega)))
    | (with_reducible apply If_true)
    | (with_reducible apply If_false)
    | ((with_reducible apply If_dec) <;> intro hc <;> (try (exfalso; omega)))
    | (with_reducible apply If_not)
    | ((with_reducible apply If_any) <;> intro hc)
    | ((with_reducible apply PF.mk); (focus kernel_rfl))
    | ((with_reducible apply DrawP.mk); (focus kernel_rfl))
    | ((with_reducible apply Same.mk); (focus rfl); (first | exact trivial | exact rfl))
    | (intro cap hcap)
    | ((fail_if_success (with_reducible apply Fin.mk)); (fail_if_success (with_reducible apply CallP.mk)); (fail_if_success (with_reducible apply LoopP.mk)); (fail_if_success (with_reducible apply VC.mk)); (fail_if_success (with_reducible apply falseMk)); (fail_if_success (with_reducible apply Round.mk)); (fail_if_success (with_reducible apply Eq.symm)); conv => whnf))
    · intro y hy
      obtain ⟨g1, g2⟩ := hy
      repeat' (first
    | (with_reducible exact True.intro)
    | (with_reducible apply And.intro)
    | ((with_reducible apply VC.mk); (first | trivial | omega | (simp only [inR]; omega) | (exact ⟨rfl, List.prefix_rfl⟩) | (refine ⟨rfl, rfl, rfl, ?_, rfl⟩; (simp; done)) | (focus (repeat' (first | exact True.intro | apply And.intro | rfl | exact Nat.le_of_ble_eq_true rfl)); done) | (simp [inR, Cont.cells]; done) | (simp [inR, Cont.cells]; omega)))
    | (with_reducible apply If_true)
    | (with_reducible apply If_false)
    | ((with_reducible apply If_dec) <;> intro hc <;> (try (exfalso; omega)))
    | (with_reducible apply If_not)
    | ((with_reducible apply If_any) <;> intro hc)
    | ((with_reducible apply PF.mk); (focus kernel_rfl))
    | ((with_reducible apply DrawP.mk); (focus kernel_rfl))
    | ((with_reducible apply Same.mk); (focus rfl); (first | exact trivial | exact rfl))
    | (intro cap hcap)
    | ((fail_if_success (with_reducible apply Fin.mk)); (fail_if_success (with_reducible apply CallP.mk)); (fail_if_success (with_reducible apply LoopP.mk)); (fail_if_success (with_reducible apply VC.mk)); (fail_if_success (with_reducible apply falseMk)); (fail_if_success (with_reducible apply Round.mk)); (fail_if_success (with_reducible apply Eq.symm)); conv => whnf))
      · rename_i cap hcap
        refine Round.mk ⟨(y.1 + 1, y.2.1 ++ [b.getD y.1 0], cap), ⟨by show (y.2.1 ++ [b.getD y.1 0]).length = y.1 + 1; rw [List.length_append, List.length_singleton, g1], by show y.1 + 1 ≤ _; omega⟩, by show at_.toNat - (y.1 + 1) < at_.toNat - y.1; omega, Fit.ren [0, 3] [] rfl rfl trivial ?_ ?_⟩
        · repeat' (first
    | (with_reducible exact True.intro)
    | (with_reducible apply And.intro)
    | ((with_reducible apply VC.mk); (first | trivial | omega | (simp only [inR]; omega) | (exact ⟨rfl, List.prefix_rfl⟩) | (refine ⟨rfl, rfl, rfl, ?_, rfl⟩; (simp; done)) | (focus (repeat' (first | exact True.intro | apply And.intro | rfl | exact Nat.le_of_ble_eq_true rfl)); done) | (simp [inR, Cont.cells]; done) | (simp [inR, Cont.cells]; omega)))
    | (with_reducible apply If_true)
    | (with_reducible apply If_false)
    | ((with_reducible apply If_dec) <;> intro hc <;> (try (exfalso; omega)))
    | (with_reducible apply If_not)
    | ((with_reducible apply If_any) <;> intro hc)
    | ((with_reducible apply PF.mk); (focus kernel_rfl))
    | ((with_reducible apply DrawP.mk); (focus kernel_rfl))
    | ((with_reducible apply Same.mk); (focus rfl); (first | exact trivial | exact rfl))
    | (intro cap hcap)
    | ((fail_if_success (with_reducible apply Fin.mk)); (fail_if_success (with_reducible apply CallP.mk)); (fail_if_success (with_reducible apply LoopP.mk)); (fail_if_success (with_reducible apply VC.mk)); (fail_if_success (with_reducible apply falseMk)); (fail_if_success (with_reducible apply Round.mk)); (fail_if_success (with_reducible apply Eq.symm)); conv => whnf))
        · repeat' (first
    | (with_reducible exact True.intro)
    | (with_reducible apply And.intro)
    | ((with_reducible apply VC.mk); (first | trivial | omega | (simp only [inR]; omega) | (exact ⟨rfl, List.prefix_rfl⟩) | (refine ⟨rfl, rfl, rfl, ?_, rfl⟩; (simp; done)) | (focus (repeat' (first | exact True.intro | apply And.intro | rfl | exact Nat.le_of_ble_eq_true rfl)); done) | (simp [inR, Cont.cells]; done) | (simp [inR, Cont.cells]; omega)))
    | (with_reducible apply If_true)
    | (with_reducible apply If_false)
    | ((with_reducible apply If_dec) <;> intro hc <;> (try (exfalso; omega)))
    | (with_reducible apply If_not)
    | ((with_reducible apply If_any) <;> intro hc)
    | ((with_reducible apply PF.mk); (focus kernel_rfl))
    | ((with_reducible apply DrawP.mk); (focus kernel_rfl))
    | ((with_reducible apply Same.mk); (focus rfl); (first | exact trivial | exact rfl))
    | (intro cap hcap)
    | ((fail_if_success (with_reducible apply Fin.mk)); (fail_if_success (with_reducible apply CallP.mk)); (fail_if_success (with_reducible apply LoopP.mk)); (fail_if_success (with_reducible apply VC.mk)); (fail_if_success (with_reducible apply falseMk)); (fail_if_success (with_reducible apply Round.mk)); (fail_if_success (with_reducible apply Eq.symm)); conv => whnf))
      · rename_i cap hcap
        refine Round.mk ⟨(y.1 + 1, y.2.1 ++ [0], cap), ⟨by show (y.2.1 ++ [0]).length = y.1 + 1; rw [List.length_append, List.length_singleton, g1], by show y.1 + 1 ≤ _; omega⟩, by show at_.toNat - (y.1 + 1) < at_.toNat - y.1; omega, Fit.ren [0, 3] [] rfl rfl trivial ?_ ?_⟩
        · repeat' (first
    | (with_reducible exact True.intro)
    | (with_reducible apply And.intro)
    | ((with_reducible apply VC.mk); (first | trivial | omega | (simp only [inR]; omega) | (exact ⟨rfl, List.prefix_rfl⟩) | (refine ⟨rfl, rfl, rfl, ?_, rfl⟩; (simp; done)) | (focus (repeat' (first | exact True.intro | apply And.intro | rfl | exact Nat.le_of_ble_eq_true rfl)); done) | (simp [inR, Cont.cells]; done) | (simp [inR, Cont.cells]; omega)))
    | (with_reducible apply If_true)
    | (with_reducible apply If_false)
    | ((with_reducible apply If_dec) <;> intro hc <;> (try (exfalso; omega)))
    | (with_reducible apply If_not)
    | ((with_reducible apply If_any) <;> intro hc)
    | ((with_reducible apply PF.mk); (focus kernel_rfl))
    | ((with_reducible apply DrawP.mk); (focus kernel_rfl))
    | ((with_reducible apply Same.mk); (focus rfl); (first | exact trivial | exact rfl))
    | (intro cap hcap)
    | ((fail_if_success (with_reducible apply Fin.mk)); (fail_if_success (with_reducible apply CallP.mk)); (fail_if_success (with_reducible apply LoopP.mk)); (fail_if_success (with_reducible apply VC.mk)); (fail_if_success (with_reducible apply falseMk)); (fail_if_success (with_reducible apply Round.mk)); (fail_if_success (with_reducible apply Eq.symm)); conv => whnf))
        · repeat' (first
    | (with_reducible exact True.intro)
    | (with_reducible apply And.intro)
    | ((with_reducible apply VC.mk); (first | trivial | omega | (simp only [inR]; omega) | (exact ⟨rfl, List.prefix_rfl⟩) | (refine ⟨rfl, rfl, rfl, ?_, rfl⟩; (simp; done)) | (focus (repeat' (first | exact True.intro | apply And.intro | rfl | exact Nat.le_of_ble_eq_true rfl)); done) | (simp [inR, Cont.cells]; done) | (simp [inR, Cont.cells]; omega)))
    | (with_reducible apply If_true)
    | (with_reducible apply If_false)
    | ((with_reducible apply If_dec) <;> intro hc <;> (try (exfalso; omega)))
    | (with_reducible apply If_not)
    | ((with_reducible apply If_any) <;> intro hc)
    | ((with_reducible apply PF.mk); (focus kernel_rfl))
    | ((with_reducible apply DrawP.mk); (focus kernel_rfl))
    | ((with_reducible apply Same.mk); (focus rfl); (first | exact trivial | exact rfl))
    | (intro cap hcap)
    | ((fail_if_success (with_reducible apply Fin.mk)); (fail_if_success (with_reducible apply CallP.mk)); (fail_if_success (with_reducible apply LoopP.mk)); (fail_if_success (with_reducible apply VC.mk)); (fail_if_success (with_reducible apply falseMk)); (fail_if_success (with_reducible apply Round.mk)); (fail_if_success (with_reducible apply Eq.symm)); conv => whnf))
      · refine Fin.frz rfl rfl (hk _ (by omega))
  · refine Fin.frz rfl ?_ (hk _ ?_)
    · simp; omega
    · simp; omega
  · refine Fin.frz rfl ?_ (hk _ ?_)
    · simp; omega
    · simp; omega
end Go.Proofs.Ytjccknmgmommcaa.Sx
