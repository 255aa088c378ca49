import Derived.Test.YtjccknmgmommcaaSxF2
set_option linter.unusedVariables false
set_option linter.unusedSimpArgs false
set_option maxRecDepth 10000
namespace Go.Proofs.Ytjccknmgmommcaa.Sx
open Go.RowKit Go.Proofs.Ytjccknmgmommcaa.Sx.Tb
theorem same_c (l m : List Int) (k : K) (hk : k (.v (.bool (decide (strOf l = strOf m)))) []) : evFunc tab [] [] Go.Proofs.Try.f24 [.im false 1 l.length (.ints .u8 l), .im false 1 m.length (.ints .u8 m)] [] k := by
  repeat' (first
    | (with_reducible exact True.intro)
    | (with_reducible apply And.intro)
    | ((with_reducible apply VC.mk); (first | trivial | omega | (simp only [inR]; omega) | (exact ⟨rfl, List.prefix_rfl⟩) | (refine ⟨rfl, rfl, rfl, ?_, rfl⟩; (simp; done)) | (focus (repeat' (first | exact True.intro | apply And.intro | rfl | exact Nat.le_of_ble_eq_true rfl)); done) | (simp [inR, Cont.cells]; done) | (simp [inR, Cont.cells]; omega)))
    | (with_reducible apply If_true)
    | (with_reducible apply If_false)
    | ((with_reducible apply If_dec) <;> intro hc <;> (try (exfalso; omega)))
    | (with_reducible apply If_not)
    | ((with_reducible apply If_any) <;> intro hc)
    | ((with_reducible apply PF.mk); (focus kernel_rfl))
    | ((with_reducible apply DrawP.mk); (focus kernel_rfl))
    | ((with_reducible apply Same.mk); (focus rfl); (first | exact trivial | exact rfl))
    | (intro cap hcap)
    | ((fail_if_success (with_reducible apply Fin.mk)); (fail_if_success (with_reducible apply CallP.mk)); (fail_if_success (with_reducible apply LoopP.mk)); (fail_if_success (with_reducible apply VC.mk)); (fail_if_success (with_reducible apply falseMk)); (fail_if_success (with_reducible apply Round.mk)); (fail_if_success (with_reducible apply Eq.symm)); conv => whnf))
  exact Fin.same hk
theorem same_K : ConOk Go.Proofs.Try.prog 24 (Con.fn (List Int × List Int) (fun (l, m) => [.im false 1 l.length (.ints .u8 l), .im false 1 m.length (.ints .u8 m)]) (fun _ => []) (fun _ => True) (fun (l, m) => .v (.bool (decide (strOf l = strOf m)))) (fun _ => [])) :=
  conOk_fn (T := tab) mix Go.Proofs.Try.func24 (by decide +kernel) (by kernel_rfl) [] [] (fun n => by rw [Go.Proofs.Try.ntmps24]; exact Nat.le_of_ble_eq_true rfl) (fun n _ => ⟨trivial, (fun c hc => by cases hc), Nat.le_refl _⟩) (fun n _ c hc => by cases hc) (fun (l, m) k _ hk => same_c l m k hk)
theorem same_at {avs : List AV} {H : List Chunk} {k : K} (l m : List Int) (ha : argsM H [] [.im false 1 l.length (.ints .u8 l), .im false 1 m.length (.ints .u8 m)] avs) (h : k (.v (.bool (decide (strOf l = strOf m)))) H) : CallP Go.Proofs.Try.prog 24 avs H k :=
  CallP.mk ⟨_, same_K.real, Con.spec same_K, (l, m), [], ⟨trivial, rfl, trivial, ha⟩, (numK_eq H.length (fun N => k (AV.ren (fren [] N) (.v (.bool (decide (strOf l = strOf m))))) (putAll H [] []))).mpr (by simpa [putAll, AV.ren] using h)⟩
/-- What an operation makes of a file. -/
def DF.Did (s : DF) (o : OpR) (s' : DF) : Prop :=
  (o.kind = 1 ∧ s' = s.asked) ∨
  (o.kind = 2 ∧ (s.refused ∧ s' = s.asked ∨ ¬ s.refused ∧ o.pos < 0 ∧ s' = s.asked ∨ ¬ s.refused ∧ 0 ≤ o.pos ∧ 4194304 - o.pos < o.b.length ∧ s' = s.asked ∨ ¬ s.refused ∧ 0 ≤ o.pos ∧ o.b.length ≤ 4194304 - o.pos ∧ s' = s.wrote1 o.pos o.b)) ∨
  (o.kind = 3 ∧ (s.refused ∧ s' = s.asked ∨ ¬ s.refused ∧ ¬ (0 ≤ o.n ∧ o.n ≤ 4194304) ∧ s' = s.asked ∨ ¬ s.refused ∧ 0 ≤ o.n ∧ o.n ≤ 4194304 ∧ s' = s.cutTo o.n)) ∨
  (o.kind = 4 ∧ (s.refused ∧ s' = s.asked ∨ ¬ s.refused ∧ s' = s.flushed)) ∨
  (¬ (1 ≤ o.kind ∧ o.kind ≤ 4) ∧ s' = s)
def doneOk (s : DF) (m : RF) (n : Int) (o : OpR) : Prop := (0 ≤ s.ops ∧ s.ops ≤ 1099511627776 ∧ 0 ≤ s.wrote ∧ s.wrote ≤ 1099511627776 ∧ s.items.length ≤ 1099511627776 ∧ s.now.length ≤ 4194304) ∧ (m.Ok n ∧ n ≤ 549755813888) ∧ o.b.length ≤ 4194304 ∧ o.kind ≤ 4
theorem RF.OkM {s : RF} {n m : Int} (h : s.Ok n) (hm : n ≤ m) : s.Ok m := ⟨h.safe, h.its, by have := h.len; omega, by have := h.ops; omega, by have := h.wrote; omega⟩
set_option maxHeartbeats 8000000 in
theorem done_c (s : DF) (m : RF) (n : Int) (o : OpR) (h0 : doneOk s m n o) (k : K) (hk : ∀ (b : Bool) (s' : DF) (m' : RF), s.Did o s' → m'.Ok (n + 1 + o.b.length) → k (.v (.bool b)) [s'.pk, m'.pk]) :
    evFunc tab [80, 94] p21 Go.Proofs.Try.f21 [.p 0 0 1 0, .p 1 0 1 0, .agg (opAV true o)] [s.pk, m.pk] k := by
  obtain ⟨⟨a1, a2, a3, a4, a5, a6⟩, ⟨b1, b2⟩, b3, b4⟩ := h0
  have fin : ∀ (b : Bool) (s' : DF) (m' : RF) (H : List Chunk), nth H 0 = some s'.pk → nth H 1 = some m'.pk → 2 ≤ H.length → s.Did o s' → m'.Ok (n + 1 + o.b.length) → Fin 2 (.v (.bool b)) H k := by
    intro b s' m' H e0 e1 hl hd hm
    refine Fin.ren [0, 1] [] (.v (.bool b)) [s'.pk, m'.pk] rfl rfl trivial ⟨?_, ?_, trivial⟩ (VC.mk rfl) (hk b s' m' hd hm)
    · unfold Chunk.le DF.pk
      simp only
      rw [show Nat.blt 0 H.length = true by rw [Nat.blt_eq]; omega, e0]
      exact VC.mk ⟨rfl, rfl, rfl, rfl⟩
    · unfold Chunk.le RF.pk
      simp only
      rw [show Nat.blt 1 H.length = true by rw [Nat.blt_eq]; omega, e1]
      exact VC.mk ⟨rfl, rfl, rfl, rfl⟩
  repeat' (first
    | (with_reducible exact True.intro)
    | (with_reducible apply And.intro)
    | ((with_reducible apply VC.mk); (first | trivial | omega | (simp only [inR]; omega) | (exact ⟨rfl, List.prefix_rfl⟩) | (refine ⟨rfl, rfl, rfl, ?_, rfl⟩; (simp; done)) | (focus (repeat' (first | exact True.intro | apply And.intro | rfl | exact Nat.le_of_ble_eq_true rfl)); done) | (simp [inR, Cont.cells]; done) | (simp [inR, Cont.cells]; omega)))
    | (with_reducible apply If_true)
    | (with_reducible apply If_false)
    | ((with_reducible apply If_dec) <;> intro hc <;> (try (exfalso; omega)))
    | (with_reducible apply If_not)
    | ((with_reducible apply If_any) <;> intro hc)
    | ((with_reducible apply PF.mk); (focus kernel_rfl))
    | ((with_reducible apply DrawP.mk); (focus kernel_rfl))
    | ((with_reducible apply Same.mk); (focus rfl); (first | exact trivial | exact rfl))
    | (intro cap hcap)
    | ((fail_if_success (with_reducible apply Fin.mk)); (fail_if_success (with_reducible apply CallP.mk)); (fail_if_success (with_reducible apply LoopP.mk)); (fail_if_success (with_reducible apply VC.mk)); (fail_if_success (with_reducible apply falseMk)); (fail_if_success (with_reducible apply Round.mk)); (fail_if_success (with_reducible apply Eq.symm)); conv => whnf))
  · refine read_at s o.pos o.n 0 ⟨a1, a2, a6⟩ rfl ⟨rfl, rfl, rfl, trivial⟩ ?_
    intro r l hr
    repeat' (first
    | (with_reducible exact True.intro)
    | (with_reducible apply And.intro)
    | ((with_reducible apply VC.mk); (first | trivial | omega | (simp only [inR]; omega) | (exact ⟨rfl, List.prefix_rfl⟩) | (refine ⟨rfl, rfl, rfl, ?_, rfl⟩; (simp; done)) | (focus (repeat' (first | exact True.intro | apply And.intro | rfl | exact Nat.le_of_ble_eq_true rfl)); done) | (simp [inR, Cont.cells]; done) | (simp [inR, Cont.cells]; omega)))
    | (with_reducible apply If_true)
    | (with_reducible apply If_false)
    | ((with_reducible apply If_dec) <;> intro hc <;> (try (exfalso; omega)))
    | (with_reducible apply If_not)
    | ((with_reducible apply If_any) <;> intro hc)
    | ((with_reducible apply PF.mk); (focus kernel_rfl))
    | ((with_reducible apply DrawP.mk); (focus kernel_rfl))
    | ((with_reducible apply Same.mk); (focus rfl); (first | exact trivial | exact rfl))
    | (intro cap hcap)
    | ((fail_if_success (with_reducible apply Fin.mk)); (fail_if_success (with_reducible apply CallP.mk)); (fail_if_success (with_reducible apply LoopP.mk)); (fail_if_success (with_reducible apply VC.mk)); (fail_if_success (with_reducible apply falseMk)); (fail_if_success (with_reducible apply Round.mk)); (fail_if_success (with_reducible apply Eq.symm)); conv => whnf))
    refine rread_at m n o.pos o.n 1 ⟨b1, b2⟩ rfl ⟨rfl, rfl, rfl, trivial⟩ ?_
    intro l' r' m' hm
    have hd : s.Did o s.asked := .inl ⟨by assumption, rfl⟩
    have hm' := RF.OkM hm (show n + 1 ≤ n + 1 + o.b.length by omega)
    repeat' (first
    | (with_reducible exact True.intro)
    | (with_reducible apply And.intro)
    | ((with_reducible apply VC.mk); (first | trivial | omega | (simp only [inR]; omega) | (exact ⟨rfl, List.prefix_rfl⟩) | (refine ⟨rfl, rfl, rfl, ?_, rfl⟩; (simp; done)) | (focus (repeat' (first | exact True.intro | apply And.intro | rfl | exact Nat.le_of_ble_eq_true rfl)); done) | (simp [inR, Cont.cells]; done) | (simp [inR, Cont.cells]; omega)))
    | (with_reducible apply If_true)
    | (with_reducible apply If_false)
    | ((with_reducible apply If_dec) <;> intro hc <;> (try (exfalso; omega)))
    | (with_reducible apply If_not)
    | ((with_reducible apply If_any) <;> intro hc)
    | ((with_reducible apply PF.mk); (focus kernel_rfl))
    | ((with_reducible apply DrawP.mk); (focus kernel_rfl))
    | ((with_reducible apply Same.mk); (focus rfl); (first | exact trivial | exact rfl))
    | (intro cap hcap)
    | ((fail_if_success (with_reducible apply Fin.mk)); (fail_if_success (with_reducible apply CallP.mk)); (fail_if_success (with_reducible apply LoopP.mk)); (fail_if_success (with_reducible apply VC.mk)); (fail_if_success (with_reducible apply falseMk)); (fail_if_success (with_reducible apply Round.mk)); (fail_if_success (with_reducible apply Eq.symm)); conv => whnf))
    · refine same_at l l' ⟨⟨rfl, rfl, rfl⟩, ⟨rfl, rfl, rfl⟩, trivial⟩ ?_
      repeat' (first
    | (with_reducible exact True.intro)
    | (with_reducible apply And.intro)
    | ((with_reducible apply VC.mk); (first | trivial | omega | (simp only [inR]; omega) | (exact ⟨rfl, List.prefix_rfl⟩) | (refine ⟨rfl, rfl, rfl, ?_, rfl⟩; (simp; done)) | (focus (repeat' (first | exact True.intro | apply And.intro | rfl | exact Nat.le_of_ble_eq_true rfl)); done) | (simp [inR, Cont.cells]; done) | (simp [inR, Cont.cells]; omega)))
    | (with_reducible apply If_true)
    | (with_reducible apply If_false)
    | ((with_reducible apply If_dec) <;> intro hc <;> (try (exfalso; omega)))
    | (with_reducible apply If_not)
    | ((with_reducible apply If_any) <;> intro hc)
    | ((with_reducible apply PF.mk); (focus kernel_rfl))
    | ((with_reducible apply DrawP.mk); (focus kernel_rfl))
    | ((with_reducible apply Same.mk); (focus rfl); (first | exact trivial | exact rfl))
    | (intro cap hcap)
    | ((fail_if_success (with_reducible apply Fin.mk)); (fail_if_success (with_reducible apply CallP.mk)); (fail_if_success (with_reducible apply LoopP.mk)); (fail_if_success (with_reducible apply VC.mk)); (fail_if_success (with_reducible apply falseMk)); (fail_if_success (with_reducible apply Round.mk)); (fail_if_success (with_reducible apply Eq.symm)); conv => whnf))
      exact fin _ _ _ _ rfl rfl (by simp) hd hm'
    · exact fin _ _ _ _ rfl rfl (by simp) hd hm'
  · refine write_at s o.pos o.b 0 ⟨a1, a2, a3, a4, by omega, a5, a6⟩ rfl ⟨rfl, rfl, ⟨rfl, rfl, rfl⟩, trivial⟩ ?_
    intro r s' hr
    repeat' (first
    | (with_reducible exact True.intro)
    | (with_reducible apply And.intro)
    | ((with_reducible apply VC.mk); (first | trivial | omega | (simp only [inR]; omega) | (exact ⟨rfl, List.prefix_rfl⟩) | (refine ⟨rfl, rfl, rfl, ?_, rfl⟩; (simp; done)) | (focus (repeat' (first | exact True.intro | apply And.intro | rfl | exact Nat.le_of_ble_eq_true rfl)); done) | (simp [inR, Cont.cells]; done) | (simp [inR, Cont.cells]; omega)))
    | (with_reducible apply If_true)
    | (with_reducible apply If_false)
    | ((with_reducible apply If_dec) <;> intro hc <;> (try (exfalso; omega)))
    | (with_reducible apply If_not)
    | ((with_reducible apply If_any) <;> intro hc)
    | ((with_reducible apply PF.mk); (focus kernel_rfl))
    | ((with_reducible apply DrawP.mk); (focus kernel_rfl))
    | ((with_reducible apply Same.mk); (focus rfl); (first | exact trivial | exact rfl))
    | (intro cap hcap)
    | ((fail_if_success (with_reducible apply Fin.mk)); (fail_if_success (with_reducible apply CallP.mk)); (fail_if_success (with_reducible apply LoopP.mk)); (fail_if_success (with_reducible apply VC.mk)); (fail_if_success (with_reducible apply falseMk)); (fail_if_success (with_reducible apply Round.mk)); (fail_if_success (with_reducible apply Eq.symm)); conv => whnf))
    refine put_at m n o.pos o.b 1 ⟨b1, b2, b3⟩ rfl ⟨rfl, rfl, rfl, trivial⟩ ?_
    intro r' m' hm
    have hd : s.Did o s' := .inr (.inl ⟨by assumption, by rcases hr with ⟨_, h1, h2⟩ | ⟨_, h1, h2, h3⟩ | ⟨_, h1, h2, h3, h4⟩ | ⟨_, h1, h2, h3, h4⟩ <;> simp_all⟩)
    repeat' (first
    | (with_reducible exact True.intro)
    | (with_reducible apply And.intro)
    | ((with_reducible apply VC.mk); (first | trivial | omega | (simp only [inR]; omega) | (exact ⟨rfl, List.prefix_rfl⟩) | (refine ⟨rfl, rfl, rfl, ?_, rfl⟩; (simp; done)) | (focus (repeat' (first | exact True.intro | apply And.intro | rfl | exact Nat.le_of_ble_eq_true rfl)); done) | (simp [inR, Cont.cells]; done) | (simp [inR, Cont.cells]; omega)))
    | (with_reducible apply If_true)
    | (with_reducible apply If_false)
    | ((with_reducible apply If_dec) <;> intro hc <;> (try (exfalso; omega)))
    | (with_reducible apply If_not)
    | ((with_reducible apply If_any) <;> intro hc)
    | ((with_reducible apply PF.mk); (focus kernel_rfl))
    | ((with_reducible apply DrawP.mk); (focus kernel_rfl))
    | ((with_reducible apply Same.mk); (focus rfl); (first | exact trivial | exact rfl))
    | (intro cap hcap)
    | ((fail_if_success (with_reducible apply Fin.mk)); (fail_if_success (with_reducible apply CallP.mk)); (fail_if_success (with_reducible apply LoopP.mk)); (fail_if_success (with_reducible apply VC.mk)); (fail_if_success (with_reducible apply falseMk)); (fail_if_success (with_reducible apply Round.mk)); (fail_if_success (with_reducible apply Eq.symm)); conv => whnf))
    all_goals exact fin _ _ _ _ rfl rfl (by simp) hd hm
  · refine truncate_at s o.n 0 ⟨a1, a2, a3, a4, a6, a5⟩ rfl ⟨rfl, rfl, trivial⟩ ?_
    intro r s' hr
    repeat' (first
    | (with_reducible exact True.intro)
    | (with_reducible apply And.intro)
    | ((with_reducible apply VC.mk); (first | trivial | omega | (simp only [inR]; omega) | (exact ⟨rfl, List.prefix_rfl⟩) | (refine ⟨rfl, rfl, rfl, ?_, rfl⟩; (simp; done)) | (focus (repeat' (first | exact True.intro | apply And.intro | rfl | exact Nat.le_of_ble_eq_true rfl)); done) | (simp [inR, Cont.cells]; done) | (simp [inR, Cont.cells]; omega)))
    | (with_reducible apply If_true)
    | (with_reducible apply If_false)
    | ((with_reducible apply If_dec) <;> intro hc <;> (try (exfalso; omega)))
    | (with_reducible apply If_not)
    | ((with_reducible apply If_any) <;> intro hc)
    | ((with_reducible apply PF.mk); (focus kernel_rfl))
    | ((with_reducible apply DrawP.mk); (focus kernel_rfl))
    | ((with_reducible apply Same.mk); (focus rfl); (first | exact trivial | exact rfl))
    | (intro cap hcap)
    | ((fail_if_success (with_reducible apply Fin.mk)); (fail_if_success (with_reducible apply CallP.mk)); (fail_if_success (with_reducible apply LoopP.mk)); (fail_if_success (with_reducible apply VC.mk)); (fail_if_success (with_reducible apply falseMk)); (fail_if_success (with_reducible apply Round.mk)); (fail_if_success (with_reducible apply Eq.symm)); conv => whnf))
    refine rcut_at m n o.n 1 ⟨b1, b2⟩ rfl ⟨rfl, rfl, trivial⟩ ?_
    intro r' m' hm
    have hd : s.Did o s' := .inr (.inr (.inl ⟨by assumption, by rcases hr with ⟨_, h1, h2⟩ | ⟨_, h1, h2, h3⟩ | ⟨_, h1, h2, h3, h4⟩ <;> simp_all⟩))
    have hm' := RF.OkM hm (show n + 1 ≤ n + 1 + o.b.length by omega)
    repeat' (first
    | (with_reducible exact True.intro)
    | (with_reducible apply And.intro)
    | ((with_reducible apply VC.mk); (first | trivial | omega | (simp only [inR]; omega) | (exact ⟨rfl, List.prefix_rfl⟩) | (refine ⟨rfl, rfl, rfl, ?_, rfl⟩; (simp; done)) | (focus (repeat' (first | exact True.intro | apply And.intro | rfl | exact Nat.le_of_ble_eq_true rfl)); done) | (simp [inR, Cont.cells]; done) | (simp [inR, Cont.cells]; omega)))
    | (with_reducible apply If_true)
    | (with_reducible apply If_false)
    | ((with_reducible apply If_dec) <;> intro hc <;> (try (exfalso; omega)))
    | (with_reducible apply If_not)
    | ((with_reducible apply If_any) <;> intro hc)
    | ((with_reducible apply PF.mk); (focus kernel_rfl))
    | ((with_reducible apply DrawP.mk); (focus kernel_rfl))
    | ((with_reducible apply Same.mk); (focus rfl); (first | exact trivial | exact rfl))
    | (intro cap hcap)
    | ((fail_if_success (with_reducible apply Fin.mk)); (fail_if_success (with_reducible apply CallP.mk)); (fail_if_success (with_reducible apply LoopP.mk)); (fail_if_success (with_reducible apply VC.mk)); (fail_if_success (with_reducible apply falseMk)); (fail_if_success (with_reducible apply Round.mk)); (fail_if_success (with_reducible apply Eq.symm)); conv => whnf))
    all_goals exact fin _ _ _ _ rfl rfl (by simp) hd hm'
  · refine flush_at s 0 ⟨a1, a2, by omega⟩ rfl ⟨rfl, trivial⟩ ?_
    intro r s' hr
    repeat' (first
    | (with_reducible exact True.intro)
    | (with_reducible apply And.intro)
    | ((with_reducible apply VC.mk); (first | trivial | omega | (simp only [inR]; omega) | (exact ⟨rfl, List.prefix_rfl⟩) | (refine ⟨rfl, rfl, rfl, ?_, rfl⟩; (simp; done)) | (focus (repeat' (first | exact True.intro | apply And.intro | rfl | exact Nat.le_of_ble_eq_true rfl)); done) | (simp [inR, Cont.cells]; done) | (simp [inR, Cont.cells]; omega)))
    | (with_reducible apply If_true)
    | (with_reducible apply If_false)
    | ((with_reducible apply If_dec) <;> intro hc <;> (try (exfalso; omega)))
    | (with_reducible apply If_not)
    | ((with_reducible apply If_any) <;> intro hc)
    | ((with_reducible apply PF.mk); (focus kernel_rfl))
    | ((with_reducible apply DrawP.mk); (focus kernel_rfl))
    | ((with_reducible apply Same.mk); (focus rfl); (first | exact trivial | exact rfl))
    | (intro cap hcap)
    | ((fail_if_success (with_reducible apply Fin.mk)); (fail_if_success (with_reducible apply CallP.mk)); (fail_if_success (with_reducible apply LoopP.mk)); (fail_if_success (with_reducible apply VC.mk)); (fail_if_success (with_reducible apply falseMk)); (fail_if_success (with_reducible apply Round.mk)); (fail_if_success (with_reducible apply Eq.symm)); conv => whnf))
    refine rflush_at m n 1 ⟨b1, b2⟩ rfl ⟨rfl, trivial⟩ ?_
    intro r' m' hm
    have hd : s.Did o s' := .inr (.inr (.inr (.inl ⟨by assumption, by rcases hr with ⟨_, h1, h2⟩ | ⟨_, h1, h2⟩ <;> simp_all⟩)))
    have hm' := RF.OkM hm (show n + 1 ≤ n + 1 + o.b.length by omega)
    repeat' (first
    | (with_reducible exact True.intro)
    | (with_reducible apply And.intro)
    | ((with_reducible apply VC.mk); (first | trivial | omega | (simp only [inR]; omega) | (exact ⟨rfl, List.prefix_rfl⟩) | (refine ⟨rfl, rfl, rfl, ?_, rfl⟩; (simp; done)) | (focus (repeat' (first | exact True.intro | apply And.intro | rfl | exact Nat.le_of_ble_eq_true rfl)); done) | (simp [inR, Cont.cells]; done) | (simp [inR, Cont.cells]; omega)))
    | (with_reducible apply If_true)
    | (with_reducible apply If_false)
    | ((with_reducible apply If_dec) <;> intro hc <;> (try (exfalso; omega)))
    | (with_reducible apply If_not)
    | ((with_reducible apply If_any) <;> intro hc)
    | ((with_reducible apply PF.mk); (focus kernel_rfl))
    | ((with_reducible apply DrawP.mk); (focus kernel_rfl))
    | ((with_reducible apply Same.mk); (focus rfl); (first | exact trivial | exact rfl))
    | (intro cap hcap)
    | ((fail_if_success (with_reducible apply Fin.mk)); (fail_if_success (with_reducible apply CallP.mk)); (fail_if_success (with_reducible apply LoopP.mk)); (fail_if_success (with_reducible apply VC.mk)); (fail_if_success (with_reducible apply falseMk)); (fail_if_success (with_reducible apply Round.mk)); (fail_if_success (with_reducible apply Eq.symm)); conv => whnf))
    all_goals exact fin _ _ _ _ rfl rfl (by simp) hd hm'
  · exact fin _ _ _ _ rfl rfl (by simp) (.inr (.inr (.inr (.inr ⟨by omega, rfl⟩)))) (RF.OkM b1 (by omega))
theorem done_K : ConOk Go.Proofs.Try.prog 21 (Con.of (DF × RF × Int × OpR) (Bool × DF × RF) (fun (_, _, _, o) => [.p 0 0 1 0, .p 1 0 1 0, .agg (opAV true o)]) (fun (s, m, _, _) => [s.pk, m.pk]) (fun (s, m, n, o) => doneOk s m n o) (fun (s, _, n, o) (_, s', m') => s.Did o s' ∧ m'.Ok (n + 1 + o.b.length)) (fun _ (b, _, _) => .v (.bool b)) (fun _ (_, s', m') => [s'.pk, m'.pk])) := by
  refine conOk_rel (T := tab) mix Go.Proofs.Try.func21 (by decide +kernel) (by kernel_rfl) [80, 94] p21 ?_ ?_ ?_ ?_
  · rintro ⟨s, m, n, o⟩; rw [Go.Proofs.Try.ntmps21]; exact Nat.le_of_ble_eq_true rfl
  · rintro ⟨s, m, n, o⟩ ⟨b, s', m'⟩ _ _
    refine ⟨trivial, fun c hc => ?_, Nat.le_refl _⟩
    simp at hc
    rcases hc with rfl | rfl
    · exact s'.pk_noF
    · exact m'.pk_noF
  · rintro ⟨s, m, n, o⟩ _ c hc
    simp at hc
    rcases hc with rfl | rfl <;> trivial
  · rintro ⟨s, m, n, o⟩ k h0 hk
    exact done_c s m n o h0 k (fun b s' m' h1 h2 => hk (b, s', m') ⟨h1, h2⟩)
theorem done_at {avs : List AV} {H : List Chunk} {k : K} (s : DF) (m : RF) (n : Int) (o : OpR) (i j : Nat) (hij : nodupN [i, j] = true) (h0 : doneOk s m n o) (hc : nth H i = some s.pk) (hd : nth H j = some m.pk) (ha : argsM H [i, j] [.p 0 0 1 0, .p 1 0 1 0, .agg (opAV true o)] avs)
    (h : ∀ (b : Bool) (s' : DF) (m' : RF), s.Did o s' → m'.Ok (n + 1 + o.b.length) → k (.v (.bool b)) ((H.set i s'.pk).set j m'.pk)) : CallP Go.Proofs.Try.prog 21 avs H k :=
  CallP.mk ⟨_, done_K.real, Con.spec done_K, (s, m, n, o), [i, j], ⟨h0, hij, ⟨hc, hd, trivial⟩, ha⟩, fun ⟨b, s', m'⟩ hr => (numK_eq _ _).mpr (by simpa [putAll, AV.ren, Chunk.ren, DF.pk, RF.pk] using h b s' m' hr.1 hr.2)⟩
end Go.Proofs.Ytjccknmgmommcaa.Sx
