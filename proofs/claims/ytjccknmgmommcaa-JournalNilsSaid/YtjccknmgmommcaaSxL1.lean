import Derived.Test.YtjccknmgmommcaaSxDisk
set_option linter.unusedVariables false
set_option linter.unusedSimpArgs false
set_option maxRecDepth 10000
namespace Go.Proofs.Ytjccknmgmommcaa.Sx
open Go.RowKit Go.Proofs.Ytjccknmgmommcaa.Sx.Tb
theorem zeros_c (n : Int) (k : K) (h0 : 0 ≤ n ∧ n ≤ 1099511627776) (hk : k (.im true 1 n.toNat (.ints .u8 (List.replicate n.toNat 0))) []) : evFunc tab [] [] Go.Proofs.Try.f61 [.v (.int .i64 n)] [] k := by
  repeat' (first
    | (with_reducible exact True.intro)
    | (with_reducible apply And.intro)
    | ((with_reducible apply VC.mk); (first | trivial | omega | (simp only [inR]; omega) | (exact ⟨rfl, List.prefix_rfl⟩) | (refine ⟨rfl, rfl, rfl, ?_, rfl⟩; (simp; done)) | (focus (repeat' (first | exact True.intro | apply And.intro | rfl | exact Nat.le_of_ble_eq_true rfl)); done) | (simp [inR, Cont.cells]; done) | (simp [inR, Cont.cells]; omega)))
    | (with_reducible apply If_true)
    | (with_reducible apply If_false)
    | ((with_reducible apply If_dec) <;> intro hc <;> (try (exfalso; omega)))
    | (with_reducible apply If_not)
    | ((with_reducible apply If_any) <;> intro hc)
    | ((with_reducible apply PF.mk); (focus kernel_rfl))
    | ((with_reducible apply DrawP.mk); (focus kernel_rfl))
    | ((with_reducible apply Same.mk); (focus rfl); (first | exact trivial | exact rfl))
    | (intro cap hcap)
    | ((fail_if_success (with_reducible apply Fin.mk)); (fail_if_success (with_reducible apply CallP.mk)); (fail_if_success (with_reducible apply LoopP.mk)); (fail_if_success (with_reducible apply VC.mk)); (fail_if_success (with_reducible apply falseMk)); (fail_if_success (with_reducible apply Round.mk)); (fail_if_success (with_reducible apply Eq.symm)); conv => whnf))
  refine Fin.ren [] [0] _ [] rfl rfl ⟨trivial, trivial⟩ trivial ?_ hk
  repeat' (first
    | (with_reducible exact True.intro)
    | (with_reducible apply And.intro)
    | ((with_reducible apply VC.mk); (first | trivial | omega | (simp only [inR]; omega) | (exact ⟨rfl, List.prefix_rfl⟩) | (refine ⟨rfl, rfl, rfl, ?_, rfl⟩; (simp; done)) | (focus (repeat' (first | exact True.intro | apply And.intro | rfl | exact Nat.le_of_ble_eq_true rfl)); done) | (simp [inR, Cont.cells]; done) | (simp [inR, Cont.cells]; omega)))
    | (with_reducible apply If_true)
    | (with_reducible apply If_false)
    | ((with_reducible apply If_dec) <;> intro hc <;> (try (exfalso; omega)))
    | (with_reducible apply If_not)
    | ((with_reducible apply If_any) <;> intro hc)
    | ((with_reducible apply PF.mk); (focus kernel_rfl))
    | ((with_reducible apply DrawP.mk); (focus kernel_rfl))
    | ((with_reducible apply Same.mk); (focus rfl); (first | exact trivial | exact rfl))
    | (intro cap hcap)
    | ((fail_if_success (with_reducible apply Fin.mk)); (fail_if_success (with_reducible apply CallP.mk)); (fail_if_success (with_reducible apply LoopP.mk)); (fail_if_success (with_reducible apply VC.mk)); (fail_if_success (with_reducible apply falseMk)); (fail_if_success (with_reducible apply Round.mk)); (fail_if_success (with_reducible apply Eq.symm)); conv => whnf))
  all_goals exact VC.mk ⟨rfl, by simp⟩
theorem zeros_K : ConOk Go.Proofs.Try.prog 61 (Con.of Int (List Int) (fun n => [.v (.int .i64 n)]) (fun _ => []) (fun n => 0 ≤ n ∧ n ≤ 1099511627776) (fun n z => z = List.replicate n.toNat 0) (fun _ z => .im true 1 z.length (.ints .u8 z)) (fun _ _ => [])) := by
  refine conOk_rel (T := tab) mix Go.Proofs.Try.func61 (by decide +kernel) (by kernel_rfl) [] [] (fun n => by rw [Go.Proofs.Try.ntmps61]; exact Nat.le_of_ble_eq_true rfl) (fun n z _ _ => ⟨⟨rfl, trivial⟩, (fun c hc => by cases hc), Nat.le_refl _⟩) (fun n _ c hc => by cases hc) (fun n k h0 hk => zeros_c n k h0 ?_)
  have := hk _ rfl
  rwa [List.length_replicate] at this
theorem zeros_at {avs : List AV} {H : List Chunk} {k : K} (n : Int) (h0 : 0 ≤ n ∧ n ≤ 1099511627776) (ha : argsM H [] [.v (.int .i64 n)] avs) (h : ∀ z, z = List.replicate n.toNat 0 → k (.im true 1 z.length (.ints .u8 z)) H) : CallP Go.Proofs.Try.prog 61 avs H k :=
  CallP.mk ⟨_, zeros_K.real, Con.spec zeros_K, n, [], ⟨h0, rfl, trivial, ha⟩, fun z hz => (numK_eq _ _).mpr (by simpa [putAll, AV.ren, Cont.ren] using h z hz)⟩
theorem Fin.bool {b : Bool} {H : List Chunk} {k : K} (h : b = true) (hk : k (.v (.bool true)) []) : Fin 0 (.v (.bool b)) H k := by
  subst h
  exact Fin.ren [] [] (.v (.bool true)) [] rfl rfl trivial trivial (VC.mk rfl) hk
/-- The file of halved. -/
def halvedF : DF := (DF.mk0 (List.replicate 600 0)).wrote1 510 [1, 2, 3]
theorem halvedF_items : halvedF.items = [(false, 510, [1, 2]), (false, 512, [3])] := by decide +kernel
theorem halvedF_safe : halvedF.safe = List.replicate 600 0 := by decide +kernel
theorem halvedF_crash : crashL (List.replicate 600 0) [(false, 510, [1, 2]), (false, 512, [3])] [false, true] = List.replicate 512 0 ++ [3] ++ List.replicate 87 0 := by decide +kernel
set_option maxHeartbeats 4000000 in
theorem halved_c (k : K) (hk : k (.v (.bool true)) []) : evFunc tab [] [] Go.Proofs.Try.f15 [] [] k := by
  repeat' (first
    | (with_reducible exact True.intro)
    | (with_reducible apply And.intro)
    | ((with_reducible apply VC.mk); (first | trivial | omega | (simp only [inR]; omega) | (exact ⟨rfl, List.prefix_rfl⟩) | (refine ⟨rfl, rfl, rfl, ?_, rfl⟩; (simp; done)) | (focus (repeat' (first | exact True.intro | apply And.intro | rfl | exact Nat.le_of_ble_eq_true rfl)); done) | (simp [inR, Cont.cells]; done) | (simp [inR, Cont.cells]; omega)))
    | (with_reducible apply If_true)
    | (with_reducible apply If_false)
    | ((with_reducible apply If_dec) <;> intro hc <;> (try (exfalso; omega)))
    | (with_reducible apply If_not)
    | ((with_reducible apply If_any) <;> intro hc)
    | ((with_reducible apply PF.mk); (focus kernel_rfl))
    | ((with_reducible apply DrawP.mk); (focus kernel_rfl))
    | ((with_reducible apply Same.mk); (focus rfl); (first | exact trivial | exact rfl))
    | (intro cap hcap)
    | ((fail_if_success (with_reducible apply Fin.mk)); (fail_if_success (with_reducible apply CallP.mk)); (fail_if_success (with_reducible apply LoopP.mk)); (fail_if_success (with_reducible apply VC.mk)); (fail_if_success (with_reducible apply falseMk)); (fail_if_success (with_reducible apply Round.mk)); (fail_if_success (with_reducible apply Eq.symm)); conv => whnf))
  refine zeros_at 600 (by omega) ⟨rfl, trivial⟩ ?_
  intro z hz
  have hz : z = List.replicate 600 0 := hz
  have hzl : z.length = 600 := by rw [hz]; simp
  repeat' (first
    | (with_reducible exact True.intro)
    | (with_reducible apply And.intro)
    | ((with_reducible apply VC.mk); (first | trivial | omega | (simp only [inR]; omega) | (exact ⟨rfl, List.prefix_rfl⟩) | (refine ⟨rfl, rfl, rfl, ?_, rfl⟩; (simp; done)) | (focus (repeat' (first | exact True.intro | apply And.intro | rfl | exact Nat.le_of_ble_eq_true rfl)); done) | (simp [inR, Cont.cells]; done) | (simp [inR, Cont.cells]; omega)))
    | (with_reducible apply If_true)
    | (with_reducible apply If_false)
    | ((with_reducible apply If_dec) <;> intro hc <;> (try (exfalso; omega)))
    | (with_reducible apply If_not)
    | ((with_reducible apply If_any) <;> intro hc)
    | ((with_reducible apply PF.mk); (focus kernel_rfl))
    | ((with_reducible apply DrawP.mk); (focus kernel_rfl))
    | ((with_reducible apply Same.mk); (focus rfl); (first | exact trivial | exact rfl))
    | (intro cap hcap)
    | ((fail_if_success (with_reducible apply Fin.mk)); (fail_if_success (with_reducible apply CallP.mk)); (fail_if_success (with_reducible apply LoopP.mk)); (fail_if_success (with_reducible apply VC.mk)); (fail_if_success (with_reducible apply falseMk)); (fail_if_success (with_reducible apply Round.mk)); (fail_if_success (with_reducible apply Eq.symm)); conv => whnf))
  refine new_at z (by omega) ⟨⟨rfl, rfl, rfl⟩, trivial⟩ (fun h => by omega) (fun _ => ?_)
  repeat' (first
    | (with_reducible exact True.intro)
    | (with_reducible apply And.intro)
    | ((with_reducible apply VC.mk); (first | trivial | omega | (simp only [inR]; omega) | (exact ⟨rfl, List.prefix_rfl⟩) | (refine ⟨rfl, rfl, rfl, ?_, rfl⟩; (simp; done)) | (focus (repeat' (first | exact True.intro | apply And.intro | rfl | exact Nat.le_of_ble_eq_true rfl)); done) | (simp [inR, Cont.cells]; done) | (simp [inR, Cont.cells]; omega)))
    | (with_reducible apply If_true)
    | (with_reducible apply If_false)
    | ((with_reducible apply If_dec) <;> intro hc <;> (try (exfalso; omega)))
    | (with_reducible apply If_not)
    | ((with_reducible apply If_any) <;> intro hc)
    | ((with_reducible apply PF.mk); (focus kernel_rfl))
    | ((with_reducible apply DrawP.mk); (focus kernel_rfl))
    | ((with_reducible apply Same.mk); (focus rfl); (first | exact trivial | exact rfl))
    | (intro cap hcap)
    | ((fail_if_success (with_reducible apply Fin.mk)); (fail_if_success (with_reducible apply CallP.mk)); (fail_if_success (with_reducible apply LoopP.mk)); (fail_if_success (with_reducible apply VC.mk)); (fail_if_success (with_reducible apply falseMk)); (fail_if_success (with_reducible apply Round.mk)); (fail_if_success (with_reducible apply Eq.symm)); conv => whnf))
  refine write_at (DF.mk0 z) 510 [1, 2, 3] 0 (by simp [DF.mk0]; omega) rfl ⟨rfl, rfl, ⟨by decide, rfl, rfl, rfl, rfl, Nat.one_pos⟩, trivial⟩ ?_
  intro r s' hr
  have hr : r = 0 ∧ (s'.items = [(false, 510, [1, 2]), (false, 512, [3])] ∧ s'.safe = List.replicate 600 0) := by
    rw [hz] at hr
    rcases hr with ⟨_, h, _⟩ | ⟨_, _, h, _⟩ | ⟨_, _, _, h, _⟩ | ⟨h, _, _, _, h2⟩
    · exact absurd h (by unfold DF.refused DF.mk0; decide)
    · exact absurd h (by decide)
    · exact absurd h (by decide)
    · refine ⟨h, ?_⟩
      have h2 : s' = halvedF := h2
      rw [h2]; exact ⟨halvedF_items, halvedF_safe⟩
  obtain ⟨rfl, hi, hsf⟩ := hr
  repeat' (first
    | (with_reducible exact True.intro)
    | (with_reducible apply And.intro)
    | ((with_reducible apply VC.mk); (first | trivial | omega | (simp only [inR]; omega) | (exact ⟨rfl, List.prefix_rfl⟩) | (refine ⟨rfl, rfl, rfl, ?_, rfl⟩; (simp; done)) | (focus (repeat' (first | exact True.intro | apply And.intro | rfl | exact Nat.le_of_ble_eq_true rfl)); done) | (simp [inR, Cont.cells]; done) | (simp [inR, Cont.cells]; omega)))
    | (with_reducible apply If_true)
    | (with_reducible apply If_false)
    | ((with_reducible apply If_dec) <;> intro hc <;> (try (exfalso; omega)))
    | (with_reducible apply If_not)
    | ((with_reducible apply If_any) <;> intro hc)
    | ((with_reducible apply PF.mk); (focus kernel_rfl))
    | ((with_reducible apply DrawP.mk); (focus kernel_rfl))
    | ((with_reducible apply Same.mk); (focus rfl); (first | exact trivial | exact rfl))
    | (intro cap hcap)
    | ((fail_if_success (with_reducible apply Fin.mk)); (fail_if_success (with_reducible apply CallP.mk)); (fail_if_success (with_reducible apply LoopP.mk)); (fail_if_success (with_reducible apply VC.mk)); (fail_if_success (with_reducible apply falseMk)); (fail_if_success (with_reducible apply Round.mk)); (fail_if_success (with_reducible apply Eq.symm)); conv => whnf))
  refine crash_at s' [false, true] 0 ⟨by rw [hsf]; simp, by decide, by rw [hi]; decide, by rw [hi]; decide⟩ rfl ⟨rfl, ⟨by decide, rfl, rfl, ⟨rfl, rfl, fun j hj => by match j, hj with | 0, _ => rfl | 1, _ => rfl⟩, rfl, Nat.one_pos⟩, trivial⟩ ?_
  intro l hl
  rw [hsf, hi, halvedF_crash] at hl
  have l0 : l.length = 600 := by rw [hl]; simp
  have l1 : l.getD 510 0 = 0 := by rw [hl]; decide +kernel
  have l2 : l.getD 511 0 = 0 := by rw [hl]; decide +kernel
  have l3 : l.getD 512 0 = 3 := by rw [hl]; decide +kernel
  clear hl
  repeat' (first
    | (with_reducible exact True.intro)
    | (with_reducible apply And.intro)
    | ((with_reducible apply VC.mk); (first | trivial | omega | (simp only [inR]; omega) | (exact ⟨rfl, List.prefix_rfl⟩) | (refine ⟨rfl, rfl, rfl, ?_, rfl⟩; (simp; done)) | (focus (repeat' (first | exact True.intro | apply And.intro | rfl | exact Nat.le_of_ble_eq_true rfl)); done) | (simp [inR, Cont.cells]; done) | (simp [inR, Cont.cells]; omega)))
    | (with_reducible apply If_true)
    | (with_reducible apply If_false)
    | ((with_reducible apply If_dec) <;> intro hc <;> (try (exfalso; omega)))
    | (with_reducible apply If_not)
    | ((with_reducible apply If_any) <;> intro hc)
    | ((with_reducible apply PF.mk); (focus kernel_rfl))
    | ((with_reducible apply DrawP.mk); (focus kernel_rfl))
    | ((with_reducible apply Same.mk); (focus rfl); (first | exact trivial | exact rfl))
    | (intro cap hcap)
    | ((fail_if_success (with_reducible apply Fin.mk)); (fail_if_success (with_reducible apply CallP.mk)); (fail_if_success (with_reducible apply LoopP.mk)); (fail_if_success (with_reducible apply VC.mk)); (fail_if_success (with_reducible apply falseMk)); (fail_if_success (with_reducible apply Round.mk)); (fail_if_success (with_reducible apply Eq.symm)); conv => whnf))
  refine waiting_at s' 0 trivial rfl ⟨rfl, trivial⟩ ?_
  intro _
  rw [hi]
  repeat' (first
    | (with_reducible exact True.intro)
    | (with_reducible apply And.intro)
    | ((with_reducible apply VC.mk); (first | trivial | omega | (simp only [inR]; omega) | (exact ⟨rfl, List.prefix_rfl⟩) | (refine ⟨rfl, rfl, rfl, ?_, rfl⟩; (simp; done)) | (focus (repeat' (first | exact True.intro | apply And.intro | rfl | exact Nat.le_of_ble_eq_true rfl)); done) | (simp [inR, Cont.cells]; done) | (simp [inR, Cont.cells]; omega)))
    | (with_reducible apply If_true)
    | (with_reducible apply If_false)
    | ((with_reducible apply If_dec) <;> intro hc <;> (try (exfalso; omega)))
    | (with_reducible apply If_not)
    | ((with_reducible apply If_any) <;> intro hc)
    | ((with_reducible apply PF.mk); (focus kernel_rfl))
    | ((with_reducible apply DrawP.mk); (focus kernel_rfl))
    | ((with_reducible apply Same.mk); (focus rfl); (first | exact trivial | exact rfl))
    | (intro cap hcap)
    | ((fail_if_success (with_reducible apply Fin.mk)); (fail_if_success (with_reducible apply CallP.mk)); (fail_if_success (with_reducible apply LoopP.mk)); (fail_if_success (with_reducible apply VC.mk)); (fail_if_success (with_reducible apply falseMk)); (fail_if_success (with_reducible apply Round.mk)); (fail_if_success (with_reducible apply Eq.symm)); conv => whnf))
  · exact Fin.bool (by simpa using l3) hk
  · exact absurd l2 hc
  · exact absurd l1 hc
  · exact absurd rfl hc
theorem halved_K : ConOk Go.Proofs.Try.prog 15 (Con.fn Unit (fun _ => []) (fun _ => []) (fun _ => True) (fun _ => .v (.bool true)) (fun _ => [])) :=
  conOk_fn (T := tab) mix Go.Proofs.Try.func15 (by decide +kernel) (by kernel_rfl) [] [] (fun n => Nat.zero_le _) (fun n _ => ⟨trivial, (fun c hc => by cases hc), Nat.le_refl _⟩) (fun n _ c hc => by cases hc) (fun _ k _ hk => halved_c k hk)
theorem halved_at {avs : List AV} {H : List Chunk} {k : K} (ha : avs = []) (h : k (.v (.bool true)) H) : CallP Go.Proofs.Try.prog 15 avs H k := by
  subst ha
  exact CallP.mk ⟨_, halved_K.real, Con.spec halved_K, (), [], ⟨trivial, rfl, trivial, trivial⟩, (numK_eq H.length (fun N => k (AV.ren (fren [] N) (.v (.bool true))) (putAll H [] []))).mpr (by simpa [putAll, AV.ren] using h)⟩
/-- An operation of a law. -/
structure OpR where
  kind : Int
  pos : Int
  n : Int
  b : List Int
def OpR.z : OpR := ⟨0, 0, 0, []⟩
def opAV (g : Bool) (o : OpR) : List AV := [.v (.int .i64 o.kind), .v (.int .i64 o.pos), .v (.int .i64 o.n), .im g 1 o.b.length (.ints .u8 o.b)]
def opsC (g : Bool) (row : List OpR) : Cont := .recs 4 row.length (fun i => opAV g (row.getD i OpR.z))
def OpR.light (o : OpR) : Prop := o.b.length ≤ 1500 ∧ ¬ (6000 < o.pos ∧ o.pos ≤ 4194304) ∧ ¬ (6000 < o.n ∧ o.n ≤ 4194304 ∧ o.kind = 3)
def lightP (l : List Int) (row : List OpR) : Prop := l.length ≤ 3000 ∧ row.length ≤ 60 ∧ ∀ i, i < row.length → (row.getD i OpR.z).light
set_option maxHeartbeats 4000000 in
theorem light_c (l : List Int) (row : List OpR) (k : K) (h0 : row.length ≤ 9223372036854775807) (hk : ∀ b : Bool, (b = true → lightP l row) → k (.v (.bool b)) []) : evFunc tab [] [] Go.Proofs.Try.f16 [.im false 1 l.length (.ints .u8 l), .im false 4 row.length (opsC false row)] [] k := by
  repeat' (first
    | (with_reducible exact True.intro)
    | (with_reducible apply And.intro)
    | ((with_reducible apply VC.mk); (first | trivial | omega | (simp only [inR]; omega) | (exact ⟨rfl, List.prefix_rfl⟩) | (refine ⟨rfl, rfl, rfl, ?_, rfl⟩; (simp; done)) | (focus (repeat' (first | exact True.intro | apply And.intro | rfl | exact Nat.le_of_ble_eq_true rfl)); done) | (simp [inR, Cont.cells]; done) | (simp [inR, Cont.cells]; omega)))
    | (with_reducible apply If_true)
    | (with_reducible apply If_false)
    | ((with_reducible apply If_dec) <;> intro hc <;> (try (exfalso; omega)))
    | (with_reducible apply If_not)
    | ((with_reducible apply If_any) <;> intro hc)
    | ((with_reducible apply PF.mk); (focus kernel_rfl))
    | ((with_reducible apply DrawP.mk); (focus kernel_rfl))
    | ((with_reducible apply Same.mk); (focus rfl); (first | exact trivial | exact rfl))
    | (intro cap hcap)
    | ((fail_if_success (with_reducible apply Fin.mk)); (fail_if_success (with_reducible apply CallP.mk)); (fail_if_success (with_reducible apply LoopP.mk)); (fail_if_success (with_reducible apply VC.mk)); (fail_if_success (with_reducible apply falseMk)); (fail_if_success (with_reducible apply Round.mk)); (fail_if_success (with_reducible apply Eq.symm)); conv => whnf))
  · exact Fin.same (hk false (fun h => by cases h))
  · exact Fin.same (hk false (fun h => by cases h))
  refine LoopP.mk ⟨Nat, fun i => i ≤ row.length ∧ ∀ j, j < i → (row.getD j OpR.z).light, fun i => ([(1, .im false 4 row.length (opsC false row)), (5, .v (.int .i64 i))], []), fun i => row.length - i, 0, ⟨Nat.zero_le _, fun j hj => absurd hj (Nat.not_lt_zero _)⟩, Fit.ren [] [] rfl rfl trivial trivial ?_, ?_⟩
  · repeat' (first
    | (with_reducible exact True.intro)
    | (with_reducible apply And.intro)
    | ((with_reducible apply VC.mk); (first | trivial | omega | (simp only [inR]; omega) | (exact ⟨rfl, List.prefix_rfl⟩) | (refine ⟨rfl, rfl, rfl, ?_, rfl⟩; (simp; done)) | (focus (repeat' (first | exact True.intro | apply And.intro | rfl | exact Nat.le_of_ble_eq_true rfl)); done) | (simp [inR, Cont.cells]; done) | (simp [inR, Cont.cells]; omega)))
    | (with_reducible apply If_true)
    | (with_reducible apply If_false)
    | ((with_reducible apply If_dec) <;> intro hc <;> (try (exfalso; omega)))
    | (with_reducible apply If_not)
    | ((with_reducible apply If_any) <;> intro hc)
    | ((with_reducible apply PF.mk); (focus kernel_rfl))
    | ((with_reducible apply DrawP.mk); (focus kernel_rfl))
    | ((with_reducible apply Same.mk); (focus rfl); (first | exact trivial | exact rfl))
    | (intro cap hcap)
    | ((fail_if_success (with_reducible apply Fin.mk)); (fail_if_success (with_reducible apply CallP.mk)); (fail_if_success (with_reducible apply LoopP.mk)); (fail_if_success (with_reducible apply VC.mk)); (fail_if_success (with_reducible apply falseMk)); (fail_if_success (with_reducible apply Round.mk)); (fail_if_success (with_reducible apply Eq.symm)); conv => whnf))
  intro i hi
  obtain ⟨g1, g2⟩ := hi
  have e : ((i : Nat) : Int).toNat = i := Int.toNat_natCast i
  repeat' (first
    | (with_reducible exact True.intro)
    | (with_reducible apply And.intro)
    | ((with_reducible apply VC.mk); (first | trivial | omega | (simp only [inR]; omega) | (exact ⟨rfl, List.prefix_rfl⟩) | (refine ⟨rfl, rfl, rfl, ?_, rfl⟩; (simp; done)) | (focus (repeat' (first | exact True.intro | apply And.intro | rfl | exact Nat.le_of_ble_eq_true rfl)); done) | (simp [inR, Cont.cells]; done) | (simp [inR, Cont.cells]; omega)))
    | (with_reducible apply If_true)
    | (with_reducible apply If_false)
    | ((with_reducible apply If_dec) <;> intro hc <;> (try (exfalso; omega)))
    | (with_reducible apply If_not)
    | ((with_reducible apply If_any) <;> intro hc)
    | ((with_reducible apply PF.mk); (focus kernel_rfl))
    | ((with_reducible apply DrawP.mk); (focus kernel_rfl))
    | ((with_reducible apply Same.mk); (focus rfl); (first | exact trivial | exact rfl))
    | (intro cap hcap)
    | ((fail_if_success (with_reducible apply Fin.mk)); (fail_if_success (with_reducible apply CallP.mk)); (fail_if_success (with_reducible apply LoopP.mk)); (fail_if_success (with_reducible apply VC.mk)); (fail_if_success (with_reducible apply falseMk)); (fail_if_success (with_reducible apply Round.mk)); (fail_if_success (with_reducible apply Eq.symm)); conv => whnf))
  all_goals simp only [e] at *
  all_goals first
    | exact Fin.same (hk false (fun h => by cases h))
    | exact Fin.same (hk true (fun _ => ⟨by omega, by omega, fun j hj => g2 j (by omega)⟩))
    | skip
  all_goals
    refine Round.mk ⟨i + 1, ⟨by omega, fun j hj => ?_⟩, (by show row.length - (i + 1) < row.length - i; omega), Fit.ren [] [] rfl rfl trivial trivial ?_⟩
    · by_cases hji : j = i
      · subst hji; unfold OpR.light; omega
      · exact g2 j (by omega)
    · repeat' (first
    | (with_reducible exact True.intro)
    | (with_reducible apply And.intro)
    | ((with_reducible apply VC.mk); (first | trivial | omega | (simp only [inR]; omega) | (exact ⟨rfl, List.prefix_rfl⟩) | (refine ⟨rfl, rfl, rfl, ?_, rfl⟩; (simp; done)) | (focus (repeat' (first | exact True.intro | apply And.intro | rfl | exact Nat.le_of_ble_eq_true rfl)); done) | (simp [inR, Cont.cells]; done) | (simp [inR, Cont.cells]; omega)))
    | (with_reducible apply If_true)
    | (with_reducible apply If_false)
    | ((with_reducible apply If_dec) <;> intro hc <;> (try (exfalso; omega)))
    | (with_reducible apply If_not)
    | ((with_reducible apply If_any) <;> intro hc)
    | ((with_reducible apply PF.mk); (focus kernel_rfl))
    | ((with_reducible apply DrawP.mk); (focus kernel_rfl))
    | ((with_reducible apply Same.mk); (focus rfl); (first | exact trivial | exact rfl))
    | (intro cap hcap)
    | ((fail_if_success (with_reducible apply Fin.mk)); (fail_if_success (with_reducible apply CallP.mk)); (fail_if_success (with_reducible apply LoopP.mk)); (fail_if_success (with_reducible apply VC.mk)); (fail_if_success (with_reducible apply falseMk)); (fail_if_success (with_reducible apply Round.mk)); (fail_if_success (with_reducible apply Eq.symm)); conv => whnf))
theorem light_K : ConOk Go.Proofs.Try.prog 16 (Con.of (List Int × List OpR) Bool (fun (l, row) => [.im false 1 l.length (.ints .u8 l), .im false 4 row.length (opsC false row)]) (fun _ => []) (fun (l, row) => row.length ≤ 9223372036854775807) (fun (l, row) b => b = true → lightP l row) (fun _ b => .v (.bool b)) (fun _ _ => [])) := by
  refine conOk_rel (T := tab) mix Go.Proofs.Try.func16 (by decide +kernel) (by kernel_rfl) [] [] (fun n => by rw [Go.Proofs.Try.ntmps16]; exact Nat.le_of_ble_eq_true rfl) (fun n z _ _ => ⟨trivial, (fun c hc => by cases hc), Nat.le_refl _⟩) (fun n _ c hc => by cases hc) ?_
  rintro ⟨l, row⟩ k h0 hk
  exact light_c l row k h0 (fun b hb => hk b hb)
theorem light_at {avs : List AV} {H : List Chunk} {k : K} (l : List Int) (row : List OpR) (h0 : row.length ≤ 9223372036854775807) (ha : argsM H [] [.im false 1 l.length (.ints .u8 l), .im false 4 row.length (opsC false row)] avs) (h : ∀ b : Bool, (b = true → lightP l row) → k (.v (.bool b)) H) : CallP Go.Proofs.Try.prog 16 avs H k :=
  CallP.mk ⟨_, light_K.real, Con.spec light_K, (l, row), [], ⟨h0, rfl, trivial, ha⟩, fun b hb => (numK_eq H.length (fun N => k (AV.ren (fren [] N) (.v (.bool b))) (putAll H [] []))).mpr (by simpa [putAll, AV.ren] using h b hb)⟩
end Go.Proofs.Ytjccknmgmommcaa.Sx
