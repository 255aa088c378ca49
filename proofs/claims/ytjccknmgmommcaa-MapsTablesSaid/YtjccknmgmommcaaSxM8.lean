import Derived.Test.YtjccknmgmommcaaSxM7
set_option linter.unusedVariables false
set_option linter.unusedSimpArgs false
set_option maxRecDepth 10000
namespace Go.Proofs.Ytjccknmgmommcaa.Sx
open Go.RowKit Go.Proofs.Ytjccknmgmommcaa.Sx.Tb
/-! ### List, All -/
attribute [local simp] entsC_noF entsC_ren
def word (l : List Int) (q : Nat) : Int := leV ((l.drop (8 * q)).take 8)
def decT (l : List Int) : List ER := (List.range (l.length / 8)).map (fun q => (decV (word l q)).1)
def LRel (l : List Int) (r : List ER × Int) : Prop :=
  r.2 = 0 ∧ r.1 = decT l ∧ (∀ q, q < l.length / 8 → (decV (word l q)).2 = 0) ∨ r.2 ≠ 0 ∧ r.1 = [] ∧ ∃ q, q < l.length / 8 ∧ (decV (word l q)).2 ≠ 0
theorem word_b {l : List Int} (h : B8 l) (q : Nat) : 0 ≤ word l q ∧ word l q < 18446744073709551616 := by
  have := leV_bound (l := l.drop (8 * q)) (fun x hx => h x (List.mem_of_mem_drop hx)) 8
  exact ⟨this.1, by have := this.2; simpa [word] using this⟩
set_option maxHeartbeats 8000000 in
theorem mlist_c (l : List Int) (k : K) (h0 : l.length ≤ 1099511627776 ∧ B8 l) (hk : ∀ r : List ER × Int, LRel l r → k (.tup [.im true 3 r.1.length (entsC r.1), .v (.int .i64 r.2)]) []) : evFunc tab [] [] Go.Proofs.Try.f99 [.im true 1 l.length (.ints .u8 l)] [] k := by
  repeat' (first
 | (with_reducible first | exact True.intro | apply And.intro | apply If_true | apply If_false | apply If_not)
 | ((with_reducible apply VC.mk); (first | trivial | omega | (simp only [inR]; omega) | (exact ⟨rfl, List.prefix_rfl⟩) | (refine ⟨rfl, rfl, rfl, ?_, rfl⟩; (simp; done)) | (focus (repeat' (first | exact True.intro | apply And.intro | rfl | exact Nat.le_of_ble_eq_true rfl)); done) | (simp [inR, Cont.cells]; done) | (simp [inR, Cont.cells]; omega)))
 | ((with_reducible apply If_dec) <;> intro hc <;> (try (exfalso; omega)))
 | ((with_reducible apply If_any) <;> intro hc)
 | ((with_reducible first | apply PF.mk | apply DrawP.mk); (focus kernel_rfl))
 | ((with_reducible apply Same.mk); (focus rfl); (first | exact trivial | exact rfl))
 | (intro cap hcap)
 | ((fail_if_success (with_reducible first | apply Fin.mk | apply CallP.mk | apply LoopP.mk | apply VC.mk | apply falseMk | apply Round.mk | apply LookP.mk | apply RangeP.mk | apply NextP.mk | apply EntryP.mk | apply Eq.symm)); conv => whnf))
  refine LoopP.mk ⟨Nat × Nat × List ER, fun y => 8 * y.1 ≤ l.length ∧ y.2.2 = (List.range y.1).map (fun q => (decV (word l q)).1) ∧ ∀ q, q < y.1 → (decV (word l q)).2 = 0, fun y => ([(0, .im true 1 l.length (.ints .u8 l)), (4, .s 0 0 3 y.2.2.length y.2.1), (5, .v (.int .i64 ((8 * y.1 : Nat) : Int)))], [.blk 72 (entsC y.2.2) (y.2.1 * 3)]), fun y => l.length / 8 - y.1, (0, 0, []), ⟨Nat.zero_le _, by simp, fun q h => by omega⟩, Fit.ren [0] [] rfl rfl trivial ?_ ?_, ?_⟩
  · repeat' (first
 | (with_reducible first | exact True.intro | apply And.intro | apply If_true | apply If_false | apply If_not)
 | ((with_reducible apply VC.mk); (first | trivial | omega | (simp only [inR]; omega) | (exact ⟨rfl, List.prefix_rfl⟩) | (refine ⟨rfl, rfl, rfl, ?_, rfl⟩; (simp; done)) | (focus (repeat' (first | exact True.intro | apply And.intro | rfl | exact Nat.le_of_ble_eq_true rfl)); done) | (simp [inR, Cont.cells]; done) | (simp [inR, Cont.cells]; omega)))
 | ((with_reducible apply If_dec) <;> intro hc <;> (try (exfalso; omega)))
 | ((with_reducible apply If_any) <;> intro hc)
 | ((with_reducible first | apply PF.mk | apply DrawP.mk); (focus kernel_rfl))
 | ((with_reducible apply Same.mk); (focus rfl); (first | exact trivial | exact rfl))
 | (intro cap hcap)
 | ((fail_if_success (with_reducible first | apply Fin.mk | apply CallP.mk | apply LoopP.mk | apply VC.mk | apply falseMk | apply Round.mk | apply LookP.mk | apply RangeP.mk | apply NextP.mk | apply EntryP.mk | apply Eq.symm)); conv => whnf))
  · repeat' (first
 | (with_reducible first | exact True.intro | apply And.intro | apply If_true | apply If_false | apply If_not)
 | ((with_reducible apply VC.mk); (first | trivial | omega | (simp only [inR]; omega) | (exact ⟨rfl, List.prefix_rfl⟩) | (refine ⟨rfl, rfl, rfl, ?_, rfl⟩; (simp; done)) | (focus (repeat' (first | exact True.intro | apply And.intro | rfl | exact Nat.le_of_ble_eq_true rfl)); done) | (simp [inR, Cont.cells]; done) | (simp [inR, Cont.cells]; omega)))
 | ((with_reducible apply If_dec) <;> intro hc <;> (try (exfalso; omega)))
 | ((with_reducible apply If_any) <;> intro hc)
 | ((with_reducible first | apply PF.mk | apply DrawP.mk); (focus kernel_rfl))
 | ((with_reducible apply Same.mk); (focus rfl); (first | exact trivial | exact rfl))
 | (intro cap hcap)
 | ((fail_if_success (with_reducible first | apply Fin.mk | apply CallP.mk | apply LoopP.mk | apply VC.mk | apply falseMk | apply Round.mk | apply LookP.mk | apply RangeP.mk | apply NextP.mk | apply EntryP.mk | apply Eq.symm)); conv => whnf))
  · intro y hy
    obtain ⟨g1, g2, g3⟩ := hy
    have hyl : y.2.2.length = y.1 := by rw [g2, List.length_map, List.length_range]
    have e : (((8 * y.1 : Nat) : Int)).toNat = 8 * y.1 := Int.toNat_natCast _
    repeat' (first
 | (with_reducible first | exact True.intro | apply And.intro | apply If_true | apply If_false | apply If_not)
 | ((with_reducible apply VC.mk); (first | trivial | omega | (simp only [inR]; omega) | (exact ⟨rfl, List.prefix_rfl⟩) | (refine ⟨rfl, rfl, rfl, ?_, rfl⟩; (simp; done)) | (focus (repeat' (first | exact True.intro | apply And.intro | rfl | exact Nat.le_of_ble_eq_true rfl)); done) | (simp [inR, Cont.cells]; done) | (simp [inR, Cont.cells]; omega)))
 | ((with_reducible apply If_dec) <;> intro hc <;> (try (exfalso; omega)))
 | ((with_reducible apply If_any) <;> intro hc)
 | ((with_reducible first | apply PF.mk | apply DrawP.mk); (focus kernel_rfl))
 | ((with_reducible apply Same.mk); (focus rfl); (first | exact trivial | exact rfl))
 | (intro cap hcap)
 | ((fail_if_success (with_reducible first | apply Fin.mk | apply CallP.mk | apply LoopP.mk | apply VC.mk | apply falseMk | apply Round.mk | apply LookP.mk | apply RangeP.mk | apply NextP.mk | apply EntryP.mk | apply Eq.symm)); conv => whnf))
    · refine U64_at l ((8 * y.1 : Nat) : Int) ⟨h0.1, h0.2, by omega⟩ ⟨⟨rfl, rfl, rfl⟩, rfl, trivial⟩ ?_
      rintro v b (⟨-, -, rfl, rfl⟩ | ⟨hn, -⟩)
      rotate_left
      · exact absurd ⟨by omega, by omega⟩ hn
      rw [e]
      have vb := word_b h0.2 y.1
      repeat' (first
 | (with_reducible first | exact True.intro | apply And.intro | apply If_true | apply If_false | apply If_not)
 | ((with_reducible apply VC.mk); (first | trivial | omega | (simp only [inR]; omega) | (exact ⟨rfl, List.prefix_rfl⟩) | (refine ⟨rfl, rfl, rfl, ?_, rfl⟩; (simp; done)) | (focus (repeat' (first | exact True.intro | apply And.intro | rfl | exact Nat.le_of_ble_eq_true rfl)); done) | (simp [inR, Cont.cells]; done) | (simp [inR, Cont.cells]; omega)))
 | ((with_reducible apply If_dec) <;> intro hc <;> (try (exfalso; omega)))
 | ((with_reducible apply If_any) <;> intro hc)
 | ((with_reducible first | apply PF.mk | apply DrawP.mk); (focus kernel_rfl))
 | ((with_reducible apply Same.mk); (focus rfl); (first | exact trivial | exact rfl))
 | (intro cap hcap)
 | ((fail_if_success (with_reducible first | apply Fin.mk | apply CallP.mk | apply LoopP.mk | apply VC.mk | apply falseMk | apply Round.mk | apply LookP.mk | apply RangeP.mk | apply NextP.mk | apply EntryP.mk | apply Eq.symm)); conv => whnf))
      refine mdec_at (leV ((l.drop (8 * y.1)).take 8)) vb ⟨rfl, trivial⟩ ?_
      rintro ⟨x, e2⟩ hx
      have hx1 : (decV (word l y.1)).1 = x := by unfold word; rw [← hx]
      have hx2 : (decV (word l y.1)).2 = e2 := by unfold word; rw [← hx]
      dsimp only
      repeat' (first
 | (with_reducible first | exact True.intro | apply And.intro | apply If_true | apply If_false | apply If_not)
 | ((with_reducible apply VC.mk); (first | trivial | omega | (simp only [inR]; omega) | (exact ⟨rfl, List.prefix_rfl⟩) | (refine ⟨rfl, rfl, rfl, ?_, rfl⟩; (simp; done)) | (focus (repeat' (first | exact True.intro | apply And.intro | rfl | exact Nat.le_of_ble_eq_true rfl)); done) | (simp [inR, Cont.cells]; done) | (simp [inR, Cont.cells]; omega)))
 | ((with_reducible apply If_dec) <;> intro hc <;> (try (exfalso; omega)))
 | ((with_reducible apply If_any) <;> intro hc)
 | ((with_reducible first | apply PF.mk | apply DrawP.mk); (focus kernel_rfl))
 | ((with_reducible apply Same.mk); (focus rfl); (first | exact trivial | exact rfl))
 | (intro cap hcap)
 | ((fail_if_success (with_reducible first | apply Fin.mk | apply CallP.mk | apply LoopP.mk | apply VC.mk | apply falseMk | apply Round.mk | apply LookP.mk | apply RangeP.mk | apply NextP.mk | apply EntryP.mk | apply Eq.symm)); conv => whnf))
      · have hc2 : e2 ≠ 0 := hc
        have hk2 := hk ([], e2) (.inr ⟨hc2, rfl, y.1, by omega, by rw [hx2]; exact hc2⟩)
        exact Fin.ren [] [] (.tup [.im true 3 0 (entsC []), .v (.int .i64 e2)]) [] rfl rfl trivial trivial ⟨⟨VC.mk rfl, VC.mk rfl⟩, VC.mk rfl, trivial⟩ hk2
      · have hc2 : e2 = 0 := Decidable.not_not.1 hc
        refine Round.mk ⟨(y.1 + 1, cap, y.2.2 ++ [x]), ⟨by show 8 * (y.1 + 1) ≤ _; omega, ?_, ?_⟩, by show l.length / 8 - (y.1 + 1) < l.length / 8 - y.1; omega, Fit.ren [3] [] rfl rfl trivial ?_ ?_⟩
        · show y.2.2 ++ [x] = _
          rw [List.range_succ, List.map_append, ← g2, ← hx1]; rfl
        · intro q hq
          have hq : q < y.1 + 1 := hq
          by_cases hq2 : q < y.1
          · exact g3 q hq2
          · rw [show q = y.1 by omega, hx2]; exact hc2
        · refine ⟨⟨VC.mk ⟨rfl, rfl⟩, VC.mk ⟨rfl, by show (y.2.2 ++ [x]).length ≤ _; simp⟩, ?_⟩, trivial⟩
          refine snoc_le entAV ⟨0, 0, false⟩ y.2.2 x _ ?_ ?_
          · intro j hj; simp only [if_pos hj]; exact ⟨VC.mk rfl, VC.mk rfl, VC.mk rfl, trivial⟩
          · simp only [Nat.lt_irrefl, if_false]; exact ⟨VC.mk rfl, VC.mk rfl, VC.mk rfl, trivial⟩
        · repeat' (first
 | (with_reducible first | exact True.intro | apply And.intro | apply If_true | apply If_false | apply If_not)
 | ((with_reducible apply VC.mk); (first | trivial | omega | (simp only [inR]; omega) | (exact ⟨rfl, List.prefix_rfl⟩) | (refine ⟨rfl, rfl, rfl, ?_, rfl⟩; (simp; done)) | (focus (repeat' (first | exact True.intro | apply And.intro | rfl | exact Nat.le_of_ble_eq_true rfl)); done) | (simp [inR, Cont.cells]; done) | (simp [inR, Cont.cells]; omega)))
 | ((with_reducible apply If_dec) <;> intro hc <;> (try (exfalso; omega)))
 | ((with_reducible apply If_any) <;> intro hc)
 | ((with_reducible first | apply PF.mk | apply DrawP.mk); (focus kernel_rfl))
 | ((with_reducible apply Same.mk); (focus rfl); (first | exact trivial | exact rfl))
 | (intro cap hcap)
 | ((fail_if_success (with_reducible first | apply Fin.mk | apply CallP.mk | apply LoopP.mk | apply VC.mk | apply falseMk | apply Round.mk | apply LookP.mk | apply RangeP.mk | apply NextP.mk | apply EntryP.mk | apply Eq.symm)); conv => whnf))
    · have hk2 := hk (y.2.2, 0) (.inl ⟨rfl, by unfold decT; rw [show l.length / 8 = y.1 by omega]; exact g2, fun q hq => g3 q (by omega)⟩)
      refine Fin.ren [] [0] (.tup [.im true 3 y.2.2.length (entsC y.2.2), .v (.int .i64 0)]) [] rfl rfl ⟨trivial, trivial⟩ trivial ⟨⟨VC.mk ⟨?_, rfl, rfl, rfl, by decide⟩, VC.mk ⟨rfl, rfl⟩, fun j hj => ?_⟩, VC.mk rfl, trivial⟩ hk2
      · omega
      · simp only [Nat.zero_add]; exact ⟨VC.mk rfl, VC.mk rfl, VC.mk rfl, trivial⟩
def mlistOk (x : List Int) : Prop := x.length ≤ 1099511627776 ∧ B8 x
def mlistRel (x : List Int) (r : List ER × Int) : Prop := LRel x r
theorem mlist_K : ConOk Go.Proofs.Try.prog 99 (Con.of (List Int) (List ER × Int) (fun x => [.im true 1 x.length (.ints .u8 x)]) (fun _ => []) mlistOk mlistRel (fun _ r => .tup [.im true 3 r.1.length (entsC r.1), .v (.int .i64 r.2)]) (fun _ _ => [])) := by
  refine conOk_rel (T := tab) mix Go.Proofs.Try.func99 (by decide +kernel) (by kernel_rfl) [] [] (fun n => by rw [Go.Proofs.Try.ntmps99]; exact Nat.le_of_ble_eq_true rfl) (fun x r _ _ => ⟨by simp [AV.noF, noFs, Cont.noF, recsC_noF], (fun c hc => by cases hc), Nat.le_refl _⟩) (fun x _ c hc => by cases hc) ?_
  intro x k h0 hk
  exact mlist_c x k h0 (fun r hr => hk r hr)
theorem mlist_at {avs : List AV} {H : List Chunk} {k : K} (l : List Int) (h0 : l.length ≤ 1099511627776 ∧ B8 l) (ha : argsM H [] [.im true 1 l.length (.ints .u8 l)] avs) (hQ : ∀ r : List ER × Int, (LRel l r) → k (.tup [.im true 3 r.1.length (entsC r.1), .v (.int .i64 r.2)]) H) : CallP Go.Proofs.Try.prog 99 avs H k :=
  CallP.mk ⟨_, mlist_K.real, Con.spec mlist_K, (l), [], ⟨h0, rfl, trivial, ha⟩, fun r hr => (numK_eq H.length (fun N => k (AV.ren (fren [] N) (.tup [.im true 3 r.1.length (entsC r.1), .v (.int .i64 r.2)])) (putAll H [] []))).mpr (by simpa [putAll, AV.ren, rens, Cont.ren, recsC, recAV] using hQ r hr)⟩
end Go.Proofs.Ytjccknmgmommcaa.Sx

