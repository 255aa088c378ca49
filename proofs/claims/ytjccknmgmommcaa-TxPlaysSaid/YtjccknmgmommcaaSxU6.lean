import Derived.Test.YtjccknmgmommcaaSxU5
import Derived.Test.YtjccknmgmommcaaSxU1
set_option linter.unusedVariables false
set_option linter.unusedSimpArgs false
set_option maxRecDepth 10000
namespace Go.Proofs.Ytjccknmgmommcaa.Sx
open Go.RowKit Go.Proofs.Ytjccknmgmommcaa.Sx.Tb
/-! ### The law TxPlays -/
theorem placeX_b (o : OpR) : 10752 ≤ placeX o ∧ placeX o < 16752 ∧ (o.kind = 2 → placeX o % 512 = 0) := by
  unfold placeX
  split
  · omega
  · exact ⟨by omega, by omega, fun h => absurd h (by assumption)⟩
set_option maxHeartbeats 32000000 in
theorem txplays_c (n c : Int) (row : List OpR) (k : K) (h0 : inR .i64 n ∧ (0 ≤ c ∧ c < 256) ∧ row.length ≤ 9223372036854775807 ∧ ∀ o ∈ row, inR .i64 o.kind ∧ inR .i64 o.pos ∧ inR .i64 o.n ∧ B8 o.b) (hk : k (.v (.bool true)) []) : evFunc tab [68] p14 Go.Proofs.Try.f14 [.v (.int .i64 n), .v (.int .u8 c), .im true 4 row.length (opsC true row)] [] k := by
  obtain ⟨hn, hc8, hrl, hro⟩ := h0
  have wN : ∀ x, IntKind.u64.wrap x = x % 18446744073709551616 := fun _ => rfl
  repeat' (first
 | (with_reducible first | exact True.intro | apply And.intro | apply If_true | apply If_false | apply If_not)
 | ((with_reducible apply VC.mk); (first | trivial | omega | (simp only [inR]; omega) | (exact ⟨rfl, List.prefix_rfl⟩) | (refine ⟨rfl, rfl, rfl, ?_, rfl⟩; (simp; done)) | (focus (repeat' (first | exact True.intro | apply And.intro | rfl | exact Nat.le_of_ble_eq_true rfl)); done) | (simp [inR, Cont.cells]; done) | (simp [inR, Cont.cells]; omega)))
 | ((with_reducible apply If_dec) <;> intro hc <;> (try (exfalso; omega)))
 | ((with_reducible apply If_any) <;> intro hc)
 | ((with_reducible first | apply PF.mk | apply DrawP.mk); (focus kernel_rfl))
 | ((with_reducible apply Same.mk); (focus rfl); (first | exact trivial | exact rfl))
 | (intro cap hcap)
 | ((fail_if_success (with_reducible first | apply Fin.mk | apply CallP.mk | apply LoopP.mk | apply VC.mk | apply falseMk | apply Round.mk | apply LookP.mk | apply RangeP.mk | apply NextP.mk | apply EntryP.mk | apply Eq.symm)); conv => whnf))
  refine changed_at trivial trivial ?_
  intro _ _
  repeat' (first
 | (with_reducible first | exact True.intro | apply And.intro | apply If_true | apply If_false | apply If_not)
 | ((with_reducible apply VC.mk); (first | trivial | omega | (simp only [inR]; omega) | (exact ⟨rfl, List.prefix_rfl⟩) | (refine ⟨rfl, rfl, rfl, ?_, rfl⟩; (simp; done)) | (focus (repeat' (first | exact True.intro | apply And.intro | rfl | exact Nat.le_of_ble_eq_true rfl)); done) | (simp [inR, Cont.cells]; done) | (simp [inR, Cont.cells]; omega)))
 | ((with_reducible apply If_dec) <;> intro hc <;> (try (exfalso; omega)))
 | ((with_reducible apply If_any) <;> intro hc)
 | ((with_reducible first | apply PF.mk | apply DrawP.mk); (focus kernel_rfl))
 | ((with_reducible apply Same.mk); (focus rfl); (first | exact trivial | exact rfl))
 | (intro cap hcap)
 | ((fail_if_success (with_reducible first | apply Fin.mk | apply CallP.mk | apply LoopP.mk | apply VC.mk | apply falseMk | apply Round.mk | apply LookP.mk | apply RangeP.mk | apply NextP.mk | apply EntryP.mk | apply Eq.symm)); conv => whnf))
  refine xlight_at row hrl ⟨⟨rfl, rfl, rfl, rfl, fun _ _ => rfl⟩, trivial⟩ ?_
  intro b hb
  repeat' (first
 | (with_reducible first | exact True.intro | apply And.intro | apply If_true | apply If_false | apply If_not)
 | ((with_reducible apply VC.mk); (first | trivial | omega | (simp only [inR]; omega) | (exact ⟨rfl, List.prefix_rfl⟩) | (refine ⟨rfl, rfl, rfl, ?_, rfl⟩; (simp; done)) | (focus (repeat' (first | exact True.intro | apply And.intro | rfl | exact Nat.le_of_ble_eq_true rfl)); done) | (simp [inR, Cont.cells]; done) | (simp [inR, Cont.cells]; omega)))
 | ((with_reducible apply If_dec) <;> intro hc <;> (try (exfalso; omega)))
 | ((with_reducible apply If_any) <;> intro hc)
 | ((with_reducible first | apply PF.mk | apply DrawP.mk); (focus kernel_rfl))
 | ((with_reducible apply Same.mk); (focus rfl); (first | exact trivial | exact rfl))
 | (intro cap hcap)
 | ((fail_if_success (with_reducible first | apply Fin.mk | apply CallP.mk | apply LoopP.mk | apply VC.mk | apply falseMk | apply Round.mk | apply LookP.mk | apply RangeP.mk | apply NextP.mk | apply EntryP.mk | apply Eq.symm)); conv => whnf))
  rotate_left
  · refine changed_at trivial trivial ?_
    intro _ _
    repeat' (first
 | (with_reducible first | exact True.intro | apply And.intro | apply If_true | apply If_false | apply If_not)
 | ((with_reducible apply VC.mk); (first | trivial | omega | (simp only [inR]; omega) | (exact ⟨rfl, List.prefix_rfl⟩) | (refine ⟨rfl, rfl, rfl, ?_, rfl⟩; (simp; done)) | (focus (repeat' (first | exact True.intro | apply And.intro | rfl | exact Nat.le_of_ble_eq_true rfl)); done) | (simp [inR, Cont.cells]; done) | (simp [inR, Cont.cells]; omega)))
 | ((with_reducible apply If_dec) <;> intro hc <;> (try (exfalso; omega)))
 | ((with_reducible apply If_any) <;> intro hc)
 | ((with_reducible first | apply PF.mk | apply DrawP.mk); (focus kernel_rfl))
 | ((with_reducible apply Same.mk); (focus rfl); (first | exact trivial | exact rfl))
 | (intro cap hcap)
 | ((fail_if_success (with_reducible first | apply Fin.mk | apply CallP.mk | apply LoopP.mk | apply VC.mk | apply falseMk | apply Round.mk | apply LookP.mk | apply RangeP.mk | apply NextP.mk | apply EntryP.mk | apply Eq.symm)); conv => whnf))
    exact Fin.same hk
  have hlt := hb hc
  clear hb hc
  refine tbase_at n c ⟨hn, hc8⟩ ⟨rfl, rfl, trivial⟩ ?_
  intro b hb
  have hb : b = baseL n c := hb
  have hbl : 10752 ≤ b.length ∧ b.length < 17752 := by rw [hb, baseL_length]; omega
  have hb8 : B8 b := by rw [hb]; exact baseL_B8 hc8
  clear hb
  repeat' (first
 | (with_reducible first | exact True.intro | apply And.intro | apply If_true | apply If_false | apply If_not)
 | ((with_reducible apply VC.mk); (first | trivial | omega | (simp only [inR]; omega) | (exact ⟨rfl, List.prefix_rfl⟩) | (refine ⟨rfl, rfl, rfl, ?_, rfl⟩; (simp; done)) | (focus (repeat' (first | exact True.intro | apply And.intro | rfl | exact Nat.le_of_ble_eq_true rfl)); done) | (simp [inR, Cont.cells]; done) | (simp [inR, Cont.cells]; omega)))
 | ((with_reducible apply If_dec) <;> intro hc <;> (try (exfalso; omega)))
 | ((with_reducible apply If_any) <;> intro hc)
 | ((with_reducible first | apply PF.mk | apply DrawP.mk); (focus kernel_rfl))
 | ((with_reducible apply Same.mk); (focus rfl); (first | exact trivial | exact rfl))
 | (intro cap hcap)
 | ((fail_if_success (with_reducible first | apply Fin.mk | apply CallP.mk | apply LoopP.mk | apply VC.mk | apply falseMk | apply Round.mk | apply LookP.mk | apply RangeP.mk | apply NextP.mk | apply EntryP.mk | apply Eq.symm)); conv => whnf))
  refine topen_at b ⟨by omega, by omega⟩ ⟨⟨rfl, rfl, rfl⟩, trivial⟩ ?_
  repeat' (first
 | (with_reducible first | exact True.intro | apply And.intro | apply If_true | apply If_false | apply If_not)
 | ((with_reducible apply VC.mk); (first | trivial | omega | (simp only [inR]; omega) | (exact ⟨rfl, List.prefix_rfl⟩) | (refine ⟨rfl, rfl, rfl, ?_, rfl⟩; (simp; done)) | (focus (repeat' (first | exact True.intro | apply And.intro | rfl | exact Nat.le_of_ble_eq_true rfl)); done) | (simp [inR, Cont.cells]; done) | (simp [inR, Cont.cells]; omega)))
 | ((with_reducible apply If_dec) <;> intro hc <;> (try (exfalso; omega)))
 | ((with_reducible apply If_any) <;> intro hc)
 | ((with_reducible first | apply PF.mk | apply DrawP.mk); (focus kernel_rfl))
 | ((with_reducible apply Same.mk); (focus rfl); (first | exact trivial | exact rfl))
 | (intro cap hcap)
 | ((fail_if_success (with_reducible first | apply Fin.mk | apply CallP.mk | apply LoopP.mk | apply VC.mk | apply falseMk | apply Round.mk | apply LookP.mk | apply RangeP.mk | apply NextP.mk | apply EntryP.mk | apply Eq.symm)); conv => whnf))
  refine begin_at jX (DF.mk0 b) 0 1 rfl rfl rfl ⟨rfl, trivial⟩ ?_
  repeat' (first
 | (with_reducible first | exact True.intro | apply And.intro | apply If_true | apply If_false | apply If_not)
 | ((with_reducible apply VC.mk); (first | trivial | omega | (simp only [inR]; omega) | (exact ⟨rfl, List.prefix_rfl⟩) | (refine ⟨rfl, rfl, rfl, ?_, rfl⟩; (simp; done)) | (focus (repeat' (first | exact True.intro | apply And.intro | rfl | exact Nat.le_of_ble_eq_true rfl)); done) | (simp [inR, Cont.cells]; done) | (simp [inR, Cont.cells]; omega)))
 | ((with_reducible apply If_dec) <;> intro hc <;> (try (exfalso; omega)))
 | ((with_reducible apply If_any) <;> intro hc)
 | ((with_reducible first | apply PF.mk | apply DrawP.mk); (focus kernel_rfl))
 | ((with_reducible apply Same.mk); (focus rfl); (first | exact trivial | exact rfl))
 | (intro cap hcap)
 | ((fail_if_success (with_reducible first | apply Fin.mk | apply CallP.mk | apply LoopP.mk | apply VC.mk | apply falseMk | apply Round.mk | apply LookP.mk | apply RangeP.mk | apply NextP.mk | apply EntryP.mk | apply Eq.symm)); conv => whnf))
  have zO := TR.zero_ok
  refine LoopP.mk ⟨Nat × Nat × TR × List Int, fun y => y.1 ≤ row.length ∧ y.2.1 ≤ 4000 * y.1 ∧ (y.2.2.1.Ok ∧ y.2.2.1.over = false ∧ y.2.2.1.fresh.length ≤ y.1) ∧ (∀ q, y.2.2.1.V b q = y.2.2.2.getD q 0) ∧ y.2.2.2.length ≤ 20000, fun y => ([(2, .im true 4 row.length (opsC true row)), (7, .im true 1 b.length (.ints .u8 b)), (8, .p 4 0 1 0), (11, .p 0 0 1 0), (13, .im true 1 y.2.2.2.length (.ints .u8 y.2.2.2)), (14, .v (.int .i64 (y.1 : Int)))], tpre y.2.2.1 jX ((DF.mk0 b).tick y.2.1)), fun y => row.length - y.1, (0, 0, TR.zero, b), ⟨Nat.zero_le _, Nat.zero_le _, ⟨zO, rfl, Nat.zero_le _⟩, fun q => zero_V b q, by show b.length ≤ _; omega⟩, Fit.ren [2, 3, 4, 0, 1] [] rfl rfl trivial (T5.leG (cs := []) rfl rfl rfl rfl rfl rfl rfl rfl rfl ⟨rfl, rfl, rfl, rfl, rfl⟩ trivial) ?_, ?_⟩
  · repeat' (first
 | (with_reducible first | exact True.intro | apply And.intro | apply If_true | apply If_false | apply If_not)
 | ((with_reducible apply VC.mk); (first | trivial | omega | (simp only [inR]; omega) | (exact ⟨rfl, List.prefix_rfl⟩) | (refine ⟨rfl, rfl, rfl, ?_, rfl⟩; (simp; done)) | (focus (repeat' (first | exact True.intro | apply And.intro | rfl | exact Nat.le_of_ble_eq_true rfl)); done) | (simp [inR, Cont.cells]; done) | (simp [inR, Cont.cells]; omega)))
 | ((with_reducible apply If_dec) <;> intro hc <;> (try (exfalso; omega)))
 | ((with_reducible apply If_any) <;> intro hc)
 | ((with_reducible first | apply PF.mk | apply DrawP.mk); (focus kernel_rfl))
 | ((with_reducible apply Same.mk); (focus rfl); (first | exact trivial | exact rfl))
 | (intro cap hcap)
 | ((fail_if_success (with_reducible first | apply Fin.mk | apply CallP.mk | apply LoopP.mk | apply VC.mk | apply falseMk | apply Round.mk | apply LookP.mk | apply RangeP.mk | apply NextP.mk | apply EntryP.mk | apply Eq.symm)); conv => whnf))
  intro y hy
  obtain ⟨g1, g2, ⟨g3, g4, g5⟩, g6, g7⟩ := hy
  have e : ((y.1 : Nat) : Int).toNat = y.1 := Int.toNat_natCast _
  have hr25 := hlt.1
  have hops : ∀ m : Nat, m ≤ 200000 → 0 ≤ ((DF.mk0 b).tick m).ops ∧ ((DF.mk0 b).tick m).ops ≤ 274877906944 := by
    intro m hm
    show 0 ≤ 0 + (m : Int) ∧ 0 + (m : Int) ≤ _
    omega
  repeat' (first
 | (with_reducible first | exact True.intro | apply And.intro | apply If_true | apply If_false | apply If_not)
 | ((with_reducible apply VC.mk); (first | trivial | omega | (simp only [inR]; omega) | (exact ⟨rfl, List.prefix_rfl⟩) | (refine ⟨rfl, rfl, rfl, ?_, rfl⟩; (simp; done)) | (focus (repeat' (first | exact True.intro | apply And.intro | rfl | exact Nat.le_of_ble_eq_true rfl)); done) | (simp [inR, Cont.cells]; done) | (simp [inR, Cont.cells]; omega)))
 | ((with_reducible apply If_dec) <;> intro hc <;> (try (exfalso; omega)))
 | ((with_reducible apply If_any) <;> intro hc)
 | ((with_reducible first | apply PF.mk | apply DrawP.mk); (focus kernel_rfl))
 | ((with_reducible apply Same.mk); (focus rfl); (first | exact trivial | exact rfl))
 | (intro cap hcap)
 | ((fail_if_success (with_reducible first | apply Fin.mk | apply CallP.mk | apply LoopP.mk | apply VC.mk | apply falseMk | apply Round.mk | apply LookP.mk | apply RangeP.mk | apply NextP.mk | apply EntryP.mk | apply Eq.symm)); conv => whnf))
  rotate_left
  · refine bytes_at ((DF.mk0 b).tick y.2.1) 4 (by show b.length ≤ _; omega) rfl ⟨rfl, trivial⟩ ?_
    intro l1 hl1
    have hl1 : l1 = b := hl1
    subst hl1
    repeat' (first
 | (with_reducible first | exact True.intro | apply And.intro | apply If_true | apply If_false | apply If_not)
 | ((with_reducible apply VC.mk); (first | trivial | omega | (simp only [inR]; omega) | (exact ⟨rfl, List.prefix_rfl⟩) | (refine ⟨rfl, rfl, rfl, ?_, rfl⟩; (simp; done)) | (focus (repeat' (first | exact True.intro | apply And.intro | rfl | exact Nat.le_of_ble_eq_true rfl)); done) | (simp [inR, Cont.cells]; done) | (simp [inR, Cont.cells]; omega)))
 | ((with_reducible apply If_dec) <;> intro hc <;> (try (exfalso; omega)))
 | ((with_reducible apply If_any) <;> intro hc)
 | ((with_reducible first | apply PF.mk | apply DrawP.mk); (focus kernel_rfl))
 | ((with_reducible apply Same.mk); (focus rfl); (first | exact trivial | exact rfl))
 | (intro cap hcap)
 | ((fail_if_success (with_reducible first | apply Fin.mk | apply CallP.mk | apply LoopP.mk | apply VC.mk | apply falseMk | apply Round.mk | apply LookP.mk | apply RangeP.mk | apply NextP.mk | apply EntryP.mk | apply Eq.symm)); conv => whnf))
    refine same_at l1 l1 ⟨⟨rfl, rfl, rfl⟩, ⟨rfl, rfl, rfl⟩, trivial⟩ ?_
    repeat' (first
 | (with_reducible first | exact True.intro | apply And.intro | apply If_true | apply If_false | apply If_not)
 | ((with_reducible apply VC.mk); (first | trivial | omega | (simp only [inR]; omega) | (exact ⟨rfl, List.prefix_rfl⟩) | (refine ⟨rfl, rfl, rfl, ?_, rfl⟩; (simp; done)) | (focus (repeat' (first | exact True.intro | apply And.intro | rfl | exact Nat.le_of_ble_eq_true rfl)); done) | (simp [inR, Cont.cells]; done) | (simp [inR, Cont.cells]; omega)))
 | ((with_reducible apply If_dec) <;> intro hc <;> (try (exfalso; omega)))
 | ((with_reducible apply If_any) <;> intro hc)
 | ((with_reducible first | apply PF.mk | apply DrawP.mk); (focus kernel_rfl))
 | ((with_reducible apply Same.mk); (focus rfl); (first | exact trivial | exact rfl))
 | (intro cap hcap)
 | ((fail_if_success (with_reducible first | apply Fin.mk | apply CallP.mk | apply LoopP.mk | apply VC.mk | apply falseMk | apply Round.mk | apply LookP.mk | apply RangeP.mk | apply NextP.mk | apply EntryP.mk | apply Eq.symm)); conv => whnf))
    exact Fin.bool (decide_eq_true rfl) hk
  have hlt2 : y.1 < row.length := by omega
  have hom : (row.getD ((y.1 : Nat) : Int).toNat OpR.z) ∈ row := by
    rw [e, show row.getD y.1 OpR.z = row[y.1] by simp [List.getD_eq_getElem?_getD, hlt2]]; exact List.getElem_mem hlt2
  obtain ⟨ro1, ro2, ro3, ro4⟩ := hro _ hom
  have hob : (row.getD ((y.1 : Nat) : Int).toNat OpR.z).b.length ≤ 1500 := by rw [e]; exact hlt.2 y.1 hlt2
  refine place_at (row.getD ((y.1 : Nat) : Int).toNat OpR.z) ro2 ⟨⟨rfl, rfl, rfl, rfl, trivial⟩, trivial⟩ ?_
  intro at_ hat
  obtain ⟨q1, q2, q3⟩ := placeX_b (row.getD ((y.1 : Nat) : Int).toNat OpR.z)
  rw [← hat] at q1 q2 q3
  obtain ⟨A, hA⟩ : ∃ A : Nat, at_ = A := ⟨at_.toNat, by omega⟩
  subst hA
  clear hat
  have fB : inB (A : Int) (row.getD ((y.1 : Nat) : Int).toNat OpR.z).b.length := by unfold inB; omega
  have fF : (row.getD ((y.1 : Nat) : Int).toNat OpR.z).kind = 2 → inF (A : Int) (row.getD ((y.1 : Nat) : Int).toNat OpR.z).b.length := fun h => by have := q3 h; unfold inF; omega
  have w3 := wN (row.getD ((y.1 : Nat) : Int).toNat OpR.z).n
  repeat' (first
    | (with_reducible exact True.intro)
    | (with_reducible apply And.intro)
    | ((with_reducible apply VC.mk); (first | omega | (simp only [inR]; omega) | exact True.intro | (exact ⟨rfl, List.prefix_rfl⟩) | (refine ⟨rfl, rfl, rfl, ?_, rfl⟩; (simp; done)) | (focus (repeat' (first | exact True.intro | apply And.intro | rfl | exact Nat.le_of_ble_eq_true rfl)); done) | (simp [inR, Cont.cells]; done) | (simp [inR, Cont.cells]; omega)))
    | (with_reducible apply If_true)
    | (with_reducible apply If_false)
    | ((with_reducible apply If_dec) <;> intro hc <;> (try (exfalso; omega)))
    | (with_reducible apply If_not)
    | ((with_reducible apply If_any) <;> intro hc)
    | ((with_reducible apply PF.mk); (focus kernel_rfl))
    | ((with_reducible apply DrawP.mk); (focus kernel_rfl))
    | ((with_reducible apply Same.mk); (focus rfl); (first | exact trivial | exact rfl))
    | (intro cap hcap)
    | ((fail_if_success (with_reducible apply Fin.mk)); (fail_if_success (with_reducible apply CallP.mk)); (fail_if_success (with_reducible apply LoopP.mk)); (fail_if_success (with_reducible apply VC.mk)); (fail_if_success (with_reducible apply falseMk)); (fail_if_success (with_reducible apply Round.mk)); (fail_if_success (with_reducible apply LookP.mk)); (fail_if_success (with_reducible apply RangeP.mk)); (fail_if_success (with_reducible apply NextP.mk)); (fail_if_success (with_reducible apply EntryP.mk)); (fail_if_success (with_reducible apply Eq.symm)); conv => whnf))
  · refine tput_at y.2.2.1 jX ((DF.mk0 b).tick y.2.1) (A : Int) (row.getD ((y.1 : Nat) : Int).toNat OpR.z).b 0 1 2 3 4 ⟨g3, ⟨rfl, rfl⟩, ⟨by simp only [inR]; omega, by omega⟩, (hops _ (by omega)).1, (hops _ (by omega)).2, by show b.length ≤ _; omega⟩ rfl rfl rfl rfl rfl rfl ⟨rfl, rfl, ⟨rfl, rfl, rfl⟩, trivial⟩ ?_
    rintro ⟨e1, t1, m1⟩ hr
    dsimp only at hr ⊢
    rcases hr with ⟨h, -⟩ | ⟨-, h, -⟩ | ⟨-, -, h1, h2, h3⟩
    · rw [g4] at h; cases h
    · exact absurd fB h
    have h2 : t1 = y.2.2.1.put b A (row.getD ((y.1 : Nat) : Int).toNat OpR.z).b := by rw [h2]; rfl
    have p1 := put_V g3 b A (row.getD ((y.1 : Nat) : Int).toNat OpR.z).b
    rw [← h2] at p1
    subst h1
    clear h2
    repeat' (first
    | (with_reducible exact True.intro)
    | (with_reducible apply And.intro)
    | ((with_reducible apply VC.mk); (first | omega | (simp only [inR]; omega) | exact True.intro | (exact ⟨rfl, List.prefix_rfl⟩) | (refine ⟨rfl, rfl, rfl, ?_, rfl⟩; (simp; done)) | (focus (repeat' (first | exact True.intro | apply And.intro | rfl | exact Nat.le_of_ble_eq_true rfl)); done) | (simp [inR, Cont.cells]; done) | (simp [inR, Cont.cells]; omega)))
    | (with_reducible apply If_true)
    | (with_reducible apply If_false)
    | ((with_reducible apply If_dec) <;> intro hc <;> (try (exfalso; omega)))
    | (with_reducible apply If_not)
    | ((with_reducible apply If_any) <;> intro hc)
    | ((with_reducible apply PF.mk); (focus kernel_rfl))
    | ((with_reducible apply DrawP.mk); (focus kernel_rfl))
    | ((with_reducible apply Same.mk); (focus rfl); (first | exact trivial | exact rfl))
    | (intro cap hcap)
    | ((fail_if_success (with_reducible apply Fin.mk)); (fail_if_success (with_reducible apply CallP.mk)); (fail_if_success (with_reducible apply LoopP.mk)); (fail_if_success (with_reducible apply VC.mk)); (fail_if_success (with_reducible apply falseMk)); (fail_if_success (with_reducible apply Round.mk)); (fail_if_success (with_reducible apply LookP.mk)); (fail_if_success (with_reducible apply RangeP.mk)); (fail_if_success (with_reducible apply NextP.mk)); (fail_if_success (with_reducible apply EntryP.mk)); (fail_if_success (with_reducible apply Eq.symm)); conv => whnf))
    refine longer_at y.2.2.2 ((A : Int) + (row.getD ((y.1 : Nat) : Int).toNat OpR.z).b.length) ⟨by omega, by omega, by omega⟩ ⟨rfl, rfl, trivial⟩ ?_
    intro m hm
    have hm : m = longL y.2.2.2 ((A : Int) + (row.getD ((y.1 : Nat) : Int).toNat OpR.z).b.length) := hm
    have hml : m.length = max y.2.2.2.length (A + (row.getD ((y.1 : Nat) : Int).toNat OpR.z).b.length) := by rw [hm, longL_length]; omega
    have hmg : ∀ q, m.getD q 0 = y.2.2.2.getD q 0 := fun q => by rw [hm, longL_get]
    clear hm
    repeat' (first
    | (with_reducible exact True.intro)
    | (with_reducible apply And.intro)
    | ((with_reducible apply VC.mk); (first | omega | (simp only [inR]; omega) | exact True.intro | (exact ⟨rfl, List.prefix_rfl⟩) | (refine ⟨rfl, rfl, rfl, ?_, rfl⟩; (simp; done)) | (focus (repeat' (first | exact True.intro | apply And.intro | rfl | exact Nat.le_of_ble_eq_true rfl)); done) | (simp [inR, Cont.cells]; done) | (simp [inR, Cont.cells]; omega)))
    | (with_reducible apply If_true)
    | (with_reducible apply If_false)
    | ((with_reducible apply If_dec) <;> intro hc <;> (try (exfalso; omega)))
    | (with_reducible apply If_not)
    | ((with_reducible apply If_any) <;> intro hc)
    | ((with_reducible apply PF.mk); (focus kernel_rfl))
    | ((with_reducible apply DrawP.mk); (focus kernel_rfl))
    | ((with_reducible apply Same.mk); (focus rfl); (first | exact trivial | exact rfl))
    | (intro cap hcap)
    | ((fail_if_success (with_reducible apply Fin.mk)); (fail_if_success (with_reducible apply CallP.mk)); (fail_if_success (with_reducible apply LoopP.mk)); (fail_if_success (with_reducible apply VC.mk)); (fail_if_success (with_reducible apply falseMk)); (fail_if_success (with_reducible apply Round.mk)); (fail_if_success (with_reducible apply LookP.mk)); (fail_if_success (with_reducible apply RangeP.mk)); (fail_if_success (with_reducible apply NextP.mk)); (fail_if_success (with_reducible apply EntryP.mk)); (fail_if_success (with_reducible apply Eq.symm)); conv => whnf))
    refine with_at m A (row.getD ((y.1 : Nat) : Int).toNat OpR.z).b ⟨by omega, by omega⟩ ⟨⟨rfl, rfl, rfl⟩, rfl, ⟨rfl, rfl, rfl⟩, trivial⟩ ?_
    intro w hw
    have hwl : w.length = max y.2.2.2.length (A + (row.getD ((y.1 : Nat) : Int).toNat OpR.z).b.length) := by rw [hw, putG_length (by omega)]; omega
    have hwg : ∀ q, t1.V b q = w.getD q 0 := fun q => by rw [hw, putG_get (by omega), p1.2.2.2.2, hmg, g6]
    clear hw
    repeat' (first
    | (with_reducible exact True.intro)
    | (with_reducible apply And.intro)
    | ((with_reducible apply VC.mk); (first | omega | (simp only [inR]; omega) | exact True.intro | (exact ⟨rfl, List.prefix_rfl⟩) | (refine ⟨rfl, rfl, rfl, ?_, rfl⟩; (simp; done)) | (focus (repeat' (first | exact True.intro | apply And.intro | rfl | exact Nat.le_of_ble_eq_true rfl)); done) | (simp [inR, Cont.cells]; done) | (simp [inR, Cont.cells]; omega)))
    | (with_reducible apply If_true)
    | (with_reducible apply If_false)
    | ((with_reducible apply If_dec) <;> intro hc <;> (try (exfalso; omega)))
    | (with_reducible apply If_not)
    | ((with_reducible apply If_any) <;> intro hc)
    | ((with_reducible apply PF.mk); (focus kernel_rfl))
    | ((with_reducible apply DrawP.mk); (focus kernel_rfl))
    | ((with_reducible apply Same.mk); (focus rfl); (first | exact trivial | exact rfl))
    | (intro cap hcap)
    | ((fail_if_success (with_reducible apply Fin.mk)); (fail_if_success (with_reducible apply CallP.mk)); (fail_if_success (with_reducible apply LoopP.mk)); (fail_if_success (with_reducible apply VC.mk)); (fail_if_success (with_reducible apply falseMk)); (fail_if_success (with_reducible apply Round.mk)); (fail_if_success (with_reducible apply LookP.mk)); (fail_if_success (with_reducible apply RangeP.mk)); (fail_if_success (with_reducible apply NextP.mk)); (fail_if_success (with_reducible apply EntryP.mk)); (fail_if_success (with_reducible apply Eq.symm)); conv => whnf))
    have hm1 : m1 ≤ 1500 := Nat.le_trans h3 hob
    rw [tick_tick]
    refine Round.mk ⟨(y.1 + 1, y.2.1 + m1, t1, w), ⟨by show y.1 + 1 ≤ _; omega, by show y.2.1 + m1 ≤ 4000 * (y.1 + 1); omega, ⟨p1.1, p1.2.2.1.trans g4, by rw [p1.2.1]; show y.2.2.1.fresh.length ≤ y.1 + 1; omega⟩, hwg, by show w.length ≤ _; omega⟩, by show row.length - (y.1 + 1) < row.length - y.1; omega, Fit.ren [0, 1, 2, 3, 4] [] rfl rfl trivial (T5.leG (cs := []) rfl rfl rfl rfl rfl rfl rfl rfl rfl ⟨rfl, rfl, rfl, rfl, rfl⟩ trivial) ?_⟩
    repeat' (first
    | (with_reducible exact True.intro)
    | (with_reducible apply And.intro)
    | ((with_reducible apply VC.mk); (first | omega | (simp only [inR]; omega) | exact True.intro | (exact ⟨rfl, List.prefix_rfl⟩) | (refine ⟨rfl, rfl, rfl, ?_, rfl⟩; (simp; done)) | (focus (repeat' (first | exact True.intro | apply And.intro | rfl | exact Nat.le_of_ble_eq_true rfl)); done) | (simp [inR, Cont.cells]; done) | (simp [inR, Cont.cells]; omega)))
    | (with_reducible apply If_true)
    | (with_reducible apply If_false)
    | ((with_reducible apply If_dec) <;> intro hc <;> (try (exfalso; omega)))
    | (with_reducible apply If_not)
    | ((with_reducible apply If_any) <;> intro hc)
    | ((with_reducible apply PF.mk); (focus kernel_rfl))
    | ((with_reducible apply DrawP.mk); (focus kernel_rfl))
    | ((with_reducible apply Same.mk); (focus rfl); (first | exact trivial | exact rfl))
    | (intro cap hcap)
    | ((fail_if_success (with_reducible apply Fin.mk)); (fail_if_success (with_reducible apply CallP.mk)); (fail_if_success (with_reducible apply LoopP.mk)); (fail_if_success (with_reducible apply VC.mk)); (fail_if_success (with_reducible apply falseMk)); (fail_if_success (with_reducible apply Round.mk)); (fail_if_success (with_reducible apply LookP.mk)); (fail_if_success (with_reducible apply RangeP.mk)); (fail_if_success (with_reducible apply NextP.mk)); (fail_if_success (with_reducible apply EntryP.mk)); (fail_if_success (with_reducible apply Eq.symm)); conv => whnf))
  · have hk2 : (row.getD ((y.1 : Nat) : Int).toNat OpR.z).kind = 2 := by assumption
    have hF := fF hk2
    refine tfresh_at y.2.2.1 jX ((DF.mk0 b).tick y.2.1) (A : Int) (row.getD ((y.1 : Nat) : Int).toNat OpR.z).b 0 1 2 3 4 ⟨g3, by omega, by simp only [inR]; omega, by omega⟩ rfl rfl rfl rfl rfl rfl ⟨rfl, rfl, ⟨rfl, rfl, rfl⟩, trivial⟩ ?_
    rintro ⟨e1, t1⟩ hr
    dsimp only
    rcases hr with ⟨h, -⟩ | ⟨-, h, -⟩ | ⟨-, -, h1, cp, h2, h3⟩
    · rw [g4] at h; cases h
    · exact absurd hF h
    have h1 : e1 = 0 := h1
    have h3 : t1 = y.2.2.1.freshT A (row.getD ((y.1 : Nat) : Int).toNat OpR.z).b cp := by have h3 : t1 = _ := h3; rw [h3]; rfl
    have p1 := fresh_V g3 (DF.mk0 b) (a := A) (p := (row.getD ((y.1 : Nat) : Int).toNat OpR.z).b) (c := cp) (by have := q3 hk2; omega) (by omega) h2 (by omega)
    rw [← h3] at p1
    subst h1
    clear h3
    repeat' (first
    | (with_reducible exact True.intro)
    | (with_reducible apply And.intro)
    | ((with_reducible apply VC.mk); (first | omega | (simp only [inR]; omega) | exact True.intro | (exact ⟨rfl, List.prefix_rfl⟩) | (refine ⟨rfl, rfl, rfl, ?_, rfl⟩; (simp; done)) | (focus (repeat' (first | exact True.intro | apply And.intro | rfl | exact Nat.le_of_ble_eq_true rfl)); done) | (simp [inR, Cont.cells]; done) | (simp [inR, Cont.cells]; omega)))
    | (with_reducible apply If_true)
    | (with_reducible apply If_false)
    | ((with_reducible apply If_dec) <;> intro hc <;> (try (exfalso; omega)))
    | (with_reducible apply If_not)
    | ((with_reducible apply If_any) <;> intro hc)
    | ((with_reducible apply PF.mk); (focus kernel_rfl))
    | ((with_reducible apply DrawP.mk); (focus kernel_rfl))
    | ((with_reducible apply Same.mk); (focus rfl); (first | exact trivial | exact rfl))
    | (intro cap hcap)
    | ((fail_if_success (with_reducible apply Fin.mk)); (fail_if_success (with_reducible apply CallP.mk)); (fail_if_success (with_reducible apply LoopP.mk)); (fail_if_success (with_reducible apply VC.mk)); (fail_if_success (with_reducible apply falseMk)); (fail_if_success (with_reducible apply Round.mk)); (fail_if_success (with_reducible apply LookP.mk)); (fail_if_success (with_reducible apply RangeP.mk)); (fail_if_success (with_reducible apply NextP.mk)); (fail_if_success (with_reducible apply EntryP.mk)); (fail_if_success (with_reducible apply Eq.symm)); conv => whnf))
    refine longer_at y.2.2.2 ((A : Int) + (row.getD ((y.1 : Nat) : Int).toNat OpR.z).b.length) ⟨by omega, by omega, by omega⟩ ⟨rfl, rfl, trivial⟩ ?_
    intro m hm
    have hm : m = longL y.2.2.2 ((A : Int) + (row.getD ((y.1 : Nat) : Int).toNat OpR.z).b.length) := hm
    have hml : m.length = max y.2.2.2.length (A + (row.getD ((y.1 : Nat) : Int).toNat OpR.z).b.length) := by rw [hm, longL_length]; omega
    have hmg : ∀ q, m.getD q 0 = y.2.2.2.getD q 0 := fun q => by rw [hm, longL_get]
    clear hm
    repeat' (first
    | (with_reducible exact True.intro)
    | (with_reducible apply And.intro)
    | ((with_reducible apply VC.mk); (first | omega | (simp only [inR]; omega) | exact True.intro | (exact ⟨rfl, List.prefix_rfl⟩) | (refine ⟨rfl, rfl, rfl, ?_, rfl⟩; (simp; done)) | (focus (repeat' (first | exact True.intro | apply And.intro | rfl | exact Nat.le_of_ble_eq_true rfl)); done) | (simp [inR, Cont.cells]; done) | (simp [inR, Cont.cells]; omega)))
    | (with_reducible apply If_true)
    | (with_reducible apply If_false)
    | ((with_reducible apply If_dec) <;> intro hc <;> (try (exfalso; omega)))
    | (with_reducible apply If_not)
    | ((with_reducible apply If_any) <;> intro hc)
    | ((with_reducible apply PF.mk); (focus kernel_rfl))
    | ((with_reducible apply DrawP.mk); (focus kernel_rfl))
    | ((with_reducible apply Same.mk); (focus rfl); (first | exact trivial | exact rfl))
    | (intro cap hcap)
    | ((fail_if_success (with_reducible apply Fin.mk)); (fail_if_success (with_reducible apply CallP.mk)); (fail_if_success (with_reducible apply LoopP.mk)); (fail_if_success (with_reducible apply VC.mk)); (fail_if_success (with_reducible apply falseMk)); (fail_if_success (with_reducible apply Round.mk)); (fail_if_success (with_reducible apply LookP.mk)); (fail_if_success (with_reducible apply RangeP.mk)); (fail_if_success (with_reducible apply NextP.mk)); (fail_if_success (with_reducible apply EntryP.mk)); (fail_if_success (with_reducible apply Eq.symm)); conv => whnf))
    refine with_at m A (row.getD ((y.1 : Nat) : Int).toNat OpR.z).b ⟨by omega, by omega⟩ ⟨⟨rfl, rfl, rfl⟩, rfl, ⟨rfl, rfl, rfl⟩, trivial⟩ ?_
    intro w hw
    have hwl : w.length = max y.2.2.2.length (A + (row.getD ((y.1 : Nat) : Int).toNat OpR.z).b.length) := by rw [hw, putG_length (by omega)]; omega
    have hwg : ∀ q, t1.V b q = w.getD q 0 := fun q => by
      rw [hw, putG_get (by omega), hmg]
      refine (p1.2.2.2.2.2 q).trans ?_
      unfold wrV
      rw [← g6]; rfl
    clear hw
    repeat' (first
    | (with_reducible exact True.intro)
    | (with_reducible apply And.intro)
    | ((with_reducible apply VC.mk); (first | omega | (simp only [inR]; omega) | exact True.intro | (exact ⟨rfl, List.prefix_rfl⟩) | (refine ⟨rfl, rfl, rfl, ?_, rfl⟩; (simp; done)) | (focus (repeat' (first | exact True.intro | apply And.intro | rfl | exact Nat.le_of_ble_eq_true rfl)); done) | (simp [inR, Cont.cells]; done) | (simp [inR, Cont.cells]; omega)))
    | (with_reducible apply If_true)
    | (with_reducible apply If_false)
    | ((with_reducible apply If_dec) <;> intro hc <;> (try (exfalso; omega)))
    | (with_reducible apply If_not)
    | ((with_reducible apply If_any) <;> intro hc)
    | ((with_reducible apply PF.mk); (focus kernel_rfl))
    | ((with_reducible apply DrawP.mk); (focus kernel_rfl))
    | ((with_reducible apply Same.mk); (focus rfl); (first | exact trivial | exact rfl))
    | (intro cap hcap)
    | ((fail_if_success (with_reducible apply Fin.mk)); (fail_if_success (with_reducible apply CallP.mk)); (fail_if_success (with_reducible apply LoopP.mk)); (fail_if_success (with_reducible apply VC.mk)); (fail_if_success (with_reducible apply falseMk)); (fail_if_success (with_reducible apply Round.mk)); (fail_if_success (with_reducible apply LookP.mk)); (fail_if_success (with_reducible apply RangeP.mk)); (fail_if_success (with_reducible apply NextP.mk)); (fail_if_success (with_reducible apply EntryP.mk)); (fail_if_success (with_reducible apply Eq.symm)); conv => whnf))
    refine Round.mk ⟨(y.1 + 1, y.2.1 + 0, t1, w), ⟨by show y.1 + 1 ≤ _; omega, by show y.2.1 + 0 ≤ 4000 * (y.1 + 1); omega, ⟨p1.1, p1.2.2.1.trans g4, by rw [p1.2.1, List.length_append]; show y.2.2.1.fresh.length + 1 ≤ y.1 + 1; omega⟩, hwg, by show w.length ≤ _; omega⟩, by show row.length - (y.1 + 1) < row.length - y.1; omega, Fit.ren [0, 1, 5, 3, 4] [] rfl rfl trivial (T5.leG (cs := []) rfl rfl rfl rfl rfl rfl rfl rfl rfl ⟨rfl, rfl, rfl, rfl, rfl⟩ trivial) ?_⟩
    repeat' (first
    | (with_reducible exact True.intro)
    | (with_reducible apply And.intro)
    | ((with_reducible apply VC.mk); (first | omega | (simp only [inR]; omega) | exact True.intro | (exact ⟨rfl, List.prefix_rfl⟩) | (refine ⟨rfl, rfl, rfl, ?_, rfl⟩; (simp; done)) | (focus (repeat' (first | exact True.intro | apply And.intro | rfl | exact Nat.le_of_ble_eq_true rfl)); done) | (simp [inR, Cont.cells]; done) | (simp [inR, Cont.cells]; omega)))
    | (with_reducible apply If_true)
    | (with_reducible apply If_false)
    | ((with_reducible apply If_dec) <;> intro hc <;> (try (exfalso; omega)))
    | (with_reducible apply If_not)
    | ((with_reducible apply If_any) <;> intro hc)
    | ((with_reducible apply PF.mk); (focus kernel_rfl))
    | ((with_reducible apply DrawP.mk); (focus kernel_rfl))
    | ((with_reducible apply Same.mk); (focus rfl); (first | exact trivial | exact rfl))
    | (intro cap hcap)
    | ((fail_if_success (with_reducible apply Fin.mk)); (fail_if_success (with_reducible apply CallP.mk)); (fail_if_success (with_reducible apply LoopP.mk)); (fail_if_success (with_reducible apply VC.mk)); (fail_if_success (with_reducible apply falseMk)); (fail_if_success (with_reducible apply Round.mk)); (fail_if_success (with_reducible apply LookP.mk)); (fail_if_success (with_reducible apply RangeP.mk)); (fail_if_success (with_reducible apply NextP.mk)); (fail_if_success (with_reducible apply EntryP.mk)); (fail_if_success (with_reducible apply Eq.symm)); conv => whnf))
  · obtain ⟨N, hN⟩ : ∃ N : Nat, IntKind.u64.wrap (row.getD ((y.1 : Nat) : Int).toNat OpR.z).n % 1500 = N := ⟨(IntKind.u64.wrap (row.getD ((y.1 : Nat) : Int).toNat OpR.z).n % 1500).toNat, by omega⟩
    have hN2 : N < 1500 := by omega
    have gB : inB (A : Int) (IntKind.u64.wrap (row.getD ((y.1 : Nat) : Int).toNat OpR.z).n % 1500) := by unfold inB; omega
    refine tget_at y.2.2.1 jX ((DF.mk0 b).tick y.2.1) (A : Int) (IntKind.u64.wrap (row.getD ((y.1 : Nat) : Int).toNat OpR.z).n % 1500) 0 1 2 3 4 ⟨g3, ⟨rfl, rfl⟩, ⟨by simp only [inR]; omega, by simp only [inR]; omega⟩, (hops _ (by omega)).1, (hops _ (by omega)).2, by show b.length ≤ _; omega⟩ rfl rfl rfl rfl rfl rfl ⟨rfl, rfl, rfl, trivial⟩ ?_
    rintro ⟨g, e1, m1⟩ hr
    dsimp only at hr ⊢
    rcases hr with ⟨-, h1, h2, h3⟩ | ⟨h, -⟩
    rotate_left
    · exact absurd gB h
    have h2 : g = y.2.2.1.rd b A N := by rw [h2, hN]; rfl
    have h3 : m1 ≤ 1500 := by rw [hN] at h3; omega
    subst h1
    repeat' (first
    | (with_reducible exact True.intro)
    | (with_reducible apply And.intro)
    | ((with_reducible apply VC.mk); (first | omega | (simp only [inR]; omega) | exact True.intro | (exact ⟨rfl, List.prefix_rfl⟩) | (refine ⟨rfl, rfl, rfl, ?_, rfl⟩; (simp; done)) | (focus (repeat' (first | exact True.intro | apply And.intro | rfl | exact Nat.le_of_ble_eq_true rfl)); done) | (simp [inR, Cont.cells]; done) | (simp [inR, Cont.cells]; omega)))
    | (with_reducible apply If_true)
    | (with_reducible apply If_false)
    | ((with_reducible apply If_dec) <;> intro hc <;> (try (exfalso; omega)))
    | (with_reducible apply If_not)
    | ((with_reducible apply If_any) <;> intro hc)
    | ((with_reducible apply PF.mk); (focus kernel_rfl))
    | ((with_reducible apply DrawP.mk); (focus kernel_rfl))
    | ((with_reducible apply Same.mk); (focus rfl); (first | exact trivial | exact rfl))
    | (intro cap hcap)
    | ((fail_if_success (with_reducible apply Fin.mk)); (fail_if_success (with_reducible apply CallP.mk)); (fail_if_success (with_reducible apply LoopP.mk)); (fail_if_success (with_reducible apply VC.mk)); (fail_if_success (with_reducible apply falseMk)); (fail_if_success (with_reducible apply Round.mk)); (fail_if_success (with_reducible apply LookP.mk)); (fail_if_success (with_reducible apply RangeP.mk)); (fail_if_success (with_reducible apply NextP.mk)); (fail_if_success (with_reducible apply EntryP.mk)); (fail_if_success (with_reducible apply Eq.symm)); conv => whnf))
    refine longer_at y.2.2.2 ((A : Int) + IntKind.u64.wrap (row.getD ((y.1 : Nat) : Int).toNat OpR.z).n % 1500) ⟨by omega, by omega, by omega⟩ ⟨rfl, rfl, trivial⟩ ?_
    intro m hm
    have hm : m = longL y.2.2.2 ((A : Int) + N) := by rw [← hN]; exact hm
    have hml : m.length = max y.2.2.2.length (A + N) := by rw [hm, longL_length]; omega
    have hmg : ∀ q, m.getD q 0 = y.2.2.2.getD q 0 := fun q => by rw [hm, longL_get]
    clear hm
    repeat' (first
    | (with_reducible exact True.intro)
    | (with_reducible apply And.intro)
    | ((with_reducible apply VC.mk); (first | omega | (simp only [inR]; omega) | exact True.intro | (exact ⟨rfl, List.prefix_rfl⟩) | (refine ⟨rfl, rfl, rfl, ?_, rfl⟩; (simp; done)) | (focus (repeat' (first | exact True.intro | apply And.intro | rfl | exact Nat.le_of_ble_eq_true rfl)); done) | (simp [inR, Cont.cells]; done) | (simp [inR, Cont.cells]; omega)))
    | (with_reducible apply If_true)
    | (with_reducible apply If_false)
    | ((with_reducible apply If_dec) <;> intro hc <;> (try (exfalso; omega)))
    | (with_reducible apply If_not)
    | ((with_reducible apply If_any) <;> intro hc)
    | ((with_reducible apply PF.mk); (focus kernel_rfl))
    | ((with_reducible apply DrawP.mk); (focus kernel_rfl))
    | ((with_reducible apply Same.mk); (focus rfl); (first | exact trivial | exact rfl))
    | (intro cap hcap)
    | ((fail_if_success (with_reducible apply Fin.mk)); (fail_if_success (with_reducible apply CallP.mk)); (fail_if_success (with_reducible apply LoopP.mk)); (fail_if_success (with_reducible apply VC.mk)); (fail_if_success (with_reducible apply falseMk)); (fail_if_success (with_reducible apply Round.mk)); (fail_if_success (with_reducible apply LookP.mk)); (fail_if_success (with_reducible apply RangeP.mk)); (fail_if_success (with_reducible apply NextP.mk)); (fail_if_success (with_reducible apply EntryP.mk)); (fail_if_success (with_reducible apply Eq.symm)); conv => whnf))
    have e5 : ((A : Int) + IntKind.u64.wrap (row.getD ((y.1 : Nat) : Int).toNat OpR.z).n % 1500).toNat - ((A : Nat) : Int).toNat = N := by omega
    have hgl : g.length = N := by rw [h2, TR.rd_length]
    have hL : List.take N (List.drop ((A : Nat) : Int).toNat m) = g := by
      refine ext_getD (by rw [List.length_take, List.length_drop, hgl, Int.toNat_natCast]; omega) (fun q hq => ?_)
      have hq : q < N := by rw [List.length_take] at hq; omega
      rw [h2, TR.rd_get _ _ _ _ _ hq, g6, ← hmg, List.getD_eq_getElem?_getD, List.getElem?_take, if_pos hq, List.getElem?_drop, Int.toNat_natCast, List.getD_eq_getElem?_getD]
    rw [e5, hL, ← hgl]
    refine same_at g g ⟨⟨rfl, rfl, rfl⟩, ⟨rfl, rfl, rfl⟩, trivial⟩ ?_
    repeat' (first
    | (with_reducible exact True.intro)
    | (with_reducible apply And.intro)
    | ((with_reducible apply VC.mk); (first | omega | (simp only [inR]; omega) | exact True.intro | (exact ⟨rfl, List.prefix_rfl⟩) | (refine ⟨rfl, rfl, rfl, ?_, rfl⟩; (simp; done)) | (focus (repeat' (first | exact True.intro | apply And.intro | rfl | exact Nat.le_of_ble_eq_true rfl)); done) | (simp [inR, Cont.cells]; done) | (simp [inR, Cont.cells]; omega)))
    | (with_reducible apply If_true)
    | (with_reducible apply If_false)
    | ((with_reducible apply If_dec) <;> intro hc <;> (try (exfalso; omega)))
    | (with_reducible apply If_not)
    | ((with_reducible apply If_any) <;> intro hc)
    | ((with_reducible apply PF.mk); (focus kernel_rfl))
    | ((with_reducible apply DrawP.mk); (focus kernel_rfl))
    | ((with_reducible apply Same.mk); (focus rfl); (first | exact trivial | exact rfl))
    | (intro cap hcap)
    | ((fail_if_success (with_reducible apply Fin.mk)); (fail_if_success (with_reducible apply CallP.mk)); (fail_if_success (with_reducible apply LoopP.mk)); (fail_if_success (with_reducible apply VC.mk)); (fail_if_success (with_reducible apply falseMk)); (fail_if_success (with_reducible apply Round.mk)); (fail_if_success (with_reducible apply LookP.mk)); (fail_if_success (with_reducible apply RangeP.mk)); (fail_if_success (with_reducible apply NextP.mk)); (fail_if_success (with_reducible apply EntryP.mk)); (fail_if_success (with_reducible apply Eq.symm)); conv => whnf))
    rotate_left
    · exact absurd rfl hc
    rw [tick_tick]
    refine Round.mk ⟨(y.1 + 1, y.2.1 + m1, y.2.2.1, y.2.2.2), ⟨by show y.1 + 1 ≤ _; omega, by show y.2.1 + m1 ≤ 4000 * (y.1 + 1); omega, ⟨g3, g4, by show y.2.2.1.fresh.length ≤ y.1 + 1; omega⟩, g6, g7⟩, by show row.length - (y.1 + 1) < row.length - y.1; omega, Fit.ren [0, 1, 2, 3, 4] [] rfl rfl trivial (T5.leG (cs := []) rfl rfl rfl rfl rfl rfl rfl rfl rfl ⟨rfl, rfl, rfl, rfl, rfl⟩ trivial) ?_⟩
    repeat' (first
    | (with_reducible exact True.intro)
    | (with_reducible apply And.intro)
    | ((with_reducible apply VC.mk); (first | omega | (simp only [inR]; omega) | exact True.intro | (exact ⟨rfl, List.prefix_rfl⟩) | (refine ⟨rfl, rfl, rfl, ?_, rfl⟩; (simp; done)) | (focus (repeat' (first | exact True.intro | apply And.intro | rfl | exact Nat.le_of_ble_eq_true rfl)); done) | (simp [inR, Cont.cells]; done) | (simp [inR, Cont.cells]; omega)))
    | (with_reducible apply If_true)
    | (with_reducible apply If_false)
    | ((with_reducible apply If_dec) <;> intro hc <;> (try (exfalso; omega)))
    | (with_reducible apply If_not)
    | ((with_reducible apply If_any) <;> intro hc)
    | ((with_reducible apply PF.mk); (focus kernel_rfl))
    | ((with_reducible apply DrawP.mk); (focus kernel_rfl))
    | ((with_reducible apply Same.mk); (focus rfl); (first | exact trivial | exact rfl))
    | (intro cap hcap)
    | ((fail_if_success (with_reducible apply Fin.mk)); (fail_if_success (with_reducible apply CallP.mk)); (fail_if_success (with_reducible apply LoopP.mk)); (fail_if_success (with_reducible apply VC.mk)); (fail_if_success (with_reducible apply falseMk)); (fail_if_success (with_reducible apply Round.mk)); (fail_if_success (with_reducible apply LookP.mk)); (fail_if_success (with_reducible apply RangeP.mk)); (fail_if_success (with_reducible apply NextP.mk)); (fail_if_success (with_reducible apply EntryP.mk)); (fail_if_success (with_reducible apply Eq.symm)); conv => whnf))
end Go.Proofs.Ytjccknmgmommcaa.Sx

