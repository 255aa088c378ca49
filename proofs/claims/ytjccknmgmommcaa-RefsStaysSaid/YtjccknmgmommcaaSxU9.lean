import Derived.Test.YtjccknmgmommcaaSxU8
set_option linter.unusedVariables false
set_option linter.unusedSimpArgs false
set_option maxRecDepth 10000
namespace Go.Proofs.Ytjccknmgmommcaa.Sx
open Go.RowKit Go.Proofs.Ytjccknmgmommcaa.Sx.Tb
/-! ### The law RefsStays -/
structure Op8 where
  kind : Int
  n : Int
  v : Int
def Op8.z : Op8 := ⟨0, 0, 0⟩
def op8AV (o : Op8) : List AV := [.v (.int .i64 o.kind), .v (.int .i64 o.n), .v (.int .i64 o.v)]
def op8C (row : List Op8) : Cont := .recs 3 row.length (fun i => op8AV (row.getD i Op8.z))
def hblk (h : HD) : Chunk := .blk 64 (.lst [.v (.int .i64 h.bits), .v (.int .i64 h.size), .v (.int .i64 h.host), .v (.int .i64 h.jr), .v (.bool h.backed)]) 5
theorem P8.le {H : List Chunk} {f : Nat → Nat} {ph : Nat → Bool} {t : TR} {j : JR} {s : DF} {h : HD} {m : List Int} {N a b c d e g p q : Nat} {σ : List Nat} {cs : List Chunk} (f0 : f 0 = a) (f1 : f 1 = b) (f2 : f 2 = c) (f3 : f 3 = d) (f4 : f 4 = e) (h0 : nth H a = some (t.c0 d b c)) (h1 : nth H b = some t.c1) (h2 : nth H c = some t.c2) (h3 : nth H d = some (j.blk e)) (h4 : nth H e = some s.pk) (h5 : nth H g = some (rfb h a)) (h6 : nth H p = some (.blk 3 (.ints .i64 m) N)) (hN : N = m.length) (h7 : nth H q = some (hblk h)) (hx : chunksLe H [] f ph σ cs) : chunksLe H [] f ph (a :: b :: c :: d :: e :: g :: p :: q :: σ) (pl7 t j s h m ++ hblk h :: cs) := by
  subst hN
  refine T5.leG f1 f2 f3 f4 h0 h1 h2 h3 h4 ⟨rfl, rfl, rfl, rfl, rfl⟩ (cs := rfb h 0 :: .blk 3 (.ints .i64 m) m.length :: hblk h :: cs) ⟨rfb_le f0 h5 rfl, ?_, ?_, hx⟩
  · unfold Chunk.le
    simp only
    rw [nth_lt h6, h6]
    exact ⟨VC.mk ⟨rfl, rfl⟩, VC.mk ⟨rfl, List.prefix_refl _⟩⟩
  · unfold Chunk.le hblk
    simp only
    rw [nth_lt h7, h7]
    exact ⟨VC.mk ⟨rfl, rfl⟩, VC.mk rfl, VC.mk rfl, VC.mk rfl, VC.mk rfl, VC.mk rfl, trivial⟩
def mOne (H i : Nat) : List Int := List.replicate i 1 ++ List.replicate (H - i) 0
theorem mOne_length {H i : Nat} (h : i ≤ H) : (mOne H i).length = H := by unfold mOne; rw [List.length_append, List.length_replicate, List.length_replicate]; omega
theorem mOne_set {H i : Nat} (h : i < H) : (mOne H i).set i 1 = mOne H (i + 1) := by
  unfold mOne
  rw [List.set_append_right _ _ (by rw [List.length_replicate]; exact Nat.le_refl _), List.length_replicate, Nat.sub_self, show H - i = (H - (i + 1)) + 1 by omega]
  show List.replicate i 1 ++ 1 :: List.replicate (H - (i + 1)) 0 = _
  rw [List.replicate_succ', List.append_assoc]; rfl
set_option maxHeartbeats 32000000 in
theorem rstays_c (n : Int) (row : List Op8) (k : K) (h0 : inR .i64 n ∧ row.length ≤ 9223372036854775807 ∧ ∀ o ∈ row, inR .i64 o.kind ∧ inR .i64 o.n ∧ inR .i64 o.v) (hk : k (.v (.bool true)) []) : evFunc tab [] p10 Go.Proofs.Try.f10 [.v (.int .i64 n), .im true 3 row.length (op8C row)] [] k := by
  obtain ⟨hn, hrl, hro⟩ := h0
  repeat' (first
 | (with_reducible first | exact True.intro | apply And.intro | apply If_true | apply If_false | apply If_not)
 | ((with_reducible apply VC.mk); (first | trivial | omega | (simp only [inR]; omega) | (exact ⟨rfl, List.prefix_rfl⟩) | (refine ⟨rfl, rfl, rfl, ?_, rfl⟩; (simp; done)) | (focus (repeat' (first | exact True.intro | apply And.intro | rfl | exact Nat.le_of_ble_eq_true rfl)); done) | (simp [inR, Cont.cells]; done) | (simp [inR, Cont.cells]; omega)))
 | ((with_reducible apply If_dec) <;> intro hc <;> (try (exfalso; omega)))
 | ((with_reducible apply If_any) <;> intro hc)
 | ((with_reducible first | apply PF.mk | apply DrawP.mk); (focus kernel_rfl))
 | ((with_reducible apply Same.mk); (focus rfl); (first | exact trivial | exact rfl))
 | (intro cap hcap)
 | ((fail_if_success (with_reducible first | apply Fin.mk | apply CallP.mk | apply LoopP.mk | apply VC.mk | apply falseMk | apply Round.mk | apply LookP.mk | apply RangeP.mk | apply NextP.mk | apply EntryP.mk | apply Eq.symm)); conv => whnf))
  · refine counted_at trivial trivial ?_
    intro _ _
    repeat' (first
 | (with_reducible first | exact True.intro | apply And.intro | apply If_true | apply If_false | apply If_not)
 | ((with_reducible apply VC.mk); (first | trivial | omega | (simp only [inR]; omega) | (exact ⟨rfl, List.prefix_rfl⟩) | (refine ⟨rfl, rfl, rfl, ?_, rfl⟩; (simp; done)) | (focus (repeat' (first | exact True.intro | apply And.intro | rfl | exact Nat.le_of_ble_eq_true rfl)); done) | (simp [inR, Cont.cells]; done) | (simp [inR, Cont.cells]; omega)))
 | ((with_reducible apply If_dec) <;> intro hc <;> (try (exfalso; omega)))
 | ((with_reducible apply If_any) <;> intro hc)
 | ((with_reducible first | apply PF.mk | apply DrawP.mk); (focus kernel_rfl))
 | ((with_reducible apply Same.mk); (focus rfl); (first | exact trivial | exact rfl))
 | (intro cap hcap)
 | ((fail_if_success (with_reducible first | apply Fin.mk | apply CallP.mk | apply LoopP.mk | apply VC.mk | apply falseMk | apply Round.mk | apply LookP.mk | apply RangeP.mk | apply NextP.mk | apply EntryP.mk | apply Eq.symm)); conv => whnf))
    exact Fin.same hk
  have hr60 : row.length ≤ 60 := by omega
  clear hc
  refine rhead_at n hn ⟨rfl, trivial⟩ ?_
  intro r hr
  have hr : r = HD.r (rH n) := hr
  subst hr
  have hH : 40 ≤ rH n ∧ rH n ≤ 99 := by unfold rH; omega
  generalize rH n = H at *
  obtain ⟨vc, vr, vj, ve, vf⟩ := HD.r_vals hH
  have hck := HD.r_check hH
  repeat' (first
 | (with_reducible first | exact True.intro | apply And.intro | apply If_true | apply If_false | apply If_not)
 | ((with_reducible apply VC.mk); (first | trivial | omega | (simp only [inR]; omega) | (exact ⟨rfl, List.prefix_rfl⟩) | (refine ⟨rfl, rfl, rfl, ?_, rfl⟩; (simp; done)) | (focus (repeat' (first | exact True.intro | apply And.intro | rfl | exact Nat.le_of_ble_eq_true rfl)); done) | (simp [inR, Cont.cells]; done) | (simp [inR, Cont.cells]; omega)))
 | ((with_reducible apply If_dec) <;> intro hc <;> (try (exfalso; omega)))
 | ((with_reducible apply If_any) <;> intro hc)
 | ((with_reducible first | apply PF.mk | apply DrawP.mk); (focus kernel_rfl))
 | ((with_reducible apply Same.mk); (focus rfl); (first | exact trivial | exact rfl))
 | (intro cap hcap)
 | ((fail_if_success (with_reducible first | apply Fin.mk | apply CallP.mk | apply LoopP.mk | apply VC.mk | apply falseMk | apply Round.mk | apply LookP.mk | apply RangeP.mk | apply NextP.mk | apply EntryP.mk | apply Eq.symm)); conv => whnf))
  refine rbegun_at H hH ⟨⟨rfl, rfl, rfl, rfl, rfl, trivial⟩, trivial⟩ ?_
  intro z hz
  have hR0 := hz.refOk hH
  have hR := hR0.2.2.1
  have hzl : z.length = 16896 := hz.1
  repeat' (first
 | (with_reducible first | exact True.intro | apply And.intro | apply If_true | apply If_false | apply If_not)
 | ((with_reducible apply VC.mk); (first | trivial | omega | (simp only [inR]; omega) | (exact ⟨rfl, List.prefix_rfl⟩) | (refine ⟨rfl, rfl, rfl, ?_, rfl⟩; (simp; done)) | (focus (repeat' (first | exact True.intro | apply And.intro | rfl | exact Nat.le_of_ble_eq_true rfl)); done) | (simp [inR, Cont.cells]; done) | (simp [inR, Cont.cells]; omega)))
 | ((with_reducible apply If_dec) <;> intro hc <;> (try (exfalso; omega)))
 | ((with_reducible apply If_any) <;> intro hc)
 | ((with_reducible first | apply PF.mk | apply DrawP.mk); (focus kernel_rfl))
 | ((with_reducible apply Same.mk); (focus rfl); (first | exact trivial | exact rfl))
 | (intro cap hcap)
 | ((fail_if_success (with_reducible first | apply Fin.mk | apply CallP.mk | apply LoopP.mk | apply VC.mk | apply falseMk | apply Round.mk | apply LookP.mk | apply RangeP.mk | apply NextP.mk | apply EntryP.mk | apply Eq.symm)); conv => whnf))
  refine counted_at trivial trivial ?_
  intro _ _
  repeat' (first
 | (with_reducible first | exact True.intro | apply And.intro | apply If_true | apply If_false | apply If_not)
 | ((with_reducible apply VC.mk); (first | trivial | omega | (simp only [inR]; omega) | (exact ⟨rfl, List.prefix_rfl⟩) | (refine ⟨rfl, rfl, rfl, ?_, rfl⟩; (simp; done)) | (focus (repeat' (first | exact True.intro | apply And.intro | rfl | exact Nat.le_of_ble_eq_true rfl)); done) | (simp [inR, Cont.cells]; done) | (simp [inR, Cont.cells]; omega)))
 | ((with_reducible apply If_dec) <;> intro hc <;> (try (exfalso; omega)))
 | ((with_reducible apply If_any) <;> intro hc)
 | ((with_reducible first | apply PF.mk | apply DrawP.mk); (focus kernel_rfl))
 | ((with_reducible apply Same.mk); (focus rfl); (first | exact trivial | exact rfl))
 | (intro cap hcap)
 | ((fail_if_success (with_reducible first | apply Fin.mk | apply CallP.mk | apply LoopP.mk | apply VC.mk | apply falseMk | apply Round.mk | apply LookP.mk | apply RangeP.mk | apply NextP.mk | apply EntryP.mk | apply Eq.symm)); conv => whnf))
  refine rnew_at TR.zero jR (DF.mk0 z) (HD.r H) 1 2 3 4 5 hR rfl rfl rfl rfl rfl rfl ⟨⟨rfl, rfl, rfl, rfl, rfl, trivial⟩, rfl, trivial⟩ (fun e => absurd hck e) (fun _ => ?_)
  repeat' (first
 | (with_reducible first | exact True.intro | apply And.intro | apply If_true | apply If_false | apply If_not)
 | ((with_reducible apply VC.mk); (first | trivial | omega | (simp only [inR]; omega) | (exact ⟨rfl, List.prefix_rfl⟩) | (refine ⟨rfl, rfl, rfl, ?_, rfl⟩; (simp; done)) | (focus (repeat' (first | exact True.intro | apply And.intro | rfl | exact Nat.le_of_ble_eq_true rfl)); done) | (simp [inR, Cont.cells]; done) | (simp [inR, Cont.cells]; omega)))
 | ((with_reducible apply If_dec) <;> intro hc <;> (try (exfalso; omega)))
 | ((with_reducible apply If_any) <;> intro hc)
 | ((with_reducible first | apply PF.mk | apply DrawP.mk); (focus kernel_rfl))
 | ((with_reducible apply Same.mk); (focus rfl); (first | exact trivial | exact rfl))
 | (intro cap hcap)
 | ((fail_if_success (with_reducible first | apply Fin.mk | apply CallP.mk | apply LoopP.mk | apply VC.mk | apply falseMk | apply Round.mk | apply LookP.mk | apply RangeP.mk | apply NextP.mk | apply EntryP.mk | apply Eq.symm)); conv => whnf))
  refine bytes_at (DF.mk0 z) 5 (by show z.length ≤ _; omega) rfl ⟨rfl, trivial⟩ ?_
  intro b hb
  have hb : b = z := hb
  subst hb
  have hhost : (HD.r H).host = H := rfl
  repeat' (first
 | (with_reducible first | exact True.intro | apply And.intro | apply If_true | apply If_false | apply If_not)
 | ((with_reducible apply VC.mk); (first | trivial | omega | (simp only [inR]; omega) | (exact ⟨rfl, List.prefix_rfl⟩) | (refine ⟨rfl, rfl, rfl, ?_, rfl⟩; (simp; done)) | (focus (repeat' (first | exact True.intro | apply And.intro | rfl | exact Nat.le_of_ble_eq_true rfl)); done) | (simp [inR, Cont.cells]; done) | (simp [inR, Cont.cells]; omega)))
 | ((with_reducible apply If_dec) <;> intro hc <;> (try (exfalso; omega)))
 | ((with_reducible apply If_any) <;> intro hc)
 | ((with_reducible first | apply PF.mk | apply DrawP.mk); (focus kernel_rfl))
 | ((with_reducible apply Same.mk); (focus rfl); (first | exact trivial | exact rfl))
 | (intro cap hcap)
 | ((fail_if_success (with_reducible first | apply Fin.mk | apply CallP.mk | apply LoopP.mk | apply VC.mk | apply falseMk | apply Round.mk | apply LookP.mk | apply RangeP.mk | apply NextP.mk | apply EntryP.mk | apply Eq.symm)); conv => whnf))
  obtain ⟨N, hN⟩ : ∃ N : Nat, H = N := ⟨H.toNat, by omega⟩
  have hNt : (HD.r H).host.toNat = N := by rw [hhost]; omega
  rw [hNt]
  have hm0 : (mOne N 0).length = N := mOne_length (Nat.zero_le _)
  refine LoopP.mk ⟨Nat, fun y => y ≤ 33, fun y => ([(1, .im true 3 row.length (op8C row)), (5, .p 7 0 1 0), (6, .p 4 0 1 0), (7, .p 0 0 1 0), (9, .p 5 0 1 0), (11, .im true 1 b.length (.ints .u8 b)), (12, .s 6 0 1 N N), (13, .v (.int .i64 (y : Int)))], pl7 TR.zero jR (DF.mk0 b) (HD.r H) (mOne N y) ++ [hblk (HD.r H)]), fun y => 33 - y, 0, Nat.zero_le _, Fit.ren [1, 2, 3, 4, 5, 6, 7, 0] [] rfl rfl trivial (P8.le rfl rfl rfl rfl rfl rfl rfl rfl rfl rfl rfl (N := N * 1) ?_ ?_ rfl trivial) ?_, ?_⟩
  · show some (Chunk.blk 3 (Cont.ints .i64 (List.replicate N 0)) _) = some (Chunk.blk 3 (Cont.ints .i64 (mOne N 0)) _)
    unfold mOne; rfl
  · rw [hm0]; omega
  · repeat' (first
 | (with_reducible first | exact True.intro | apply And.intro | apply If_true | apply If_false | apply If_not)
 | ((with_reducible apply VC.mk); (first | trivial | omega | (simp only [inR]; omega) | (exact ⟨rfl, List.prefix_rfl⟩) | (refine ⟨rfl, rfl, rfl, ?_, rfl⟩; (simp; done)) | (focus (repeat' (first | exact True.intro | apply And.intro | rfl | exact Nat.le_of_ble_eq_true rfl)); done) | (simp [inR, Cont.cells]; done) | (simp [inR, Cont.cells]; omega)))
 | ((with_reducible apply If_dec) <;> intro hc <;> (try (exfalso; omega)))
 | ((with_reducible apply If_any) <;> intro hc)
 | ((with_reducible first | apply PF.mk | apply DrawP.mk); (focus kernel_rfl))
 | ((with_reducible apply Same.mk); (focus rfl); (first | exact trivial | exact rfl))
 | (intro cap hcap)
 | ((fail_if_success (with_reducible first | apply Fin.mk | apply CallP.mk | apply LoopP.mk | apply VC.mk | apply falseMk | apply Round.mk | apply LookP.mk | apply RangeP.mk | apply NextP.mk | apply EntryP.mk | apply Eq.symm)); conv => whnf))
  · intro y hy
    have ey : ((y : Nat) : Int).toNat = y := Int.toNat_natCast _
    have hml := mOne_length (H := N) (i := y) (by omega)
    repeat' (first
 | (with_reducible first | exact True.intro | apply And.intro | apply If_true | apply If_false | apply If_not)
 | ((with_reducible apply VC.mk); (first | trivial | omega | (simp only [inR]; omega) | (exact ⟨rfl, List.prefix_rfl⟩) | (refine ⟨rfl, rfl, rfl, ?_, rfl⟩; (simp; done)) | (focus (repeat' (first | exact True.intro | apply And.intro | rfl | exact Nat.le_of_ble_eq_true rfl)); done) | (simp [inR, Cont.cells]; done) | (simp [inR, Cont.cells]; omega)))
 | ((with_reducible apply If_dec) <;> intro hc <;> (try (exfalso; omega)))
 | ((with_reducible apply If_any) <;> intro hc)
 | ((with_reducible first | apply PF.mk | apply DrawP.mk); (focus kernel_rfl))
 | ((with_reducible apply Same.mk); (focus rfl); (first | exact trivial | exact rfl))
 | (intro cap hcap)
 | ((fail_if_success (with_reducible first | apply Fin.mk | apply CallP.mk | apply LoopP.mk | apply VC.mk | apply falseMk | apply Round.mk | apply LookP.mk | apply RangeP.mk | apply NextP.mk | apply EntryP.mk | apply Eq.symm)); conv => whnf))
    refine hfirst_at (HD.r H) hR ⟨⟨rfl, rfl, rfl, rfl, rfl, trivial⟩, trivial⟩ ?_
    intro r hr
    have hr : r = 33 := hr.trans vf
    subst hr
    repeat' (first
 | (with_reducible first | exact True.intro | apply And.intro | apply If_true | apply If_false | apply If_not)
 | ((with_reducible apply VC.mk); (first | trivial | omega | (simp only [inR]; omega) | (exact ⟨rfl, List.prefix_rfl⟩) | (refine ⟨rfl, rfl, rfl, ?_, rfl⟩; (simp; done)) | (focus (repeat' (first | exact True.intro | apply And.intro | rfl | exact Nat.le_of_ble_eq_true rfl)); done) | (simp [inR, Cont.cells]; done) | (simp [inR, Cont.cells]; omega)))
 | ((with_reducible apply If_dec) <;> intro hc <;> (try (exfalso; omega)))
 | ((with_reducible apply If_any) <;> intro hc)
 | ((with_reducible first | apply PF.mk | apply DrawP.mk); (focus kernel_rfl))
 | ((with_reducible apply Same.mk); (focus rfl); (first | exact trivial | exact rfl))
 | (intro cap hcap)
 | ((fail_if_success (with_reducible first | apply Fin.mk | apply CallP.mk | apply LoopP.mk | apply VC.mk | apply falseMk | apply Round.mk | apply LookP.mk | apply RangeP.mk | apply NextP.mk | apply EntryP.mk | apply Eq.symm)); conv => whnf))
    · refine Round.mk ⟨y + 1, by show y + 1 ≤ 33; omega, by show 33 - (y + 1) < 33 - y; omega, Fit.ren [0, 1, 2, 3, 4, 5, 6, 7] [] rfl rfl trivial (P8.le rfl rfl rfl rfl rfl rfl rfl rfl rfl rfl rfl (N := (mOne N y).length) ?_ ?_ rfl trivial) ?_⟩
      · show some (Chunk.blk 3 (Cont.ints .i64 ((mOne N y).set (0 + ((y : Nat) : Int).toNat) 1)) _) = some (Chunk.blk 3 (Cont.ints .i64 (mOne N (y + 1))) _)
        rw [ey, Nat.zero_add, mOne_set (by omega)]
      · rw [hml, mOne_length (by omega)]
      · repeat' (first
 | (with_reducible first | exact True.intro | apply And.intro | apply If_true | apply If_false | apply If_not)
 | ((with_reducible apply VC.mk); (first | trivial | omega | (simp only [inR]; omega) | (exact ⟨rfl, List.prefix_rfl⟩) | (refine ⟨rfl, rfl, rfl, ?_, rfl⟩; (simp; done)) | (focus (repeat' (first | exact True.intro | apply And.intro | rfl | exact Nat.le_of_ble_eq_true rfl)); done) | (simp [inR, Cont.cells]; done) | (simp [inR, Cont.cells]; omega)))
 | ((with_reducible apply If_dec) <;> intro hc <;> (try (exfalso; omega)))
 | ((with_reducible apply If_any) <;> intro hc)
 | ((with_reducible first | apply PF.mk | apply DrawP.mk); (focus kernel_rfl))
 | ((with_reducible apply Same.mk); (focus rfl); (first | exact trivial | exact rfl))
 | (intro cap hcap)
 | ((fail_if_success (with_reducible first | apply Fin.mk | apply CallP.mk | apply LoopP.mk | apply VC.mk | apply falseMk | apply Round.mk | apply LookP.mk | apply RangeP.mk | apply NextP.mk | apply EntryP.mk | apply Eq.symm)); conv => whnf))
    have hy33 : y = 33 := by omega
    subst hy33
    have hC0 := Cnts.zero hz hH (m := mOne N 33) (by unfold mOne; rw [hN, Int.toNat_natCast])
    refine LoopP.mk ⟨Nat × Nat × TR × List Int, fun y => y.1 ≤ row.length ∧ y.2.1 ≤ 20000 * y.1 ∧ Cnts y.2.2.1 b (HD.r H) y.2.2.2 ∧ y.2.2.2.length = N, fun y => ([(1, .im true 3 row.length (op8C row)), (5, .p 7 0 1 0), (6, .p 4 0 1 0), (7, .p 0 0 1 0), (9, .p 5 0 1 0), (11, .im true 1 b.length (.ints .u8 b)), (12, .s 6 0 1 y.2.2.2.length y.2.2.2.length), (14, .v (.int .i64 (y.1 : Int)))], pl7 y.2.2.1 jR ((DF.mk0 b).tick y.2.1) (HD.r H) y.2.2.2 ++ [hblk (HD.r H)]), fun y => row.length - y.1, (0, 0, TR.zero, mOne N 33), ⟨Nat.zero_le _, Nat.zero_le _, hC0, hml⟩, Fit.ren [0, 1, 2, 3, 4, 5, 6, 7] [] rfl rfl trivial (P8.le rfl rfl rfl rfl rfl rfl rfl rfl rfl rfl rfl rfl rfl rfl trivial) ?_, ?_⟩
    · rw [hml]
      repeat' (first
 | (with_reducible first | exact True.intro | apply And.intro | apply If_true | apply If_false | apply If_not)
 | ((with_reducible apply VC.mk); (first | trivial | omega | (simp only [inR]; omega) | (exact ⟨rfl, List.prefix_rfl⟩) | (refine ⟨rfl, rfl, rfl, ?_, rfl⟩; (simp; done)) | (focus (repeat' (first | exact True.intro | apply And.intro | rfl | exact Nat.le_of_ble_eq_true rfl)); done) | (simp [inR, Cont.cells]; done) | (simp [inR, Cont.cells]; omega)))
 | ((with_reducible apply If_dec) <;> intro hc <;> (try (exfalso; omega)))
 | ((with_reducible apply If_any) <;> intro hc)
 | ((with_reducible first | apply PF.mk | apply DrawP.mk); (focus kernel_rfl))
 | ((with_reducible apply Same.mk); (focus rfl); (first | exact trivial | exact rfl))
 | (intro cap hcap)
 | ((fail_if_success (with_reducible first | apply Fin.mk | apply CallP.mk | apply LoopP.mk | apply VC.mk | apply falseMk | apply Round.mk | apply LookP.mk | apply RangeP.mk | apply NextP.mk | apply EntryP.mk | apply Eq.symm)); conv => whnf))
      all_goals exact VC.mk ⟨rfl, rfl, rfl, hml.symm, hml.symm⟩
    clear hml
    intro y hy
    obtain ⟨g1, g2, g3, g4⟩ := hy
    have ey : ((y.1 : Nat) : Int).toNat = y.1 := Int.toNat_natCast _
    have hRt : RefOk y.2.2.1 ((DF.mk0 b).tick y.2.1) (HD.r H) := hR0.next g3.ok g3.b y.2.1 (by show (0 : Int) + (y.2.1 : Int) ≤ _; omega)
    repeat' (first
 | (with_reducible first | exact True.intro | apply And.intro | apply If_true | apply If_false | apply If_not)
 | ((with_reducible apply VC.mk); (first | trivial | omega | (simp only [inR]; omega) | (exact ⟨rfl, List.prefix_rfl⟩) | (refine ⟨rfl, rfl, rfl, ?_, rfl⟩; (simp; done)) | (focus (repeat' (first | exact True.intro | apply And.intro | rfl | exact Nat.le_of_ble_eq_true rfl)); done) | (simp [inR, Cont.cells]; done) | (simp [inR, Cont.cells]; omega)))
 | ((with_reducible apply If_dec) <;> intro hc <;> (try (exfalso; omega)))
 | ((with_reducible apply If_any) <;> intro hc)
 | ((with_reducible first | apply PF.mk | apply DrawP.mk); (focus kernel_rfl))
 | ((with_reducible apply Same.mk); (focus rfl); (first | exact trivial | exact rfl))
 | (intro cap hcap)
 | ((fail_if_success (with_reducible first | apply Fin.mk | apply CallP.mk | apply LoopP.mk | apply VC.mk | apply falseMk | apply Round.mk | apply LookP.mk | apply RangeP.mk | apply NextP.mk | apply EntryP.mk | apply Eq.symm)); conv => whnf))
    · have hlt2 : y.1 < row.length := by omega
      have hom : (row.getD ((y.1 : Nat) : Int).toNat Op8.z) ∈ row := by
        rw [ey, show row.getD y.1 Op8.z = row[y.1] by simp [List.getD_eq_getElem?_getD, hlt2]]; exact List.getElem_mem hlt2
      obtain ⟨ro1, ro2, ro3⟩ := hro _ hom
      refine hfirst_at (HD.r H) hR ⟨⟨rfl, rfl, rfl, rfl, rfl, trivial⟩, trivial⟩ ?_
      rintro _ rfl
      repeat' (first
 | (with_reducible first | exact True.intro | apply And.intro | apply If_true | apply If_false | apply If_not)
 | ((with_reducible apply VC.mk); (first | trivial | omega | (simp only [inR]; omega) | (exact ⟨rfl, List.prefix_rfl⟩) | (refine ⟨rfl, rfl, rfl, ?_, rfl⟩; (simp; done)) | (focus (repeat' (first | exact True.intro | apply And.intro | rfl | exact Nat.le_of_ble_eq_true rfl)); done) | (simp [inR, Cont.cells]; done) | (simp [inR, Cont.cells]; omega)))
 | ((with_reducible apply If_dec) <;> intro hc <;> (try (exfalso; omega)))
 | ((with_reducible apply If_any) <;> intro hc)
 | ((with_reducible first | apply PF.mk | apply DrawP.mk); (focus kernel_rfl))
 | ((with_reducible apply Same.mk); (focus rfl); (first | exact trivial | exact rfl))
 | (intro cap hcap)
 | ((fail_if_success (with_reducible first | apply Fin.mk | apply CallP.mk | apply LoopP.mk | apply VC.mk | apply falseMk | apply Round.mk | apply LookP.mk | apply RangeP.mk | apply NextP.mk | apply EntryP.mk | apply Eq.symm)); conv => whnf))
      refine rplay_at y.2.2.1 jR ((DF.mk0 b).tick y.2.1) (HD.r H) y.2.2.2 (row.getD ((y.1 : Nat) : Int).toNat Op8.z).kind (row.getD ((y.1 : Nat) : Int).toNat Op8.z).n (row.getD ((y.1 : Nat) : Int).toNat Op8.z).v 0 1 2 3 4 5 6 ⟨hRt, g3, by show (0 : Int) + (y.2.1 : Int) ≤ _; omega, ⟨vj, by rw [hhost]; omega, by omega, by rw [vf]; decide, by rw [vf]; decide⟩, ro1, ro2, ro3⟩ rfl rfl rfl rfl rfl rfl rfl rfl ⟨rfl, rfl, rfl, ⟨rfl, rfl, rfl, trivial⟩, trivial⟩ ?_
      rintro ⟨t2, m2, q2⟩ ⟨p1, p2, p3⟩
      dsimp only at p1 p2 p3 ⊢
      repeat' (first
 | (with_reducible first | exact True.intro | apply And.intro | apply If_true | apply If_false | apply If_not)
 | ((with_reducible apply VC.mk); (first | trivial | omega | (simp only [inR]; omega) | (exact ⟨rfl, List.prefix_rfl⟩) | (refine ⟨rfl, rfl, rfl, ?_, rfl⟩; (simp; done)) | (focus (repeat' (first | exact True.intro | apply And.intro | rfl | exact Nat.le_of_ble_eq_true rfl)); done) | (simp [inR, Cont.cells]; done) | (simp [inR, Cont.cells]; omega)))
 | ((with_reducible apply If_dec) <;> intro hc <;> (try (exfalso; omega)))
 | ((with_reducible apply If_any) <;> intro hc)
 | ((with_reducible first | apply PF.mk | apply DrawP.mk); (focus kernel_rfl))
 | ((with_reducible apply Same.mk); (focus rfl); (first | exact trivial | exact rfl))
 | (intro cap hcap)
 | ((fail_if_success (with_reducible first | apply Fin.mk | apply CallP.mk | apply LoopP.mk | apply VC.mk | apply falseMk | apply Round.mk | apply LookP.mk | apply RangeP.mk | apply NextP.mk | apply EntryP.mk | apply Eq.symm)); conv => whnf))
      rw [tick_tick]
      refine Round.mk ⟨(y.1 + 1, y.2.1 + q2, t2, m2), ⟨by show y.1 + 1 ≤ _; omega, by show y.2.1 + q2 ≤ 20000 * (y.1 + 1); omega, p1, p2.trans g4⟩, by show row.length - (y.1 + 1) < row.length - y.1; omega, Fit.ren [0, 1, 2, 3, 4, 5, 6, 7] [] rfl rfl trivial (P8.le rfl rfl rfl rfl rfl rfl rfl rfl rfl rfl rfl rfl rfl rfl trivial) ?_⟩
      repeat' (first
 | (with_reducible first | exact True.intro | apply And.intro | apply If_true | apply If_false | apply If_not)
 | ((with_reducible apply VC.mk); (first | trivial | omega | (simp only [inR]; omega) | (exact ⟨rfl, List.prefix_rfl⟩) | (refine ⟨rfl, rfl, rfl, ?_, rfl⟩; (simp; done)) | (focus (repeat' (first | exact True.intro | apply And.intro | rfl | exact Nat.le_of_ble_eq_true rfl)); done) | (simp [inR, Cont.cells]; done) | (simp [inR, Cont.cells]; omega)))
 | ((with_reducible apply If_dec) <;> intro hc <;> (try (exfalso; omega)))
 | ((with_reducible apply If_any) <;> intro hc)
 | ((with_reducible first | apply PF.mk | apply DrawP.mk); (focus kernel_rfl))
 | ((with_reducible apply Same.mk); (focus rfl); (first | exact trivial | exact rfl))
 | (intro cap hcap)
 | ((fail_if_success (with_reducible first | apply Fin.mk | apply CallP.mk | apply LoopP.mk | apply VC.mk | apply falseMk | apply Round.mk | apply LookP.mk | apply RangeP.mk | apply NextP.mk | apply EntryP.mk | apply Eq.symm)); conv => whnf))
      all_goals exact VC.mk ⟨rfl, rfl, rfl, p2.symm, p2.symm⟩
    · obtain ⟨zz, hzz⟩ : ∃ zz : List Int, zz = List.replicate 512 0 := ⟨_, rfl⟩
      have hzl2 : zz.length = 512 := by rw [hzz]; exact List.length_replicate ..
      have okS : ((DF.mk0 b).tick y.2.1).Ok (0 + y.2.1) := (DF.mk0_ok (by omega) 0 (Int.le_refl _)).tick y.2.1
      have g2b : y.2.1 ≤ 1200000 := by omega
      refine tcommit_at y.2.2.1 jR ((DF.mk0 b).tick y.2.1) (0 + y.2.1) zz 0 1 2 3 4 ⟨g3.ok, ⟨by have := g3.inn.count; omega, fun q hq => ⟨(g3.inn.keys q hq).1, by have := (g3.inn.keys q hq).2.1; omega, (g3.inn.keys q hq).2.2.2⟩⟩, by rw [g3.fresh]; simp [wrs, cost], jR_ok, okS, by omega, hzz⟩ rfl rfl rfl rfl rfl rfl ⟨rfl, trivial⟩ ?_
      rintro ⟨e3, t3, j3, s3⟩ hr
      obtain ⟨rs, hrs⟩ : ∃ rs, RecRel y.2.2.1 rs := by
        rcases hr with ⟨h, -⟩ | ⟨-, rs, h, -⟩
        · rw [g3.over] at h; cases h
        · exact ⟨rs, h⟩
      have hce := (tcommit_calm hr g3.over ⟨rfl, rfl⟩ jR_ok (by show (512 : Int) + 14848 ≤ (b.length : Int); omega) (by show b.length ≤ _; omega) g3.ok g3.inn hzl2 hrs).2 (by have := g3.recs hrs; show ((encL rs).length : Int) ≤ 14848 - 512; omega)
      obtain ⟨c1, c2, c3, c4, c5, c6, c7⟩ := hce
      have okE := tcomRel_ok hr okS hzl2 (by show (14848 : Int) ≤ _; omega)
      dsimp only at c1 c2 c3 c4 c5 c6 okE ⊢
      subst c1 c2
      have hl3 : s3.now.length = 16896 := by
        rw [c6, g3.fresh]
        show lenR rs b.length = _
        have hS := hrs.S g3.ok (fun q hq => (g3.inn.keys q hq).1)
        rw [lenR_same (fun r hm => ?_), hzl]
        obtain ⟨d1, d2, d3⟩ := hS.2 r hm
        have := g3.keys _ (d3 (r.1.toNat + r.2.length - 1) (by omega) (by omega))
        omega
      have hv3 : ∀ i, ¬ jR.inJ i → s3.V i = y.2.2.1.V b i := c5
      clear hr c5 c6 c7
      have mb := g3.bound
      have hce1 : ∀ t : TR, t.close.fresh = t.fresh := fun _ => rfl
      repeat' (first
 | (with_reducible first | exact True.intro | apply And.intro | apply If_true | apply If_false | apply If_not)
 | ((with_reducible apply VC.mk); (first | trivial | omega | (simp only [inR]; omega) | (exact ⟨rfl, List.prefix_rfl⟩) | (refine ⟨rfl, rfl, rfl, ?_, rfl⟩; (simp; done)) | (focus (repeat' (first | exact True.intro | apply And.intro | rfl | exact Nat.le_of_ble_eq_true rfl)); done) | (simp [inR, Cont.cells]; done) | (simp [inR, Cont.cells]; omega)))
 | ((with_reducible apply If_dec) <;> intro hc <;> (try (exfalso; omega)))
 | ((with_reducible apply If_any) <;> intro hc)
 | ((with_reducible first | apply PF.mk | apply DrawP.mk); (focus kernel_rfl))
 | ((with_reducible apply Same.mk); (focus rfl); (first | exact trivial | exact rfl))
 | (intro cap hcap)
 | ((fail_if_success (with_reducible first | apply Fin.mk | apply CallP.mk | apply LoopP.mk | apply VC.mk | apply falseMk | apply Round.mk | apply LookP.mk | apply RangeP.mk | apply NextP.mk | apply EntryP.mk | apply Eq.symm)); conv => whnf))
      obtain ⟨m, hm⟩ : ∃ m, m = y.2.2.2 := ⟨_, rfl⟩
      rw [← hm] at g3 g4 mb ⊢
      refine LoopP.mk ⟨Nat × List Int × Nat, fun u => u.1 ≤ m.length ∧ u.2.1 = wantL (m.take u.1), fun u => ([(5, .p 0 0 1 0), (6, .p 2 0 1 0), (11, .im true 1 b.length (.ints .u8 b)), (12, .s 1 0 1 m.length m.length), (15, .s 3 0 1 u.2.1.length u.2.2), (16, .v (.int .i64 (u.1 : Int)))], [hblk (HD.r H), .blk 3 (.ints .i64 m) m.length, s3.pk, .blk 5 (.ints .u8 u.2.1) (u.2.2 * 1)]), fun u => m.length - u.1, (0, [], 0), ⟨Nat.zero_le _, rfl⟩, Fit.ren [7, 6, 4, 8] [] rfl rfl trivial ?_ ?_, ?_⟩
      · repeat' (first
 | (with_reducible first | exact True.intro | apply And.intro | apply If_true | apply If_false | apply If_not)
 | ((with_reducible apply VC.mk); (first | trivial | omega | (simp only [inR]; omega) | (exact ⟨rfl, List.prefix_rfl⟩) | (refine ⟨rfl, rfl, rfl, ?_, rfl⟩; (simp; done)) | (focus (repeat' (first | exact True.intro | apply And.intro | rfl | exact Nat.le_of_ble_eq_true rfl)); done) | (simp [inR, Cont.cells]; done) | (simp [inR, Cont.cells]; omega)))
 | ((with_reducible apply If_dec) <;> intro hc <;> (try (exfalso; omega)))
 | ((with_reducible apply If_any) <;> intro hc)
 | ((with_reducible first | apply PF.mk | apply DrawP.mk); (focus kernel_rfl))
 | ((with_reducible apply Same.mk); (focus rfl); (first | exact trivial | exact rfl))
 | (intro cap hcap)
 | ((fail_if_success (with_reducible first | apply Fin.mk | apply CallP.mk | apply LoopP.mk | apply VC.mk | apply falseMk | apply Round.mk | apply LookP.mk | apply RangeP.mk | apply NextP.mk | apply EntryP.mk | apply Eq.symm)); conv => whnf))
      · repeat' (first
 | (with_reducible first | exact True.intro | apply And.intro | apply If_true | apply If_false | apply If_not)
 | ((with_reducible apply VC.mk); (first | trivial | omega | (simp only [inR]; omega) | (exact ⟨rfl, List.prefix_rfl⟩) | (refine ⟨rfl, rfl, rfl, ?_, rfl⟩; (simp; done)) | (focus (repeat' (first | exact True.intro | apply And.intro | rfl | exact Nat.le_of_ble_eq_true rfl)); done) | (simp [inR, Cont.cells]; done) | (simp [inR, Cont.cells]; omega)))
 | ((with_reducible apply If_dec) <;> intro hc <;> (try (exfalso; omega)))
 | ((with_reducible apply If_any) <;> intro hc)
 | ((with_reducible first | apply PF.mk | apply DrawP.mk); (focus kernel_rfl))
 | ((with_reducible apply Same.mk); (focus rfl); (first | exact trivial | exact rfl))
 | (intro cap hcap)
 | ((fail_if_success (with_reducible first | apply Fin.mk | apply CallP.mk | apply LoopP.mk | apply VC.mk | apply falseMk | apply Round.mk | apply LookP.mk | apply RangeP.mk | apply NextP.mk | apply EntryP.mk | apply Eq.symm)); conv => whnf))
      intro u hu
      obtain ⟨u1, u2⟩ := hu
      have eu : ((u.1 : Nat) : Int).toNat = u.1 := Int.toNat_natCast _
      have eu2 : 0 + ((u.1 : Nat) : Int).toNat = u.1 := by rw [eu, Nat.zero_add]
      have hwl : u.2.1.length = 2 * u.1 := by rw [u2, wantL_length, List.length_take]; omega
      by_cases hlt : u.1 < m.length
      · have mbu := mb u.1 hlt
        have mbu2 : 0 ≤ m.getD (0 + ((u.1 : Nat) : Int).toNat) 0 ∧ m.getD (0 + ((u.1 : Nat) : Int).toNat) 0 ≤ 65535 := by rw [eu2]; exact mbu
        repeat' (first
 | (with_reducible first | exact True.intro | apply And.intro | apply If_true | apply If_false | apply If_not)
 | ((with_reducible apply VC.mk); (first | trivial | omega | (simp only [inR]; omega) | (exact ⟨rfl, List.prefix_rfl⟩) | (refine ⟨rfl, rfl, rfl, ?_, rfl⟩; (simp; done)) | (focus (repeat' (first | exact True.intro | apply And.intro | rfl | exact Nat.le_of_ble_eq_true rfl)); done) | (simp [inR, Cont.cells]; done) | (simp [inR, Cont.cells]; omega)))
 | ((with_reducible apply If_dec) <;> intro hc <;> (try (exfalso; omega)))
 | ((with_reducible apply If_any) <;> intro hc)
 | ((with_reducible first | apply PF.mk | apply DrawP.mk); (focus kernel_rfl))
 | ((with_reducible apply Same.mk); (focus rfl); (first | exact trivial | exact rfl))
 | (intro cap hcap)
 | ((fail_if_success (with_reducible first | apply Fin.mk | apply CallP.mk | apply LoopP.mk | apply VC.mk | apply falseMk | apply Round.mk | apply LookP.mk | apply RangeP.mk | apply NextP.mk | apply EntryP.mk | apply Eq.symm)); conv => whnf))
        refine rbytes_at (m.getD (0 + ((u.1 : Nat) : Int).toNat) 0) 2 ⟨mbu2.1, by omega, by omega⟩ ⟨rfl, rfl, trivial⟩ ?_
        intro w hw
        have hw2 : w.length = 2 := by rw [hw, leB_length]
        have hsn : u.2.1 ++ w = wantL (m.take (u.1 + 1)) := by
          rw [u2, hw, eu2]
          have ht : m.take (u.1 + 1) = m.take u.1 ++ [m.getD u.1 0] := by
            rw [List.take_add_one, List.getElem?_eq_getElem hlt, List.getD_eq_getElem?_getD, List.getElem?_eq_getElem hlt]; rfl
          rw [ht]
          unfold wantL
          rw [List.flatMap_append]; simp
        repeat' (first
 | (with_reducible first | exact True.intro | apply And.intro | apply If_true | apply If_false | apply If_not)
 | ((with_reducible apply VC.mk); (first | trivial | omega | (simp only [inR]; omega) | (exact ⟨rfl, List.prefix_rfl⟩) | (refine ⟨rfl, rfl, rfl, ?_, rfl⟩; (simp; done)) | (focus (repeat' (first | exact True.intro | apply And.intro | rfl | exact Nat.le_of_ble_eq_true rfl)); done) | (simp [inR, Cont.cells]; done) | (simp [inR, Cont.cells]; omega)))
 | ((with_reducible apply If_dec) <;> intro hc <;> (try (exfalso; omega)))
 | ((with_reducible apply If_any) <;> intro hc)
 | ((with_reducible first | apply PF.mk | apply DrawP.mk); (focus kernel_rfl))
 | ((with_reducible apply Same.mk); (focus rfl); (first | exact trivial | exact rfl))
 | (intro cap hcap)
 | ((fail_if_success (with_reducible first | apply Fin.mk | apply CallP.mk | apply LoopP.mk | apply VC.mk | apply falseMk | apply Round.mk | apply LookP.mk | apply RangeP.mk | apply NextP.mk | apply EntryP.mk | apply Eq.symm)); conv => whnf))
        refine Round.mk ⟨(u.1 + 1, u.2.1 ++ w, cap), ⟨by show u.1 + 1 ≤ _; omega, hsn⟩, by show m.length - (u.1 + 1) < m.length - u.1; omega, Fit.ren [0, 1, 2, 4] [] rfl rfl trivial ?_ ?_⟩
        · repeat' (first
 | (with_reducible first | exact True.intro | apply And.intro | apply If_true | apply If_false | apply If_not)
 | ((with_reducible apply VC.mk); (first | trivial | omega | (simp only [inR]; omega) | (exact ⟨rfl, List.prefix_rfl⟩) | (refine ⟨rfl, rfl, rfl, ?_, rfl⟩; (simp; done)) | (focus (repeat' (first | exact True.intro | apply And.intro | rfl | exact Nat.le_of_ble_eq_true rfl)); done) | (simp [inR, Cont.cells]; done) | (simp [inR, Cont.cells]; omega)))
 | ((with_reducible apply If_dec) <;> intro hc <;> (try (exfalso; omega)))
 | ((with_reducible apply If_any) <;> intro hc)
 | ((with_reducible first | apply PF.mk | apply DrawP.mk); (focus kernel_rfl))
 | ((with_reducible apply Same.mk); (focus rfl); (first | exact trivial | exact rfl))
 | (intro cap hcap)
 | ((fail_if_success (with_reducible first | apply Fin.mk | apply CallP.mk | apply LoopP.mk | apply VC.mk | apply falseMk | apply Round.mk | apply LookP.mk | apply RangeP.mk | apply NextP.mk | apply EntryP.mk | apply Eq.symm)); conv => whnf))
        · repeat' (first
 | (with_reducible first | exact True.intro | apply And.intro | apply If_true | apply If_false | apply If_not)
 | ((with_reducible apply VC.mk); (first | trivial | omega | (simp only [inR]; omega) | (exact ⟨rfl, List.prefix_rfl⟩) | (refine ⟨rfl, rfl, rfl, ?_, rfl⟩; (simp; done)) | (focus (repeat' (first | exact True.intro | apply And.intro | rfl | exact Nat.le_of_ble_eq_true rfl)); done) | (simp [inR, Cont.cells]; done) | (simp [inR, Cont.cells]; omega)))
 | ((with_reducible apply If_dec) <;> intro hc <;> (try (exfalso; omega)))
 | ((with_reducible apply If_any) <;> intro hc)
 | ((with_reducible first | apply PF.mk | apply DrawP.mk); (focus kernel_rfl))
 | ((with_reducible apply Same.mk); (focus rfl); (first | exact trivial | exact rfl))
 | (intro cap hcap)
 | ((fail_if_success (with_reducible first | apply Fin.mk | apply CallP.mk | apply LoopP.mk | apply VC.mk | apply falseMk | apply Round.mk | apply LookP.mk | apply RangeP.mk | apply NextP.mk | apply EntryP.mk | apply Eq.symm)); conv => whnf))
          all_goals exact VC.mk ⟨rfl, rfl, rfl, by show u.2.1.length + w.length = (u.2.1 ++ w).length; rw [List.length_append], rfl⟩
      · have u3 : u.2.1 = wantL m := by rw [u2, List.take_of_length_le (by omega)]
        have u4 : u.2.1.length ≤ 198 := by rw [u3, wantL_length]; omega
        repeat' (first
 | (with_reducible first | exact True.intro | apply And.intro | apply If_true | apply If_false | apply If_not)
 | ((with_reducible apply VC.mk); (first | trivial | omega | (simp only [inR]; omega) | (exact ⟨rfl, List.prefix_rfl⟩) | (refine ⟨rfl, rfl, rfl, ?_, rfl⟩; (simp; done)) | (focus (repeat' (first | exact True.intro | apply And.intro | rfl | exact Nat.le_of_ble_eq_true rfl)); done) | (simp [inR, Cont.cells]; done) | (simp [inR, Cont.cells]; omega)))
 | ((with_reducible apply If_dec) <;> intro hc <;> (try (exfalso; omega)))
 | ((with_reducible apply If_any) <;> intro hc)
 | ((with_reducible first | apply PF.mk | apply DrawP.mk); (focus kernel_rfl))
 | ((with_reducible apply Same.mk); (focus rfl); (first | exact trivial | exact rfl))
 | (intro cap hcap)
 | ((fail_if_success (with_reducible first | apply Fin.mk | apply CallP.mk | apply LoopP.mk | apply VC.mk | apply falseMk | apply Round.mk | apply LookP.mk | apply RangeP.mk | apply NextP.mk | apply EntryP.mk | apply Eq.symm)); conv => whnf))
        all_goals (
          refine hrat_at (HD.r H) hR ⟨⟨rfl, rfl, rfl, rfl, rfl, trivial⟩, trivial⟩ ?_
          rintro ⟨ra, rb⟩ hr
          obtain ⟨rfl, rfl⟩ : ra = 15360 ∧ rb = 15872 := by (have hr : (ra, rb) = ((HD.r H).jend, (HD.r H).rend) := hr); rw [vj, ve] at hr; cases hr; exact ⟨rfl, rfl⟩
          repeat' (first
 | (with_reducible first | exact True.intro | apply And.intro | apply If_true | apply If_false | apply If_not)
 | ((with_reducible apply VC.mk); (first | trivial | omega | (simp only [inR]; omega) | (exact ⟨rfl, List.prefix_rfl⟩) | (refine ⟨rfl, rfl, rfl, ?_, rfl⟩; (simp; done)) | (focus (repeat' (first | exact True.intro | apply And.intro | rfl | exact Nat.le_of_ble_eq_true rfl)); done) | (simp [inR, Cont.cells]; done) | (simp [inR, Cont.cells]; omega)))
 | ((with_reducible apply If_dec) <;> intro hc <;> (try (exfalso; omega)))
 | ((with_reducible apply If_any) <;> intro hc)
 | ((with_reducible first | apply PF.mk | apply DrawP.mk); (focus kernel_rfl))
 | ((with_reducible apply Same.mk); (focus rfl); (first | exact trivial | exact rfl))
 | (intro cap hcap)
 | ((fail_if_success (with_reducible first | apply Fin.mk | apply CallP.mk | apply LoopP.mk | apply VC.mk | apply falseMk | apply Round.mk | apply LookP.mk | apply RangeP.mk | apply NextP.mk | apply EntryP.mk | apply Eq.symm)); conv => whnf)))
        all_goals (
          refine hjat_at (HD.r H) hR ⟨⟨rfl, rfl, rfl, rfl, rfl, trivial⟩, trivial⟩ ?_
          rintro ⟨ra, rb⟩ hr
          obtain ⟨rfl, rfl⟩ : ra = 512 ∧ rb = 15360 := by (have hr : (ra, rb) = ((HD.r H).clus, (HD.r H).jend) := hr); rw [vj, vc] at hr; cases hr; exact ⟨rfl, rfl⟩
          repeat' (first
 | (with_reducible first | exact True.intro | apply And.intro | apply If_true | apply If_false | apply If_not)
 | ((with_reducible apply VC.mk); (first | trivial | omega | (simp only [inR]; omega) | (exact ⟨rfl, List.prefix_rfl⟩) | (refine ⟨rfl, rfl, rfl, ?_, rfl⟩; (simp; done)) | (focus (repeat' (first | exact True.intro | apply And.intro | rfl | exact Nat.le_of_ble_eq_true rfl)); done) | (simp [inR, Cont.cells]; done) | (simp [inR, Cont.cells]; omega)))
 | ((with_reducible apply If_dec) <;> intro hc <;> (try (exfalso; omega)))
 | ((with_reducible apply If_any) <;> intro hc)
 | ((with_reducible first | apply PF.mk | apply DrawP.mk); (focus kernel_rfl))
 | ((with_reducible apply Same.mk); (focus rfl); (first | exact trivial | exact rfl))
 | (intro cap hcap)
 | ((fail_if_success (with_reducible first | apply Fin.mk | apply CallP.mk | apply LoopP.mk | apply VC.mk | apply falseMk | apply Round.mk | apply LookP.mk | apply RangeP.mk | apply NextP.mk | apply EntryP.mk | apply Eq.symm)); conv => whnf)))
        all_goals (
          refine with_at b 15360 u.2.1 ⟨by omega, by omega⟩ ⟨⟨rfl, rfl, rfl⟩, rfl, arg_ints rfl rfl rfl, trivial⟩ ?_
          intro w1 hw1
          have hw1l : w1.length = 16896 := by rw [hw1, putG_length (by omega)]; omega
          repeat' (first
 | (with_reducible first | exact True.intro | apply And.intro | apply If_true | apply If_false | apply If_not)
 | ((with_reducible apply VC.mk); (first | trivial | omega | (simp only [inR]; omega) | (exact ⟨rfl, List.prefix_rfl⟩) | (refine ⟨rfl, rfl, rfl, ?_, rfl⟩; (simp; done)) | (focus (repeat' (first | exact True.intro | apply And.intro | rfl | exact Nat.le_of_ble_eq_true rfl)); done) | (simp [inR, Cont.cells]; done) | (simp [inR, Cont.cells]; omega)))
 | ((with_reducible apply If_dec) <;> intro hc <;> (try (exfalso; omega)))
 | ((with_reducible apply If_any) <;> intro hc)
 | ((with_reducible first | apply PF.mk | apply DrawP.mk); (focus kernel_rfl))
 | ((with_reducible apply Same.mk); (focus rfl); (first | exact trivial | exact rfl))
 | (intro cap hcap)
 | ((fail_if_success (with_reducible first | apply Fin.mk | apply CallP.mk | apply LoopP.mk | apply VC.mk | apply falseMk | apply Round.mk | apply LookP.mk | apply RangeP.mk | apply NextP.mk | apply EntryP.mk | apply Eq.symm)); conv => whnf))
          refine zeros_at 14848 ⟨by omega, by omega⟩ ⟨rfl, trivial⟩ ?_
          intro z1 hz1
          have hz1l : z1.length = 14848 := by rw [hz1]; exact List.length_replicate ..
          repeat' (first
 | (with_reducible first | exact True.intro | apply And.intro | apply If_true | apply If_false | apply If_not)
 | ((with_reducible apply VC.mk); (first | trivial | omega | (simp only [inR]; omega) | (exact ⟨rfl, List.prefix_rfl⟩) | (refine ⟨rfl, rfl, rfl, ?_, rfl⟩; (simp; done)) | (focus (repeat' (first | exact True.intro | apply And.intro | rfl | exact Nat.le_of_ble_eq_true rfl)); done) | (simp [inR, Cont.cells]; done) | (simp [inR, Cont.cells]; omega)))
 | ((with_reducible apply If_dec) <;> intro hc <;> (try (exfalso; omega)))
 | ((with_reducible apply If_any) <;> intro hc)
 | ((with_reducible first | apply PF.mk | apply DrawP.mk); (focus kernel_rfl))
 | ((with_reducible apply Same.mk); (focus rfl); (first | exact trivial | exact rfl))
 | (intro cap hcap)
 | ((fail_if_success (with_reducible first | apply Fin.mk | apply CallP.mk | apply LoopP.mk | apply VC.mk | apply falseMk | apply Round.mk | apply LookP.mk | apply RangeP.mk | apply NextP.mk | apply EntryP.mk | apply Eq.symm)); conv => whnf))
          refine with_at w1 512 z1 ⟨by omega, by omega⟩ ⟨⟨rfl, rfl, rfl⟩, rfl, ⟨rfl, rfl, rfl⟩, trivial⟩ ?_
          intro w2 hw2
          repeat' (first
 | (with_reducible first | exact True.intro | apply And.intro | apply If_true | apply If_false | apply If_not)
 | ((with_reducible apply VC.mk); (first | trivial | omega | (simp only [inR]; omega) | (exact ⟨rfl, List.prefix_rfl⟩) | (refine ⟨rfl, rfl, rfl, ?_, rfl⟩; (simp; done)) | (focus (repeat' (first | exact True.intro | apply And.intro | rfl | exact Nat.le_of_ble_eq_true rfl)); done) | (simp [inR, Cont.cells]; done) | (simp [inR, Cont.cells]; omega)))
 | ((with_reducible apply If_dec) <;> intro hc <;> (try (exfalso; omega)))
 | ((with_reducible apply If_any) <;> intro hc)
 | ((with_reducible first | apply PF.mk | apply DrawP.mk); (focus kernel_rfl))
 | ((with_reducible apply Same.mk); (focus rfl); (first | exact trivial | exact rfl))
 | (intro cap hcap)
 | ((fail_if_success (with_reducible first | apply Fin.mk | apply CallP.mk | apply LoopP.mk | apply VC.mk | apply falseMk | apply Round.mk | apply LookP.mk | apply RangeP.mk | apply NextP.mk | apply EntryP.mk | apply Eq.symm)); conv => whnf))
          refine bytes_at s3 2 (by omega) rfl ⟨rfl, trivial⟩ ?_
          intro l3 hl3e
          have hl3e : l3 = s3.now := hl3e
          subst hl3e
          repeat' (first
 | (with_reducible first | exact True.intro | apply And.intro | apply If_true | apply If_false | apply If_not)
 | ((with_reducible apply VC.mk); (first | trivial | omega | (simp only [inR]; omega) | (exact ⟨rfl, List.prefix_rfl⟩) | (refine ⟨rfl, rfl, rfl, ?_, rfl⟩; (simp; done)) | (focus (repeat' (first | exact True.intro | apply And.intro | rfl | exact Nat.le_of_ble_eq_true rfl)); done) | (simp [inR, Cont.cells]; done) | (simp [inR, Cont.cells]; omega)))
 | ((with_reducible apply If_dec) <;> intro hc <;> (try (exfalso; omega)))
 | ((with_reducible apply If_any) <;> intro hc)
 | ((with_reducible first | apply PF.mk | apply DrawP.mk); (focus kernel_rfl))
 | ((with_reducible apply Same.mk); (focus rfl); (first | exact trivial | exact rfl))
 | (intro cap hcap)
 | ((fail_if_success (with_reducible first | apply Fin.mk | apply CallP.mk | apply LoopP.mk | apply VC.mk | apply falseMk | apply Round.mk | apply LookP.mk | apply RangeP.mk | apply NextP.mk | apply EntryP.mk | apply Eq.symm)); conv => whnf))
          refine zeros_at 14848 ⟨by omega, by omega⟩ ⟨rfl, trivial⟩ ?_
          intro z2 hz2
          have hz21 : z2 = z1 := hz2.trans hz1.symm
          repeat' (first
 | (with_reducible first | exact True.intro | apply And.intro | apply If_true | apply If_false | apply If_not)
 | ((with_reducible apply VC.mk); (first | trivial | omega | (simp only [inR]; omega) | (exact ⟨rfl, List.prefix_rfl⟩) | (refine ⟨rfl, rfl, rfl, ?_, rfl⟩; (simp; done)) | (focus (repeat' (first | exact True.intro | apply And.intro | rfl | exact Nat.le_of_ble_eq_true rfl)); done) | (simp [inR, Cont.cells]; done) | (simp [inR, Cont.cells]; omega)))
 | ((with_reducible apply If_dec) <;> intro hc <;> (try (exfalso; omega)))
 | ((with_reducible apply If_any) <;> intro hc)
 | ((with_reducible first | apply PF.mk | apply DrawP.mk); (focus kernel_rfl))
 | ((with_reducible apply Same.mk); (focus rfl); (first | exact trivial | exact rfl))
 | (intro cap hcap)
 | ((fail_if_success (with_reducible first | apply Fin.mk | apply CallP.mk | apply LoopP.mk | apply VC.mk | apply falseMk | apply Round.mk | apply LookP.mk | apply RangeP.mk | apply NextP.mk | apply EntryP.mk | apply Eq.symm)); conv => whnf))
          refine with_at s3.now 512 z2 ⟨by rw [hz21]; omega, by omega⟩ ⟨⟨rfl, rfl, rfl⟩, rfl, ⟨rfl, rfl, rfl⟩, trivial⟩ ?_
          intro w3 hw3
          have hw32 : w3 = w2 := by
            rw [hw3, hz21, hw2, hw1, u3]
            exact g3.done vj (by omega) hzl hl3 hv3 hz1l
          clear hz1 hz2 hw3 hw2 hw1
          repeat' (first
 | (with_reducible first | exact True.intro | apply And.intro | apply If_true | apply If_false | apply If_not)
 | ((with_reducible apply VC.mk); (first | trivial | omega | (simp only [inR]; omega) | (exact ⟨rfl, List.prefix_rfl⟩) | (refine ⟨rfl, rfl, rfl, ?_, rfl⟩; (simp; done)) | (focus (repeat' (first | exact True.intro | apply And.intro | rfl | exact Nat.le_of_ble_eq_true rfl)); done) | (simp [inR, Cont.cells]; done) | (simp [inR, Cont.cells]; omega)))
 | ((with_reducible apply If_dec) <;> intro hc <;> (try (exfalso; omega)))
 | ((with_reducible apply If_any) <;> intro hc)
 | ((with_reducible first | apply PF.mk | apply DrawP.mk); (focus kernel_rfl))
 | ((with_reducible apply Same.mk); (focus rfl); (first | exact trivial | exact rfl))
 | (intro cap hcap)
 | ((fail_if_success (with_reducible first | apply Fin.mk | apply CallP.mk | apply LoopP.mk | apply VC.mk | apply falseMk | apply Round.mk | apply LookP.mk | apply RangeP.mk | apply NextP.mk | apply EntryP.mk | apply Eq.symm)); conv => whnf))
          refine same_at w3 w2 ⟨⟨rfl, rfl, rfl⟩, ⟨rfl, rfl, rfl⟩, trivial⟩ ?_
          repeat' (first
 | (with_reducible first | exact True.intro | apply And.intro | apply If_true | apply If_false | apply If_not)
 | ((with_reducible apply VC.mk); (first | trivial | omega | (simp only [inR]; omega) | (exact ⟨rfl, List.prefix_rfl⟩) | (refine ⟨rfl, rfl, rfl, ?_, rfl⟩; (simp; done)) | (focus (repeat' (first | exact True.intro | apply And.intro | rfl | exact Nat.le_of_ble_eq_true rfl)); done) | (simp [inR, Cont.cells]; done) | (simp [inR, Cont.cells]; omega)))
 | ((with_reducible apply If_dec) <;> intro hc <;> (try (exfalso; omega)))
 | ((with_reducible apply If_any) <;> intro hc)
 | ((with_reducible first | apply PF.mk | apply DrawP.mk); (focus kernel_rfl))
 | ((with_reducible apply Same.mk); (focus rfl); (first | exact trivial | exact rfl))
 | (intro cap hcap)
 | ((fail_if_success (with_reducible first | apply Fin.mk | apply CallP.mk | apply LoopP.mk | apply VC.mk | apply falseMk | apply Round.mk | apply LookP.mk | apply RangeP.mk | apply NextP.mk | apply EntryP.mk | apply Eq.symm)); conv => whnf))
          exact Fin.bool (decide_eq_true (congrArg strOf hw32)) hk)
end Go.Proofs.Ytjccknmgmommcaa.Sx

