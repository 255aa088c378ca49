import Derived.Test.YtjccknmgmommcaaSxU3
import Derived.Test.YtjccknmgmommcaaSxU1
import Derived.Test.YtjccknmgmommcaaSxU2
import Derived.Test.YtjccknmgmommcaaSxEc
import Derived.Sort.Row
import Derived.Sort.Grow
import Derived.Test.YtjccknmgmommcaaSxT
import Derived.Shelf.SortG.Plain
import Derived.Shelf.SortG.SortNone
import Derived.Ground.SlgnProg
set_option linter.unusedVariables false
set_option linter.unusedSimpArgs false
set_option maxRecDepth 10000
namespace Go.Proofs.Ytjccknmgmommcaa.Sx
open Go.RowKit Go.Proofs.Ytjccknmgmommcaa.Sx.Tb
/-! ### Fresh -/
def inF (a n : Int) : Prop := 0 ≤ a ∧ a % 512 = 0 ∧ a ≤ 4194304 ∧ n ≤ 4194304 - a
def TR.lay1 (t : TR) (r : RecR) (n : Int) : TR := match lkS n t.dirty with
  | some l => { t with dirty := upS n (layR (n * 512) l r) t.dirty }
  | none => t
def TR.layN : Nat → TR → RecR → Nat → TR
  | 0, t, _, _ => t
  | k + 1, t, r, n => TR.layN k (t.lay1 r (n : Int)) r (n + 1)
def TR.addF (t : TR) (r : RecR) (c : Nat) : TR := { t with fresh := t.fresh ++ [r], cap := c }
def TR.freshT (t : TR) (a : Nat) (p : List Int) (c : Nat) : TR := TR.layN ((p.length + 511) / 512) (t.addF ((a : Int), p) c) ((a : Int), p) (a / 512)
/-- The same five, the row of fresh ones under a new number. -/
def tmv (t : TR) (j : JR) (s : DF) : List Chunk := [t.c0 3 1 5, t.c1, .dead, j.blk 4, s.pk, t.c2]
theorem T5.leM {H : List Chunk} {fz : List Nat} {f : Nat → Nat} {ph : Nat → Bool} {t : TR} {j : JR} {s : DF} {a b c d e x : Nat} (f1 : f 1 = b) (f5 : f 5 = c) (f3 : f 3 = d) (f4 : f 4 = e) (h0 : nth H a = some (t.c0 d b c)) (h1 : nth H b = some t.c1) (h2 : (t.c2).le H fz f ph c) (h3 : nth H d = some (j.blk e)) (h4 : nth H e = some s.pk) (hz : memN a fz = false ∧ memN b fz = false ∧ memN d fz = false ∧ memN e fz = false) : chunksLe H fz f ph [a, b, x, d, e, c] (tmv t j s) := by
  refine ⟨?_, ?_, trivial, ?_, ?_, h2, trivial⟩
  · unfold Chunk.le TR.c0
    simp only
    rw [nth_lt h0, hz.1, h0]
    exact ⟨VC.mk ⟨rfl, rfl⟩, VC.mk ⟨f3, rfl, rfl, rfl⟩, VC.mk f1, VC.mk ⟨f5, rfl, rfl, rfl, rfl⟩, VC.mk rfl, trivial⟩
  · unfold Chunk.le TR.c1
    simp only
    rw [nth_lt h1, hz.2.1, h1]
    exact ⟨VC.mk ⟨rfl, .inl trivial⟩, arr_les t.dirty⟩
  · unfold Chunk.le JR.blk
    simp only
    rw [nth_lt h3, hz.2.2.1, h3]
    exact ⟨VC.mk ⟨rfl, rfl⟩, VC.mk ⟨f4, rfl, rfl, rfl⟩, VC.mk rfl, VC.mk rfl, VC.mk rfl, trivial⟩
  · unfold Chunk.le DF.pk
    simp only
    rw [nth_lt h4, hz.2.2.2, h4]
    exact VC.mk ⟨rfl, rfl, rfl, rfl⟩
theorem c2_le {H : List Chunk} {fz : List Nat} {f : Nat → Nat} {ph : Nat → Bool} {t : TR} {c : Nat} (h : nth H c = some t.c2) (hz : memN c fz = false) : (t.c2).le H fz f ph c := by
  unfold Chunk.le TR.c2
  simp only
  rw [nth_lt h, hz, h]
  exact ⟨VC.mk ⟨rfl, rfl⟩, VC.mk ⟨rfl, Nat.le_refl _⟩, fun j _ => recs_les _⟩
theorem TR.lay1_ok {t : TR} (h : t.Ok) (r : RecR) (n : Int) (hn : 0 ≤ n) : (t.lay1 r n).Ok ∧ (t.lay1 r n).fresh = t.fresh ∧ (t.lay1 r n).over = t.over ∧ (t.lay1 r n).cap = t.cap := by
  unfold TR.lay1
  cases hq : lkS n t.dirty with
  | none => exact ⟨h, rfl, rfl, rfl⟩
  | some l =>
    refine ⟨⟨?_, h.frs, h.cap, h.len⟩, rfl, rfl, rfl⟩
    show ∀ x ∈ upS _ _ _, _
    exact upS_len (layR_length _ _ _ (h.sec _ (lkS_mem hq)) (by omega)) _ h.sec
set_option maxHeartbeats 16000000 in
theorem tfresh_c (t : TR) (j : JR) (s : DF) (at_ : Int) (p : List Int) (k : K) (h0 : t.Ok ∧ t.fresh.length < 1073741824 ∧ inR .i64 at_ ∧ p.length ≤ 9223372036854775807)
    (hk : ∀ x : Int × TR, (t.over = true ∧ x.1 = 6 ∧ x.2 = t ∨ t.over = false ∧ ¬ inF at_ p.length ∧ x.1 = 4 ∧ x.2 = t ∨ t.over = false ∧ inF at_ p.length ∧ x.1 = 0 ∧ ∃ c, t.fresh.length + 1 ≤ c ∧ x.2 = t.freshT at_.toNat p c) → k (.v (.int .i64 x.1)) (tmv x.2 j s)) : evFunc tab [] p81 Go.Proofs.Try.f81 [.p 0 0 1 0, .v (.int .i64 at_), .im false 1 p.length (.ints .u8 p)] (tpre t j s) k := by
  obtain ⟨h1, hfl, h3, h4⟩ := h0
  have bad : ∀ (e : Int) (H : List Chunk), (t.over = true ∧ e = 6 ∨ t.over = false ∧ ¬ inF at_ p.length ∧ e = 4) → Nat.ble 5 H.length = true → nth H 0 = some (t.c0 3 1 2) → nth H 1 = some t.c1 → nth H 2 = some t.c2 → nth H 3 = some (j.blk 4) → nth H 4 = some s.pk → Fin 5 (.v (.int .i64 e)) H k := by
    intro e H hb q3 q4 q5 q6 q7 q8
    refine Fin.ren [0, 1, 2, 3, 4, 2] [] (.v (.int .i64 e)) (tmv t j s) rfl rfl trivial (T5.leM rfl rfl rfl rfl q4 q5 (c2_le q6 rfl) q7 q8 ⟨rfl, rfl, rfl, rfl⟩) (VC.mk rfl) ?_
    exact hk (e, t) (by rcases hb with ⟨a, b⟩ | ⟨a, b, c⟩; exact .inl ⟨a, b, rfl⟩; exact .inr (.inl ⟨a, b, c, rfl⟩))
  repeat' (first
 | (with_reducible first | exact True.intro | apply And.intro | apply If_true | apply If_false | apply If_not)
 | ((with_reducible apply VC.mk); (first | trivial | omega | (simp only [inR]; omega) | (exact ⟨rfl, List.prefix_rfl⟩) | (refine ⟨rfl, rfl, rfl, ?_, rfl⟩; (simp; done)) | (focus (repeat' (first | exact True.intro | apply And.intro | rfl | exact Nat.le_of_ble_eq_true rfl)); done) | (simp [inR, Cont.cells]; done) | (simp [inR, Cont.cells]; omega)))
 | ((with_reducible apply If_dec) <;> intro hc <;> (try (exfalso; omega)))
 | ((with_reducible apply If_any) <;> intro hc)
 | ((with_reducible first | apply PF.mk | apply DrawP.mk); (focus kernel_rfl))
 | ((with_reducible apply Same.mk); (focus rfl); (first | exact trivial | exact rfl))
 | (intro cap hcap)
 | ((fail_if_success (with_reducible first | apply Fin.mk | apply CallP.mk | apply LoopP.mk | apply VC.mk | apply falseMk | apply Round.mk | apply LookP.mk | apply RangeP.mk | apply NextP.mk | apply EntryP.mk | apply Eq.symm)); conv => whnf))
  all_goals (try exact bad 6 _ (.inl ⟨by assumption, rfl⟩) rfl rfl rfl rfl rfl rfl)
  all_goals (try exact bad 4 _ (.inr ⟨by assumption, by unfold inF; omega, rfl⟩) rfl rfl rfl rfl rfl rfl)
  have hin : inF at_ p.length := by unfold inF; omega
  have hov : t.over = false := by assumption
  obtain ⟨A, hA⟩ : ∃ A : Nat, at_ = A := ⟨at_.toNat, by omega⟩
  subst hA
  have hA5 : A % 512 = 0 := by have := hin.2.1; omega
  have hAb : A + p.length ≤ 4194304 := by have := hin.2.2.2; omega
  clear bad
  obtain ⟨r, hr⟩ : ∃ r : RecR, r = ((A : Int), p) := ⟨_, rfl⟩
  have hfe : (t.fresh ++ [r]).length = t.fresh.length + 1 := by simp
  have hO : (t.addF r cap).Ok := by
    refine ⟨h1.sec, ?_, ?_, ?_⟩
    · intro q hq
      rcases List.mem_append.1 (show q ∈ t.fresh ++ [r] from hq) with hq | hq
      · exact h1.frs q hq
      · simp at hq; subst hq; rw [hr]; exact ⟨by show (0 : Int) ≤ A; omega, by show (A : Int) ≤ _; omega, by show p.length ≤ _; omega⟩
    · show (t.fresh ++ [r]).length ≤ cap; simp; omega
    · show (t.fresh ++ [r]).length ≤ _; simp; omega
  refine LoopP.mk ⟨Nat × TR, fun y => y.1 ≤ (p.length + 511) / 512 ∧ y.2.Ok ∧ y.2.fresh = t.fresh ++ [r] ∧ y.2.over = false ∧ TR.layN ((p.length + 511) / 512 - y.1) y.2 r (A / 512 + y.1) = t.freshT A p cap, fun y => ([(0, .p 0 0 1 0), (1, .v (.int .i64 (A : Int))), (2, .im false 1 p.length (.ints .u8 p)), (7, .v (.int .i64 ((A / 512 + y.1 : Nat) : Int)))], tmv y.2 j s), fun y => (p.length + 511) / 512 - y.1, (0, t.addF r cap), ⟨Nat.zero_le _, hO, rfl, hov, by rw [hr]; rfl⟩, Fit.ren [0, 1, 2, 3, 4, 7] [5] rfl rfl ⟨trivial, trivial⟩ ?_ ?_, ?_⟩
  · refine T5.leM rfl rfl rfl rfl ?_ rfl ⟨VC.mk ⟨rfl, rfl⟩, VC.mk ⟨rfl, ?_⟩, ?_⟩ rfl rfl ⟨rfl, rfl, rfl, rfl⟩
    · show some (Chunk.blk 170 (.lst [AV.p 3 0 1 0, AV.m 1, AV.s 7 0 2 (t.fresh.length + 1) cap, AV.v (.bool t.over)]) 4) = some (Chunk.blk 170 (.lst [AV.p 3 0 1 0, AV.m 1, AV.s 7 0 2 (t.fresh ++ [r]).length cap, AV.v (.bool t.over)]) 4)
      rw [hfe]
    · show (t.fresh ++ [r]).length ≤ _
      rw [hfe]; exact Nat.le_refl _
    · show ∀ q, q < (t.fresh ++ [r]).length → les _ _ _ _ (recAV true ((t.fresh ++ [r]).getD q (0, []))) _
      refine snoc_le (recAV true) (0, []) t.fresh r _ ?_ ?_
      · intro q hq; simp only [if_pos hq]; exact recs_les _
      · simp only [Nat.lt_irrefl, if_false]
        rw [hr]
        refine ⟨VC.mk rfl, ⟨VC.mk ⟨?_, rfl, rfl, rfl, Nat.one_pos⟩, VC.mk ⟨rfl, ?_⟩⟩, trivial⟩
        · omega
        · simp
  · repeat' (first
 | (with_reducible first | exact True.intro | apply And.intro | apply If_true | apply If_false | apply If_not)
 | ((with_reducible apply VC.mk); (first | trivial | omega | (simp only [inR]; omega) | (exact ⟨rfl, List.prefix_rfl⟩) | (refine ⟨rfl, rfl, rfl, ?_, rfl⟩; (simp; done)) | (focus (repeat' (first | exact True.intro | apply And.intro | rfl | exact Nat.le_of_ble_eq_true rfl)); done) | (simp [inR, Cont.cells]; done) | (simp [inR, Cont.cells]; omega)))
 | ((with_reducible apply If_dec) <;> intro hc <;> (try (exfalso; omega)))
 | ((with_reducible apply If_any) <;> intro hc)
 | ((with_reducible first | apply PF.mk | apply DrawP.mk); (focus kernel_rfl))
 | ((with_reducible apply Same.mk); (focus rfl); (first | exact trivial | exact rfl))
 | (intro cap hcap)
 | ((fail_if_success (with_reducible first | apply Fin.mk | apply CallP.mk | apply LoopP.mk | apply VC.mk | apply falseMk | apply Round.mk | apply LookP.mk | apply RangeP.mk | apply NextP.mk | apply EntryP.mk | apply Eq.symm)); conv => whnf))
  · intro y hy
    obtain ⟨g1, g2, g3, g4, g5⟩ := hy
    have g3l : y.2.fresh.length = t.fresh.length + 1 := by rw [g3]; simp
    have hck : y.2.fresh.getD t.fresh.length (0, []) = r := by
      rw [g3, List.getD_eq_getElem?_getD, List.getElem?_append_right (Nat.le_refl _)]; simp
    repeat' (first
 | (with_reducible first | exact True.intro | apply And.intro | apply If_true | apply If_false | apply If_not)
 | ((with_reducible apply VC.mk); (first | trivial | omega | (simp only [inR]; omega) | (exact ⟨rfl, List.prefix_rfl⟩) | (refine ⟨rfl, rfl, rfl, ?_, rfl⟩; (simp; done)) | (focus (repeat' (first | exact True.intro | apply And.intro | rfl | exact Nat.le_of_ble_eq_true rfl)); done) | (simp [inR, Cont.cells]; done) | (simp [inR, Cont.cells]; omega)))
 | ((with_reducible apply If_dec) <;> intro hc <;> (try (exfalso; omega)))
 | ((with_reducible apply If_any) <;> intro hc)
 | ((with_reducible first | apply PF.mk | apply DrawP.mk); (focus kernel_rfl))
 | ((with_reducible apply Same.mk); (focus rfl); (first | exact trivial | exact rfl))
 | (intro cap hcap)
 | ((fail_if_success (with_reducible first | apply Fin.mk | apply CallP.mk | apply LoopP.mk | apply VC.mk | apply falseMk | apply Round.mk | apply LookP.mk | apply RangeP.mk | apply NextP.mk | apply EntryP.mk | apply Eq.symm)); conv => whnf))
    · have hlt : y.1 < (p.length + 511) / 512 := by omega
      have hstep : TR.layN ((p.length + 511) / 512 - (y.1 + 1)) (y.2.lay1 r ((A / 512 + y.1 : Nat) : Int)) r (A / 512 + (y.1 + 1)) = t.freshT A p cap := by
        rw [← g5, show (p.length + 511) / 512 - y.1 = (p.length + 511) / 512 - (y.1 + 1) + 1 by omega]; rfl
      obtain ⟨o1, o2, o3, o4⟩ := TR.lay1_ok g2 r ((A / 512 + y.1 : Nat) : Int) (by omega)
      have nx := o2.trans g3
      have nv := o3.trans g4
      refine LookP.mk (fun v hv => ?_) (fun hn => ?_)
      · rw [lkm_map] at hv
        obtain ⟨l, hl, rfl⟩ : ∃ l, lkS ((A / 512 + y.1 : Nat) : Int) y.2.dirty = some l ∧ AV.arr .u8 l = v := by
          cases hq : lkS ((A / 512 + y.1 : Nat) : Int) y.2.dirty with
          | none => rw [hq] at hv; cases hv
          | some l => rw [hq] at hv; exact ⟨l, rfl, by simpa using hv⟩
        have hl2 : l.length = 512 := g2.sec _ (lkS_mem hl)
        have e1 : y.2.lay1 r ((A / 512 + y.1 : Nat) : Int) = { y.2 with dirty := upS ((A / 512 + y.1 : Nat) : Int) (layR (((A / 512 + y.1 : Nat) : Int) * 512) l r) y.2.dirty } := by unfold TR.lay1; rw [hl]
        rw [e1] at o1 nx nv hstep
        have hr1 : r.1 = (A : Int) := by rw [hr]
        have hr2 : r.2 = p := by rw [hr]
        have hll : (layR (((A / 512 + y.1 : Nat) : Int) * 512) l r).length = 512 := layR_length _ _ _ hl2 (by omega)
        repeat' (first
 | (with_reducible first | exact True.intro | apply And.intro | apply If_true | apply If_false | apply If_not)
 | ((with_reducible apply VC.mk); (first | trivial | omega | (simp only [inR]; omega) | (exact ⟨rfl, List.prefix_rfl⟩) | (refine ⟨rfl, rfl, rfl, ?_, rfl⟩; (simp; done)) | (focus (repeat' (first | exact True.intro | apply And.intro | rfl | exact Nat.le_of_ble_eq_true rfl)); done) | (simp [inR, Cont.cells]; done) | (simp [inR, Cont.cells]; omega)))
 | ((with_reducible apply If_dec) <;> intro hc <;> (try (exfalso; omega)))
 | ((with_reducible apply If_any) <;> intro hc)
 | ((with_reducible first | apply PF.mk | apply DrawP.mk); (focus kernel_rfl))
 | ((with_reducible apply Same.mk); (focus rfl); (first | exact trivial | exact rfl))
 | (intro cap hcap)
 | ((fail_if_success (with_reducible first | apply Fin.mk | apply CallP.mk | apply LoopP.mk | apply VC.mk | apply falseMk | apply Round.mk | apply LookP.mk | apply RangeP.mk | apply NextP.mk | apply EntryP.mk | apply Eq.symm)); conv => whnf))
        have ei : 0 + ((y.2.fresh.length : Int) - 1).toNat = t.fresh.length := by omega
        simp only [ei, hck]
        refine tlay_at l (((A / 512 + y.1 : Nat) : Int) * 512) r 6 ⟨⟨hl2, by omega, by omega⟩, by omega, by omega, by rw [hr2]; omega⟩ rfl ⟨rfl, rfl, ⟨rfl, rfl, trivial⟩, trivial⟩ ?_
        repeat' (first
 | (with_reducible first | exact True.intro | apply And.intro | apply If_true | apply If_false | apply If_not)
 | ((with_reducible apply VC.mk); (first | trivial | omega | (simp only [inR]; omega) | (exact ⟨rfl, List.prefix_rfl⟩) | (refine ⟨rfl, rfl, rfl, ?_, rfl⟩; (simp; done)) | (focus (repeat' (first | exact True.intro | apply And.intro | rfl | exact Nat.le_of_ble_eq_true rfl)); done) | (simp [inR, Cont.cells]; done) | (simp [inR, Cont.cells]; omega)))
 | ((with_reducible apply If_dec) <;> intro hc <;> (try (exfalso; omega)))
 | ((with_reducible apply If_any) <;> intro hc)
 | ((with_reducible first | apply PF.mk | apply DrawP.mk); (focus kernel_rfl))
 | ((with_reducible apply Same.mk); (focus rfl); (first | exact trivial | exact rfl))
 | (intro cap hcap)
 | ((fail_if_success (with_reducible first | apply Fin.mk | apply CallP.mk | apply LoopP.mk | apply VC.mk | apply falseMk | apply Round.mk | apply LookP.mk | apply RangeP.mk | apply NextP.mk | apply EntryP.mk | apply Eq.symm)); conv => whnf))
        refine Round.mk ⟨(y.1 + 1, { y.2 with dirty := upS ((A / 512 + y.1 : Nat) : Int) (layR (((A / 512 + y.1 : Nat) : Int) * 512) l r) y.2.dirty }), ⟨by show y.1 + 1 ≤ _; omega, o1, nx, nv, hstep⟩, by show _ - (y.1 + 1) < _ - y.1; omega, Fit.ren [0, 1, 2, 3, 4, 5] [] rfl rfl trivial (T5.leM rfl rfl rfl rfl rfl ?_ (c2_le rfl rfl) rfl rfl ⟨rfl, rfl, rfl, rfl⟩) ?_⟩
        · show some (Chunk.mp _ _) = some (Chunk.mp (List.map _ (upS _ _ _)) _)
          rw [← upm_map]
          generalize layR (((A / 512 + y.1 : Nat) : Int) * 512) l r = q at hll ⊢
          simp [List.take_of_length_le, hll]
        · repeat' (first
 | (with_reducible first | exact True.intro | apply And.intro | apply If_true | apply If_false | apply If_not)
 | ((with_reducible apply VC.mk); (first | trivial | omega | (simp only [inR]; omega) | (exact ⟨rfl, List.prefix_rfl⟩) | (refine ⟨rfl, rfl, rfl, ?_, rfl⟩; (simp; done)) | (focus (repeat' (first | exact True.intro | apply And.intro | rfl | exact Nat.le_of_ble_eq_true rfl)); done) | (simp [inR, Cont.cells]; done) | (simp [inR, Cont.cells]; omega)))
 | ((with_reducible apply If_dec) <;> intro hc <;> (try (exfalso; omega)))
 | ((with_reducible apply If_any) <;> intro hc)
 | ((with_reducible first | apply PF.mk | apply DrawP.mk); (focus kernel_rfl))
 | ((with_reducible apply Same.mk); (focus rfl); (first | exact trivial | exact rfl))
 | (intro cap hcap)
 | ((fail_if_success (with_reducible first | apply Fin.mk | apply CallP.mk | apply LoopP.mk | apply VC.mk | apply falseMk | apply Round.mk | apply LookP.mk | apply RangeP.mk | apply NextP.mk | apply EntryP.mk | apply Eq.symm)); conv => whnf))
      · rw [lkm_map] at hn
        have hn0 : lkS ((A / 512 + y.1 : Nat) : Int) y.2.dirty = none := by
          cases hq : lkS ((A / 512 + y.1 : Nat) : Int) y.2.dirty with
          | none => rfl
          | some l => rw [hq] at hn; cases hn
        have e1 : y.2.lay1 r ((A / 512 + y.1 : Nat) : Int) = y.2 := by unfold TR.lay1; rw [hn0]
        rw [e1] at hstep
        repeat' (first
 | (with_reducible first | exact True.intro | apply And.intro | apply If_true | apply If_false | apply If_not)
 | ((with_reducible apply VC.mk); (first | trivial | omega | (simp only [inR]; omega) | (exact ⟨rfl, List.prefix_rfl⟩) | (refine ⟨rfl, rfl, rfl, ?_, rfl⟩; (simp; done)) | (focus (repeat' (first | exact True.intro | apply And.intro | rfl | exact Nat.le_of_ble_eq_true rfl)); done) | (simp [inR, Cont.cells]; done) | (simp [inR, Cont.cells]; omega)))
 | ((with_reducible apply If_dec) <;> intro hc <;> (try (exfalso; omega)))
 | ((with_reducible apply If_any) <;> intro hc)
 | ((with_reducible first | apply PF.mk | apply DrawP.mk); (focus kernel_rfl))
 | ((with_reducible apply Same.mk); (focus rfl); (first | exact trivial | exact rfl))
 | (intro cap hcap)
 | ((fail_if_success (with_reducible first | apply Fin.mk | apply CallP.mk | apply LoopP.mk | apply VC.mk | apply falseMk | apply Round.mk | apply LookP.mk | apply RangeP.mk | apply NextP.mk | apply EntryP.mk | apply Eq.symm)); conv => whnf))
        refine Round.mk ⟨(y.1 + 1, y.2), ⟨by show y.1 + 1 ≤ _; omega, g2, g3, g4, hstep⟩, by show _ - (y.1 + 1) < _ - y.1; omega, Fit.ren [0, 1, 2, 3, 4, 5] [] rfl rfl trivial (T5.leM rfl rfl rfl rfl rfl rfl (c2_le rfl rfl) rfl rfl ⟨rfl, rfl, rfl, rfl⟩) ?_⟩
        repeat' (first
 | (with_reducible first | exact True.intro | apply And.intro | apply If_true | apply If_false | apply If_not)
 | ((with_reducible apply VC.mk); (first | trivial | omega | (simp only [inR]; omega) | (exact ⟨rfl, List.prefix_rfl⟩) | (refine ⟨rfl, rfl, rfl, ?_, rfl⟩; (simp; done)) | (focus (repeat' (first | exact True.intro | apply And.intro | rfl | exact Nat.le_of_ble_eq_true rfl)); done) | (simp [inR, Cont.cells]; done) | (simp [inR, Cont.cells]; omega)))
 | ((with_reducible apply If_dec) <;> intro hc <;> (try (exfalso; omega)))
 | ((with_reducible apply If_any) <;> intro hc)
 | ((with_reducible first | apply PF.mk | apply DrawP.mk); (focus kernel_rfl))
 | ((with_reducible apply Same.mk); (focus rfl); (first | exact trivial | exact rfl))
 | (intro cap hcap)
 | ((fail_if_success (with_reducible first | apply Fin.mk | apply CallP.mk | apply LoopP.mk | apply VC.mk | apply falseMk | apply Round.mk | apply LookP.mk | apply RangeP.mk | apply NextP.mk | apply EntryP.mk | apply Eq.symm)); conv => whnf))
    · have hk2 := hk (0, y.2) (.inr (.inr ⟨hov, hin, rfl, cap, hcap, by
        rw [Int.toNat_natCast, ← g5, show (p.length + 511) / 512 - y.1 = 0 by omega]; rfl⟩))
      exact Fin.ren [0, 1, 2, 3, 4, 5] [] (.v (.int .i64 0)) (tmv y.2 j s) rfl rfl trivial (T5.leM rfl rfl rfl rfl rfl rfl (c2_le rfl rfl) rfl rfl ⟨rfl, rfl, rfl, rfl⟩) (VC.mk rfl) hk2
theorem M6.good {t : TR} {j : JR} {s : DF} {v : AV} (h : v.noF) : Good 5 v (tmv t j s) := by
  refine ⟨h, fun c hc => ?_, Nat.le_of_ble_eq_true rfl⟩
  simp [tmv] at hc
  rcases hc with rfl | rfl | rfl | rfl | rfl | rfl
  · exact .blk ⟨trivial, trivial, trivial, trivial, trivial⟩
  · exact .mp (arr_noF t.dirty)
  · exact .dead
  · exact j.noF _
  · exact s.pk_noF
  · exact .blk (recsC_noF _)
theorem dead_ren (f : Nat → Nat) : Chunk.ren f .dead = .dead := rfl
def FreshRel (t : TR) (at_ : Int) (p : List Int) (x : Int × TR) : Prop := t.over = true ∧ x.1 = 6 ∧ x.2 = t ∨ t.over = false ∧ ¬ inF at_ p.length ∧ x.1 = 4 ∧ x.2 = t ∨ t.over = false ∧ inF at_ p.length ∧ x.1 = 0 ∧ ∃ c, t.fresh.length + 1 ≤ c ∧ x.2 = t.freshT at_.toNat p c
theorem tfresh_K : ConOk Go.Proofs.Try.prog 81 (Con.of (TR × JR × DF × Int × List Int) (Int × TR) (fun x => [.p 0 0 1 0, .v (.int .i64 x.2.2.2.1), .im false 1 x.2.2.2.2.length (.ints .u8 x.2.2.2.2)]) (fun x => tpre x.1 x.2.1 x.2.2.1) (fun x => x.1.Ok ∧ x.1.fresh.length < 1073741824 ∧ inR .i64 x.2.2.2.1 ∧ x.2.2.2.2.length ≤ 9223372036854775807) (fun x r => FreshRel x.1 x.2.2.2.1 x.2.2.2.2 r) (fun x r => .v (.int .i64 r.1)) (fun x r => tmv r.2 x.2.1 x.2.2.1)) :=
  conOk_rel (T := tab) mix Go.Proofs.Try.func81 (by decide +kernel) (by kernel_rfl) [] p81 (fun n => by rw [Go.Proofs.Try.ntmps81]; exact Nat.le_of_ble_eq_true rfl) (fun x r _ _ => M6.good trivial) (fun x _ => T5.nd) (fun x k h0 hk => tfresh_c x.1 x.2.1 x.2.2.1 x.2.2.2.1 x.2.2.2.2 k h0 (fun r hr => hk r hr))
theorem tfresh_at {avs : List AV} {H : List Chunk} {k : K} (t : TR) (j : JR) (s : DF) (at_ : Int) (p : List Int) (ta tb tc td te : Nat) (h0 : t.Ok ∧ t.fresh.length < 1073741824 ∧ inR .i64 at_ ∧ p.length ≤ 9223372036854775807) (hn : nodupN [ta, tb, tc, td, te] = true) (ha0 : nth H ta = some (t.c0 td tb tc)) (hb0 : nth H tb = some t.c1) (hc0 : nth H tc = some t.c2) (hd0 : nth H td = some (j.blk te)) (he0 : nth H te = some s.pk) (ha : argsM H [ta, tb, tc, td, te] [.p 0 0 1 0, .v (.int .i64 at_), .im false 1 p.length (.ints .u8 p)] avs)
    (hQ : ∀ r : Int × TR, FreshRel t at_ p r → k (.v (.int .i64 r.1)) ((((((H.set ta (TR.c0 r.2 td tb H.length)).set tb (TR.c1 r.2)).set tc .dead).set td (j.blk te)).set te s.pk) ++ [TR.c2 r.2])) : CallP Go.Proofs.Try.prog 81 avs H k :=
  CallP.mk ⟨_, tfresh_K.real, Con.spec tfresh_K, (t, j, s, at_, p), [ta, tb, tc, td, te], ⟨h0, hn, ⟨ha0, hb0.trans (congrArg some (TR.c1_ren t _).symm), hc0, hd0, he0, trivial⟩, ha⟩, fun r hr => (numK_eq _ _).mpr (by simpa [tmv, putAll, dead_ren, TR.c0_ren, TR.c1_ren, TR.c2_ren, JR.blk_ren, DF.pk_ren, AV.ren, rens, Cont.ren, fren, nth] using hQ r hr)⟩
end Go.Proofs.Ytjccknmgmommcaa.Sx


set_option maxRecDepth 10000
namespace Go.Proofs.Ytjccknmgmommcaa.Sx
open Go.RowKit Go.Proofs.Ytjccknmgmommcaa.Sx.Tb
/-! ### At -/
def mtb (h : HD) (n : Int) (i : Nat) : Chunk := .blk 158 (.lst [.v (.int .i64 h.bits), .v (.int .i64 h.size), .v (.int .i64 h.host), .v (.int .i64 h.jr), .v (.bool h.backed), .p i 0 1 0, .v (.int .i64 n)]) 7
/-! ### The law MapsNils -/
end Go.Proofs.Ytjccknmgmommcaa.Sx


set_option maxRecDepth 10000
namespace Go.Proofs.Ytjccknmgmommcaa.Sx
open Go.RowKit Go.Proofs.Ytjccknmgmommcaa.Sx.Tb
/-! ### A table over its tx -/
def entAV (x : ER) : List AV := [.v (.int .i64 x.kind), .v (.int .i64 x.cl), .v (.bool x.own)]
def entsC (es : List ER) : Cont := .recs 3 es.length (fun i => entAV (es.getD i ⟨0, 0, false⟩))
theorem entsC_noF (es : List ER) : (entsC es).noF := fun j hj => ⟨trivial, trivial, trivial, trivial⟩
theorem entsC_ren (es : List ER) (f : Nat → Nat) : (entsC es).ren f = entsC es := rfl
def tp6 (t : TR) (j : JR) (s : DF) (h : HD) (n : Int) : List Chunk := [t.c0 3 1 2, t.c1, t.c2, j.blk 4, s.pk, mtb h n 0]
theorem mtb_le {H : List Chunk} {fz : List Nat} {f : Nat → Nat} {ph : Nat → Bool} {h : HD} {n : Int} {a i : Nat} (fi : f 0 = a) (h0 : nth H i = some (mtb h n a)) (hz : memN i fz = false) : (mtb h n 0).le H fz f ph i := by
  unfold Chunk.le mtb
  simp only
  rw [nth_lt h0, hz, h0]
  exact ⟨VC.mk ⟨rfl, rfl⟩, VC.mk rfl, VC.mk rfl, VC.mk rfl, VC.mk rfl, VC.mk rfl, VC.mk ⟨fi, rfl, rfl, rfl⟩, VC.mk rfl, trivial⟩
theorem fix6 {N : Nat} {σ : List Nat} : ∀ i, i < 6 → fren (0 :: 1 :: 2 :: 3 :: 4 :: 5 :: σ) N i = i := fun i hi => by
  match i, hi with
  | 0, _ => rfl
  | 1, _ => rfl
  | 2, _ => rfl
  | 3, _ => rfl
  | 4, _ => rfl
  | 5, _ => rfl
theorem T6.le {H : List Chunk} {f : Nat → Nat} {ph : Nat → Bool} {t : TR} {j : JR} {s : DF} {h : HD} {n : Int} {σ : List Nat} {cs : List Chunk} (f0 : f 0 = 0) (f1 : f 1 = 1) (f2 : f 2 = 2) (f3 : f 3 = 3) (f4 : f 4 = 4) (h0 : nth H 0 = some (t.c0 3 1 2)) (h1 : nth H 1 = some t.c1) (h2 : nth H 2 = some t.c2) (h3 : nth H 3 = some (j.blk 4)) (h4 : nth H 4 = some s.pk) (h5 : nth H 5 = some (mtb h n 0)) (hx : chunksLe H [] f ph σ cs) : chunksLe H [] f ph (0 :: 1 :: 2 :: 3 :: 4 :: 5 :: σ) (tp6 t j s h n ++ cs) :=
  T5.leG f1 f2 f3 f4 h0 h1 h2 h3 h4 ⟨rfl, rfl, rfl, rfl, rfl⟩ (cs := mtb h n 0 :: cs) ⟨mtb_le f0 h5 rfl, hx⟩
theorem T6.fin {H : List Chunk} {t : TR} {j : JR} {s : DF} {h : HD} {n : Int} {v : AV} {k : K} (h0 : nth H 0 = some (t.c0 3 1 2)) (h1 : nth H 1 = some t.c1) (h2 : nth H 2 = some t.c2) (h3 : nth H 3 = some (j.blk 4)) (h4 : nth H 4 = some s.pk) (h5 : nth H 5 = some (mtb h n 0)) (hk : k v (tp6 t j s h n)) (hv : v.inN 6 := by simp [AV.inN, inNs, Cont.inN]) : Fin 6 v H k :=
  Fin.ren [0, 1, 2, 3, 4, 5] [] v (tp6 t j s h n) rfl rfl trivial (T6.le rfl rfl rfl rfl rfl h0 h1 h2 h3 h4 h5 (cs := []) trivial) (AV.le_refl fix6 hv) hk
theorem T6.good {t : TR} {j : JR} {s : DF} {h : HD} {n : Int} {v : AV} (hv : v.noF) : Good 6 v (tp6 t j s h n) := by
  refine ⟨hv, fun c hc => ?_, Nat.le_refl _⟩
  rcases List.mem_append.1 (show c ∈ tpre t j s ++ [mtb h n 0] from hc) with hc | hc
  · exact (T5.good (v := .v (.bool true)) trivial).2.1 c hc
  · simp at hc; subst hc; exact .blk ⟨trivial, trivial, trivial, trivial, trivial, trivial, trivial, trivial⟩
theorem T6.nd {t : TR} {j : JR} {s : DF} {h : HD} {n : Int} : ∀ c ∈ tp6 t j s h n, c.lives := by
  intro c hc
  rcases List.mem_append.1 (show c ∈ tpre t j s ++ [mtb h n 0] from hc) with hc | hc
  · exact T5.nd c hc
  · simp at hc; subst hc; trivial
end Go.Proofs.Ytjccknmgmommcaa.Sx


set_option maxRecDepth 10000
namespace Go.Proofs.Ytjccknmgmommcaa.Sx
open Go.RowKit Go.Proofs.Ytjccknmgmommcaa.Sx.Tb
/-! ### Set -/
end Go.Proofs.Ytjccknmgmommcaa.Sx


set_option maxRecDepth 10000
namespace Go.Proofs.Ytjccknmgmommcaa.Sx
open Go.RowKit Go.Proofs.Ytjccknmgmommcaa.Sx.Tb
/-! ### List, All -/
attribute [local simp] entsC_noF entsC_ren
end Go.Proofs.Ytjccknmgmommcaa.Sx


set_option maxRecDepth 10000
namespace Go.Proofs.Ytjccknmgmommcaa.Sx
open Go.RowKit Go.Proofs.Ytjccknmgmommcaa.Sx.Tb
attribute [local simp] entsC_noF entsC_ren
/-! ### The reference -/
end Go.Proofs.Ytjccknmgmommcaa.Sx


set_option maxRecDepth 10000
namespace Go.Proofs.Ytjccknmgmommcaa.Sx
open Go.RowKit Go.Proofs.Ytjccknmgmommcaa.Sx.Tb
/-! ### The counts' header, the nil ones, New -/
def HD.r (H : Int) : HD := ⟨9, 32768, H, 29, false⟩
def rfb (h : HD) (i : Nat) : Chunk := .blk 163 (.lst [.v (.int .i64 h.bits), .v (.int .i64 h.size), .v (.int .i64 h.host), .v (.int .i64 h.jr), .v (.bool h.backed), .p i 0 1 0]) 6
end Go.Proofs.Ytjccknmgmommcaa.Sx


set_option maxRecDepth 10000
namespace Go.Proofs.Ytjccknmgmommcaa.Sx
open Go.RowKit Go.Proofs.Ytjccknmgmommcaa.Sx.Tb
/-! ### A nil tx; the law's files -/
/-- The law's file. -/
def baseL (n c : Int) : List Int := List.replicate 10752 0 ++ List.replicate (n % 18446744073709551616 % 7000).toNat c
set_option maxHeartbeats 4000000 in
theorem tbase_c (n c : Int) (k : K) (h0 : inR .i64 n ∧ 0 ≤ c ∧ c < 256) (hk : ∀ r : List Int, r = baseL n c → k (.im true 1 r.length (.ints .u8 r)) []) : evFunc tab [8] [] Go.Proofs.Try.f77 [.v (.int .i64 n), .v (.int .u8 c)] [] k := by
  have w : IntKind.u64.wrap n = n % 18446744073709551616 := rfl
  repeat' (first
 | (with_reducible first | exact True.intro | apply And.intro | apply If_true | apply If_false | apply If_not)
 | ((with_reducible apply VC.mk); (first | trivial | omega | (simp only [inR]; omega) | (exact ⟨rfl, List.prefix_rfl⟩) | (refine ⟨rfl, rfl, rfl, ?_, rfl⟩; (simp; done)) | (focus (repeat' (first | exact True.intro | apply And.intro | rfl | exact Nat.le_of_ble_eq_true rfl)); done) | (simp [inR, Cont.cells]; done) | (simp [inR, Cont.cells]; omega)))
 | ((with_reducible apply If_dec) <;> intro hc <;> (try (exfalso; omega)))
 | ((with_reducible apply If_any) <;> intro hc)
 | ((with_reducible first | apply PF.mk | apply DrawP.mk); (focus kernel_rfl))
 | ((with_reducible apply Same.mk); (focus rfl); (first | exact trivial | exact rfl))
 | (intro cap hcap)
 | ((fail_if_success (with_reducible first | apply Fin.mk | apply CallP.mk | apply LoopP.mk | apply VC.mk | apply falseMk | apply Round.mk | apply LookP.mk | apply RangeP.mk | apply NextP.mk | apply EntryP.mk | apply Eq.symm)); conv => whnf))
  rw [w]
  obtain ⟨M, hM⟩ : ∃ M : Nat, n % 18446744073709551616 % 7000 = M := ⟨(n % 18446744073709551616 % 7000).toNat, by omega⟩
  rw [hM]
  refine zerosO_at (10752 + (M : Int)) ⟨by omega, by omega⟩ ⟨rfl, trivial⟩ ?_
  intro z hz
  have hz : z = List.replicate (10752 + M) 0 := by rw [hz]; congr 1
  have hzl : z.length = 10752 + M := by rw [hz]; exact List.length_replicate ..
  obtain ⟨P, hP⟩ : ∃ P : List Int, P = List.replicate 10752 0 := ⟨_, rfl⟩
  have hPl : P.length = 10752 := by rw [hP]; exact List.length_replicate ..
  have hzP : z = P ++ ([] ++ List.replicate M 0) := by rw [hz, hP, List.nil_append, List.replicate_append_replicate]
  have hbP : baseL n c = P ++ List.replicate M c := by unfold baseL; rw [hM, hP, Int.toNat_natCast]
  clear hz hP
  repeat' (first
 | (with_reducible first | exact True.intro | apply And.intro | apply If_true | apply If_false | apply If_not)
 | ((with_reducible apply VC.mk); (first | trivial | omega | (simp only [inR]; omega) | (exact ⟨rfl, List.prefix_rfl⟩) | (refine ⟨rfl, rfl, rfl, ?_, rfl⟩; (simp; done)) | (focus (repeat' (first | exact True.intro | apply And.intro | rfl | exact Nat.le_of_ble_eq_true rfl)); done) | (simp [inR, Cont.cells]; done) | (simp [inR, Cont.cells]; omega)))
 | ((with_reducible apply If_dec) <;> intro hc <;> (try (exfalso; omega)))
 | ((with_reducible apply If_any) <;> intro hc)
 | ((with_reducible first | apply PF.mk | apply DrawP.mk); (focus kernel_rfl))
 | ((with_reducible apply Same.mk); (focus rfl); (first | exact trivial | exact rfl))
 | (intro cap hcap)
 | ((fail_if_success (with_reducible first | apply Fin.mk | apply CallP.mk | apply LoopP.mk | apply VC.mk | apply falseMk | apply Round.mk | apply LookP.mk | apply RangeP.mk | apply NextP.mk | apply EntryP.mk | apply Eq.symm)); conv => whnf))
  refine LoopP.mk ⟨Nat × List Int, fun y => y.1 ≤ M ∧ y.2 = P ++ (List.replicate y.1 c ++ List.replicate (M - y.1) 0), fun y => ([(1, .v (.int .u8 c)), (5, .s 0 0 1 z.length z.length), (6, .v (.int .i64 ((10752 + y.1 : Nat) : Int)))], [.blk 5 (.ints .u8 y.2) z.length]), fun y => M - y.1, (0, z), ⟨Nat.zero_le _, hzP⟩, Fit.ren [0] [] rfl rfl trivial ?_ ?_, ?_⟩
  · exact ⟨⟨VC.mk ⟨rfl, rfl⟩, VC.mk ⟨rfl, List.prefix_refl _⟩⟩, trivial⟩
  · repeat' (first
 | (with_reducible first | exact True.intro | apply And.intro | apply If_true | apply If_false | apply If_not)
 | ((with_reducible apply VC.mk); (first | trivial | omega | (simp only [inR]; omega) | (exact ⟨rfl, List.prefix_rfl⟩) | (refine ⟨rfl, rfl, rfl, ?_, rfl⟩; (simp; done)) | (focus (repeat' (first | exact True.intro | apply And.intro | rfl | exact Nat.le_of_ble_eq_true rfl)); done) | (simp [inR, Cont.cells]; done) | (simp [inR, Cont.cells]; omega)))
 | ((with_reducible apply If_dec) <;> intro hc <;> (try (exfalso; omega)))
 | ((with_reducible apply If_any) <;> intro hc)
 | ((with_reducible first | apply PF.mk | apply DrawP.mk); (focus kernel_rfl))
 | ((with_reducible apply Same.mk); (focus rfl); (first | exact trivial | exact rfl))
 | (intro cap hcap)
 | ((fail_if_success (with_reducible first | apply Fin.mk | apply CallP.mk | apply LoopP.mk | apply VC.mk | apply falseMk | apply Round.mk | apply LookP.mk | apply RangeP.mk | apply NextP.mk | apply EntryP.mk | apply Eq.symm)); conv => whnf))
  · intro y hy
    obtain ⟨g1, g2⟩ := hy
    have gl : y.2.length = 10752 + M := by rw [g2, List.length_append, hPl, List.length_append, List.length_replicate, List.length_replicate]; omega
    have e2 : (10752 + (y.1 : Int)).toNat = 10752 + y.1 := by omega
    have e1 : (((10752 + y.1 : Nat) : Int)).toNat = 10752 + y.1 := Int.toNat_natCast _
    repeat' (first
 | (with_reducible first | exact True.intro | apply And.intro | apply If_true | apply If_false | apply If_not)
 | ((with_reducible apply VC.mk); (first | trivial | omega | (simp only [inR]; omega) | (exact ⟨rfl, List.prefix_rfl⟩) | (refine ⟨rfl, rfl, rfl, ?_, rfl⟩; (simp; done)) | (focus (repeat' (first | exact True.intro | apply And.intro | rfl | exact Nat.le_of_ble_eq_true rfl)); done) | (simp [inR, Cont.cells]; done) | (simp [inR, Cont.cells]; omega)))
 | ((with_reducible apply If_dec) <;> intro hc <;> (try (exfalso; omega)))
 | ((with_reducible apply If_any) <;> intro hc)
 | ((with_reducible first | apply PF.mk | apply DrawP.mk); (focus kernel_rfl))
 | ((with_reducible apply Same.mk); (focus rfl); (first | exact trivial | exact rfl))
 | (intro cap hcap)
 | ((fail_if_success (with_reducible first | apply Fin.mk | apply CallP.mk | apply LoopP.mk | apply VC.mk | apply falseMk | apply Round.mk | apply LookP.mk | apply RangeP.mk | apply NextP.mk | apply EntryP.mk | apply Eq.symm)); conv => whnf))
    · refine Round.mk ⟨(y.1 + 1, y.2.set (10752 + y.1) c), ⟨by show y.1 + 1 ≤ M; omega, ?_⟩, by show M - (y.1 + 1) < M - y.1; omega, Fit.ren [0] [] rfl rfl trivial ?_ ?_⟩
      · show y.2.set (10752 + y.1) c = _
        rw [g2, List.set_append_right _ _ (by omega), hPl, Nat.add_sub_cancel_left, List.set_append_right _ _ (by rw [List.length_replicate]; exact Nat.le_refl _), List.length_replicate, Nat.sub_self, show M - y.1 = (M - (y.1 + 1)) + 1 by omega]
        show P ++ (List.replicate y.1 c ++ c :: List.replicate (M - (y.1 + 1)) 0) = P ++ (List.replicate (y.1 + 1) c ++ List.replicate (M - (y.1 + 1)) 0)
        rw [List.replicate_succ', List.append_assoc]; rfl
      · refine ⟨⟨VC.mk ⟨rfl, rfl⟩, VC.mk ⟨rfl, ?_⟩⟩, trivial⟩
        rw [e1, Nat.zero_add]
        exact List.prefix_refl _
      · repeat' (first
 | (with_reducible first | exact True.intro | apply And.intro | apply If_true | apply If_false | apply If_not)
 | ((with_reducible apply VC.mk); (first | trivial | omega | (simp only [inR]; omega) | (exact ⟨rfl, List.prefix_rfl⟩) | (refine ⟨rfl, rfl, rfl, ?_, rfl⟩; (simp; done)) | (focus (repeat' (first | exact True.intro | apply And.intro | rfl | exact Nat.le_of_ble_eq_true rfl)); done) | (simp [inR, Cont.cells]; done) | (simp [inR, Cont.cells]; omega)))
 | ((with_reducible apply If_dec) <;> intro hc <;> (try (exfalso; omega)))
 | ((with_reducible apply If_any) <;> intro hc)
 | ((with_reducible first | apply PF.mk | apply DrawP.mk); (focus kernel_rfl))
 | ((with_reducible apply Same.mk); (focus rfl); (first | exact trivial | exact rfl))
 | (intro cap hcap)
 | ((fail_if_success (with_reducible first | apply Fin.mk | apply CallP.mk | apply LoopP.mk | apply VC.mk | apply falseMk | apply Round.mk | apply LookP.mk | apply RangeP.mk | apply NextP.mk | apply EntryP.mk | apply Eq.symm)); conv => whnf))
    · have hy1 : y.1 = M := by omega
      have hy2 : y.2 = baseL n c := by
        rw [g2, hy1, Nat.sub_self, hbP, List.replicate_zero, List.append_nil]
      have hk2 := hk y.2 hy2
      refine Fin.ren [] [0] (.im true 1 y.2.length (.ints .u8 y.2)) [] rfl rfl ⟨trivial, trivial⟩ trivial ⟨VC.mk ⟨?_, rfl, rfl, ?_, Nat.one_pos⟩, VC.mk ⟨rfl, ?_⟩⟩ hk2
      · omega
      · omega
      · simp [List.take_of_length_le, hzl, gl]
def tbaseOk (x : Int × Int) : Prop := inR .i64 x.1 ∧ 0 ≤ x.2 ∧ x.2 < 256
def tbaseRel (x : Int × Int) (r : List Int) : Prop := r = baseL x.1 x.2
theorem tbase_K : ConOk Go.Proofs.Try.prog 77 (Con.of (Int × Int) (List Int) (fun x => [.v (.int .i64 x.1), .v (.int .u8 x.2)]) (fun _ => []) tbaseOk tbaseRel (fun _ r => .im true 1 r.length (.ints .u8 r)) (fun _ _ => [])) := by
  refine conOk_rel (T := tab) mix Go.Proofs.Try.func77 (by decide +kernel) (by kernel_rfl) [8] [] (fun n => by rw [Go.Proofs.Try.ntmps77]; exact Nat.le_of_ble_eq_true rfl) (fun x r _ _ => ⟨by simp [AV.noF, noFs, Cont.noF, recsC_noF], (fun c hc => by cases hc), Nat.le_refl _⟩) (fun x _ c hc => by cases hc) ?_
  intro x k h0 hk
  exact tbase_c x.1 x.2 k h0 (fun r hr => hk r hr)
theorem tbase_at {avs : List AV} {H : List Chunk} {k : K} (n : Int) (c : Int) (h0 : inR .i64 n ∧ 0 ≤ c ∧ c < 256) (ha : argsM H [] [.v (.int .i64 n), .v (.int .u8 c)] avs) (hQ : ∀ r : List Int, (r = baseL n c) → k (.im true 1 r.length (.ints .u8 r)) H) : CallP Go.Proofs.Try.prog 77 avs H k :=
  CallP.mk ⟨_, tbase_K.real, Con.spec tbase_K, (n, c), [], ⟨h0, rfl, trivial, ha⟩, fun r hr => (numK_eq H.length (fun N => k (AV.ren (fren [] N) (.im true 1 r.length (.ints .u8 r))) (putAll H [] []))).mpr (by simpa [putAll, AV.ren, rens, Cont.ren, recsC, recAV] using hQ r hr)⟩
set_option maxHeartbeats 4000000 in
theorem topen_c (b : List Int) (k : K) (h0 : 10752 ≤ b.length ∧ b.length ≤ 4194304) (hk : k (.tup [.p 1 0 1 0, .p 0 0 1 0, .v (.bool true)]) [JR.blk ⟨512, 10240, 0⟩ 1, (DF.mk0 b).pk]) : evFunc tab [] [] Go.Proofs.Try.f76 [.im false 1 b.length (.ints .u8 b)] [] k := by
  repeat' (first
 | (with_reducible first | exact True.intro | apply And.intro | apply If_true | apply If_false | apply If_not)
 | ((with_reducible apply VC.mk); (first | trivial | omega | (simp only [inR]; omega) | (exact ⟨rfl, List.prefix_rfl⟩) | (refine ⟨rfl, rfl, rfl, ?_, rfl⟩; (simp; done)) | (focus (repeat' (first | exact True.intro | apply And.intro | rfl | exact Nat.le_of_ble_eq_true rfl)); done) | (simp [inR, Cont.cells]; done) | (simp [inR, Cont.cells]; omega)))
 | ((with_reducible apply If_dec) <;> intro hc <;> (try (exfalso; omega)))
 | ((with_reducible apply If_any) <;> intro hc)
 | ((with_reducible first | apply PF.mk | apply DrawP.mk); (focus kernel_rfl))
 | ((with_reducible apply Same.mk); (focus rfl); (first | exact trivial | exact rfl))
 | (intro cap hcap)
 | ((fail_if_success (with_reducible first | apply Fin.mk | apply CallP.mk | apply LoopP.mk | apply VC.mk | apply falseMk | apply Round.mk | apply LookP.mk | apply RangeP.mk | apply NextP.mk | apply EntryP.mk | apply Eq.symm)); conv => whnf))
  refine new_at b (by omega) ⟨⟨rfl, rfl, rfl⟩, trivial⟩ (fun h => absurd h (by omega)) (fun _ => ?_)
  repeat' (first
 | (with_reducible first | exact True.intro | apply And.intro | apply If_true | apply If_false | apply If_not)
 | ((with_reducible apply VC.mk); (first | trivial | omega | (simp only [inR]; omega) | (exact ⟨rfl, List.prefix_rfl⟩) | (refine ⟨rfl, rfl, rfl, ?_, rfl⟩; (simp; done)) | (focus (repeat' (first | exact True.intro | apply And.intro | rfl | exact Nat.le_of_ble_eq_true rfl)); done) | (simp [inR, Cont.cells]; done) | (simp [inR, Cont.cells]; omega)))
 | ((with_reducible apply If_dec) <;> intro hc <;> (try (exfalso; omega)))
 | ((with_reducible apply If_any) <;> intro hc)
 | ((with_reducible first | apply PF.mk | apply DrawP.mk); (focus kernel_rfl))
 | ((with_reducible apply Same.mk); (focus rfl); (first | exact trivial | exact rfl))
 | (intro cap hcap)
 | ((fail_if_success (with_reducible first | apply Fin.mk | apply CallP.mk | apply LoopP.mk | apply VC.mk | apply falseMk | apply Round.mk | apply LookP.mk | apply RangeP.mk | apply NextP.mk | apply EntryP.mk | apply Eq.symm)); conv => whnf))
  have hE : newE (DF.mk0 b) 512 10240 = 0 := by
    unfold newE
    rw [if_neg (by decide), if_neg]
    show ¬ ((10240 : Int) < 1024 ∨ (b.length : Int) < 512 ∨ (b.length : Int) - 512 < 10240)
    omega
  refine jnew_at (DF.mk0 b) 512 10240 0 ⟨by show b.length ≤ _; omega, by simp [inR], by simp [inR]⟩ rfl ⟨rfl, rfl, rfl, trivial⟩ (fun h => absurd hE h) (fun _ => ?_)
  repeat' (first
 | (with_reducible first | exact True.intro | apply And.intro | apply If_true | apply If_false | apply If_not)
 | ((with_reducible apply VC.mk); (first | trivial | omega | (simp only [inR]; omega) | (exact ⟨rfl, List.prefix_rfl⟩) | (refine ⟨rfl, rfl, rfl, ?_, rfl⟩; (simp; done)) | (focus (repeat' (first | exact True.intro | apply And.intro | rfl | exact Nat.le_of_ble_eq_true rfl)); done) | (simp [inR, Cont.cells]; done) | (simp [inR, Cont.cells]; omega)))
 | ((with_reducible apply If_dec) <;> intro hc <;> (try (exfalso; omega)))
 | ((with_reducible apply If_any) <;> intro hc)
 | ((with_reducible first | apply PF.mk | apply DrawP.mk); (focus kernel_rfl))
 | ((with_reducible apply Same.mk); (focus rfl); (first | exact trivial | exact rfl))
 | (intro cap hcap)
 | ((fail_if_success (with_reducible first | apply Fin.mk | apply CallP.mk | apply LoopP.mk | apply VC.mk | apply falseMk | apply Round.mk | apply LookP.mk | apply RangeP.mk | apply NextP.mk | apply EntryP.mk | apply Eq.symm)); conv => whnf))
  refine Fin.ren [1, 0] [] (.tup [.p 1 0 1 0, .p 0 0 1 0, .v (.bool true)]) [JR.blk ⟨512, 10240, 0⟩ 1, (DF.mk0 b).pk] rfl rfl trivial ?_ ⟨VC.mk ⟨rfl, rfl, rfl, rfl⟩, VC.mk ⟨rfl, rfl, rfl, rfl⟩, VC.mk rfl, trivial⟩ hk
  exact ⟨⟨VC.mk ⟨rfl, rfl⟩, VC.mk ⟨rfl, rfl, rfl, rfl⟩, VC.mk rfl, VC.mk rfl, VC.mk rfl, trivial⟩, VC.mk ⟨rfl, rfl, rfl, rfl⟩, trivial⟩
theorem topen_K : ConOk Go.Proofs.Try.prog 76 (Con.of (List Int) Unit (fun b => [.im false 1 b.length (.ints .u8 b)]) (fun _ => []) (fun b => 10752 ≤ b.length ∧ b.length ≤ 4194304) (fun _ _ => True) (fun _ _ => .tup [.p 1 0 1 0, .p 0 0 1 0, .v (.bool true)]) (fun b _ => [JR.blk ⟨512, 10240, 0⟩ 1, (DF.mk0 b).pk])) :=
  conOk_rel (T := tab) mix Go.Proofs.Try.func76 (by decide +kernel) (by kernel_rfl) [] [] (fun n => by rw [Go.Proofs.Try.ntmps76]; exact Nat.le_of_ble_eq_true rfl) (fun x r _ _ => ⟨⟨trivial, trivial, trivial, trivial⟩, (fun c hc => by simp at hc; rcases hc with rfl | rfl; exact JR.noF _ _; exact DF.pk_noF _), Nat.zero_le _⟩) (fun x _ c hc => by cases hc) (fun x k h0 hk => topen_c x k h0 (hk () trivial))
theorem topen_at {avs : List AV} {Hp : List Chunk} {k : K} (b : List Int) (h0 : 10752 ≤ b.length ∧ b.length ≤ 4194304) (ha : argsM Hp [] [.im false 1 b.length (.ints .u8 b)] avs)
    (hQ : k (.tup [.p (Hp.length + 1) 0 1 0, .p Hp.length 0 1 0, .v (.bool true)]) (Hp ++ [JR.blk ⟨512, 10240, 0⟩ (Hp.length + 1), (DF.mk0 b).pk])) : CallP Go.Proofs.Try.prog 76 avs Hp k :=
  CallP.mk ⟨_, topen_K.real, Con.spec topen_K, b, [], ⟨h0, rfl, trivial, ha⟩, fun z hz => (numK_eq _ _).mpr (by simpa [putAll, JR.blk_ren, DF.pk_ren, AV.ren, rens, fren, nth] using hQ)⟩
end Go.Proofs.Ytjccknmgmommcaa.Sx


set_option maxRecDepth 10000
namespace Go.Proofs.Ytjccknmgmommcaa.Sx
open Go.RowKit Go.Proofs.Ytjccknmgmommcaa.Sx.Tb
/-! ### The law's records -/
/-! ### The law's file -/
structure CaseR where
  n : Int
  fill : List Int
  pos : Int
  size : Int
  recs : List RecR
end Go.Proofs.Ytjccknmgmommcaa.Sx


set_option maxRecDepth 10000
namespace Go.Proofs.Ytjccknmgmommcaa.Sx
open Go.RowKit Go.Proofs.Ytjccknmgmommcaa.Sx.Tb
/-! ### The document's Done -/
/-- A part that the caller owns. -/
theorem partO_c (l : List Int) (p n : Nat) (k : K) (h0 : p + n ≤ l.length ∧ l.length ≤ 1099511627776) (hk : ∀ x : List Int × Nat, (x.1 = (l.drop p).take n ∧ x.1.length ≤ x.2) → k (.s 0 0 1 x.1.length x.2) [.blk 5 (.ints .u8 x.1) x.2]) : evFunc tab [] [] Go.Proofs.Try.f117 [.im false 1 l.length (.ints .u8 l), .v (.int .i64 p), .v (.int .i64 n)] [] k := by
  repeat' (first
 | (with_reducible first | exact True.intro | apply And.intro | apply If_true | apply If_false | apply If_not)
 | ((with_reducible apply VC.mk); (first | trivial | omega | (simp only [inR]; omega) | (exact ⟨rfl, List.prefix_rfl⟩) | (refine ⟨rfl, rfl, rfl, ?_, rfl⟩; (simp; done)) | (focus (repeat' (first | exact True.intro | apply And.intro | rfl | exact Nat.le_of_ble_eq_true rfl)); done) | (simp [inR, Cont.cells]; done) | (simp [inR, Cont.cells]; omega)))
 | ((with_reducible apply If_dec) <;> intro hc <;> (try (exfalso; omega)))
 | ((with_reducible apply If_any) <;> intro hc)
 | ((with_reducible first | apply PF.mk | apply DrawP.mk); (focus kernel_rfl))
 | ((with_reducible apply Same.mk); (focus rfl); (first | exact trivial | exact rfl))
 | (intro cap hcap)
 | ((fail_if_success (with_reducible first | apply Fin.mk | apply CallP.mk | apply LoopP.mk | apply VC.mk | apply falseMk | apply Round.mk | apply LookP.mk | apply RangeP.mk | apply NextP.mk | apply EntryP.mk | apply Eq.symm)); conv => whnf))
  have e1 : ((p : Int) + (n : Int)).toNat - ((p : Nat) : Int).toNat = n := by omega
  have e2 : ((p : Nat) : Int).toNat = p := by omega
  have e3 : ((l.drop p).take n).length = n := by rw [List.length_take, List.length_drop]; omega
  rw [e1, e2]
  rw [e1] at hcap
  have hk2 := hk ((l.drop p).take n, cap) ⟨rfl, by rw [e3]; exact hcap⟩
  rw [e3] at hk2
  rw [Nat.mul_one]
  exact Fin.same hk2
theorem partO_K : ConOk Go.Proofs.Try.prog 117 (Con.of (List Int × Nat × Nat) (List Int × Nat) (fun x => [.im false 1 x.1.length (.ints .u8 x.1), .v (.int .i64 x.2.1), .v (.int .i64 x.2.2)]) (fun _ => []) (fun x => x.2.1 + x.2.2 ≤ x.1.length ∧ x.1.length ≤ 1099511627776) (fun x r => r.1 = (x.1.drop x.2.1).take x.2.2 ∧ r.1.length ≤ r.2) (fun _ r => .s 0 0 1 r.1.length r.2) (fun _ r => [.blk 5 (.ints .u8 r.1) r.2])) := by
  refine conOk_rel (T := tab) mix Go.Proofs.Try.func117 (by decide +kernel) (by kernel_rfl) [] [] (fun n => by rw [Go.Proofs.Try.ntmps117]; exact Nat.le_of_ble_eq_true rfl) (fun x r _ _ => ⟨trivial, (fun c hc => by simp at hc; subst hc; exact .blk trivial), Nat.zero_le _⟩) (fun x _ c hc => by cases hc) (fun x k h0 hk => partO_c x.1 x.2.1 x.2.2 k h0 (fun r hr => hk r hr))
theorem partO_at {avs : List AV} {H : List Chunk} {k : K} (l : List Int) (p n : Nat) (h0 : p + n ≤ l.length ∧ l.length ≤ 1099511627776) (ha : argsM H [] [.im false 1 l.length (.ints .u8 l), .v (.int .i64 p), .v (.int .i64 n)] avs)
    (h : ∀ (m : List Int) (cap : Nat), m = (l.drop p).take n → m.length ≤ cap → k (.s H.length 0 1 m.length cap) (H ++ [.blk 5 (.ints .u8 m) cap])) : CallP Go.Proofs.Try.prog 117 avs H k :=
  CallP.mk ⟨_, partO_K.real, Con.spec partO_K, (l, p, n), [], ⟨h0, rfl, trivial, ha⟩, fun r hr => (numK_eq _ _).mpr (by simpa [putAll, AV.ren, rens, fren, nth, Chunk.ren, Cont.ren] using h r.1 r.2 hr.1 hr.2)⟩
/-! ### The law -/
end Go.Proofs.Ytjccknmgmommcaa.Sx


set_option maxRecDepth 10000
namespace Go.Proofs.Ytjccknmgmommcaa.Sx
open Go.RowKit
/-! ### slices.Sort of an owned row of numbers, as a contract -/
def sortC (T : TypeId) : Con := Con.of (List Int × Nat) (List Int) (fun x => [.s 0 0 1 x.1.length x.2]) (fun x => [.blk T (.ints .i64 x.1) x.2]) (fun x => x.1.length < 4611686018427387904) (fun x r => r = x.1.mergeSort (fun a b => decide (a ≤ b))) (fun _ _ => .tup []) (fun x r => [.blk T (.ints .i64 r) x.2])
theorem sort_conOk {P : Program} {f : FuncId} (T : TypeId) (hr : Real P f)
    (hS : ∀ (blk cap : Nat) (zs : List Int) (w : World), Go.Sort.Holds (Value.int .i64) w blk 0 zs.toArray → blk < w.heap.size → zs.length < 4611686018427387904 → Calls P f #[.slice (some ⟨blk, 0, none⟩) zs.length cap] w fun e w' => e = .returned (.tuple #[]) ∧ ∃ n os, w' = Go.Sort.grow (Go.Sort.putRow (Value.int .i64) (Go.Sort.ahead w n) blk 0 (zs.mergeSort fun x y => decide (x ≤ y)).toArray) os)
    (hN : ∀ (p : Option Addr) (cap : Nat) (w : World), Calls P f #[.slice p 0 cap] w fun e w' => e = .returned (.tuple #[]) ∧ w' = w) : ConOk P f (sortC T) := by
  refine ⟨hr, ?_, ?_, ?_⟩
  · intro x k hok hk r hrel
    refine ⟨hk r hrel, trivial, fun c hc => ?_, Nat.le_refl _⟩
    simp at hc; subst hc; exact .blk trivial
  · intro x hok c hc
    simp [sortC, Con.of] at hc; subst hc; trivial
  · rintro ⟨l, c⟩ k w0 M J0 J ρ φ w vs hok hk hs ha
    have hk : k (.tup []) [.blk T (.ints .i64 (l.mergeSort (fun a b => decide (a ≤ b)))) c] := hk _ rfl
    have hok : l.length < 4611686018427387904 := hok
    obtain ⟨v, rfl, hv⟩ : ∃ v, vs = [v] ∧ Rep ρ J w (.s 0 0 1 l.length c) v := by
      cases ha with
      | cons h hs => cases hs; exact ⟨_, rfl, h⟩
    have h0 := hs.hold 0 _ rfl
    by_cases hl : l = []
    · subst hl
      cases hv with
      | s h h0' h1 h2 =>
        have hk : k (.tup []) [.blk T (.ints .i64 []) c] := by simpa using hk
        refine (hN _ _ w).mono ?_
        rintro e w' ⟨rfl, rfl⟩
        exact ⟨_, _, _, ρ, φ, J, rfl, hk, hs, .tup .nil⟩
    · have hll : l.length ≠ 0 := fun e => hl (List.eq_nil_of_length_eq_zero e)
      generalize hb0 : ρ 0 = b0 at h0
      cases hv with
      | @s i e sz n c' b a h ha0 h1 h2 =>
        have hbb : b0 = some b := hb0.symm.trans h
        subst hbb
        have hc0 : c ≠ 0 := by omega
        obtain rfl := ha0 hc0
        cases h0 with
        | @blk _ _ _ _ _ _ cs gs hc hb hz h1' hp =>
          cases hc
          have hz : (l.map (Value.int .i64) ++ gs).length = c := hz
          have hlt : b < w.heap.size := (Array.getElem?_eq_some_iff.1 hb).1
          refine (hS b c l w ?_ hlt hok).mono ?_
          · intro j hj
            have hj : j < l.length := by simpa using hj
            have hjv : (l.toArray)[j]! = l[j] := by simp [hj]
            have hcell : (l.map (Value.int IntKind.i64) ++ gs).toArray[0 + j]? = some (Value.int .i64 (l[j])) := by
              rw [Nat.zero_add, List.getElem?_toArray, List.getElem?_append_left (by simpa using hj), List.getElem?_map, List.getElem?_eq_getElem hj]; rfl
            constructor
            · rw [hjv]
              simp only [World.cell?, hb]
              exact hcell
            · simp only [World.frozen?, hb]
              simp
          · rintro e w' ⟨rfl, n, os, rfl⟩
            obtain ⟨r, hr⟩ : ∃ r, r = l.mergeSort (fun a b => decide (a ≤ b)) := ⟨_, rfl⟩
            rw [← hr] at hk ⊢
            have hrl : r.length = l.length := by rw [hr]; exact List.length_mergeSort ..
            obtain ⟨w1, hw1⟩ : ∃ w1, w1 = Go.Sort.putRow (Value.int .i64) (Go.Sort.ahead w n) b 0 r.toArray := ⟨_, rfl⟩
            rw [← hw1]
            have hsz : w1.heap.size = w.heap.size := by rw [hw1, Go.Sort.size_putRow]; rfl
            have hoth : ∀ q, q ≠ b → w1.heap[q]? = w.heap[q]? := by
              intro q hq
              rw [hw1]
              simp only [Go.Sort.putRow, Go.Sort.mapBlock, Go.Sort.ahead, Array.getElem?_modify]
              rw [if_neg (fun e => hq e.symm)]
            have hblk : w1.heap[b]? = some (.cells (r.map (Value.int .i64) ++ gs).toArray T (0, 0)) := by
              rw [hw1]
              simp only [Go.Sort.putRow, Go.Sort.mapBlock, Go.Sort.ahead, Array.getElem?_modify, if_true, hb, Option.map_some, Go.Sort.onCells]
              congr 2
              apply Array.ext_getElem?
              intro q
              simp only [Go.Sort.putCells, Array.getElem?_mapIdx, List.getElem?_toArray, List.size_toArray, Nat.sub_zero]
              by_cases hq : q < l.length
              · have hq2 : q < r.length := by omega
                rw [List.getElem?_append_left (by simpa using hq), List.getElem?_append_left (by simpa using hq2), List.getElem?_map, List.getElem?_map, List.getElem?_eq_getElem hq, List.getElem?_eq_getElem hq2]
                simp [hq2]
              · rw [List.getElem?_append_right (by simpa using Nat.le_of_not_lt hq), List.getElem?_append_right (by rw [List.length_map]; omega), List.length_map, List.length_map, hrl]
                cases gs[q - l.length]? with
                | none => rfl
                | some u => simp only [Option.map_some]; rw [if_neg (by omega)]
            have P1 := hs.put (w' := w1) (i := 0) (c := .blk T (.ints .i64 r) c) (p' := φ 0) (fun q h => .inl h) (fun q h => by rw [hsz]; exact hs.lt _ _ h) (fun q h1 h2 => hoth q (fun e => h2 ((hp q).2 e))) (by rw [hsz]; exact Nat.le_refl _) (by rw [hw1]; rfl) (by rw [hw1]; rfl) (by rw [hw1]; rfl) Nat.one_pos ?_
            rotate_left
            · rw [hb0]
              exact .blk .ints hblk (by rw [← hz]; simp [hrl]) (by simp [Value.oneCell']) hp
            have P2 := P1.1.below (w' := Go.Sort.grow w1 os) ⟨rfl, rfl, rfl, by simp [Go.Sort.grow], fun q h => by simp only [Go.Sort.grow]; rw [Array.getElem?_append_left h]⟩
            exact ⟨_, _, _, ρ, _, J, rfl, hk, P2.1, .tup .nil⟩
        | none hc hp => exact absurd rfl hc0
end Go.Proofs.Ytjccknmgmommcaa.Sx


set_option maxRecDepth 10000
namespace Go.Proofs.Ytjccknmgmommcaa.Sx
open Go.Shelf
def sortI64_ren : Go.Shelf.Ren := ⟨fun | 53 => 128 | 64 => 137 | 63 => 136 | 78 => 149 | 79 => 150 | 70 => 140 | 71 => 141 | 72 => 142 | 73 => 143 | 74 => 144 | 75 => 145 | 59 => 146 | 76 => 147 | 77 => 148 | 88 => 151 | 89 => 152 | 90 => 153 | 91 => 154 | 92 => 155 | 68 => 156 | 96 => 157 | n => n, fun | 22 => 55 | 23 => 2 | 3 => 3 | 51 => 198 | 0 => 0 | 67 => 177 | 69 => 47 | 4 => 4 | 61 => 219 | 60 => 218 | 44 => 223 | 5 => 5 | 9 => 9 | 75 => 227 | 79 => 231 | 83 => 234 | 84 => 235 | n => n, fun | n => n⟩
theorem sortI64 : Go.Proofs.SlLaysN.n53 Try.prog sortI64_ren := {
  mixed := by kernel_rfl
  f53 := ⟨Try.f128.name, by decide, Try.func128.trans (congrArg some (by kernel_rfl))⟩
  f59 := ⟨Try.f146.name, by decide, Try.func146.trans (congrArg some (by kernel_rfl))⟩
  f63 := ⟨Try.f136.name, by decide, Try.func136.trans (congrArg some (by kernel_rfl))⟩
  f64 := Try.func137.trans (congrArg some (by kernel_rfl))
  f68 := ⟨Try.f156.name, by decide, Try.func156.trans (congrArg some (by kernel_rfl))⟩
  f70 := ⟨Try.f140.name, by decide, Try.func140.trans (congrArg some (by kernel_rfl))⟩
  f71 := ⟨Try.f141.name, by decide, Try.func141.trans (congrArg some (by kernel_rfl))⟩
  f72 := ⟨Try.f142.name, by decide, Try.func142.trans (congrArg some (by kernel_rfl))⟩
  f73 := ⟨Try.f143.name, by decide, Try.func143.trans (congrArg some (by kernel_rfl))⟩
  f74 := ⟨Try.f144.name, by decide, Try.func144.trans (congrArg some (by kernel_rfl))⟩
  f75 := ⟨Try.f145.name, by decide, Try.func145.trans (congrArg some (by kernel_rfl))⟩
  f76 := ⟨Try.f147.name, by decide, Try.func147.trans (congrArg some (by kernel_rfl))⟩
  f77 := ⟨Try.f148.name, by decide, Try.func148.trans (congrArg some (by kernel_rfl))⟩
  f78 := Try.func149.trans (congrArg some (by kernel_rfl))
  f79 := Try.func150.trans (congrArg some (by kernel_rfl))
  f88 := ⟨Try.f151.name, by decide, Try.func151.trans (congrArg some (by kernel_rfl))⟩
  f89 := Try.func152.trans (congrArg some (by kernel_rfl))
  f90 := Try.func153.trans (congrArg some (by kernel_rfl))
  f91 := ⟨Try.f154.name, by decide, Try.func154.trans (congrArg some (by kernel_rfl))⟩
  f92 := ⟨Try.f155.name, by decide, Try.func155.trans (congrArg some (by kernel_rfl))⟩
  f96 := ⟨Try.f157.name, by decide, Try.func157.trans (congrArg some (by kernel_rfl))⟩
  t0 := Try.underlying0
  a0 := Try.isAgg0
  z0 := Try.sizeOf0
  v0 := Try.zeroValue0
  t3 := Try.underlying3
  a3 := Try.isAgg3
  z3 := Try.sizeOf3
  v3 := Try.zeroValue3
  t4 := Try.underlying4
  a4 := Try.isAgg4
  z4 := Try.sizeOf4
  v4 := Try.zeroValue4
  t5 := Try.underlying5
  a5 := Try.isAgg5
  z5 := Try.sizeOf5
  v5 := Try.zeroValue5
  t9 := Try.underlying9
  a9 := Try.isAgg9
  z9 := Try.sizeOf9
  v9 := Try.zeroValue9
  t22 := Try.underlying55
  a22 := Try.isAgg55
  z22 := Try.sizeOf55
  v22 := Try.zeroValue55
  t23 := Try.underlying2
  a23 := Try.isAgg2
  z23 := Try.sizeOf2
  v23 := Try.zeroValue2
  t44 := Try.underlying223
  a44 := Try.isAgg223
  z44 := Try.sizeOf223
  v44 := Try.zeroValue223
  t51 := Try.underlying198
  a51 := Try.isAgg198
  z51 := Try.sizeOf198
  v51 := Try.zeroValue198
  t60 := Try.underlying218
  a60 := Try.isAgg218
  z60 := Try.sizeOf218
  v60 := Try.zeroValue218
  t61 := Try.underlying219
  a61 := Try.isAgg219
  z61 := Try.sizeOf219
  v61 := Try.zeroValue219
  t67 := Try.underlying177
  a67 := Try.isAgg177
  z67 := Try.sizeOf177
  v67 := Try.zeroValue177
  t69 := Try.underlying47
  a69 := Try.isAgg47
  z69 := Try.sizeOf47
  v69 := Try.zeroValue47
  t75 := Try.underlying227
  a75 := Try.isAgg227
  z75 := Try.sizeOf227
  v75 := Try.zeroValue227
  t79 := Try.underlying231
  a79 := Try.isAgg231
  z79 := Try.sizeOf231
  v79 := Try.zeroValue231
  t83 := Try.underlying234
  a83 := Try.isAgg234
  z83 := Try.sizeOf234
  v83 := Try.zeroValue234
  t84 := Try.underlying235
  a84 := Try.isAgg235
  z84 := Try.sizeOf235
  v84 := Try.zeroValue235 }
end Go.Proofs.Ytjccknmgmommcaa.Sx


set_option maxRecDepth 10000
namespace Go.Proofs.Ytjccknmgmommcaa.Sx
open Go.RowKit Go.Proofs.Ytjccknmgmommcaa.Sx.Tb
theorem sort_K : ConOk Go.Proofs.Try.prog 128 (sortC 2) :=
  sort_conOk 2 ⟨_, Go.Proofs.Try.func128, by decide +kernel, by kernel_rfl⟩ (fun blk cap zs w h1 h2 h3 => AnyG.slices_Sort_int Sx.sortI64 blk 0 cap zs w h1 h2 h3) (fun p cap w => AnyG.slices_Sort_int_none Sx.sortI64 p cap w)
theorem sort_at {avs : List AV} {H : List Chunk} {k : K} (l : List Int) (c : Nat) (i : Nat) (h0 : l.length < 4611686018427387904) (hc : nth H i = some (.blk 2 (.ints .i64 l) c)) (ha : argsM H [i] [.s 0 0 1 l.length c] avs)
    (h : ∀ r, r = l.mergeSort (fun a b => decide (a ≤ b)) → k (.tup []) (H.set i (.blk 2 (.ints .i64 r) c))) : CallP Go.Proofs.Try.prog 128 avs H k :=
  CallP.mk ⟨_, sort_K.real, Con.spec sort_K, (l, c), [i], ⟨h0, rfl, ⟨hc, trivial⟩, ha⟩, fun r hr => (numK_eq H.length (fun N => k (AV.ren (fren [i] N) (.tup [])) (putAll H [i] [Chunk.ren (fren [i] N) (.blk 2 (.ints .i64 r) c)]))).mpr (by simpa [putAll, AV.ren, rens, Chunk.ren, Cont.ren] using h r hr)⟩
#print axioms sort_K
end Go.Proofs.Ytjccknmgmommcaa.Sx


set_option maxRecDepth 10000
namespace Go.Proofs.Ytjccknmgmommcaa.Sx
open Go.RowKit Go.Proofs.Ytjccknmgmommcaa.Sx.Tb
/-! ### A tx's records -/
def rowsR (rr : List RecR) (dc : Nat) (i : Nat) : List AV := if i + 1 = rr.length then [.v (.int .i64 (rr.getD i (0, [])).1), .s 6 0 1 (rr.getD i (0, [])).2.length dc] else recAV true (rr.getD i (0, []))
def snocD (acc : List RecR) (x : List Int) : List RecR := acc.set (acc.length - 1) ((acc.getD (acc.length - 1) (0, [])).1, (acc.getD (acc.length - 1) (0, [])).2 ++ x)
def bldS (d : List (Int × List Int)) (ks : List Int) (acc : List RecR) (i : Nat) : List RecR :=
  if 0 < i ∧ ks.getD (i - 1) 0 = ks.getD i 0 - 1 then snocD acc ((lkS (ks.getD i 0) d).getD []) else acc ++ [(ks.getD i 0 * 512, (lkS (ks.getD i 0) d).getD [])]
def bldR (d : List (Int × List Int)) (ks : List Int) (m : Nat) : List RecR := (List.range m).foldl (bldS d ks) []
def RecRel (t : TR) (r : List RecR) : Prop := ∃ ks : List Int, ks.Perm (t.dirty.map (fun x => x.1)) ∧ ks.Pairwise (· ≤ ·) ∧ r = bldR t.dirty ks ks.length
def keyF (s : List Nat) (d : List (Int × List Int)) (b : Nat) : Int := (d.getD (s.idxOf b) (0, [])).1
theorem lkS_of_mem {n : Int} : ∀ {d : List (Int × List Int)}, n ∈ d.map (fun x => x.1) → ∃ l, lkS n d = some l
  | [], h => absurd h List.not_mem_nil
  | (a, v) :: r, h => by
    unfold lkS
    by_cases e : a = n
    · exact ⟨v, by rw [if_pos e]⟩
    · rw [if_neg e]
      refine lkS_of_mem (d := r) ?_
      rcases List.mem_cons.1 h with h | h
      · exact absurd h.symm e
      · exact h
theorem sub_len : ∀ {l s : List Nat}, l.Nodup → (∀ b ∈ l, b ∈ s) → l.length ≤ s.length
  | [], _, _, _ => Nat.zero_le _
  | a :: l, s, hn, h => by
    have hc := List.nodup_cons.1 hn
    have ha := h a (List.mem_cons_self ..)
    have i : l.length ≤ (s.erase a).length := sub_len hc.2 (fun b hb => (List.mem_erase_of_ne (fun e => hc.1 (by rw [← e]; exact hb))).2 (h b (List.mem_cons_of_mem _ hb)))
    rw [List.length_erase_of_mem ha] at i
    have : 0 < s.length := List.length_pos_of_mem ha
    simp only [List.length_cons]
    omega
theorem nodup_perm {l s : List Nat} (h1 : l.Nodup) (h2 : s.Nodup) (h : ∀ b, b ∈ l ↔ b ∈ s) : l.Perm s := by
  rw [List.perm_iff_count]
  intro a
  by_cases ha : a ∈ l
  · rw [h1.count, h2.count, if_pos ha, if_pos ((h a).1 ha)]
  · rw [List.count_eq_zero.2 ha, List.count_eq_zero.2 (fun q => ha ((h a).2 q))]
theorem keys_eq {sq : List Nat} {d : List (Int × List Int)} (hl : sq.length = d.length) (hn : sq.Nodup) : sq.map (keyF sq d) = d.map (fun x => x.1) := by
  apply List.ext_getElem (by simp [hl])
  intro i h1 h2
  have hi : i < sq.length := by simpa using h1
  rw [List.getElem_map, List.getElem_map]
  unfold keyF
  rw [hn.idxOf_getElem i hi, List.getD_eq_getElem?_getD, List.getElem?_eq_getElem (by omega)]
  rfl
theorem T5.leS {H : List Chunk} {fz : List Nat} {f : Nat → Nat} {ph : Nat → Bool} {t : TR} {j : JR} {s : DF} {st : List Nat × Nat} {a b c d e : Nat} {σ : List Nat} {cs : List Chunk} (f1 : f 1 = b) (f2 : f 2 = c) (f3 : f 3 = d) (f4 : f 4 = e) (h0 : nth H a = some (t.c0 d b c)) (h1 : nth H b = some (.mp (t.dirty.map (fun x => (x.1, AV.arr .u8 x.2))) (some st))) (h2 : nth H c = some t.c2) (h3 : nth H d = some (j.blk e)) (h4 : nth H e = some s.pk) (hz : memN a fz = false ∧ memN b fz = false ∧ memN c fz = false ∧ memN d fz = false ∧ memN e fz = false) (hx : chunksLe H fz f ph σ cs) : chunksLe H fz f ph (a :: b :: c :: d :: e :: σ) ([t.c0 3 1 2, .mp (t.dirty.map (fun x => (x.1, AV.arr .u8 x.2))) (some st), t.c2, j.blk 4, s.pk] ++ cs) := by
  refine ⟨?_, ?_, c2_le h2 hz.2.2.1, ?_, ?_, hx⟩
  · unfold Chunk.le TR.c0
    simp only
    rw [nth_lt h0, hz.1, h0]
    exact ⟨VC.mk ⟨rfl, rfl⟩, VC.mk ⟨f3, rfl, rfl, rfl⟩, VC.mk f1, VC.mk ⟨f2, rfl, rfl, rfl, rfl⟩, VC.mk rfl, trivial⟩
  · unfold Chunk.le
    simp only
    rw [nth_lt h1, hz.2.1, h1]
    exact ⟨VC.mk ⟨rfl, .inr rfl⟩, arr_les t.dirty⟩
  · unfold Chunk.le JR.blk
    simp only
    rw [nth_lt h3, hz.2.2.2.1, h3]
    exact ⟨VC.mk ⟨rfl, rfl⟩, VC.mk ⟨f4, rfl, rfl, rfl⟩, VC.mk rfl, VC.mk rfl, VC.mk rfl, trivial⟩
  · unfold Chunk.le DF.pk
    simp only
    rw [nth_lt h4, hz.2.2.2.2, h4]
    exact VC.mk ⟨rfl, rfl, rfl, rfl⟩
/-- From a map that is gone through back to a map. -/
theorem T5.leU {H : List Chunk} {fz : List Nat} {f : Nat → Nat} {ph : Nat → Bool} {t : TR} {j : JR} {s : DF} {st : Option (List Nat × Nat)} {a b c d e : Nat} {σ : List Nat} {cs : List Chunk} (f1 : f 1 = b) (f2 : f 2 = c) (f3 : f 3 = d) (f4 : f 4 = e) (h0 : nth H a = some (t.c0 d b c)) (h1 : nth H b = some (.mp (t.dirty.map (fun x => (x.1, AV.arr .u8 x.2))) st)) (h2 : nth H c = some t.c2) (h3 : nth H d = some (j.blk e)) (h4 : nth H e = some s.pk) (hz : memN a fz = false ∧ memN b fz = false ∧ memN c fz = false ∧ memN d fz = false ∧ memN e fz = false) (hx : chunksLe H fz f ph σ cs) : chunksLe H fz f ph (a :: b :: c :: d :: e :: σ) (tpre t j s ++ cs) := by
  refine ⟨?_, ?_, c2_le h2 hz.2.2.1, ?_, ?_, hx⟩
  · unfold Chunk.le TR.c0
    simp only
    rw [nth_lt h0, hz.1, h0]
    exact ⟨VC.mk ⟨rfl, rfl⟩, VC.mk ⟨f3, rfl, rfl, rfl⟩, VC.mk f1, VC.mk ⟨f2, rfl, rfl, rfl, rfl⟩, VC.mk rfl, trivial⟩
  · unfold Chunk.le TR.c1
    simp only
    rw [nth_lt h1, hz.2.1, h1]
    exact ⟨VC.mk ⟨rfl, .inl trivial⟩, arr_les t.dirty⟩
  · unfold Chunk.le JR.blk
    simp only
    rw [nth_lt h3, hz.2.2.2.1, h3]
    exact ⟨VC.mk ⟨rfl, rfl⟩, VC.mk ⟨f4, rfl, rfl, rfl⟩, VC.mk rfl, VC.mk rfl, VC.mk rfl, trivial⟩
  · unfold Chunk.le DF.pk
    simp only
    rw [nth_lt h4, hz.2.2.2.2, h4]
    exact VC.mk ⟨rfl, rfl, rfl, rfl⟩
set_option maxHeartbeats 16000000 in
theorem trecs_c (t : TR) (j : JR) (s : DF) (k : K) (h0 : t.Ok ∧ t.dirty.length ≤ 1073741824 ∧ ∀ q ∈ t.dirty, 0 ≤ q.1 ∧ q.1 ≤ 1073741824) (hk : ∀ r : List RecR, RecRel t r → k (.im true 2 r.length (recsC true r)) (tpre t j s)) : evFunc tab [] p106 Go.Proofs.Try.f106 [.p 0 0 1 0] (tpre t j s) k := by
  obtain ⟨h1, h2, hkb⟩ := h0
  repeat' (first
 | (with_reducible first | exact True.intro | apply And.intro | apply If_true | apply If_false | apply If_not)
 | ((with_reducible apply VC.mk); (first | trivial | omega | (simp only [inR]; omega) | (exact ⟨rfl, List.prefix_rfl⟩) | (refine ⟨rfl, rfl, rfl, ?_, rfl⟩; (simp; done)) | (focus (repeat' (first | exact True.intro | apply And.intro | rfl | exact Nat.le_of_ble_eq_true rfl)); done) | (simp [inR, Cont.cells]; done) | (simp [inR, Cont.cells]; omega)))
 | ((with_reducible apply If_dec) <;> intro hc <;> (try (exfalso; omega)))
 | ((with_reducible apply If_any) <;> intro hc)
 | ((with_reducible first | apply PF.mk | apply DrawP.mk); (focus kernel_rfl))
 | ((with_reducible apply Same.mk); (focus rfl); (first | exact trivial | exact rfl))
 | (intro cap hcap)
 | ((fail_if_success (with_reducible first | apply Fin.mk | apply CallP.mk | apply LoopP.mk | apply VC.mk | apply falseMk | apply Round.mk | apply LookP.mk | apply RangeP.mk | apply NextP.mk | apply EntryP.mk | apply Eq.symm)); conv => whnf))
  refine RangeP.mk (fun sq c sl sn sc => ?_)
  have sl : sq.length = t.dirty.length := by simpa using sl
  repeat' (first
 | (with_reducible first | exact True.intro | apply And.intro | apply If_true | apply If_false | apply If_not)
 | ((with_reducible apply VC.mk); (first | trivial | omega | (simp only [inR]; omega) | (exact ⟨rfl, List.prefix_rfl⟩) | (refine ⟨rfl, rfl, rfl, ?_, rfl⟩; (simp; done)) | (focus (repeat' (first | exact True.intro | apply And.intro | rfl | exact Nat.le_of_ble_eq_true rfl)); done) | (simp [inR, Cont.cells]; done) | (simp [inR, Cont.cells]; omega)))
 | ((with_reducible apply If_dec) <;> intro hc <;> (try (exfalso; omega)))
 | ((with_reducible apply If_any) <;> intro hc)
 | ((with_reducible first | apply PF.mk | apply DrawP.mk); (focus kernel_rfl))
 | ((with_reducible apply Same.mk); (focus rfl); (first | exact trivial | exact rfl))
 | (intro cap hcap)
 | ((fail_if_success (with_reducible first | apply Fin.mk | apply CallP.mk | apply LoopP.mk | apply VC.mk | apply falseMk | apply Round.mk | apply LookP.mk | apply RangeP.mk | apply NextP.mk | apply EntryP.mk | apply Eq.symm)); conv => whnf))
  refine LoopP.mk ⟨List Nat × Nat × List Int, fun y => y.1.Nodup ∧ (∀ b ∈ y.1, b ∈ sq) ∧ y.2.2 = y.1.map (keyF sq t.dirty), fun y => ([(0, .p 0 0 1 0), (3, .s 6 0 1 y.2.2.length y.2.1), (13, .p 5 0 1 0)], [t.c0 3 1 2, .mp (t.dirty.map (fun x => (x.1, AV.arr .u8 x.2))) (some (sq, c)), t.c2, j.blk 4, s.pk] ++ [.it 1 c c y.1, .blk 2 (.ints .i64 y.2.2) y.2.1]), fun y => sq.length - y.1.length, ([], 0, []), ⟨List.nodup_nil, fun b hb => absurd hb List.not_mem_nil, rfl⟩, Fit.ren [0, 1, 2, 3, 4, 5, 6] [] rfl rfl trivial ?_ ?_, ?_⟩
  · refine T5.leS rfl rfl rfl rfl rfl rfl rfl rfl rfl ⟨rfl, rfl, rfl, rfl, rfl⟩ ⟨VC.mk ⟨rfl, rfl, rfl, rfl⟩, ?_, trivial⟩
    exact ⟨VC.mk rfl, VC.mk rfl⟩
  · repeat' (first
 | (with_reducible first | exact True.intro | apply And.intro | apply If_true | apply If_false | apply If_not)
 | ((with_reducible apply VC.mk); (first | trivial | omega | (simp only [inR]; omega) | (exact ⟨rfl, List.prefix_rfl⟩) | (refine ⟨rfl, rfl, rfl, ?_, rfl⟩; (simp; done)) | (focus (repeat' (first | exact True.intro | apply And.intro | rfl | exact Nat.le_of_ble_eq_true rfl)); done) | (simp [inR, Cont.cells]; done) | (simp [inR, Cont.cells]; omega)))
 | ((with_reducible apply If_dec) <;> intro hc <;> (try (exfalso; omega)))
 | ((with_reducible apply If_any) <;> intro hc)
 | ((with_reducible first | apply PF.mk | apply DrawP.mk); (focus kernel_rfl))
 | ((with_reducible apply Same.mk); (focus rfl); (first | exact trivial | exact rfl))
 | (intro cap hcap)
 | ((fail_if_success (with_reducible first | apply Fin.mk | apply CallP.mk | apply LoopP.mk | apply VC.mk | apply falseMk | apply Round.mk | apply LookP.mk | apply RangeP.mk | apply NextP.mk | apply EntryP.mk | apply Eq.symm)); conv => whnf))
  · intro y hy
    obtain ⟨g1, g2, g3⟩ := hy
    have gl : y.2.2.length = y.1.length := by rw [g3, List.length_map]
    have gle : y.1.length ≤ sq.length := sub_len g1 g2
    repeat' (first
 | (with_reducible first | exact True.intro | apply And.intro | apply If_true | apply If_false | apply If_not)
 | ((with_reducible apply VC.mk); (first | trivial | omega | (simp only [inR]; omega) | (exact ⟨rfl, List.prefix_rfl⟩) | (refine ⟨rfl, rfl, rfl, ?_, rfl⟩; (simp; done)) | (focus (repeat' (first | exact True.intro | apply And.intro | rfl | exact Nat.le_of_ble_eq_true rfl)); done) | (simp [inR, Cont.cells]; done) | (simp [inR, Cont.cells]; omega)))
 | ((with_reducible apply If_dec) <;> intro hc <;> (try (exfalso; omega)))
 | ((with_reducible apply If_any) <;> intro hc)
 | ((with_reducible first | apply PF.mk | apply DrawP.mk); (focus kernel_rfl))
 | ((with_reducible apply Same.mk); (focus rfl); (first | exact trivial | exact rfl))
 | (intro cap hcap)
 | ((fail_if_success (with_reducible first | apply Fin.mk | apply CallP.mk | apply LoopP.mk | apply VC.mk | apply falseMk | apply Round.mk | apply LookP.mk | apply RangeP.mk | apply NextP.mk | apply EntryP.mk | apply Eq.symm)); conv => whnf))
    refine NextP.mk (fun b hb hnb => ?_) (fun hall => ?_)
    · have glt : y.1.length < sq.length := by
        have : (b :: y.1).length ≤ sq.length := sub_len (List.nodup_cons.2 ⟨hnb, g1⟩) (fun q hq => by rcases List.mem_cons.1 hq with rfl | hq; exact hb; exact g2 q hq)
        rw [List.length_cons] at this
        omega
      repeat' (first
 | (with_reducible first | exact True.intro | apply And.intro | apply If_true | apply If_false | apply If_not)
 | ((with_reducible apply VC.mk); (first | trivial | omega | (simp only [inR]; omega) | (exact ⟨rfl, List.prefix_rfl⟩) | (refine ⟨rfl, rfl, rfl, ?_, rfl⟩; (simp; done)) | (focus (repeat' (first | exact True.intro | apply And.intro | rfl | exact Nat.le_of_ble_eq_true rfl)); done) | (simp [inR, Cont.cells]; done) | (simp [inR, Cont.cells]; omega)))
 | ((with_reducible apply If_dec) <;> intro hc <;> (try (exfalso; omega)))
 | ((with_reducible apply If_any) <;> intro hc)
 | ((with_reducible first | apply PF.mk | apply DrawP.mk); (focus kernel_rfl))
 | ((with_reducible apply Same.mk); (focus rfl); (first | exact trivial | exact rfl))
 | (intro cap hcap)
 | ((fail_if_success (with_reducible first | apply Fin.mk | apply CallP.mk | apply LoopP.mk | apply VC.mk | apply falseMk | apply Round.mk | apply LookP.mk | apply RangeP.mk | apply NextP.mk | apply EntryP.mk | apply Eq.symm)); conv => whnf))
      refine EntryP.mk ⟨b, by simp, hb⟩ (fun q b' ka v e1 e2 e3 => ?_)
      have hbb : b = b' := by simpa using e1
      subst hbb
      have hka : ka = keyF sq t.dirty b := by
        rw [List.getElem?_map] at e3
        unfold keyF
        have hq : q < sq.length := (List.getElem?_eq_some_iff.1 e2).1
        have hi : sq.idxOf b = q := by
          have := sn.idxOf_getElem q hq
          rw [(List.getElem?_eq_some_iff.1 e2).2] at this
          exact this
        rw [hi, List.getD_eq_getElem?_getD]
        cases hdq : t.dirty[q]? with
        | none => rw [hdq] at e3; cases e3
        | some z => rw [hdq] at e3; cases e3; rfl
      repeat' (first
 | (with_reducible first | exact True.intro | apply And.intro | apply If_true | apply If_false | apply If_not)
 | ((with_reducible apply VC.mk); (first | trivial | omega | (simp only [inR]; omega) | (exact ⟨rfl, List.prefix_rfl⟩) | (refine ⟨rfl, rfl, rfl, ?_, rfl⟩; (simp; done)) | (focus (repeat' (first | exact True.intro | apply And.intro | rfl | exact Nat.le_of_ble_eq_true rfl)); done) | (simp [inR, Cont.cells]; done) | (simp [inR, Cont.cells]; omega)))
 | ((with_reducible apply If_dec) <;> intro hc <;> (try (exfalso; omega)))
 | ((with_reducible apply If_any) <;> intro hc)
 | ((with_reducible first | apply PF.mk | apply DrawP.mk); (focus kernel_rfl))
 | ((with_reducible apply Same.mk); (focus rfl); (first | exact trivial | exact rfl))
 | (intro cap hcap)
 | ((fail_if_success (with_reducible first | apply Fin.mk | apply CallP.mk | apply LoopP.mk | apply VC.mk | apply falseMk | apply Round.mk | apply LookP.mk | apply RangeP.mk | apply NextP.mk | apply EntryP.mk | apply Eq.symm)); conv => whnf))
      refine Round.mk ⟨(y.1 ++ [b], cap, y.2.2 ++ [ka]), ⟨?_, ?_, ?_⟩, by show sq.length - (y.1 ++ [b]).length < sq.length - y.1.length; rw [List.length_append]; simp only [List.length_cons, List.length_nil]; omega, Fit.ren [0, 1, 2, 3, 4, 5, 8] [] rfl rfl trivial (T5.leS rfl rfl rfl rfl rfl rfl rfl rfl rfl ⟨rfl, rfl, rfl, rfl, rfl⟩ ⟨VC.mk ⟨rfl, rfl, rfl, rfl⟩, ?_, trivial⟩) ?_⟩
      · show (y.1 ++ [b]).Nodup
        rw [List.nodup_append]
        exact ⟨g1, by simp, fun a ha q hq => by simp at hq; subst hq; exact fun e => hnb (e ▸ ha)⟩
      · intro q hq
        rcases List.mem_append.1 hq with hq | hq
        · exact g2 q hq
        · simp at hq; subst hq; exact hb
      · show y.2.2 ++ [ka] = _
        rw [g3, hka, List.map_append]; rfl
      · exact ⟨VC.mk ⟨rfl, Nat.mul_one _⟩, VC.mk ⟨rfl, List.prefix_refl _⟩⟩
      · repeat' (first
 | (with_reducible first | exact True.intro | apply And.intro | apply If_true | apply If_false | apply If_not)
 | ((with_reducible apply VC.mk); (first | trivial | omega | (simp only [inR]; omega) | (exact ⟨rfl, List.prefix_rfl⟩) | (refine ⟨rfl, rfl, rfl, ?_, rfl⟩; (simp; done)) | (focus (repeat' (first | exact True.intro | apply And.intro | rfl | exact Nat.le_of_ble_eq_true rfl)); done) | (simp [inR, Cont.cells]; done) | (simp [inR, Cont.cells]; omega)))
 | ((with_reducible apply If_dec) <;> intro hc <;> (try (exfalso; omega)))
 | ((with_reducible apply If_any) <;> intro hc)
 | ((with_reducible first | apply PF.mk | apply DrawP.mk); (focus kernel_rfl))
 | ((with_reducible apply Same.mk); (focus rfl); (first | exact trivial | exact rfl))
 | (intro cap hcap)
 | ((fail_if_success (with_reducible first | apply Fin.mk | apply CallP.mk | apply LoopP.mk | apply VC.mk | apply falseMk | apply Round.mk | apply LookP.mk | apply RangeP.mk | apply NextP.mk | apply EntryP.mk | apply Eq.symm)); conv => whnf))
    · repeat' (first
 | (with_reducible first | exact True.intro | apply And.intro | apply If_true | apply If_false | apply If_not)
 | ((with_reducible apply VC.mk); (first | trivial | omega | (simp only [inR]; omega) | (exact ⟨rfl, List.prefix_rfl⟩) | (refine ⟨rfl, rfl, rfl, ?_, rfl⟩; (simp; done)) | (focus (repeat' (first | exact True.intro | apply And.intro | rfl | exact Nat.le_of_ble_eq_true rfl)); done) | (simp [inR, Cont.cells]; done) | (simp [inR, Cont.cells]; omega)))
 | ((with_reducible apply If_dec) <;> intro hc <;> (try (exfalso; omega)))
 | ((with_reducible apply If_any) <;> intro hc)
 | ((with_reducible first | apply PF.mk | apply DrawP.mk); (focus kernel_rfl))
 | ((with_reducible apply Same.mk); (focus rfl); (first | exact trivial | exact rfl))
 | (intro cap hcap)
 | ((fail_if_success (with_reducible first | apply Fin.mk | apply CallP.mk | apply LoopP.mk | apply VC.mk | apply falseMk | apply Round.mk | apply LookP.mk | apply RangeP.mk | apply NextP.mk | apply EntryP.mk | apply Eq.symm)); conv => whnf))
      have hp : y.2.2.Perm (t.dirty.map (fun x => x.1)) := by
        rw [g3, ← keys_eq sl sn]
        exact List.Perm.map _ (nodup_perm g1 sn (fun b => ⟨g2 b, hall b⟩))
      refine sort_at y.2.2 y.2.1 6 (by omega) rfl ⟨rfl, trivial⟩ ?_
      intro ks hks
      have hkl : ks.length = y.2.2.length := by rw [hks]; exact List.length_mergeSort ..
      have hk1 : ks.Perm (t.dirty.map (fun x => x.1)) := by rw [hks]; exact (List.mergeSort_perm _ _).trans hp
      have hk2 : ks.Pairwise (· ≤ ·) := by
        rw [hks]
        have := List.pairwise_mergeSort (le := fun a b : Int => decide (a ≤ b)) (fun a b c h1 h2 => by simp at *; omega) (fun a b => by simp; omega) y.2.2
        simpa using this
      have hkr := hk (bldR t.dirty ks ks.length) ⟨ks, hk1, hk2, rfl⟩
      rw [← hkl]
      repeat' (first
 | (with_reducible first | exact True.intro | apply And.intro | apply If_true | apply If_false | apply If_not)
 | ((with_reducible apply VC.mk); (first | trivial | omega | (simp only [inR]; omega) | (exact ⟨rfl, List.prefix_rfl⟩) | (refine ⟨rfl, rfl, rfl, ?_, rfl⟩; (simp; done)) | (focus (repeat' (first | exact True.intro | apply And.intro | rfl | exact Nat.le_of_ble_eq_true rfl)); done) | (simp [inR, Cont.cells]; done) | (simp [inR, Cont.cells]; omega)))
 | ((with_reducible apply If_dec) <;> intro hc <;> (try (exfalso; omega)))
 | ((with_reducible apply If_any) <;> intro hc)
 | ((with_reducible first | apply PF.mk | apply DrawP.mk); (focus kernel_rfl))
 | ((with_reducible apply Same.mk); (focus rfl); (first | exact trivial | exact rfl))
 | (intro cap hcap)
 | ((fail_if_success (with_reducible first | apply Fin.mk | apply CallP.mk | apply LoopP.mk | apply VC.mk | apply falseMk | apply Round.mk | apply LookP.mk | apply RangeP.mk | apply NextP.mk | apply EntryP.mk | apply Eq.symm)); conv => whnf))
      refine LoopP.mk ⟨Nat × Nat × Nat × List RecR, fun z => z.1 ≤ ks.length ∧ z.2.2.2 = bldR t.dirty ks z.1 ∧ z.2.2.2.length ≤ z.1 ∧ (0 < z.1 → 0 < z.2.2.2.length) ∧ (z.2.2.2.getD (z.2.2.2.length - 1) (0, [])).2.length ≤ 512 * z.1, fun z => ([(0, .p 0 0 1 0), (3, .im true 1 ks.length (.ints .i64 ks)), (5, .s 5 0 2 z.2.2.2.length z.2.1), (24, .im true 1 ks.length (.ints .i64 ks)), (25, .v (.int .i64 (ks.length : Int))), (26, .v (.int .i64 (z.1 : Int)))], tpre t j s ++ [.blk 174 (.recs 2 z.2.2.2.length (rowsR z.2.2.2 z.2.2.1)) (z.2.1 * 2), .blk 5 (.ints .u8 (z.2.2.2.getD (z.2.2.2.length - 1) (0, [])).2) z.2.2.1]), fun z => ks.length - z.1, (0, 0, 0, []), ⟨Nat.zero_le _, rfl, Nat.le_refl _, fun h => absurd h (Nat.lt_irrefl _), Nat.le_refl _⟩, Fit.ren [0, 1, 2, 3, 4, 7, 8] [6] rfl rfl ⟨trivial, trivial⟩ ?_ ?_, ?_⟩
      · refine T5.leU rfl rfl rfl rfl rfl rfl rfl rfl rfl ⟨rfl, rfl, rfl, rfl, rfl⟩ ⟨?_, ?_, trivial⟩
        · exact ⟨VC.mk rfl, VC.mk rfl⟩
        · exact ⟨VC.mk rfl, VC.mk rfl⟩
      · repeat' (first
 | (with_reducible first | exact True.intro | apply And.intro | apply If_true | apply If_false | apply If_not)
 | ((with_reducible apply VC.mk); (first | trivial | omega | (simp only [inR]; omega) | (exact ⟨rfl, List.prefix_rfl⟩) | (refine ⟨rfl, rfl, rfl, ?_, rfl⟩; (simp; done)) | (focus (repeat' (first | exact True.intro | apply And.intro | rfl | exact Nat.le_of_ble_eq_true rfl)); done) | (simp [inR, Cont.cells]; done) | (simp [inR, Cont.cells]; omega)))
 | ((with_reducible apply If_dec) <;> intro hc <;> (try (exfalso; omega)))
 | ((with_reducible apply If_any) <;> intro hc)
 | ((with_reducible first | apply PF.mk | apply DrawP.mk); (focus kernel_rfl))
 | ((with_reducible apply Same.mk); (focus rfl); (first | exact trivial | exact rfl))
 | (intro cap hcap)
 | ((fail_if_success (with_reducible first | apply Fin.mk | apply CallP.mk | apply LoopP.mk | apply VC.mk | apply falseMk | apply Round.mk | apply LookP.mk | apply RangeP.mk | apply NextP.mk | apply EntryP.mk | apply Eq.symm)); conv => whnf))
        all_goals exact VC.mk ⟨rfl, by simp [List.take_of_length_le, hkl]⟩
      · intro z hz
        obtain ⟨m1, m2, m3, m4, m5⟩ := hz
        have ez : ((z.1 : Nat) : Int).toNat = z.1 := Int.toNat_natCast _
        have kll : ks.length ≤ 1073741824 := by rw [hkl, gl]; omega
        repeat' (first
 | (with_reducible first | exact True.intro | apply And.intro | apply If_true | apply If_false | apply If_not)
 | ((with_reducible apply VC.mk); (first | trivial | omega | (simp only [inR]; omega) | (exact ⟨rfl, List.prefix_rfl⟩) | (refine ⟨rfl, rfl, rfl, ?_, rfl⟩; (simp; done)) | (focus (repeat' (first | exact True.intro | apply And.intro | rfl | exact Nat.le_of_ble_eq_true rfl)); done) | (simp [inR, Cont.cells]; done) | (simp [inR, Cont.cells]; omega)))
 | ((with_reducible apply If_dec) <;> intro hc <;> (try (exfalso; omega)))
 | ((with_reducible apply If_any) <;> intro hc)
 | ((with_reducible first | apply PF.mk | apply DrawP.mk); (focus kernel_rfl))
 | ((with_reducible apply Same.mk); (focus rfl); (first | exact trivial | exact rfl))
 | (intro cap hcap)
 | ((fail_if_success (with_reducible first | apply Fin.mk | apply CallP.mk | apply LoopP.mk | apply VC.mk | apply falseMk | apply Round.mk | apply LookP.mk | apply RangeP.mk | apply NextP.mk | apply EntryP.mk | apply Eq.symm)); conv => whnf))
        · refine LookP.mk (fun v hv => ?_) (fun hn => ?_)
          rotate_left
          · exfalso
            rw [lkm_map] at hn
            have hm : ks.getD z.1 0 ∈ t.dirty.map (fun x => x.1) := by
              refine hk1.subset ?_
              rw [show ks.getD z.1 0 = ks[z.1]'(by omega) by simp [List.getD_eq_getElem?_getD, show z.1 < ks.length by omega]]
              exact List.getElem_mem _
            obtain ⟨l, hl⟩ := lkS_of_mem hm
            rw [ez, hl] at hn
            cases hn
          rw [lkm_map] at hv
          obtain ⟨x, hx, rfl⟩ : ∃ x, lkS (ks.getD ((z.1 : Nat) : Int).toNat 0) t.dirty = some x ∧ AV.arr .u8 x = v := by
            cases hq : lkS (ks.getD ((z.1 : Nat) : Int).toNat 0) t.dirty with
            | none => rw [hq] at hv; cases hv
            | some x => rw [hq] at hv; exact ⟨x, rfl, by simpa using hv⟩
          have hxl : x.length = 512 := h1.sec _ (lkS_mem hx)
          obtain ⟨n, hn⟩ : ∃ n, n = ks.getD ((z.1 : Nat) : Int).toNat 0 := ⟨_, rfl⟩
          rw [← hn] at hx ⊢
          have hnb := hkb _ (lkS_mem hx)
          dsimp only at hnb
          obtain ⟨G, hGd⟩ : ∃ G, G = rowsR z.2.2.2 z.2.2.1 := ⟨_, rfl⟩
          rw [← hGd]
          by_cases hB : 0 < (z.1 : Int) ∧ ks.getD ((z.1 : Int) - 1).toNat 0 = n - 1
          · have hlen : 0 < z.2.2.2.length := m4 (by omega)
            have hidx : 0 + ((z.2.2.2.length : Int) - 1).toNat = z.2.2.2.length - 1 := by omega
            have hG : G (0 + ((z.2.2.2.length : Int) - 1).toNat) = [.v (.int .i64 (z.2.2.2.getD (z.2.2.2.length - 1) (0, [])).1), .s 6 0 1 (z.2.2.2.getD (z.2.2.2.length - 1) (0, [])).2.length z.2.2.1] := by
              rw [hidx, hGd]; unfold rowsR; rw [if_pos (by omega)]
            have hAt : (Cont.recs 2 z.2.2.2.length G).at (0 + ((z.2.2.2.length : Int) - 1).toNat) 2 (0 + 1) = some (0 + ((z.2.2.2.length : Int) - 1).toNat < z.2.2.2.length, .s 6 0 1 (z.2.2.2.getD (z.2.2.2.length - 1) (0, [])).2.length z.2.2.1) := by
              show (match nth (G (0 + ((z.2.2.2.length : Int) - 1).toNat)) 1 with | some x => some (0 + ((z.2.2.2.length : Int) - 1).toNat < z.2.2.2.length, x) | none => none) = _
              rw [hG]; rfl
            obtain ⟨la, hla⟩ : ∃ la, la = z.2.2.2.getD (z.2.2.2.length - 1) (0, []) := ⟨_, rfl⟩
            have hbl : bldR t.dirty ks (z.1 + 1) = snocD z.2.2.2 x := by
              unfold bldR
              rw [List.range_succ, List.foldl_append, m2]
              show bldS t.dirty ks (bldR t.dirty ks z.1) z.1 = _
              unfold bldS
              rw [ez] at hn
              have h2 := hB.2
              rw [show ((z.1 : Int) - 1).toNat = z.1 - 1 by omega] at h2
              rw [if_pos ⟨by omega, by rw [← hn]; exact h2⟩, ← hn, hx]
              rfl
            have sl1 : (snocD z.2.2.2 x).length = z.2.2.2.length := by unfold snocD; rw [List.length_set]
            have sla : (snocD z.2.2.2 x).getD (z.2.2.2.length - 1) (0, []) = (la.1, la.2 ++ x) := by
              unfold snocD
              rw [List.getD_eq_getElem?_getD, List.getElem?_set_self (by omega), ← hla]; rfl
            have slo : ∀ q, q + 1 ≠ z.2.2.2.length → (snocD z.2.2.2 x).getD q (0, []) = z.2.2.2.getD q (0, []) := by
              intro q hq
              unfold snocD
              rw [List.getD_eq_getElem?_getD, List.getElem?_set_ne (by omega), List.getD_eq_getElem?_getD]
            rw [← hla] at hG hAt m5 ⊢
            repeat' (first
    | (with_reducible exact True.intro)
    | (with_reducible apply And.intro)
    | ((with_reducible apply VC.mk); (first | trivial | omega | (simp only [inR]; omega) | (exact ⟨rfl, List.prefix_rfl⟩) | (refine ⟨rfl, rfl, rfl, ?_, rfl⟩; (simp; done)) | (focus (repeat' (first | exact True.intro | apply And.intro | rfl | exact Nat.le_of_ble_eq_true rfl)); done) | (simp [inR, Cont.cells]; done) | (simp [inR, Cont.cells]; omega)))
    | (with_reducible apply If_true)
    | (with_reducible apply If_false)
    | ((with_reducible apply If_dec) <;> intro hc <;> (try (exfalso; omega)))
    | (with_reducible apply If_not)
    | ((with_reducible apply If_any) <;> intro hc)
    | ((with_reducible apply PF.mk); (focus kernel_rfl))
    | ((with_reducible apply DrawP.mk); (focus kernel_rfl))
    | ((with_reducible apply Same.mk); (focus rfl); (first | exact trivial | exact rfl))
    | (intro cap hcap)
    | (rw [hAt])
    | ((fail_if_success (with_reducible apply Fin.mk)); (fail_if_success (with_reducible apply CallP.mk)); (fail_if_success (with_reducible apply LoopP.mk)); (fail_if_success (with_reducible apply VC.mk)); (fail_if_success (with_reducible apply falseMk)); (fail_if_success (with_reducible apply Round.mk)); (fail_if_success (with_reducible apply LookP.mk)); (fail_if_success (with_reducible apply RangeP.mk)); (fail_if_success (with_reducible apply NextP.mk)); (fail_if_success (with_reducible apply EntryP.mk)); (fail_if_success (with_reducible apply Eq.symm)); conv => whnf))
            refine Round.mk ⟨(z.1 + 1, z.2.1, cap, snocD z.2.2.2 x), ⟨by show z.1 + 1 ≤ _; omega, hbl.symm, by show (snocD z.2.2.2 x).length ≤ z.1 + 1; omega, fun _ => by show 0 < (snocD z.2.2.2 x).length; omega, by
              show ((snocD z.2.2.2 x).getD ((snocD z.2.2.2 x).length - 1) (0, [])).2.length ≤ 512 * (z.1 + 1)
              rw [sl1, sla, List.length_append]; omega⟩, by show ks.length - (z.1 + 1) < ks.length - z.1; omega, Fit.ren [0, 1, 2, 3, 4, 5, 8] [] rfl rfl trivial (T5.leU rfl rfl rfl rfl rfl rfl rfl rfl rfl ⟨rfl, rfl, rfl, rfl, rfl⟩ ⟨⟨VC.mk ⟨rfl, rfl⟩, VC.mk ⟨rfl, ?_⟩, ?_⟩, ?_, trivial⟩) ?_⟩
            · show (snocD z.2.2.2 x).length ≤ _
              rw [sl1]; exact Nat.le_refl _
            · show ∀ q, q < (snocD z.2.2.2 x).length → les _ _ _ _ (rowsR (snocD z.2.2.2 x) cap q) _
              intro q hq
              by_cases hq3 : q + 1 = z.2.2.2.length
              · have hqi : q = 0 + ((z.2.2.2.length : Int) - 1).toNat := by omega
                simp only [if_pos hqi, hG]
                unfold rowsR
                rw [if_pos (by rw [sl1]; exact hq3), show q = z.2.2.2.length - 1 by omega, sla]
                exact ⟨VC.mk rfl, VC.mk ⟨rfl, rfl, rfl, by show la.2.length + (512 - Int.toNat 0) = (la.2 ++ x).length; rw [List.length_append, hxl]; rfl, rfl⟩, trivial⟩
              · have hqi : ¬ q = 0 + ((z.2.2.2.length : Int) - 1).toNat := by omega
                have e1 : rowsR (snocD z.2.2.2 x) cap q = recAV true (z.2.2.2.getD q (0, [])) := by
                  unfold rowsR; rw [if_neg (by rw [sl1]; exact hq3), slo q hq3]
                have e3 : G q = recAV true (z.2.2.2.getD q (0, [])) := by
                  rw [hGd]; unfold rowsR; rw [if_neg hq3]
                rw [e1]
                simp only [if_neg hqi]
                rw [e3]
                exact recs_les _
            · refine ⟨VC.mk ⟨rfl, Nat.mul_one _⟩, VC.mk ⟨rfl, ?_⟩⟩
              show ((snocD z.2.2.2 x).getD ((snocD z.2.2.2 x).length - 1) (0, [])).2 <+: _
              rw [sl1, sla]
              have e2 : List.take (512 - Int.toNat 0) (List.drop (Int.toNat 0) x) = x := by
                rw [show Int.toNat 0 = 0 from rfl, List.drop_zero]; exact List.take_of_length_le (by omega)
              rw [e2]
              exact List.prefix_refl _
            · repeat' (first
 | (with_reducible first | exact True.intro | apply And.intro | apply If_true | apply If_false | apply If_not)
 | ((with_reducible apply VC.mk); (first | trivial | omega | (simp only [inR]; omega) | (exact ⟨rfl, List.prefix_rfl⟩) | (refine ⟨rfl, rfl, rfl, ?_, rfl⟩; (simp; done)) | (focus (repeat' (first | exact True.intro | apply And.intro | rfl | exact Nat.le_of_ble_eq_true rfl)); done) | (simp [inR, Cont.cells]; done) | (simp [inR, Cont.cells]; omega)))
 | ((with_reducible apply If_dec) <;> intro hc <;> (try (exfalso; omega)))
 | ((with_reducible apply If_any) <;> intro hc)
 | ((with_reducible first | apply PF.mk | apply DrawP.mk); (focus kernel_rfl))
 | ((with_reducible apply Same.mk); (focus rfl); (first | exact trivial | exact rfl))
 | (intro cap hcap)
 | ((fail_if_success (with_reducible first | apply Fin.mk | apply CallP.mk | apply LoopP.mk | apply VC.mk | apply falseMk | apply Round.mk | apply LookP.mk | apply RangeP.mk | apply NextP.mk | apply EntryP.mk | apply Eq.symm)); conv => whnf))
              exact VC.mk ⟨rfl, rfl, rfl, sl1.symm, rfl⟩
          · have hbl : bldR t.dirty ks (z.1 + 1) = z.2.2.2 ++ [(n * 512, x)] := by
              unfold bldR
              rw [List.range_succ, List.foldl_append, m2]
              show bldS t.dirty ks (bldR t.dirty ks z.1) z.1 = _
              unfold bldS
              rw [ez] at hn
              rw [if_neg (by rw [← hn]; intro h; apply hB; refine ⟨by omega, ?_⟩; rw [show ((z.1 : Int) - 1).toNat = z.1 - 1 by omega]; exact h.2), ← hn, hx]
              rfl
            have lastB : (z.2.2.2 ++ [(n * 512, x)]).getD ((z.2.2.2 ++ [(n * 512, x)]).length - 1) (0, []) = (n * 512, x) := by
              rw [List.length_append, List.getD_eq_getElem?_getD, List.getElem?_append_right (by simp)]
              simp
            repeat' (first
 | (with_reducible first | exact True.intro | apply And.intro | apply If_true | apply If_false | apply If_not)
 | ((with_reducible apply VC.mk); (first | trivial | omega | (simp only [inR]; omega) | (exact ⟨rfl, List.prefix_rfl⟩) | (refine ⟨rfl, rfl, rfl, ?_, rfl⟩; (simp; done)) | (focus (repeat' (first | exact True.intro | apply And.intro | rfl | exact Nat.le_of_ble_eq_true rfl)); done) | (simp [inR, Cont.cells]; done) | (simp [inR, Cont.cells]; omega)))
 | ((with_reducible apply If_dec) <;> intro hc <;> (try (exfalso; omega)))
 | ((with_reducible apply If_any) <;> intro hc)
 | ((with_reducible first | apply PF.mk | apply DrawP.mk); (focus kernel_rfl))
 | ((with_reducible apply Same.mk); (focus rfl); (first | exact trivial | exact rfl))
 | (intro cap hcap)
 | ((fail_if_success (with_reducible first | apply Fin.mk | apply CallP.mk | apply LoopP.mk | apply VC.mk | apply falseMk | apply Round.mk | apply LookP.mk | apply RangeP.mk | apply NextP.mk | apply EntryP.mk | apply Eq.symm)); conv => whnf))
            all_goals rename_i dcap hdcap
            all_goals (
              refine Round.mk ⟨(z.1 + 1, cap, dcap, z.2.2.2 ++ [(n * 512, x)]), ⟨by show z.1 + 1 ≤ _; omega, hbl.symm, by show (z.2.2.2 ++ [(n * 512, x)]).length ≤ z.1 + 1; simp; omega, fun _ => by show 0 < (z.2.2.2 ++ [(n * 512, x)]).length; simp, by
              show ((z.2.2.2 ++ [(n * 512, x)]).getD ((z.2.2.2 ++ [(n * 512, x)]).length - 1) (0, [])).2.length ≤ 512 * (z.1 + 1)
              rw [lastB]; show x.length ≤ _; omega⟩, by show ks.length - (z.1 + 1) < ks.length - z.1; omega, Fit.ren [0, 1, 2, 3, 4, 10, 8] [6] rfl rfl ⟨trivial, trivial⟩ (T5.leU rfl rfl rfl rfl rfl rfl rfl rfl rfl ⟨rfl, rfl, rfl, rfl, rfl⟩ ⟨⟨VC.mk ⟨rfl, rfl⟩, VC.mk ⟨rfl, ?_⟩, ?_⟩, ?_, trivial⟩) ?_⟩
              · show (z.2.2.2 ++ [(n * 512, x)]).length ≤ _; simp
              · show ∀ q, q < (z.2.2.2 ++ [(n * 512, x)]).length → les _ _ _ _ (rowsR (z.2.2.2 ++ [(n * 512, x)]) dcap q) _
                intro q hq
                have hl2 : (z.2.2.2 ++ [(n * 512, x)]).length = z.2.2.2.length + 1 := by simp
                by_cases hq2 : q < z.2.2.2.length
                · have e1 : rowsR (z.2.2.2 ++ [(n * 512, x)]) dcap q = recAV true (z.2.2.2.getD q (0, [])) := by
                    unfold rowsR
                    rw [if_neg (by omega), List.getD_eq_getElem?_getD, List.getElem?_append_left hq2, ← List.getD_eq_getElem?_getD]
                  rw [e1]
                  simp only [if_pos hq2]
                  rw [hGd]
                  by_cases hq3 : q + 1 = z.2.2.2.length
                  · unfold rowsR
                    rw [if_pos hq3]
                    have eq4 : z.2.2.2.length - 1 = q := by omega
                    refine ⟨VC.mk rfl, ⟨VC.mk ⟨?_, rfl, rfl, rfl, Nat.one_pos⟩, VC.mk ⟨rfl, ?_⟩⟩, trivial⟩
                    · rw [eq4]; omega
                    · rw [eq4]; simp
                  · unfold rowsR
                    rw [if_neg hq3]
                    exact recs_les _
                · have hq4 : q = z.2.2.2.length := by omega
                  subst hq4
                  have e1 : rowsR (z.2.2.2 ++ [(n * 512, x)]) dcap z.2.2.2.length = [.v (.int .i64 (n * 512)), .s 6 0 1 x.length dcap] := by
                    unfold rowsR
                    rw [if_pos hl2.symm, List.getD_eq_getElem?_getD, List.getElem?_append_right (Nat.le_refl _)]
                    simp
                  rw [e1]
                  simp only [Nat.lt_irrefl, if_false]
                  exact ⟨VC.mk rfl, VC.mk ⟨rfl, rfl, rfl, by rw [hxl]; rfl, rfl⟩, trivial⟩
              · refine ⟨VC.mk ⟨rfl, Nat.mul_one _⟩, VC.mk ⟨rfl, ?_⟩⟩
                have e1 : (z.2.2.2 ++ [(n * 512, x)]).getD ((z.2.2.2 ++ [(n * 512, x)]).length - 1) (0, []) = (n * 512, x) := by
                  rw [List.length_append, List.getD_eq_getElem?_getD, List.getElem?_append_right (by simp)]
                  simp
                show ((z.2.2.2 ++ [(n * 512, x)]).getD ((z.2.2.2 ++ [(n * 512, x)]).length - 1) (0, [])).2 <+: _
                rw [e1]
                have e2 : List.take (512 - Int.toNat 0) (List.drop (Int.toNat 0) x) = x := by
                  rw [show Int.toNat 0 = 0 from rfl, List.drop_zero]; exact List.take_of_length_le (by omega)
                rw [e2]
                exact List.prefix_refl _
              · repeat' (first
 | (with_reducible first | exact True.intro | apply And.intro | apply If_true | apply If_false | apply If_not)
 | ((with_reducible apply VC.mk); (first | trivial | omega | (simp only [inR]; omega) | (exact ⟨rfl, List.prefix_rfl⟩) | (refine ⟨rfl, rfl, rfl, ?_, rfl⟩; (simp; done)) | (focus (repeat' (first | exact True.intro | apply And.intro | rfl | exact Nat.le_of_ble_eq_true rfl)); done) | (simp [inR, Cont.cells]; done) | (simp [inR, Cont.cells]; omega)))
 | ((with_reducible apply If_dec) <;> intro hc <;> (try (exfalso; omega)))
 | ((with_reducible apply If_any) <;> intro hc)
 | ((with_reducible first | apply PF.mk | apply DrawP.mk); (focus kernel_rfl))
 | ((with_reducible apply Same.mk); (focus rfl); (first | exact trivial | exact rfl))
 | (intro cap hcap)
 | ((fail_if_success (with_reducible first | apply Fin.mk | apply CallP.mk | apply LoopP.mk | apply VC.mk | apply falseMk | apply Round.mk | apply LookP.mk | apply RangeP.mk | apply NextP.mk | apply EntryP.mk | apply Eq.symm)); conv => whnf)))
        · rw [show z.1 = ks.length by omega] at m2
          rw [← m2] at hkr
          refine Fin.ren [0, 1, 2, 3, 4] [5, 6] (.im true 2 z.2.2.2.length (recsC true z.2.2.2)) (tpre t j s) rfl rfl ⟨trivial, trivial, trivial⟩ ?_ ⟨VC.mk ⟨?_, rfl, rfl, rfl, by decide⟩, VC.mk ⟨rfl, rfl⟩, fun q hq => ?_⟩ hkr
          · exact T5.leU (cs := []) rfl rfl rfl rfl rfl rfl rfl rfl rfl ⟨rfl, rfl, rfl, rfl, rfl⟩ trivial
          · omega
          · simp only [Nat.zero_add]
            unfold rowsR
            by_cases hq3 : q + 1 = z.2.2.2.length
            · rw [if_pos hq3]
              have eq4 : z.2.2.2.length - 1 = q := by omega
              refine ⟨VC.mk rfl, ⟨VC.mk ⟨?_, rfl, rfl, rfl, Nat.one_pos⟩, VC.mk ⟨rfl, ?_⟩⟩, trivial⟩
              · rw [eq4]; omega
              · rw [eq4]; simp
            · rw [if_neg hq3]
              exact recs_les _
theorem recsC_ren (rs : List RecR) (f : Nat → Nat) : (recsC true rs).ren f = recsC true rs := rfl
attribute [local simp] recsC_noF recsC_ren
def trecsOk (x : TR × JR × DF) : Prop := x.1.Ok ∧ x.1.dirty.length ≤ 1073741824 ∧ ∀ q ∈ x.1.dirty, 0 ≤ q.1 ∧ q.1 ≤ 1073741824
def trecsRel (x : TR × JR × DF) (r : List RecR) : Prop := RecRel x.1 r
theorem trecs_K : ConOk Go.Proofs.Try.prog 106 (Con.of (TR × JR × DF) (List RecR) (fun x => [.p 0 0 1 0]) (fun x => tpre x.1 x.2.1 x.2.2) trecsOk trecsRel (fun x r => .im true 2 r.length (recsC true r)) (fun x r => tpre (x.1) (x.2.1) (x.2.2))) := by
  refine conOk_rel (T := tab) mix Go.Proofs.Try.func106 (by decide +kernel) (by kernel_rfl) [] p106 (fun n => by rw [Go.Proofs.Try.ntmps106]; exact Nat.le_of_ble_eq_true rfl) (fun x r _ _ => T5.good (by simp [AV.noF, noFs, Cont.noF])) (fun x _ => T5.nd) ?_
  intro x k h0 hk
  exact trecs_c x.1 x.2.1 x.2.2 k h0 (fun r hr => hk r hr)
theorem trecs_at {avs : List AV} {H : List Chunk} {k : K} (t : TR) (j : JR) (s : DF) (ta tb tc td te : Nat) (h0 : t.Ok ∧ t.dirty.length ≤ 1073741824 ∧ ∀ q ∈ t.dirty, 0 ≤ q.1 ∧ q.1 ≤ 1073741824) (hn : nodupN [ta, tb, tc, td, te] = true) (ha0 : nth H ta = some (t.c0 td tb tc)) (hb0 : nth H tb = some t.c1) (hc0 : nth H tc = some t.c2) (hd0 : nth H td = some (j.blk te)) (he0 : nth H te = some s.pk) (ha : argsM H [ta, tb, tc, td, te] [.p 0 0 1 0] avs)
    (hQ : ∀ r : List RecR, (RecRel t r) → k (.im true 2 r.length (recsC true r)) (((((H.set ta (TR.c0 (t) td tb tc)).set tb (TR.c1 (t))).set tc (TR.c2 (t))).set td (JR.blk (j) te)).set te (DF.pk (s)))) : CallP Go.Proofs.Try.prog 106 avs H k :=
  CallP.mk ⟨_, trecs_K.real, Con.spec trecs_K, (t, j, s), [ta, tb, tc, td, te], ⟨h0, hn, ⟨ha0, hb0.trans (congrArg some (TR.c1_ren t _).symm), hc0, hd0, he0, trivial⟩, ha⟩, fun r hr => (numK_eq _ _).mpr (by simpa [tpre, putAll, TR.c0_ren, TR.c1_ren, TR.c2_ren, JR.blk_ren, DF.pk_ren, AV.ren, rens, Cont.ren, fren, nth] using hQ r hr)⟩
end Go.Proofs.Ytjccknmgmommcaa.Sx


set_option maxRecDepth 10000
namespace Go.Proofs.Ytjccknmgmommcaa.Sx
/-! ### A tx's records, plain: how many and how large -/
theorem encL_cons (r : RecR) (rs : List RecR) : (encL (r :: rs)).length = 12 + r.2.length + (encL rs).length := by
  show (enc1 r ++ encL rs).length = _
  rw [List.length_append, enc1_length]
theorem encL_set (x : List Int) : ∀ (acc : List RecR) (i : Nat), i < acc.length → (encL (acc.set i ((acc.getD i (0, [])).1, (acc.getD i (0, [])).2 ++ x))).length = (encL acc).length + x.length
  | [], i, h => absurd h (Nat.not_lt_zero _)
  | a :: rs, 0, h => by
    show (encL ((a.1, a.2 ++ x) :: rs)).length = _
    rw [encL_cons, encL_cons]
    show 12 + (a.2 ++ x).length + _ = _
    rw [List.length_append]
    omega
  | a :: rs, i + 1, h => by
    show (encL (a :: rs.set i ((rs.getD i (0, [])).1, (rs.getD i (0, [])).2 ++ x))).length = _
    rw [encL_cons, encL_cons, encL_set x rs i (by simpa using h)]
    omega
theorem encL_append (a b : List RecR) : (encL (a ++ b)).length = (encL a).length + (encL b).length := by
  unfold encL; rw [List.flatMap_append, List.length_append]
def RecB (B : Int) (m : Nat) (rs : List RecR) : Prop := rs.length ≤ m ∧ (encL rs).length ≤ 524 * m ∧ ∀ r ∈ rs, 0 ≤ r.1 ∧ r.1 ≤ B * 512 ∧ r.2.length ≤ 512 * m
theorem snocD_B {B : Int} {m : Nat} {rs : List RecR} (h : RecB B m rs) {x : List Int} (hx : x.length ≤ 512) : RecB B (m + 1) (snocD rs x) := by
  obtain ⟨h1, h2, h3⟩ := h
  unfold snocD
  by_cases h0 : rs.length = 0
  · have : rs = [] := List.eq_nil_of_length_eq_zero h0
    subst this
    exact ⟨Nat.zero_le _, Nat.zero_le _, fun r hr => absurd hr List.not_mem_nil⟩
  · refine ⟨by rw [List.length_set]; omega, by rw [encL_set x rs _ (by omega)]; omega, fun r hr => ?_⟩
    rcases List.mem_or_eq_of_mem_set hr with hr | rfl
    · have := h3 r hr; omega
    · have hm : rs.getD (rs.length - 1) (0, []) ∈ rs := by
        rw [show rs.getD (rs.length - 1) (0, []) = rs[rs.length - 1]'(by omega) by simp [List.getD_eq_getElem?_getD, show rs.length - 1 < rs.length by omega]]
        exact List.getElem_mem _
      have := h3 _ hm
      refine ⟨this.1, this.2.1, ?_⟩
      show ((rs.getD (rs.length - 1) (0, [])).2 ++ x).length ≤ _
      rw [List.length_append]; omega
theorem bldR_B {d : List (Int × List Int)} {ks : List Int} {B : Int} (hd : ∀ q ∈ d, q.2.length = 512) (hk : ∀ n ∈ ks, 0 ≤ n ∧ n ≤ B) : ∀ m, m ≤ ks.length → RecB B m (bldR d ks m)
  | 0, _ => ⟨Nat.le_refl _, Nat.le_refl _, fun r hr => absurd hr List.not_mem_nil⟩
  | m + 1, hm => by
    have ih := bldR_B hd hk m (by omega)
    have e : bldR d ks (m + 1) = bldS d ks (bldR d ks m) m := by
      unfold bldR; rw [List.range_succ, List.foldl_append]; rfl
    rw [e]
    have hx : ((lkS (ks.getD m 0) d).getD []).length ≤ 512 := by
      cases hq : lkS (ks.getD m 0) d with
      | none => exact Nat.zero_le _
      | some l => exact Nat.le_of_eq (hd _ (lkS_mem hq))
    have hn : 0 ≤ ks.getD m 0 ∧ ks.getD m 0 ≤ B := by
      refine hk _ ?_
      rw [show ks.getD m 0 = ks[m]'(by omega) by simp [List.getD_eq_getElem?_getD, show m < ks.length by omega]]
      exact List.getElem_mem _
    unfold bldS
    split
    · exact snocD_B ih hx
    · obtain ⟨h1, h2, h3⟩ := ih
      refine ⟨by rw [List.length_append]; simp; omega, ?_, fun r hr => ?_⟩
      · rw [encL_append, encL_cons]
        show (encL (bldR d ks m)).length + (12 + ((lkS (ks.getD m 0) d).getD []).length + 0) ≤ 524 * (m + 1)
        omega
      · rcases List.mem_append.1 hr with hr | hr
        · have := h3 r hr; omega
        · obtain rfl := List.mem_singleton.1 hr
          refine ⟨by show 0 ≤ ks.getD m 0 * 512; omega, by show ks.getD m 0 * 512 ≤ _; omega, by show ((lkS (ks.getD m 0) d).getD []).length ≤ 512 * (m + 1); omega⟩
theorem RecRel.B {t : TR} {r : List RecR} (h : RecRel t r) (ho : t.Ok) {B : Int} (hk : ∀ q ∈ t.dirty, 0 ≤ q.1 ∧ q.1 ≤ B) : RecB B t.dirty.length r := by
  obtain ⟨ks, h1, h2, rfl⟩ := h
  have hl : ks.length = t.dirty.length := by rw [h1.length_eq, List.length_map]
  rw [← hl]
  refine bldR_B ho.sec (fun n hn => ?_) _ (Nat.le_refl _)
  obtain ⟨q, hq, rfl⟩ := List.mem_map.1 (h1.subset hn)
  exact hk q hq
end Go.Proofs.Ytjccknmgmommcaa.Sx


set_option maxRecDepth 10000
namespace Go.Proofs.Ytjccknmgmommcaa.Sx
open Go.RowKit Go.Proofs.Ytjccknmgmommcaa.Sx.Tb
/-! ### Size -/
end Go.Proofs.Ytjccknmgmommcaa.Sx


set_option maxRecDepth 10000
namespace Go.Proofs.Ytjccknmgmommcaa.Sx
/-! ### Law 27, put together, plain -/
theorem comRel_ok {j : JR} {s : DF} {rs : List RecR} {r : Int × JR × DF} {n : Int} (h : comRel j s rs r) (hs : s.Ok n) (hz : j.size ≤ 4194304) : r.2.2.Ok (n + 5000000) ∧ (r.2.1 = j ∨ r.2.1 = j.next) := by
  rcases h with ⟨_, rfl⟩ | ⟨_, _, rfl⟩ | ⟨_, hl, x, hx, h⟩
  · exact ⟨hs.mono (by omega), .inl rfl⟩
  · exact ⟨hs.mono (by omega), .inl rfl⟩
  · have hxo : x.2.Ok (n + 4194306) := by
      rw [hx]
      refine (DF.run_ok _ hs).mono ?_
      simp only [cost, FOp.size]
      omega
    rcases h with ⟨_, rfl⟩ | ⟨_, sg, hsg, y, hy, rfl⟩
    · exact ⟨hxo.mono (by omega), .inl rfl⟩
    · refine ⟨?_, .inr rfl⟩
      show y.2.Ok _
      rw [hy]
      refine (DF.run_ok _ hxo).mono ?_
      have : sg.length = 512 := by rw [hsg]; exact signL_length _ _ _
      simp only [cost, FOp.size]
      omega
end Go.Proofs.Ytjccknmgmommcaa.Sx

