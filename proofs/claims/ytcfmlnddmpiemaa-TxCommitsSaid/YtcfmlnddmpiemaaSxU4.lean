import Derived.Test.YtcfmlnddmpiemaaSxU3
import Derived.Test.YtcfmlnddmpiemaaSxU1
set_option linter.unusedVariables false
set_option linter.unusedSimpArgs false
set_option maxRecDepth 10000
namespace Go.Proofs.Ytcfmlnddmpiemaa.Sx
open Go.RowKit Go.Proofs.Ytcfmlnddmpiemaa.Sx.Tb
/-! ### Fresh -/
def inF (a n : Int) : Prop := 0 ≤ a ∧ a % 512 = 0 ∧ a ≤ 4194304 ∧ n ≤ 4194304 - a
def TR.lay1 (t : TR) (r : RecR) (n : Int) : TR := match lkS n t.dirty with
  | some l => { t with dirty := upS n (layR (n * 512) l r) t.dirty }
  | none => t
def TR.layN : Nat → TR → RecR → Nat → TR
  | 0, t, _, _ => t
  | k + 1, t, r, n => TR.layN k (t.lay1 r (n : Int)) r (n + 1)
def TR.addF (t : TR) (r : RecR) (c : Nat) : TR := { t with fresh := t.fresh ++ [r], cap := c }
def TR.freshT (t : TR) (a : Nat) (p : List Int) (c : Nat) : TR := TR.layN ((p.length + 511) / 512) (t.addF ((a : Int), p) c) ((a : Int), p) (a / 512)
/-- The same five, the row of fresh ones under a new number. -/
def tmv (t : TR) (j : JR) (s : DF) : List Chunk := [t.c0 3 1 5, t.c1, .dead, j.blk 4, s.pk, t.c2]
theorem T5.leM {H : List Chunk} {fz : List Nat} {f : Nat → Nat} {ph : Nat → Bool} {t : TR} {j : JR} {s : DF} {a b c d e x : Nat} (f1 : f 1 = b) (f5 : f 5 = c) (f3 : f 3 = d) (f4 : f 4 = e) (h0 : nth H a = some (t.c0 d b c)) (h1 : nth H b = some t.c1) (h2 : (t.c2).le H fz f ph c) (h3 : nth H d = some (j.blk e)) (h4 : nth H e = some s.pk) (hz : memN a fz = false ∧ memN b fz = false ∧ memN d fz = false ∧ memN e fz = false) : chunksLe H fz f ph [a, b, x, d, e, c] (tmv t j s) := by
  refine ⟨?_, ?_, trivial, ?_, ?_, h2, trivial⟩
  · unfold Chunk.le TR.c0
    simp only
    rw [nth_lt h0, hz.1, h0]
    exact ⟨VC.mk ⟨rfl, rfl⟩, VC.mk ⟨f3, rfl, rfl, rfl⟩, VC.mk f1, VC.mk ⟨f5, rfl, rfl, rfl, rfl⟩, VC.mk rfl, trivial⟩
  · unfold Chunk.le TR.c1
    simp only
    rw [nth_lt h1, hz.2.1, h1]
    exact ⟨VC.mk ⟨rfl, .inl trivial⟩, arr_les t.dirty⟩
  · unfold Chunk.le JR.blk
    simp only
    rw [nth_lt h3, hz.2.2.1, h3]
    exact ⟨VC.mk ⟨rfl, rfl⟩, VC.mk ⟨f4, rfl, rfl, rfl⟩, VC.mk rfl, VC.mk rfl, VC.mk rfl, trivial⟩
  · unfold Chunk.le DF.pk
    simp only
    rw [nth_lt h4, hz.2.2.2, h4]
    exact VC.mk ⟨rfl, rfl, rfl, rfl⟩
theorem c2_le {H : List Chunk} {fz : List Nat} {f : Nat → Nat} {ph : Nat → Bool} {t : TR} {c : Nat} (h : nth H c = some t.c2) (hz : memN c fz = false) : (t.c2).le H fz f ph c := by
  unfold Chunk.le TR.c2
  simp only
  rw [nth_lt h, hz, h]
  exact ⟨VC.mk ⟨rfl, rfl⟩, VC.mk ⟨rfl, Nat.le_refl _⟩, fun j _ => recs_les _⟩
theorem TR.lay1_ok {t : TR} (h : t.Ok) (r : RecR) (n : Int) (hn : 0 ≤ n) : (t.lay1 r n).Ok ∧ (t.lay1 r n).fresh = t.fresh ∧ (t.lay1 r n).over = t.over ∧ (t.lay1 r n).cap = t.cap := by
  unfold TR.lay1
  cases hq : lkS n t.dirty with
  | none => exact ⟨h, rfl, rfl, rfl⟩
  | some l =>
    refine ⟨⟨?_, h.frs, h.cap, h.len⟩, rfl, rfl, rfl⟩
    show ∀ x ∈ upS _ _ _, _
    exact upS_len (layR_length _ _ _ (h.sec _ (lkS_mem hq)) (by omega)) _ h.sec
set_option maxHeartbeats 16000000 in
theorem tfresh_c (t : TR) (j : JR) (s : DF) (at_ : Int) (p : List Int) (k : K) (h0 : t.Ok ∧ t.fresh.length < 1073741824 ∧ inR .i64 at_ ∧ p.length ≤ 9223372036854775807)
    (hk : ∀ x : Int × TR, (t.over = true ∧ x.1 = 6 ∧ x.2 = t ∨ t.over = false ∧ ¬ inF at_ p.length ∧ x.1 = 4 ∧ x.2 = t ∨ t.over = false ∧ inF at_ p.length ∧ x.1 = 0 ∧ ∃ c, t.fresh.length + 1 ≤ c ∧ x.2 = t.freshT at_.toNat p c) → k (.v (.int .i64 x.1)) (tmv x.2 j s)) : evFunc tab [] p36 Go.Proofs.Try.f36 [.p 0 0 1 0, .v (.int .i64 at_), .im false 1 p.length (.ints .u8 p)] (tpre t j s) k := by
  obtain ⟨h1, hfl, h3, h4⟩ := h0
  have bad : ∀ (e : Int) (H : List Chunk), (t.over = true ∧ e = 6 ∨ t.over = false ∧ ¬ inF at_ p.length ∧ e = 4) → Nat.ble 5 H.length = true → nth H 0 = some (t.c0 3 1 2) → nth H 1 = some t.c1 → nth H 2 = some t.c2 → nth H 3 = some (j.blk 4) → nth H 4 = some s.pk → Fin 5 (.v (.int .i64 e)) H k := by
    intro e H hb q3 q4 q5 q6 q7 q8
    refine Fin.ren [0, 1, 2, 3, 4, 2] [] (.v (.int .i64 e)) (tmv t j s) rfl rfl trivial (T5.leM rfl rfl rfl rfl q4 q5 (c2_le q6 rfl) q7 q8 ⟨rfl, rfl, rfl, rfl⟩) (VC.mk rfl) ?_
    exact hk (e, t) (by rcases hb with ⟨a, b⟩ | ⟨a, b, c⟩; exact .inl ⟨a, b, rfl⟩; exact .inr (.inl ⟨a, b, c, rfl⟩))
  repeat' (first
 | (with_reducible first | exact True.intro | apply And.intro | apply If_true | apply If_false | apply If_not)
 | ((with_reducible apply VC.mk); (first | trivial | omega | (simp only [inR]; omega) | (exact ⟨rfl, List.prefix_rfl⟩) | (refine ⟨rfl, rfl, rfl, ?_, rfl⟩; (simp; done)) | (focus (repeat' (first | exact True.intro | apply And.intro | rfl | exact Nat.le_of_ble_eq_true rfl)); done) | (simp [inR, Cont.cells]; done) | (simp [inR, Cont.cells]; omega)))
 | ((with_reducible apply If_dec) <;> intro hc <;> (try (exfalso; omega)))
 | ((with_reducible apply If_any) <;> intro hc)
 | ((with_reducible first | apply PF.mk | apply DrawP.mk); (focus kernel_rfl))
 | ((with_reducible apply Same.mk); (focus rfl); (first | exact trivial | exact rfl))
 | (intro cap hcap)
 | ((fail_if_success (with_reducible first | apply Fin.mk | apply CallP.mk | apply LoopP.mk | apply VC.mk | apply falseMk | apply Round.mk | apply LookP.mk | apply RangeP.mk | apply NextP.mk | apply EntryP.mk | apply Eq.symm)); conv => whnf))
  all_goals (try exact bad 6 _ (.inl ⟨by assumption, rfl⟩) rfl rfl rfl rfl rfl rfl)
  all_goals (try exact bad 4 _ (.inr ⟨by assumption, by unfold inF; omega, rfl⟩) rfl rfl rfl rfl rfl rfl)
  have hin : inF at_ p.length := by unfold inF; omega
  have hov : t.over = false := by assumption
  obtain ⟨A, hA⟩ : ∃ A : Nat, at_ = A := ⟨at_.toNat, by omega⟩
  subst hA
  have hA5 : A % 512 = 0 := by have := hin.2.1; omega
  have hAb : A + p.length ≤ 4194304 := by have := hin.2.2.2; omega
  clear bad
  obtain ⟨r, hr⟩ : ∃ r : RecR, r = ((A : Int), p) := ⟨_, rfl⟩
  have hfe : (t.fresh ++ [r]).length = t.fresh.length + 1 := by simp
  have hO : (t.addF r cap).Ok := by
    refine ⟨h1.sec, ?_, ?_, ?_⟩
    · intro q hq
      rcases List.mem_append.1 (show q ∈ t.fresh ++ [r] from hq) with hq | hq
      · exact h1.frs q hq
      · simp at hq; subst hq; rw [hr]; exact ⟨by show (0 : Int) ≤ A; omega, by show (A : Int) ≤ _; omega, by show p.length ≤ _; omega⟩
    · show (t.fresh ++ [r]).length ≤ cap; simp; omega
    · show (t.fresh ++ [r]).length ≤ _; simp; omega
  refine LoopP.mk ⟨Nat × TR, fun y => y.1 ≤ (p.length + 511) / 512 ∧ y.2.Ok ∧ y.2.fresh = t.fresh ++ [r] ∧ y.2.over = false ∧ TR.layN ((p.length + 511) / 512 - y.1) y.2 r (A / 512 + y.1) = t.freshT A p cap, fun y => ([(0, .p 0 0 1 0), (1, .v (.int .i64 (A : Int))), (2, .im false 1 p.length (.ints .u8 p)), (7, .v (.int .i64 ((A / 512 + y.1 : Nat) : Int)))], tmv y.2 j s), fun y => (p.length + 511) / 512 - y.1, (0, t.addF r cap), ⟨Nat.zero_le _, hO, rfl, hov, by rw [hr]; rfl⟩, Fit.ren [0, 1, 2, 3, 4, 7] [5] rfl rfl ⟨trivial, trivial⟩ ?_ ?_, ?_⟩
  · refine T5.leM rfl rfl rfl rfl ?_ rfl ⟨VC.mk ⟨rfl, rfl⟩, VC.mk ⟨rfl, ?_⟩, ?_⟩ rfl rfl ⟨rfl, rfl, rfl, rfl⟩
    · show some (Chunk.blk 134 (.lst [AV.p 3 0 1 0, AV.m 1, AV.s 7 0 2 (t.fresh.length + 1) cap, AV.v (.bool t.over)]) 4) = some (Chunk.blk 134 (.lst [AV.p 3 0 1 0, AV.m 1, AV.s 7 0 2 (t.fresh ++ [r]).length cap, AV.v (.bool t.over)]) 4)
      rw [hfe]
    · show (t.fresh ++ [r]).length ≤ _
      rw [hfe]; exact Nat.le_refl _
    · show ∀ q, q < (t.fresh ++ [r]).length → les _ _ _ _ (recAV true ((t.fresh ++ [r]).getD q (0, []))) _
      refine snoc_le (recAV true) (0, []) t.fresh r _ ?_ ?_
      · intro q hq; simp only [if_pos hq]; exact recs_les _
      · simp only [Nat.lt_irrefl, if_false]
        rw [hr]
        refine ⟨VC.mk rfl, ⟨VC.mk ⟨?_, rfl, rfl, rfl, Nat.one_pos⟩, VC.mk ⟨rfl, ?_⟩⟩, trivial⟩
        · omega
        · simp
  · repeat' (first
 | (with_reducible first | exact True.intro | apply And.intro | apply If_true | apply If_false | apply If_not)
 | ((with_reducible apply VC.mk); (first | trivial | omega | (simp only [inR]; omega) | (exact ⟨rfl, List.prefix_rfl⟩) | (refine ⟨rfl, rfl, rfl, ?_, rfl⟩; (simp; done)) | (focus (repeat' (first | exact True.intro | apply And.intro | rfl | exact Nat.le_of_ble_eq_true rfl)); done) | (simp [inR, Cont.cells]; done) | (simp [inR, Cont.cells]; omega)))
 | ((with_reducible apply If_dec) <;> intro hc <;> (try (exfalso; omega)))
 | ((with_reducible apply If_any) <;> intro hc)
 | ((with_reducible first | apply PF.mk | apply DrawP.mk); (focus kernel_rfl))
 | ((with_reducible apply Same.mk); (focus rfl); (first | exact trivial | exact rfl))
 | (intro cap hcap)
 | ((fail_if_success (with_reducible first | apply Fin.mk | apply CallP.mk | apply LoopP.mk | apply VC.mk | apply falseMk | apply Round.mk | apply LookP.mk | apply RangeP.mk | apply NextP.mk | apply EntryP.mk | apply Eq.symm)); conv => whnf))
  · intro y hy
    obtain ⟨g1, g2, g3, g4, g5⟩ := hy
    have g3l : y.2.fresh.length = t.fresh.length + 1 := by rw [g3]; simp
    have hck : y.2.fresh.getD t.fresh.length (0, []) = r := by
      rw [g3, List.getD_eq_getElem?_getD, List.getElem?_append_right (Nat.le_refl _)]; simp
    repeat' (first
 | (with_reducible first | exact True.intro | apply And.intro | apply If_true | apply If_false | apply If_not)
 | ((with_reducible apply VC.mk); (first | trivial | omega | (simp only [inR]; omega) | (exact ⟨rfl, List.prefix_rfl⟩) | (refine ⟨rfl, rfl, rfl, ?_, rfl⟩; (simp; done)) | (focus (repeat' (first | exact True.intro | apply And.intro | rfl | exact Nat.le_of_ble_eq_true rfl)); done) | (simp [inR, Cont.cells]; done) | (simp [inR, Cont.cells]; omega)))
 | ((with_reducible apply If_dec) <;> intro hc <;> (try (exfalso; omega)))
 | ((with_reducible apply If_any) <;> intro hc)
 | ((with_reducible first | apply PF.mk | apply DrawP.mk); (focus kernel_rfl))
 | ((with_reducible apply Same.mk); (focus rfl); (first | exact trivial | exact rfl))
 | (intro cap hcap)
 | ((fail_if_success (with_reducible first | apply Fin.mk | apply CallP.mk | apply LoopP.mk | apply VC.mk | apply falseMk | apply Round.mk | apply LookP.mk | apply RangeP.mk | apply NextP.mk | apply EntryP.mk | apply Eq.symm)); conv => whnf))
    · have hlt : y.1 < (p.length + 511) / 512 := by omega
      have hstep : TR.layN ((p.length + 511) / 512 - (y.1 + 1)) (y.2.lay1 r ((A / 512 + y.1 : Nat) : Int)) r (A / 512 + (y.1 + 1)) = t.freshT A p cap := by
        rw [← g5, show (p.length + 511) / 512 - y.1 = (p.length + 511) / 512 - (y.1 + 1) + 1 by omega]; rfl
      obtain ⟨o1, o2, o3, o4⟩ := TR.lay1_ok g2 r ((A / 512 + y.1 : Nat) : Int) (by omega)
      have nx := o2.trans g3
      have nv := o3.trans g4
      refine LookP.mk (fun v hv => ?_) (fun hn => ?_)
      · rw [lkm_map] at hv
        obtain ⟨l, hl, rfl⟩ : ∃ l, lkS ((A / 512 + y.1 : Nat) : Int) y.2.dirty = some l ∧ AV.arr .u8 l = v := by
          cases hq : lkS ((A / 512 + y.1 : Nat) : Int) y.2.dirty with
          | none => rw [hq] at hv; cases hv
          | some l => rw [hq] at hv; exact ⟨l, rfl, by simpa using hv⟩
        have hl2 : l.length = 512 := g2.sec _ (lkS_mem hl)
        have e1 : y.2.lay1 r ((A / 512 + y.1 : Nat) : Int) = { y.2 with dirty := upS ((A / 512 + y.1 : Nat) : Int) (layR (((A / 512 + y.1 : Nat) : Int) * 512) l r) y.2.dirty } := by unfold TR.lay1; rw [hl]
        rw [e1] at o1 nx nv hstep
        have hr1 : r.1 = (A : Int) := by rw [hr]
        have hr2 : r.2 = p := by rw [hr]
        have hll : (layR (((A / 512 + y.1 : Nat) : Int) * 512) l r).length = 512 := layR_length _ _ _ hl2 (by omega)
        repeat' (first
 | (with_reducible first | exact True.intro | apply And.intro | apply If_true | apply If_false | apply If_not)
 | ((with_reducible apply VC.mk); (first | trivial | omega | (simp only [inR]; omega) | (exact ⟨rfl, List.prefix_rfl⟩) | (refine ⟨rfl, rfl, rfl, ?_, rfl⟩; (simp; done)) | (focus (repeat' (first | exact True.intro | apply And.intro | rfl | exact Nat.le_of_ble_eq_true rfl)); done) | (simp [inR, Cont.cells]; done) | (simp [inR, Cont.cells]; omega)))
 | ((with_reducible apply If_dec) <;> intro hc <;> (try (exfalso; omega)))
 | ((with_reducible apply If_any) <;> intro hc)
 | ((with_reducible first | apply PF.mk | apply DrawP.mk); (focus kernel_rfl))
 | ((with_reducible apply Same.mk); (focus rfl); (first | exact trivial | exact rfl))
 | (intro cap hcap)
 | ((fail_if_success (with_reducible first | apply Fin.mk | apply CallP.mk | apply LoopP.mk | apply VC.mk | apply falseMk | apply Round.mk | apply LookP.mk | apply RangeP.mk | apply NextP.mk | apply EntryP.mk | apply Eq.symm)); conv => whnf))
        have ei : 0 + ((y.2.fresh.length : Int) - 1).toNat = t.fresh.length := by omega
        simp only [ei, hck]
        refine tlay_at l (((A / 512 + y.1 : Nat) : Int) * 512) r 6 ⟨⟨hl2, by omega, by omega⟩, by omega, by omega, by rw [hr2]; omega⟩ rfl ⟨rfl, rfl, ⟨rfl, rfl, trivial⟩, trivial⟩ ?_
        repeat' (first
 | (with_reducible first | exact True.intro | apply And.intro | apply If_true | apply If_false | apply If_not)
 | ((with_reducible apply VC.mk); (first | trivial | omega | (simp only [inR]; omega) | (exact ⟨rfl, List.prefix_rfl⟩) | (refine ⟨rfl, rfl, rfl, ?_, rfl⟩; (simp; done)) | (focus (repeat' (first | exact True.intro | apply And.intro | rfl | exact Nat.le_of_ble_eq_true rfl)); done) | (simp [inR, Cont.cells]; done) | (simp [inR, Cont.cells]; omega)))
 | ((with_reducible apply If_dec) <;> intro hc <;> (try (exfalso; omega)))
 | ((with_reducible apply If_any) <;> intro hc)
 | ((with_reducible first | apply PF.mk | apply DrawP.mk); (focus kernel_rfl))
 | ((with_reducible apply Same.mk); (focus rfl); (first | exact trivial | exact rfl))
 | (intro cap hcap)
 | ((fail_if_success (with_reducible first | apply Fin.mk | apply CallP.mk | apply LoopP.mk | apply VC.mk | apply falseMk | apply Round.mk | apply LookP.mk | apply RangeP.mk | apply NextP.mk | apply EntryP.mk | apply Eq.symm)); conv => whnf))
        refine Round.mk ⟨(y.1 + 1, { y.2 with dirty := upS ((A / 512 + y.1 : Nat) : Int) (layR (((A / 512 + y.1 : Nat) : Int) * 512) l r) y.2.dirty }), ⟨by show y.1 + 1 ≤ _; omega, o1, nx, nv, hstep⟩, by show _ - (y.1 + 1) < _ - y.1; omega, Fit.ren [0, 1, 2, 3, 4, 5] [] rfl rfl trivial (T5.leM rfl rfl rfl rfl rfl ?_ (c2_le rfl rfl) rfl rfl ⟨rfl, rfl, rfl, rfl⟩) ?_⟩
        · show some (Chunk.mp _ _) = some (Chunk.mp (List.map _ (upS _ _ _)) _)
          rw [← upm_map]
          generalize layR (((A / 512 + y.1 : Nat) : Int) * 512) l r = q at hll ⊢
          simp [List.take_of_length_le, hll]
        · repeat' (first
 | (with_reducible first | exact True.intro | apply And.intro | apply If_true | apply If_false | apply If_not)
 | ((with_reducible apply VC.mk); (first | trivial | omega | (simp only [inR]; omega) | (exact ⟨rfl, List.prefix_rfl⟩) | (refine ⟨rfl, rfl, rfl, ?_, rfl⟩; (simp; done)) | (focus (repeat' (first | exact True.intro | apply And.intro | rfl | exact Nat.le_of_ble_eq_true rfl)); done) | (simp [inR, Cont.cells]; done) | (simp [inR, Cont.cells]; omega)))
 | ((with_reducible apply If_dec) <;> intro hc <;> (try (exfalso; omega)))
 | ((with_reducible apply If_any) <;> intro hc)
 | ((with_reducible first | apply PF.mk | apply DrawP.mk); (focus kernel_rfl))
 | ((with_reducible apply Same.mk); (focus rfl); (first | exact trivial | exact rfl))
 | (intro cap hcap)
 | ((fail_if_success (with_reducible first | apply Fin.mk | apply CallP.mk | apply LoopP.mk | apply VC.mk | apply falseMk | apply Round.mk | apply LookP.mk | apply RangeP.mk | apply NextP.mk | apply EntryP.mk | apply Eq.symm)); conv => whnf))
      · rw [lkm_map] at hn
        have hn0 : lkS ((A / 512 + y.1 : Nat) : Int) y.2.dirty = none := by
          cases hq : lkS ((A / 512 + y.1 : Nat) : Int) y.2.dirty with
          | none => rfl
          | some l => rw [hq] at hn; cases hn
        have e1 : y.2.lay1 r ((A / 512 + y.1 : Nat) : Int) = y.2 := by unfold TR.lay1; rw [hn0]
        rw [e1] at hstep
        repeat' (first
 | (with_reducible first | exact True.intro | apply And.intro | apply If_true | apply If_false | apply If_not)
 | ((with_reducible apply VC.mk); (first | trivial | omega | (simp only [inR]; omega) | (exact ⟨rfl, List.prefix_rfl⟩) | (refine ⟨rfl, rfl, rfl, ?_, rfl⟩; (simp; done)) | (focus (repeat' (first | exact True.intro | apply And.intro | rfl | exact Nat.le_of_ble_eq_true rfl)); done) | (simp [inR, Cont.cells]; done) | (simp [inR, Cont.cells]; omega)))
 | ((with_reducible apply If_dec) <;> intro hc <;> (try (exfalso; omega)))
 | ((with_reducible apply If_any) <;> intro hc)
 | ((with_reducible first | apply PF.mk | apply DrawP.mk); (focus kernel_rfl))
 | ((with_reducible apply Same.mk); (focus rfl); (first | exact trivial | exact rfl))
 | (intro cap hcap)
 | ((fail_if_success (with_reducible first | apply Fin.mk | apply CallP.mk | apply LoopP.mk | apply VC.mk | apply falseMk | apply Round.mk | apply LookP.mk | apply RangeP.mk | apply NextP.mk | apply EntryP.mk | apply Eq.symm)); conv => whnf))
        refine Round.mk ⟨(y.1 + 1, y.2), ⟨by show y.1 + 1 ≤ _; omega, g2, g3, g4, hstep⟩, by show _ - (y.1 + 1) < _ - y.1; omega, Fit.ren [0, 1, 2, 3, 4, 5] [] rfl rfl trivial (T5.leM rfl rfl rfl rfl rfl rfl (c2_le rfl rfl) rfl rfl ⟨rfl, rfl, rfl, rfl⟩) ?_⟩
        repeat' (first
 | (with_reducible first | exact True.intro | apply And.intro | apply If_true | apply If_false | apply If_not)
 | ((with_reducible apply VC.mk); (first | trivial | omega | (simp only [inR]; omega) | (exact ⟨rfl, List.prefix_rfl⟩) | (refine ⟨rfl, rfl, rfl, ?_, rfl⟩; (simp; done)) | (focus (repeat' (first | exact True.intro | apply And.intro | rfl | exact Nat.le_of_ble_eq_true rfl)); done) | (simp [inR, Cont.cells]; done) | (simp [inR, Cont.cells]; omega)))
 | ((with_reducible apply If_dec) <;> intro hc <;> (try (exfalso; omega)))
 | ((with_reducible apply If_any) <;> intro hc)
 | ((with_reducible first | apply PF.mk | apply DrawP.mk); (focus kernel_rfl))
 | ((with_reducible apply Same.mk); (focus rfl); (first | exact trivial | exact rfl))
 | (intro cap hcap)
 | ((fail_if_success (with_reducible first | apply Fin.mk | apply CallP.mk | apply LoopP.mk | apply VC.mk | apply falseMk | apply Round.mk | apply LookP.mk | apply RangeP.mk | apply NextP.mk | apply EntryP.mk | apply Eq.symm)); conv => whnf))
    · have hk2 := hk (0, y.2) (.inr (.inr ⟨hov, hin, rfl, cap, hcap, by
        rw [Int.toNat_natCast, ← g5, show (p.length + 511) / 512 - y.1 = 0 by omega]; rfl⟩))
      exact Fin.ren [0, 1, 2, 3, 4, 5] [] (.v (.int .i64 0)) (tmv y.2 j s) rfl rfl trivial (T5.leM rfl rfl rfl rfl rfl rfl (c2_le rfl rfl) rfl rfl ⟨rfl, rfl, rfl, rfl⟩) (VC.mk rfl) hk2
theorem M6.good {t : TR} {j : JR} {s : DF} {v : AV} (h : v.noF) : Good 5 v (tmv t j s) := by
  refine ⟨h, fun c hc => ?_, Nat.le_of_ble_eq_true rfl⟩
  simp [tmv] at hc
  rcases hc with rfl | rfl | rfl | rfl | rfl | rfl
  · exact .blk ⟨trivial, trivial, trivial, trivial, trivial⟩
  · exact .mp (arr_noF t.dirty)
  · exact .dead
  · exact j.noF _
  · exact s.pk_noF
  · exact .blk (recsC_noF _)
theorem dead_ren (f : Nat → Nat) : Chunk.ren f .dead = .dead := rfl
def FreshRel (t : TR) (at_ : Int) (p : List Int) (x : Int × TR) : Prop := t.over = true ∧ x.1 = 6 ∧ x.2 = t ∨ t.over = false ∧ ¬ inF at_ p.length ∧ x.1 = 4 ∧ x.2 = t ∨ t.over = false ∧ inF at_ p.length ∧ x.1 = 0 ∧ ∃ c, t.fresh.length + 1 ≤ c ∧ x.2 = t.freshT at_.toNat p c
theorem tfresh_K : ConOk Go.Proofs.Try.prog 36 (Con.of (TR × JR × DF × Int × List Int) (Int × TR) (fun x => [.p 0 0 1 0, .v (.int .i64 x.2.2.2.1), .im false 1 x.2.2.2.2.length (.ints .u8 x.2.2.2.2)]) (fun x => tpre x.1 x.2.1 x.2.2.1) (fun x => x.1.Ok ∧ x.1.fresh.length < 1073741824 ∧ inR .i64 x.2.2.2.1 ∧ x.2.2.2.2.length ≤ 9223372036854775807) (fun x r => FreshRel x.1 x.2.2.2.1 x.2.2.2.2 r) (fun x r => .v (.int .i64 r.1)) (fun x r => tmv r.2 x.2.1 x.2.2.1)) :=
  conOk_rel (T := tab) mix Go.Proofs.Try.func36 (by decide +kernel) (by kernel_rfl) [] p36 (fun n => by rw [Go.Proofs.Try.ntmps36]; exact Nat.le_of_ble_eq_true rfl) (fun x r _ _ => M6.good trivial) (fun x _ => T5.nd) (fun x k h0 hk => tfresh_c x.1 x.2.1 x.2.2.1 x.2.2.2.1 x.2.2.2.2 k h0 (fun r hr => hk r hr))
theorem tfresh_at {avs : List AV} {H : List Chunk} {k : K} (t : TR) (j : JR) (s : DF) (at_ : Int) (p : List Int) (ta tb tc td te : Nat) (h0 : t.Ok ∧ t.fresh.length < 1073741824 ∧ inR .i64 at_ ∧ p.length ≤ 9223372036854775807) (hn : nodupN [ta, tb, tc, td, te] = true) (ha0 : nth H ta = some (t.c0 td tb tc)) (hb0 : nth H tb = some t.c1) (hc0 : nth H tc = some t.c2) (hd0 : nth H td = some (j.blk te)) (he0 : nth H te = some s.pk) (ha : argsM H [ta, tb, tc, td, te] [.p 0 0 1 0, .v (.int .i64 at_), .im false 1 p.length (.ints .u8 p)] avs)
    (hQ : ∀ r : Int × TR, FreshRel t at_ p r → k (.v (.int .i64 r.1)) ((((((H.set ta (TR.c0 r.2 td tb H.length)).set tb (TR.c1 r.2)).set tc .dead).set td (j.blk te)).set te s.pk) ++ [TR.c2 r.2])) : CallP Go.Proofs.Try.prog 36 avs H k :=
  CallP.mk ⟨_, tfresh_K.real, Con.spec tfresh_K, (t, j, s, at_, p), [ta, tb, tc, td, te], ⟨h0, hn, ⟨ha0, hb0.trans (congrArg some (TR.c1_ren t _).symm), hc0, hd0, he0, trivial⟩, ha⟩, fun r hr => (numK_eq _ _).mpr (by simpa [tmv, putAll, dead_ren, TR.c0_ren, TR.c1_ren, TR.c2_ren, JR.blk_ren, DF.pk_ren, AV.ren, rens, Cont.ren, fren, nth] using hQ r hr)⟩
end Go.Proofs.Ytcfmlnddmpiemaa.Sx


set_option maxRecDepth 10000
namespace Go.Proofs.Ytcfmlnddmpiemaa.Sx
open Go.RowKit Go.Proofs.Ytcfmlnddmpiemaa.Sx.Tb
theorem sort_K : ConOk Go.Proofs.Try.prog 93 (sortC 2) :=
  sort_conOk 2 ⟨_, Go.Proofs.Try.func93, by decide +kernel, by kernel_rfl⟩ (fun blk cap zs w h1 h2 h3 => AnyG.slices_Sort_int Sx.sortI64 blk 0 cap zs w h1 h2 h3) (fun p cap w => AnyG.slices_Sort_int_none Sx.sortI64 p cap w)
theorem sort_at {avs : List AV} {H : List Chunk} {k : K} (l : List Int) (c : Nat) (i : Nat) (h0 : l.length < 4611686018427387904) (hc : nth H i = some (.blk 2 (.ints .i64 l) c)) (ha : argsM H [i] [.s 0 0 1 l.length c] avs)
    (h : ∀ r, r = l.mergeSort (fun a b => decide (a ≤ b)) → k (.tup []) (H.set i (.blk 2 (.ints .i64 r) c))) : CallP Go.Proofs.Try.prog 93 avs H k :=
  CallP.mk ⟨_, sort_K.real, Con.spec sort_K, (l, c), [i], ⟨h0, rfl, ⟨hc, trivial⟩, ha⟩, fun r hr => (numK_eq H.length (fun N => k (AV.ren (fren [i] N) (.tup [])) (putAll H [i] [Chunk.ren (fren [i] N) (.blk 2 (.ints .i64 r) c)]))).mpr (by simpa [putAll, AV.ren, rens, Chunk.ren, Cont.ren] using h r hr)⟩
#print axioms sort_K
end Go.Proofs.Ytcfmlnddmpiemaa.Sx


set_option maxRecDepth 10000
namespace Go.Proofs.Ytcfmlnddmpiemaa.Sx
open Go.RowKit Go.Proofs.Ytcfmlnddmpiemaa.Sx.Tb
/-! ### A tx's records -/
def rowsR (rr : List RecR) (dc : Nat) (i : Nat) : List AV := if i + 1 = rr.length then [.v (.int .i64 (rr.getD i (0, [])).1), .s 6 0 1 (rr.getD i (0, [])).2.length dc] else recAV true (rr.getD i (0, []))
def snocD (acc : List RecR) (x : List Int) : List RecR := acc.set (acc.length - 1) ((acc.getD (acc.length - 1) (0, [])).1, (acc.getD (acc.length - 1) (0, [])).2 ++ x)
def bldS (d : List (Int × List Int)) (ks : List Int) (acc : List RecR) (i : Nat) : List RecR :=
  if 0 < i ∧ ks.getD (i - 1) 0 = ks.getD i 0 - 1 then snocD acc ((lkS (ks.getD i 0) d).getD []) else acc ++ [(ks.getD i 0 * 512, (lkS (ks.getD i 0) d).getD [])]
def bldR (d : List (Int × List Int)) (ks : List Int) (m : Nat) : List RecR := (List.range m).foldl (bldS d ks) []
def RecRel (t : TR) (r : List RecR) : Prop := ∃ ks : List Int, ks.Perm (t.dirty.map (fun x => x.1)) ∧ ks.Pairwise (· ≤ ·) ∧ r = bldR t.dirty ks ks.length
def keyF (s : List Nat) (d : List (Int × List Int)) (b : Nat) : Int := (d.getD (s.idxOf b) (0, [])).1
theorem lkS_of_mem {n : Int} : ∀ {d : List (Int × List Int)}, n ∈ d.map (fun x => x.1) → ∃ l, lkS n d = some l
  | [], h => absurd h List.not_mem_nil
  | (a, v) :: r, h => by
    unfold lkS
    by_cases e : a = n
    · exact ⟨v, by rw [if_pos e]⟩
    · rw [if_neg e]
      refine lkS_of_mem (d := r) ?_
      rcases List.mem_cons.1 h with h | h
      · exact absurd h.symm e
      · exact h
theorem sub_len : ∀ {l s : List Nat}, l.Nodup → (∀ b ∈ l, b ∈ s) → l.length ≤ s.length
  | [], _, _, _ => Nat.zero_le _
  | a :: l, s, hn, h => by
    have hc := List.nodup_cons.1 hn
    have ha := h a (List.mem_cons_self ..)
    have i : l.length ≤ (s.erase a).length := sub_len hc.2 (fun b hb => (List.mem_erase_of_ne (fun e => hc.1 (by rw [← e]; exact hb))).2 (h b (List.mem_cons_of_mem _ hb)))
    rw [List.length_erase_of_mem ha] at i
    have : 0 < s.length := List.length_pos_of_mem ha
    simp only [List.length_cons]
    omega
theorem nodup_perm {l s : List Nat} (h1 : l.Nodup) (h2 : s.Nodup) (h : ∀ b, b ∈ l ↔ b ∈ s) : l.Perm s := by
  rw [List.perm_iff_count]
  intro a
  by_cases ha : a ∈ l
  · rw [h1.count, h2.count, if_pos ha, if_pos ((h a).1 ha)]
  · rw [List.count_eq_zero.2 ha, List.count_eq_zero.2 (fun q => ha ((h a).2 q))]
theorem keys_eq {sq : List Nat} {d : List (Int × List Int)} (hl : sq.length = d.length) (hn : sq.Nodup) : sq.map (keyF sq d) = d.map (fun x => x.1) := by
  apply List.ext_getElem (by simp [hl])
  intro i h1 h2
  have hi : i < sq.length := by simpa using h1
  rw [List.getElem_map, List.getElem_map]
  unfold keyF
  rw [hn.idxOf_getElem i hi, List.getD_eq_getElem?_getD, List.getElem?_eq_getElem (by omega)]
  rfl
theorem T5.leS {H : List Chunk} {fz : List Nat} {f : Nat → Nat} {ph : Nat → Bool} {t : TR} {j : JR} {s : DF} {st : List Nat × Nat} {a b c d e : Nat} {σ : List Nat} {cs : List Chunk} (f1 : f 1 = b) (f2 : f 2 = c) (f3 : f 3 = d) (f4 : f 4 = e) (h0 : nth H a = some (t.c0 d b c)) (h1 : nth H b = some (.mp (t.dirty.map (fun x => (x.1, AV.arr .u8 x.2))) (some st))) (h2 : nth H c = some t.c2) (h3 : nth H d = some (j.blk e)) (h4 : nth H e = some s.pk) (hz : memN a fz = false ∧ memN b fz = false ∧ memN c fz = false ∧ memN d fz = false ∧ memN e fz = false) (hx : chunksLe H fz f ph σ cs) : chunksLe H fz f ph (a :: b :: c :: d :: e :: σ) ([t.c0 3 1 2, .mp (t.dirty.map (fun x => (x.1, AV.arr .u8 x.2))) (some st), t.c2, j.blk 4, s.pk] ++ cs) := by
  refine ⟨?_, ?_, c2_le h2 hz.2.2.1, ?_, ?_, hx⟩
  · unfold Chunk.le TR.c0
    simp only
    rw [nth_lt h0, hz.1, h0]
    exact ⟨VC.mk ⟨rfl, rfl⟩, VC.mk ⟨f3, rfl, rfl, rfl⟩, VC.mk f1, VC.mk ⟨f2, rfl, rfl, rfl, rfl⟩, VC.mk rfl, trivial⟩
  · unfold Chunk.le
    simp only
    rw [nth_lt h1, hz.2.1, h1]
    exact ⟨VC.mk ⟨rfl, .inr rfl⟩, arr_les t.dirty⟩
  · unfold Chunk.le JR.blk
    simp only
    rw [nth_lt h3, hz.2.2.2.1, h3]
    exact ⟨VC.mk ⟨rfl, rfl⟩, VC.mk ⟨f4, rfl, rfl, rfl⟩, VC.mk rfl, VC.mk rfl, VC.mk rfl, trivial⟩
  · unfold Chunk.le DF.pk
    simp only
    rw [nth_lt h4, hz.2.2.2.2, h4]
    exact VC.mk ⟨rfl, rfl, rfl, rfl⟩
/-- From a map that is gone through back to a map. -/
theorem T5.leU {H : List Chunk} {fz : List Nat} {f : Nat → Nat} {ph : Nat → Bool} {t : TR} {j : JR} {s : DF} {st : Option (List Nat × Nat)} {a b c d e : Nat} {σ : List Nat} {cs : List Chunk} (f1 : f 1 = b) (f2 : f 2 = c) (f3 : f 3 = d) (f4 : f 4 = e) (h0 : nth H a = some (t.c0 d b c)) (h1 : nth H b = some (.mp (t.dirty.map (fun x => (x.1, AV.arr .u8 x.2))) st)) (h2 : nth H c = some t.c2) (h3 : nth H d = some (j.blk e)) (h4 : nth H e = some s.pk) (hz : memN a fz = false ∧ memN b fz = false ∧ memN c fz = false ∧ memN d fz = false ∧ memN e fz = false) (hx : chunksLe H fz f ph σ cs) : chunksLe H fz f ph (a :: b :: c :: d :: e :: σ) (tpre t j s ++ cs) := by
  refine ⟨?_, ?_, c2_le h2 hz.2.2.1, ?_, ?_, hx⟩
  · unfold Chunk.le TR.c0
    simp only
    rw [nth_lt h0, hz.1, h0]
    exact ⟨VC.mk ⟨rfl, rfl⟩, VC.mk ⟨f3, rfl, rfl, rfl⟩, VC.mk f1, VC.mk ⟨f2, rfl, rfl, rfl, rfl⟩, VC.mk rfl, trivial⟩
  · unfold Chunk.le TR.c1
    simp only
    rw [nth_lt h1, hz.2.1, h1]
    exact ⟨VC.mk ⟨rfl, .inl trivial⟩, arr_les t.dirty⟩
  · unfold Chunk.le JR.blk
    simp only
    rw [nth_lt h3, hz.2.2.2.1, h3]
    exact ⟨VC.mk ⟨rfl, rfl⟩, VC.mk ⟨f4, rfl, rfl, rfl⟩, VC.mk rfl, VC.mk rfl, VC.mk rfl, trivial⟩
  · unfold Chunk.le DF.pk
    simp only
    rw [nth_lt h4, hz.2.2.2.2, h4]
    exact VC.mk ⟨rfl, rfl, rfl, rfl⟩
set_option maxHeartbeats 16000000 in
theorem trecs_c (t : TR) (j : JR) (s : DF) (k : K) (h0 : t.Ok ∧ t.dirty.length ≤ 1073741824 ∧ ∀ q ∈ t.dirty, 0 ≤ q.1 ∧ q.1 ≤ 1073741824) (hk : ∀ r : List RecR, RecRel t r → k (.im true 2 r.length (recsC true r)) (tpre t j s)) : evFunc tab [] p66 Go.Proofs.Try.f66 [.p 0 0 1 0] (tpre t j s) k := by
  obtain ⟨h1, h2, hkb⟩ := h0
  repeat' (first
 | (with_reducible first | exact True.intro | apply And.intro | apply If_true | apply If_false | apply If_not)
 | ((with_reducible apply VC.mk); (first | trivial | omega | (simp only [inR]; omega) | (exact ⟨rfl, List.prefix_rfl⟩) | (refine ⟨rfl, rfl, rfl, ?_, rfl⟩; (simp; done)) | (focus (repeat' (first | exact True.intro | apply And.intro | rfl | exact Nat.le_of_ble_eq_true rfl)); done) | (simp [inR, Cont.cells]; done) | (simp [inR, Cont.cells]; omega)))
 | ((with_reducible apply If_dec) <;> intro hc <;> (try (exfalso; omega)))
 | ((with_reducible apply If_any) <;> intro hc)
 | ((with_reducible first | apply PF.mk | apply DrawP.mk); (focus kernel_rfl))
 | ((with_reducible apply Same.mk); (focus rfl); (first | exact trivial | exact rfl))
 | (intro cap hcap)
 | ((fail_if_success (with_reducible first | apply Fin.mk | apply CallP.mk | apply LoopP.mk | apply VC.mk | apply falseMk | apply Round.mk | apply LookP.mk | apply RangeP.mk | apply NextP.mk | apply EntryP.mk | apply Eq.symm)); conv => whnf))
  refine RangeP.mk (fun sq c sl sn sc => ?_)
  have sl : sq.length = t.dirty.length := by simpa using sl
  repeat' (first
 | (with_reducible first | exact True.intro | apply And.intro | apply If_true | apply If_false | apply If_not)
 | ((with_reducible apply VC.mk); (first | trivial | omega | (simp only [inR]; omega) | (exact ⟨rfl, List.prefix_rfl⟩) | (refine ⟨rfl, rfl, rfl, ?_, rfl⟩; (simp; done)) | (focus (repeat' (first | exact True.intro | apply And.intro | rfl | exact Nat.le_of_ble_eq_true rfl)); done) | (simp [inR, Cont.cells]; done) | (simp [inR, Cont.cells]; omega)))
 | ((with_reducible apply If_dec) <;> intro hc <;> (try (exfalso; omega)))
 | ((with_reducible apply If_any) <;> intro hc)
 | ((with_reducible first | apply PF.mk | apply DrawP.mk); (focus kernel_rfl))
 | ((with_reducible apply Same.mk); (focus rfl); (first | exact trivial | exact rfl))
 | (intro cap hcap)
 | ((fail_if_success (with_reducible first | apply Fin.mk | apply CallP.mk | apply LoopP.mk | apply VC.mk | apply falseMk | apply Round.mk | apply LookP.mk | apply RangeP.mk | apply NextP.mk | apply EntryP.mk | apply Eq.symm)); conv => whnf))
  refine LoopP.mk ⟨List Nat × Nat × List Int, fun y => y.1.Nodup ∧ (∀ b ∈ y.1, b ∈ sq) ∧ y.2.2 = y.1.map (keyF sq t.dirty), fun y => ([(0, .p 0 0 1 0), (3, .s 6 0 1 y.2.2.length y.2.1), (13, .p 5 0 1 0)], [t.c0 3 1 2, .mp (t.dirty.map (fun x => (x.1, AV.arr .u8 x.2))) (some (sq, c)), t.c2, j.blk 4, s.pk] ++ [.it 1 c c y.1, .blk 2 (.ints .i64 y.2.2) y.2.1]), fun y => sq.length - y.1.length, ([], 0, []), ⟨List.nodup_nil, fun b hb => absurd hb List.not_mem_nil, rfl⟩, Fit.ren [0, 1, 2, 3, 4, 5, 6] [] rfl rfl trivial ?_ ?_, ?_⟩
  · refine T5.leS rfl rfl rfl rfl rfl rfl rfl rfl rfl ⟨rfl, rfl, rfl, rfl, rfl⟩ ⟨VC.mk ⟨rfl, rfl, rfl, rfl⟩, ?_, trivial⟩
    exact ⟨VC.mk rfl, VC.mk rfl⟩
  · repeat' (first
 | (with_reducible first | exact True.intro | apply And.intro | apply If_true | apply If_false | apply If_not)
 | ((with_reducible apply VC.mk); (first | trivial | omega | (simp only [inR]; omega) | (exact ⟨rfl, List.prefix_rfl⟩) | (refine ⟨rfl, rfl, rfl, ?_, rfl⟩; (simp; done)) | (focus (repeat' (first | exact True.intro | apply And.intro | rfl | exact Nat.le_of_ble_eq_true rfl)); done) | (simp [inR, Cont.cells]; done) | (simp [inR, Cont.cells]; omega)))
 | ((with_reducible apply If_dec) <;> intro hc <;> (try (exfalso; omega)))
 | ((with_reducible apply If_any) <;> intro hc)
 | ((with_reducible first | apply PF.mk | apply DrawP.mk); (focus kernel_rfl))
 | ((with_reducible apply Same.mk); (focus rfl); (first | exact trivial | exact rfl))
 | (intro cap hcap)
 | ((fail_if_success (with_reducible first | apply Fin.mk | apply CallP.mk | apply LoopP.mk | apply VC.mk | apply falseMk | apply Round.mk | apply LookP.mk | apply RangeP.mk | apply NextP.mk | apply EntryP.mk | apply Eq.symm)); conv => whnf))
  · intro y hy
    obtain ⟨g1, g2, g3⟩ := hy
    have gl : y.2.2.length = y.1.length := by rw [g3, List.length_map]
    have gle : y.1.length ≤ sq.length := sub_len g1 g2
    repeat' (first
 | (with_reducible first | exact True.intro | apply And.intro | apply If_true | apply If_false | apply If_not)
 | ((with_reducible apply VC.mk); (first | trivial | omega | (simp only [inR]; omega) | (exact ⟨rfl, List.prefix_rfl⟩) | (refine ⟨rfl, rfl, rfl, ?_, rfl⟩; (simp; done)) | (focus (repeat' (first | exact True.intro | apply And.intro | rfl | exact Nat.le_of_ble_eq_true rfl)); done) | (simp [inR, Cont.cells]; done) | (simp [inR, Cont.cells]; omega)))
 | ((with_reducible apply If_dec) <;> intro hc <;> (try (exfalso; omega)))
 | ((with_reducible apply If_any) <;> intro hc)
 | ((with_reducible first | apply PF.mk | apply DrawP.mk); (focus kernel_rfl))
 | ((with_reducible apply Same.mk); (focus rfl); (first | exact trivial | exact rfl))
 | (intro cap hcap)
 | ((fail_if_success (with_reducible first | apply Fin.mk | apply CallP.mk | apply LoopP.mk | apply VC.mk | apply falseMk | apply Round.mk | apply LookP.mk | apply RangeP.mk | apply NextP.mk | apply EntryP.mk | apply Eq.symm)); conv => whnf))
    refine NextP.mk (fun b hb hnb => ?_) (fun hall => ?_)
    · have glt : y.1.length < sq.length := by
        have : (b :: y.1).length ≤ sq.length := sub_len (List.nodup_cons.2 ⟨hnb, g1⟩) (fun q hq => by rcases List.mem_cons.1 hq with rfl | hq; exact hb; exact g2 q hq)
        rw [List.length_cons] at this
        omega
      repeat' (first
 | (with_reducible first | exact True.intro | apply And.intro | apply If_true | apply If_false | apply If_not)
 | ((with_reducible apply VC.mk); (first | trivial | omega | (simp only [inR]; omega) | (exact ⟨rfl, List.prefix_rfl⟩) | (refine ⟨rfl, rfl, rfl, ?_, rfl⟩; (simp; done)) | (focus (repeat' (first | exact True.intro | apply And.intro | rfl | exact Nat.le_of_ble_eq_true rfl)); done) | (simp [inR, Cont.cells]; done) | (simp [inR, Cont.cells]; omega)))
 | ((with_reducible apply If_dec) <;> intro hc <;> (try (exfalso; omega)))
 | ((with_reducible apply If_any) <;> intro hc)
 | ((with_reducible first | apply PF.mk | apply DrawP.mk); (focus kernel_rfl))
 | ((with_reducible apply Same.mk); (focus rfl); (first | exact trivial | exact rfl))
 | (intro cap hcap)
 | ((fail_if_success (with_reducible first | apply Fin.mk | apply CallP.mk | apply LoopP.mk | apply VC.mk | apply falseMk | apply Round.mk | apply LookP.mk | apply RangeP.mk | apply NextP.mk | apply EntryP.mk | apply Eq.symm)); conv => whnf))
      refine EntryP.mk ⟨b, by simp, hb⟩ (fun q b' ka v e1 e2 e3 => ?_)
      have hbb : b = b' := by simpa using e1
      subst hbb
      have hka : ka = keyF sq t.dirty b := by
        rw [List.getElem?_map] at e3
        unfold keyF
        have hq : q < sq.length := (List.getElem?_eq_some_iff.1 e2).1
        have hi : sq.idxOf b = q := by
          have := sn.idxOf_getElem q hq
          rw [(List.getElem?_eq_some_iff.1 e2).2] at this
          exact this
        rw [hi, List.getD_eq_getElem?_getD]
        cases hdq : t.dirty[q]? with
        | none => rw [hdq] at e3; cases e3
        | some z => rw [hdq] at e3; cases e3; rfl
      repeat' (first
 | (with_reducible first | exact True.intro | apply And.intro | apply If_true | apply If_false | apply If_not)
 | ((with_reducible apply VC.mk); (first | trivial | omega | (simp only [inR]; omega) | (exact ⟨rfl, List.prefix_rfl⟩) | (refine ⟨rfl, rfl, rfl, ?_, rfl⟩; (simp; done)) | (focus (repeat' (first | exact True.intro | apply And.intro | rfl | exact Nat.le_of_ble_eq_true rfl)); done) | (simp [inR, Cont.cells]; done) | (simp [inR, Cont.cells]; omega)))
 | ((with_reducible apply If_dec) <;> intro hc <;> (try (exfalso; omega)))
 | ((with_reducible apply If_any) <;> intro hc)
 | ((with_reducible first | apply PF.mk | apply DrawP.mk); (focus kernel_rfl))
 | ((with_reducible apply Same.mk); (focus rfl); (first | exact trivial | exact rfl))
 | (intro cap hcap)
 | ((fail_if_success (with_reducible first | apply Fin.mk | apply CallP.mk | apply LoopP.mk | apply VC.mk | apply falseMk | apply Round.mk | apply LookP.mk | apply RangeP.mk | apply NextP.mk | apply EntryP.mk | apply Eq.symm)); conv => whnf))
      refine Round.mk ⟨(y.1 ++ [b], cap, y.2.2 ++ [ka]), ⟨?_, ?_, ?_⟩, by show sq.length - (y.1 ++ [b]).length < sq.length - y.1.length; rw [List.length_append]; simp only [List.length_cons, List.length_nil]; omega, Fit.ren [0, 1, 2, 3, 4, 5, 8] [] rfl rfl trivial (T5.leS rfl rfl rfl rfl rfl rfl rfl rfl rfl ⟨rfl, rfl, rfl, rfl, rfl⟩ ⟨VC.mk ⟨rfl, rfl, rfl, rfl⟩, ?_, trivial⟩) ?_⟩
      · show (y.1 ++ [b]).Nodup
        rw [List.nodup_append]
        exact ⟨g1, by simp, fun a ha q hq => by simp at hq; subst hq; exact fun e => hnb (e ▸ ha)⟩
      · intro q hq
        rcases List.mem_append.1 hq with hq | hq
        · exact g2 q hq
        · simp at hq; subst hq; exact hb
      · show y.2.2 ++ [ka] = _
        rw [g3, hka, List.map_append]; rfl
      · exact ⟨VC.mk ⟨rfl, Nat.mul_one _⟩, VC.mk ⟨rfl, List.prefix_refl _⟩⟩
      · repeat' (first
 | (with_reducible first | exact True.intro | apply And.intro | apply If_true | apply If_false | apply If_not)
 | ((with_reducible apply VC.mk); (first | trivial | omega | (simp only [inR]; omega) | (exact ⟨rfl, List.prefix_rfl⟩) | (refine ⟨rfl, rfl, rfl, ?_, rfl⟩; (simp; done)) | (focus (repeat' (first | exact True.intro | apply And.intro | rfl | exact Nat.le_of_ble_eq_true rfl)); done) | (simp [inR, Cont.cells]; done) | (simp [inR, Cont.cells]; omega)))
 | ((with_reducible apply If_dec) <;> intro hc <;> (try (exfalso; omega)))
 | ((with_reducible apply If_any) <;> intro hc)
 | ((with_reducible first | apply PF.mk | apply DrawP.mk); (focus kernel_rfl))
 | ((with_reducible apply Same.mk); (focus rfl); (first | exact trivial | exact rfl))
 | (intro cap hcap)
 | ((fail_if_success (with_reducible first | apply Fin.mk | apply CallP.mk | apply LoopP.mk | apply VC.mk | apply falseMk | apply Round.mk | apply LookP.mk | apply RangeP.mk | apply NextP.mk | apply EntryP.mk | apply Eq.symm)); conv => whnf))
    · repeat' (first
 | (with_reducible first | exact True.intro | apply And.intro | apply If_true | apply If_false | apply If_not)
 | ((with_reducible apply VC.mk); (first | trivial | omega | (simp only [inR]; omega) | (exact ⟨rfl, List.prefix_rfl⟩) | (refine ⟨rfl, rfl, rfl, ?_, rfl⟩; (simp; done)) | (focus (repeat' (first | exact True.intro | apply And.intro | rfl | exact Nat.le_of_ble_eq_true rfl)); done) | (simp [inR, Cont.cells]; done) | (simp [inR, Cont.cells]; omega)))
 | ((with_reducible apply If_dec) <;> intro hc <;> (try (exfalso; omega)))
 | ((with_reducible apply If_any) <;> intro hc)
 | ((with_reducible first | apply PF.mk | apply DrawP.mk); (focus kernel_rfl))
 | ((with_reducible apply Same.mk); (focus rfl); (first | exact trivial | exact rfl))
 | (intro cap hcap)
 | ((fail_if_success (with_reducible first | apply Fin.mk | apply CallP.mk | apply LoopP.mk | apply VC.mk | apply falseMk | apply Round.mk | apply LookP.mk | apply RangeP.mk | apply NextP.mk | apply EntryP.mk | apply Eq.symm)); conv => whnf))
      have hp : y.2.2.Perm (t.dirty.map (fun x => x.1)) := by
        rw [g3, ← keys_eq sl sn]
        exact List.Perm.map _ (nodup_perm g1 sn (fun b => ⟨g2 b, hall b⟩))
      refine sort_at y.2.2 y.2.1 6 (by omega) rfl ⟨rfl, trivial⟩ ?_
      intro ks hks
      have hkl : ks.length = y.2.2.length := by rw [hks]; exact List.length_mergeSort ..
      have hk1 : ks.Perm (t.dirty.map (fun x => x.1)) := by rw [hks]; exact (List.mergeSort_perm _ _).trans hp
      have hk2 : ks.Pairwise (· ≤ ·) := by
        rw [hks]
        have := List.pairwise_mergeSort (le := fun a b : Int => decide (a ≤ b)) (fun a b c h1 h2 => by simp at *; omega) (fun a b => by simp; omega) y.2.2
        simpa using this
      have hkr := hk (bldR t.dirty ks ks.length) ⟨ks, hk1, hk2, rfl⟩
      rw [← hkl]
      repeat' (first
 | (with_reducible first | exact True.intro | apply And.intro | apply If_true | apply If_false | apply If_not)
 | ((with_reducible apply VC.mk); (first | trivial | omega | (simp only [inR]; omega) | (exact ⟨rfl, List.prefix_rfl⟩) | (refine ⟨rfl, rfl, rfl, ?_, rfl⟩; (simp; done)) | (focus (repeat' (first | exact True.intro | apply And.intro | rfl | exact Nat.le_of_ble_eq_true rfl)); done) | (simp [inR, Cont.cells]; done) | (simp [inR, Cont.cells]; omega)))
 | ((with_reducible apply If_dec) <;> intro hc <;> (try (exfalso; omega)))
 | ((with_reducible apply If_any) <;> intro hc)
 | ((with_reducible first | apply PF.mk | apply DrawP.mk); (focus kernel_rfl))
 | ((with_reducible apply Same.mk); (focus rfl); (first | exact trivial | exact rfl))
 | (intro cap hcap)
 | ((fail_if_success (with_reducible first | apply Fin.mk | apply CallP.mk | apply LoopP.mk | apply VC.mk | apply falseMk | apply Round.mk | apply LookP.mk | apply RangeP.mk | apply NextP.mk | apply EntryP.mk | apply Eq.symm)); conv => whnf))
      refine LoopP.mk ⟨Nat × Nat × Nat × List RecR, fun z => z.1 ≤ ks.length ∧ z.2.2.2 = bldR t.dirty ks z.1 ∧ z.2.2.2.length ≤ z.1 ∧ (0 < z.1 → 0 < z.2.2.2.length) ∧ (z.2.2.2.getD (z.2.2.2.length - 1) (0, [])).2.length ≤ 512 * z.1, fun z => ([(0, .p 0 0 1 0), (3, .im true 1 ks.length (.ints .i64 ks)), (5, .s 5 0 2 z.2.2.2.length z.2.1), (24, .im true 1 ks.length (.ints .i64 ks)), (25, .v (.int .i64 (ks.length : Int))), (26, .v (.int .i64 (z.1 : Int)))], tpre t j s ++ [.blk 138 (.recs 2 z.2.2.2.length (rowsR z.2.2.2 z.2.2.1)) (z.2.1 * 2), .blk 5 (.ints .u8 (z.2.2.2.getD (z.2.2.2.length - 1) (0, [])).2) z.2.2.1]), fun z => ks.length - z.1, (0, 0, 0, []), ⟨Nat.zero_le _, rfl, Nat.le_refl _, fun h => absurd h (Nat.lt_irrefl _), Nat.le_refl _⟩, Fit.ren [0, 1, 2, 3, 4, 7, 8] [6] rfl rfl ⟨trivial, trivial⟩ ?_ ?_, ?_⟩
      · refine T5.leU rfl rfl rfl rfl rfl rfl rfl rfl rfl ⟨rfl, rfl, rfl, rfl, rfl⟩ ⟨?_, ?_, trivial⟩
        · exact ⟨VC.mk rfl, VC.mk rfl⟩
        · exact ⟨VC.mk rfl, VC.mk rfl⟩
      · repeat' (first
 | (with_reducible first | exact True.intro | apply And.intro | apply If_true | apply If_false | apply If_not)
 | ((with_reducible apply VC.mk); (first | trivial | omega | (simp only [inR]; omega) | (exact ⟨rfl, List.prefix_rfl⟩) | (refine ⟨rfl, rfl, rfl, ?_, rfl⟩; (simp; done)) | (focus (repeat' (first | exact True.intro | apply And.intro | rfl | exact Nat.le_of_ble_eq_true rfl)); done) | (simp [inR, Cont.cells]; done) | (simp [inR, Cont.cells]; omega)))
 | ((with_reducible apply If_dec) <;> intro hc <;> (try (exfalso; omega)))
 | ((with_reducible apply If_any) <;> intro hc)
 | ((with_reducible first | apply PF.mk | apply DrawP.mk); (focus kernel_rfl))
 | ((with_reducible apply Same.mk); (focus rfl); (first | exact trivial | exact rfl))
 | (intro cap hcap)
 | ((fail_if_success (with_reducible first | apply Fin.mk | apply CallP.mk | apply LoopP.mk | apply VC.mk | apply falseMk | apply Round.mk | apply LookP.mk | apply RangeP.mk | apply NextP.mk | apply EntryP.mk | apply Eq.symm)); conv => whnf))
        all_goals exact VC.mk ⟨rfl, by simp [List.take_of_length_le, hkl]⟩
      · intro z hz
        obtain ⟨m1, m2, m3, m4, m5⟩ := hz
        have ez : ((z.1 : Nat) : Int).toNat = z.1 := Int.toNat_natCast _
        have kll : ks.length ≤ 1073741824 := by rw [hkl, gl]; omega
        repeat' (first
 | (with_reducible first | exact True.intro | apply And.intro | apply If_true | apply If_false | apply If_not)
 | ((with_reducible apply VC.mk); (first | trivial | omega | (simp only [inR]; omega) | (exact ⟨rfl, List.prefix_rfl⟩) | (refine ⟨rfl, rfl, rfl, ?_, rfl⟩; (simp; done)) | (focus (repeat' (first | exact True.intro | apply And.intro | rfl | exact Nat.le_of_ble_eq_true rfl)); done) | (simp [inR, Cont.cells]; done) | (simp [inR, Cont.cells]; omega)))
 | ((with_reducible apply If_dec) <;> intro hc <;> (try (exfalso; omega)))
 | ((with_reducible apply If_any) <;> intro hc)
 | ((with_reducible first | apply PF.mk | apply DrawP.mk); (focus kernel_rfl))
 | ((with_reducible apply Same.mk); (focus rfl); (first | exact trivial | exact rfl))
 | (intro cap hcap)
 | ((fail_if_success (with_reducible first | apply Fin.mk | apply CallP.mk | apply LoopP.mk | apply VC.mk | apply falseMk | apply Round.mk | apply LookP.mk | apply RangeP.mk | apply NextP.mk | apply EntryP.mk | apply Eq.symm)); conv => whnf))
        · refine LookP.mk (fun v hv => ?_) (fun hn => ?_)
          rotate_left
          · exfalso
            rw [lkm_map] at hn
            have hm : ks.getD z.1 0 ∈ t.dirty.map (fun x => x.1) := by
              refine hk1.subset ?_
              rw [show ks.getD z.1 0 = ks[z.1]'(by omega) by simp [List.getD_eq_getElem?_getD, show z.1 < ks.length by omega]]
              exact List.getElem_mem _
            obtain ⟨l, hl⟩ := lkS_of_mem hm
            rw [ez, hl] at hn
            cases hn
          rw [lkm_map] at hv
          obtain ⟨x, hx, rfl⟩ : ∃ x, lkS (ks.getD ((z.1 : Nat) : Int).toNat 0) t.dirty = some x ∧ AV.arr .u8 x = v := by
            cases hq : lkS (ks.getD ((z.1 : Nat) : Int).toNat 0) t.dirty with
            | none => rw [hq] at hv; cases hv
            | some x => rw [hq] at hv; exact ⟨x, rfl, by simpa using hv⟩
          have hxl : x.length = 512 := h1.sec _ (lkS_mem hx)
          obtain ⟨n, hn⟩ : ∃ n, n = ks.getD ((z.1 : Nat) : Int).toNat 0 := ⟨_, rfl⟩
          rw [← hn] at hx ⊢
          have hnb := hkb _ (lkS_mem hx)
          dsimp only at hnb
          obtain ⟨G, hGd⟩ : ∃ G, G = rowsR z.2.2.2 z.2.2.1 := ⟨_, rfl⟩
          rw [← hGd]
          by_cases hB : 0 < (z.1 : Int) ∧ ks.getD ((z.1 : Int) - 1).toNat 0 = n - 1
          · have hlen : 0 < z.2.2.2.length := m4 (by omega)
            have hidx : 0 + ((z.2.2.2.length : Int) - 1).toNat = z.2.2.2.length - 1 := by omega
            have hG : G (0 + ((z.2.2.2.length : Int) - 1).toNat) = [.v (.int .i64 (z.2.2.2.getD (z.2.2.2.length - 1) (0, [])).1), .s 6 0 1 (z.2.2.2.getD (z.2.2.2.length - 1) (0, [])).2.length z.2.2.1] := by
              rw [hidx, hGd]; unfold rowsR; rw [if_pos (by omega)]
            have hAt : (Cont.recs 2 z.2.2.2.length G).at (0 + ((z.2.2.2.length : Int) - 1).toNat) 2 (0 + 1) = some (0 + ((z.2.2.2.length : Int) - 1).toNat < z.2.2.2.length, .s 6 0 1 (z.2.2.2.getD (z.2.2.2.length - 1) (0, [])).2.length z.2.2.1) := by
              show (match nth (G (0 + ((z.2.2.2.length : Int) - 1).toNat)) 1 with | some x => some (0 + ((z.2.2.2.length : Int) - 1).toNat < z.2.2.2.length, x) | none => none) = _
              rw [hG]; rfl
            obtain ⟨la, hla⟩ : ∃ la, la = z.2.2.2.getD (z.2.2.2.length - 1) (0, []) := ⟨_, rfl⟩
            have hbl : bldR t.dirty ks (z.1 + 1) = snocD z.2.2.2 x := by
              unfold bldR
              rw [List.range_succ, List.foldl_append, m2]
              show bldS t.dirty ks (bldR t.dirty ks z.1) z.1 = _
              unfold bldS
              rw [ez] at hn
              have h2 := hB.2
              rw [show ((z.1 : Int) - 1).toNat = z.1 - 1 by omega] at h2
              rw [if_pos ⟨by omega, by rw [← hn]; exact h2⟩, ← hn, hx]
              rfl
            have sl1 : (snocD z.2.2.2 x).length = z.2.2.2.length := by unfold snocD; rw [List.length_set]
            have sla : (snocD z.2.2.2 x).getD (z.2.2.2.length - 1) (0, []) = (la.1, la.2 ++ x) := by
              unfold snocD
              rw [List.getD_eq_getElem?_getD, List.getElem?_set_self (by omega), ← hla]; rfl
            have slo : ∀ q, q + 1 ≠ z.2.2.2.length → (snocD z.2.2.2 x).getD q (0, []) = z.2.2.2.getD q (0, []) := by
              intro q hq
              unfold snocD
              rw [List.getD_eq_getElem?_getD, List.getElem?_set_ne (by omega), List.getD_eq_getElem?_getD]
            rw [← hla] at hG hAt m5 ⊢
            repeat' (first
    | (with_reducible exact True.intro)
    | (with_reducible apply And.intro)
    | ((with_reducible apply VC.mk); (first | trivial | omega | (simp only [inR]; omega) | (exact ⟨rfl, List.prefix_rfl⟩) | (refine ⟨rfl, rfl, rfl, ?_, rfl⟩; (simp; done)) | (focus (repeat' (first | exact True.intro | apply And.intro | rfl | exact Nat.le_of_ble_eq_true rfl)); done) | (simp [inR, Cont.cells]; done) | (simp [inR, Cont.cells]; omega)))
    | (with_reducible apply If_true)
    | (with_reducible apply If_false)
    | ((with_reducible apply If_dec) <;> intro hc <;> (try (exfalso; omega)))
    | (with_reducible apply If_not)
    | ((with_reducible apply If_any) <;> intro hc)
    | ((with_reducible apply PF.mk); (focus kernel_rfl))
    | ((with_reducible apply DrawP.mk); (focus kernel_rfl))
    | ((with_reducible apply Same.mk); (focus rfl); (first | exact trivial | exact rfl))
    | (intro cap hcap)
    | (rw [hAt])
    | ((fail_if_success (with_reducible apply Fin.mk)); (fail_if_success (with_reducible apply CallP.mk)); (fail_if_success (with_reducible apply LoopP.mk)); (fail_if_success (with_reducible apply VC.mk)); (fail_if_success (with_reducible apply falseMk)); (fail_if_success (with_reducible apply Round.mk)); (fail_if_success (with_reducible apply LookP.mk)); (fail_if_success (with_reducible apply RangeP.mk)); (fail_if_success (with_reducible apply NextP.mk)); (fail_if_success (with_reducible apply EntryP.mk)); (fail_if_success (with_reducible apply Eq.symm)); conv => whnf))
            refine Round.mk ⟨(z.1 + 1, z.2.1, cap, snocD z.2.2.2 x), ⟨by show z.1 + 1 ≤ _; omega, hbl.symm, by show (snocD z.2.2.2 x).length ≤ z.1 + 1; omega, fun _ => by show 0 < (snocD z.2.2.2 x).length; omega, by
              show ((snocD z.2.2.2 x).getD ((snocD z.2.2.2 x).length - 1) (0, [])).2.length ≤ 512 * (z.1 + 1)
              rw [sl1, sla, List.length_append]; omega⟩, by show ks.length - (z.1 + 1) < ks.length - z.1; omega, Fit.ren [0, 1, 2, 3, 4, 5, 8] [] rfl rfl trivial (T5.leU rfl rfl rfl rfl rfl rfl rfl rfl rfl ⟨rfl, rfl, rfl, rfl, rfl⟩ ⟨⟨VC.mk ⟨rfl, rfl⟩, VC.mk ⟨rfl, ?_⟩, ?_⟩, ?_, trivial⟩) ?_⟩
            · show (snocD z.2.2.2 x).length ≤ _
              rw [sl1]; exact Nat.le_refl _
            · show ∀ q, q < (snocD z.2.2.2 x).length → les _ _ _ _ (rowsR (snocD z.2.2.2 x) cap q) _
              intro q hq
              by_cases hq3 : q + 1 = z.2.2.2.length
              · have hqi : q = 0 + ((z.2.2.2.length : Int) - 1).toNat := by omega
                simp only [if_pos hqi, hG]
                unfold rowsR
                rw [if_pos (by rw [sl1]; exact hq3), show q = z.2.2.2.length - 1 by omega, sla]
                exact ⟨VC.mk rfl, VC.mk ⟨rfl, rfl, rfl, by show la.2.length + (512 - Int.toNat 0) = (la.2 ++ x).length; rw [List.length_append, hxl]; rfl, rfl⟩, trivial⟩
              · have hqi : ¬ q = 0 + ((z.2.2.2.length : Int) - 1).toNat := by omega
                have e1 : rowsR (snocD z.2.2.2 x) cap q = recAV true (z.2.2.2.getD q (0, [])) := by
                  unfold rowsR; rw [if_neg (by rw [sl1]; exact hq3), slo q hq3]
                have e3 : G q = recAV true (z.2.2.2.getD q (0, [])) := by
                  rw [hGd]; unfold rowsR; rw [if_neg hq3]
                rw [e1]
                simp only [if_neg hqi]
                rw [e3]
                exact recs_les _
            · refine ⟨VC.mk ⟨rfl, Nat.mul_one _⟩, VC.mk ⟨rfl, ?_⟩⟩
              show ((snocD z.2.2.2 x).getD ((snocD z.2.2.2 x).length - 1) (0, [])).2 <+: _
              rw [sl1, sla]
              have e2 : List.take (512 - Int.toNat 0) (List.drop (Int.toNat 0) x) = x := by
                rw [show Int.toNat 0 = 0 from rfl, List.drop_zero]; exact List.take_of_length_le (by omega)
              rw [e2]
              exact List.prefix_refl _
            · repeat' (first
 | (with_reducible first | exact True.intro | apply And.intro | apply If_true | apply If_false | apply If_not)
 | ((with_reducible apply VC.mk); (first | trivial | omega | (simp only [inR]; omega) | (exact ⟨rfl, List.prefix_rfl⟩) | (refine ⟨rfl, rfl, rfl, ?_, rfl⟩; (simp; done)) | (focus (repeat' (first | exact True.intro | apply And.intro | rfl | exact Nat.le_of_ble_eq_true rfl)); done) | (simp [inR, Cont.cells]; done) | (simp [inR, Cont.cells]; omega)))
 | ((with_reducible apply If_dec) <;> intro hc <;> (try (exfalso; omega)))
 | ((with_reducible apply If_any) <;> intro hc)
 | ((with_reducible first | apply PF.mk | apply DrawP.mk); (focus kernel_rfl))
 | ((with_reducible apply Same.mk); (focus rfl); (first | exact trivial | exact rfl))
 | (intro cap hcap)
 | ((fail_if_success (with_reducible first | apply Fin.mk | apply CallP.mk | apply LoopP.mk | apply VC.mk | apply falseMk | apply Round.mk | apply LookP.mk | apply RangeP.mk | apply NextP.mk | apply EntryP.mk | apply Eq.symm)); conv => whnf))
              exact VC.mk ⟨rfl, rfl, rfl, sl1.symm, rfl⟩
          · have hbl : bldR t.dirty ks (z.1 + 1) = z.2.2.2 ++ [(n * 512, x)] := by
              unfold bldR
              rw [List.range_succ, List.foldl_append, m2]
              show bldS t.dirty ks (bldR t.dirty ks z.1) z.1 = _
              unfold bldS
              rw [ez] at hn
              rw [if_neg (by rw [← hn]; intro h; apply hB; refine ⟨by omega, ?_⟩; rw [show ((z.1 : Int) - 1).toNat = z.1 - 1 by omega]; exact h.2), ← hn, hx]
              rfl
            have lastB : (z.2.2.2 ++ [(n * 512, x)]).getD ((z.2.2.2 ++ [(n * 512, x)]).length - 1) (0, []) = (n * 512, x) := by
              rw [List.length_append, List.getD_eq_getElem?_getD, List.getElem?_append_right (by simp)]
              simp
            repeat' (first
 | (with_reducible first | exact True.intro | apply And.intro | apply If_true | apply If_false | apply If_not)
 | ((with_reducible apply VC.mk); (first | trivial | omega | (simp only [inR]; omega) | (exact ⟨rfl, List.prefix_rfl⟩) | (refine ⟨rfl, rfl, rfl, ?_, rfl⟩; (simp; done)) | (focus (repeat' (first | exact True.intro | apply And.intro | rfl | exact Nat.le_of_ble_eq_true rfl)); done) | (simp [inR, Cont.cells]; done) | (simp [inR, Cont.cells]; omega)))
 | ((with_reducible apply If_dec) <;> intro hc <;> (try (exfalso; omega)))
 | ((with_reducible apply If_any) <;> intro hc)
 | ((with_reducible first | apply PF.mk | apply DrawP.mk); (focus kernel_rfl))
 | ((with_reducible apply Same.mk); (focus rfl); (first | exact trivial | exact rfl))
 | (intro cap hcap)
 | ((fail_if_success (with_reducible first | apply Fin.mk | apply CallP.mk | apply LoopP.mk | apply VC.mk | apply falseMk | apply Round.mk | apply LookP.mk | apply RangeP.mk | apply NextP.mk | apply EntryP.mk | apply Eq.symm)); conv => whnf))
            all_goals rename_i dcap hdcap
            all_goals (
              refine Round.mk ⟨(z.1 + 1, cap, dcap, z.2.2.2 ++ [(n * 512, x)]), ⟨by show z.1 + 1 ≤ _; omega, hbl.symm, by show (z.2.2.2 ++ [(n * 512, x)]).length ≤ z.1 + 1; simp; omega, fun _ => by show 0 < (z.2.2.2 ++ [(n * 512, x)]).length; simp, by
              show ((z.2.2.2 ++ [(n * 512, x)]).getD ((z.2.2.2 ++ [(n * 512, x)]).length - 1) (0, [])).2.length ≤ 512 * (z.1 + 1)
              rw [lastB]; show x.length ≤ _; omega⟩, by show ks.length - (z.1 + 1) < ks.length - z.1; omega, Fit.ren [0, 1, 2, 3, 4, 10, 8] [6] rfl rfl ⟨trivial, trivial⟩ (T5.leU rfl rfl rfl rfl rfl rfl rfl rfl rfl ⟨rfl, rfl, rfl, rfl, rfl⟩ ⟨⟨VC.mk ⟨rfl, rfl⟩, VC.mk ⟨rfl, ?_⟩, ?_⟩, ?_, trivial⟩) ?_⟩
              · show (z.2.2.2 ++ [(n * 512, x)]).length ≤ _; simp
              · show ∀ q, q < (z.2.2.2 ++ [(n * 512, x)]).length → les _ _ _ _ (rowsR (z.2.2.2 ++ [(n * 512, x)]) dcap q) _
                intro q hq
                have hl2 : (z.2.2.2 ++ [(n * 512, x)]).length = z.2.2.2.length + 1 := by simp
                by_cases hq2 : q < z.2.2.2.length
                · have e1 : rowsR (z.2.2.2 ++ [(n * 512, x)]) dcap q = recAV true (z.2.2.2.getD q (0, [])) := by
                    unfold rowsR
                    rw [if_neg (by omega), List.getD_eq_getElem?_getD, List.getElem?_append_left hq2, ← List.getD_eq_getElem?_getD]
                  rw [e1]
                  simp only [if_pos hq2]
                  rw [hGd]
                  by_cases hq3 : q + 1 = z.2.2.2.length
                  · unfold rowsR
                    rw [if_pos hq3]
                    have eq4 : z.2.2.2.length - 1 = q := by omega
                    refine ⟨VC.mk rfl, ⟨VC.mk ⟨?_, rfl, rfl, rfl, Nat.one_pos⟩, VC.mk ⟨rfl, ?_⟩⟩, trivial⟩
                    · rw [eq4]; omega
                    · rw [eq4]; simp
                  · unfold rowsR
                    rw [if_neg hq3]
                    exact recs_les _
                · have hq4 : q = z.2.2.2.length := by omega
                  subst hq4
                  have e1 : rowsR (z.2.2.2 ++ [(n * 512, x)]) dcap z.2.2.2.length = [.v (.int .i64 (n * 512)), .s 6 0 1 x.length dcap] := by
                    unfold rowsR
                    rw [if_pos hl2.symm, List.getD_eq_getElem?_getD, List.getElem?_append_right (Nat.le_refl _)]
                    simp
                  rw [e1]
                  simp only [Nat.lt_irrefl, if_false]
                  exact ⟨VC.mk rfl, VC.mk ⟨rfl, rfl, rfl, by rw [hxl]; rfl, rfl⟩, trivial⟩
              · refine ⟨VC.mk ⟨rfl, Nat.mul_one _⟩, VC.mk ⟨rfl, ?_⟩⟩
                have e1 : (z.2.2.2 ++ [(n * 512, x)]).getD ((z.2.2.2 ++ [(n * 512, x)]).length - 1) (0, []) = (n * 512, x) := by
                  rw [List.length_append, List.getD_eq_getElem?_getD, List.getElem?_append_right (by simp)]
                  simp
                show ((z.2.2.2 ++ [(n * 512, x)]).getD ((z.2.2.2 ++ [(n * 512, x)]).length - 1) (0, [])).2 <+: _
                rw [e1]
                have e2 : List.take (512 - Int.toNat 0) (List.drop (Int.toNat 0) x) = x := by
                  rw [show Int.toNat 0 = 0 from rfl, List.drop_zero]; exact List.take_of_length_le (by omega)
                rw [e2]
                exact List.prefix_refl _
              · repeat' (first
 | (with_reducible first | exact True.intro | apply And.intro | apply If_true | apply If_false | apply If_not)
 | ((with_reducible apply VC.mk); (first | trivial | omega | (simp only [inR]; omega) | (exact ⟨rfl, List.prefix_rfl⟩) | (refine ⟨rfl, rfl, rfl, ?_, rfl⟩; (simp; done)) | (focus (repeat' (first | exact True.intro | apply And.intro | rfl | exact Nat.le_of_ble_eq_true rfl)); done) | (simp [inR, Cont.cells]; done) | (simp [inR, Cont.cells]; omega)))
 | ((with_reducible apply If_dec) <;> intro hc <;> (try (exfalso; omega)))
 | ((with_reducible apply If_any) <;> intro hc)
 | ((with_reducible first | apply PF.mk | apply DrawP.mk); (focus kernel_rfl))
 | ((with_reducible apply Same.mk); (focus rfl); (first | exact trivial | exact rfl))
 | (intro cap hcap)
 | ((fail_if_success (with_reducible first | apply Fin.mk | apply CallP.mk | apply LoopP.mk | apply VC.mk | apply falseMk | apply Round.mk | apply LookP.mk | apply RangeP.mk | apply NextP.mk | apply EntryP.mk | apply Eq.symm)); conv => whnf)))
        · rw [show z.1 = ks.length by omega] at m2
          rw [← m2] at hkr
          refine Fin.ren [0, 1, 2, 3, 4] [5, 6] (.im true 2 z.2.2.2.length (recsC true z.2.2.2)) (tpre t j s) rfl rfl ⟨trivial, trivial, trivial⟩ ?_ ⟨VC.mk ⟨?_, rfl, rfl, rfl, by decide⟩, VC.mk ⟨rfl, rfl⟩, fun q hq => ?_⟩ hkr
          · exact T5.leU (cs := []) rfl rfl rfl rfl rfl rfl rfl rfl rfl ⟨rfl, rfl, rfl, rfl, rfl⟩ trivial
          · omega
          · simp only [Nat.zero_add]
            unfold rowsR
            by_cases hq3 : q + 1 = z.2.2.2.length
            · rw [if_pos hq3]
              have eq4 : z.2.2.2.length - 1 = q := by omega
              refine ⟨VC.mk rfl, ⟨VC.mk ⟨?_, rfl, rfl, rfl, Nat.one_pos⟩, VC.mk ⟨rfl, ?_⟩⟩, trivial⟩
              · rw [eq4]; omega
              · rw [eq4]; simp
            · rw [if_neg hq3]
              exact recs_les _
theorem recsC_ren (rs : List RecR) (f : Nat → Nat) : (recsC true rs).ren f = recsC true rs := rfl
attribute [local simp] recsC_noF recsC_ren
def trecsOk (x : TR × JR × DF) : Prop := x.1.Ok ∧ x.1.dirty.length ≤ 1073741824 ∧ ∀ q ∈ x.1.dirty, 0 ≤ q.1 ∧ q.1 ≤ 1073741824
def trecsRel (x : TR × JR × DF) (r : List RecR) : Prop := RecRel x.1 r
theorem trecs_K : ConOk Go.Proofs.Try.prog 66 (Con.of (TR × JR × DF) (List RecR) (fun x => [.p 0 0 1 0]) (fun x => tpre x.1 x.2.1 x.2.2) trecsOk trecsRel (fun x r => .im true 2 r.length (recsC true r)) (fun x r => tpre (x.1) (x.2.1) (x.2.2))) := by
  refine conOk_rel (T := tab) mix Go.Proofs.Try.func66 (by decide +kernel) (by kernel_rfl) [] p66 (fun n => by rw [Go.Proofs.Try.ntmps66]; exact Nat.le_of_ble_eq_true rfl) (fun x r _ _ => T5.good (by simp [AV.noF, noFs, Cont.noF])) (fun x _ => T5.nd) ?_
  intro x k h0 hk
  exact trecs_c x.1 x.2.1 x.2.2 k h0 (fun r hr => hk r hr)
theorem trecs_at {avs : List AV} {H : List Chunk} {k : K} (t : TR) (j : JR) (s : DF) (ta tb tc td te : Nat) (h0 : t.Ok ∧ t.dirty.length ≤ 1073741824 ∧ ∀ q ∈ t.dirty, 0 ≤ q.1 ∧ q.1 ≤ 1073741824) (hn : nodupN [ta, tb, tc, td, te] = true) (ha0 : nth H ta = some (t.c0 td tb tc)) (hb0 : nth H tb = some t.c1) (hc0 : nth H tc = some t.c2) (hd0 : nth H td = some (j.blk te)) (he0 : nth H te = some s.pk) (ha : argsM H [ta, tb, tc, td, te] [.p 0 0 1 0] avs)
    (hQ : ∀ r : List RecR, (RecRel t r) → k (.im true 2 r.length (recsC true r)) (((((H.set ta (TR.c0 (t) td tb tc)).set tb (TR.c1 (t))).set tc (TR.c2 (t))).set td (JR.blk (j) te)).set te (DF.pk (s)))) : CallP Go.Proofs.Try.prog 66 avs H k :=
  CallP.mk ⟨_, trecs_K.real, Con.spec trecs_K, (t, j, s), [ta, tb, tc, td, te], ⟨h0, hn, ⟨ha0, hb0.trans (congrArg some (TR.c1_ren t _).symm), hc0, hd0, he0, trivial⟩, ha⟩, fun r hr => (numK_eq _ _).mpr (by simpa [tpre, putAll, TR.c0_ren, TR.c1_ren, TR.c2_ren, JR.blk_ren, DF.pk_ren, AV.ren, rens, Cont.ren, fren, nth] using hQ r hr)⟩
end Go.Proofs.Ytcfmlnddmpiemaa.Sx


set_option maxRecDepth 10000
namespace Go.Proofs.Ytcfmlnddmpiemaa.Sx
/-! ### A tx's records, plain: how many and how large -/
theorem encL_cons (r : RecR) (rs : List RecR) : (encL (r :: rs)).length = 12 + r.2.length + (encL rs).length := by
  show (enc1 r ++ encL rs).length = _
  rw [List.length_append, enc1_length]
theorem encL_set (x : List Int) : ∀ (acc : List RecR) (i : Nat), i < acc.length → (encL (acc.set i ((acc.getD i (0, [])).1, (acc.getD i (0, [])).2 ++ x))).length = (encL acc).length + x.length
  | [], i, h => absurd h (Nat.not_lt_zero _)
  | a :: rs, 0, h => by
    show (encL ((a.1, a.2 ++ x) :: rs)).length = _
    rw [encL_cons, encL_cons]
    show 12 + (a.2 ++ x).length + _ = _
    rw [List.length_append]
    omega
  | a :: rs, i + 1, h => by
    show (encL (a :: rs.set i ((rs.getD i (0, [])).1, (rs.getD i (0, [])).2 ++ x))).length = _
    rw [encL_cons, encL_cons, encL_set x rs i (by simpa using h)]
    omega
theorem encL_append (a b : List RecR) : (encL (a ++ b)).length = (encL a).length + (encL b).length := by
  unfold encL; rw [List.flatMap_append, List.length_append]
def RecB (B : Int) (m : Nat) (rs : List RecR) : Prop := rs.length ≤ m ∧ (encL rs).length ≤ 524 * m ∧ ∀ r ∈ rs, 0 ≤ r.1 ∧ r.1 ≤ B * 512 ∧ r.2.length ≤ 512 * m
theorem snocD_B {B : Int} {m : Nat} {rs : List RecR} (h : RecB B m rs) {x : List Int} (hx : x.length ≤ 512) : RecB B (m + 1) (snocD rs x) := by
  obtain ⟨h1, h2, h3⟩ := h
  unfold snocD
  by_cases h0 : rs.length = 0
  · have : rs = [] := List.eq_nil_of_length_eq_zero h0
    subst this
    exact ⟨Nat.zero_le _, Nat.zero_le _, fun r hr => absurd hr List.not_mem_nil⟩
  · refine ⟨by rw [List.length_set]; omega, by rw [encL_set x rs _ (by omega)]; omega, fun r hr => ?_⟩
    rcases List.mem_or_eq_of_mem_set hr with hr | rfl
    · have := h3 r hr; omega
    · have hm : rs.getD (rs.length - 1) (0, []) ∈ rs := by
        rw [show rs.getD (rs.length - 1) (0, []) = rs[rs.length - 1]'(by omega) by simp [List.getD_eq_getElem?_getD, show rs.length - 1 < rs.length by omega]]
        exact List.getElem_mem _
      have := h3 _ hm
      refine ⟨this.1, this.2.1, ?_⟩
      show ((rs.getD (rs.length - 1) (0, [])).2 ++ x).length ≤ _
      rw [List.length_append]; omega
theorem bldR_B {d : List (Int × List Int)} {ks : List Int} {B : Int} (hd : ∀ q ∈ d, q.2.length = 512) (hk : ∀ n ∈ ks, 0 ≤ n ∧ n ≤ B) : ∀ m, m ≤ ks.length → RecB B m (bldR d ks m)
  | 0, _ => ⟨Nat.le_refl _, Nat.le_refl _, fun r hr => absurd hr List.not_mem_nil⟩
  | m + 1, hm => by
    have ih := bldR_B hd hk m (by omega)
    have e : bldR d ks (m + 1) = bldS d ks (bldR d ks m) m := by
      unfold bldR; rw [List.range_succ, List.foldl_append]; rfl
    rw [e]
    have hx : ((lkS (ks.getD m 0) d).getD []).length ≤ 512 := by
      cases hq : lkS (ks.getD m 0) d with
      | none => exact Nat.zero_le _
      | some l => exact Nat.le_of_eq (hd _ (lkS_mem hq))
    have hn : 0 ≤ ks.getD m 0 ∧ ks.getD m 0 ≤ B := by
      refine hk _ ?_
      rw [show ks.getD m 0 = ks[m]'(by omega) by simp [List.getD_eq_getElem?_getD, show m < ks.length by omega]]
      exact List.getElem_mem _
    unfold bldS
    split
    · exact snocD_B ih hx
    · obtain ⟨h1, h2, h3⟩ := ih
      refine ⟨by rw [List.length_append]; simp; omega, ?_, fun r hr => ?_⟩
      · rw [encL_append, encL_cons]
        show (encL (bldR d ks m)).length + (12 + ((lkS (ks.getD m 0) d).getD []).length + 0) ≤ 524 * (m + 1)
        omega
      · rcases List.mem_append.1 hr with hr | hr
        · have := h3 r hr; omega
        · obtain rfl := List.mem_singleton.1 hr
          refine ⟨by show 0 ≤ ks.getD m 0 * 512; omega, by show ks.getD m 0 * 512 ≤ _; omega, by show ((lkS (ks.getD m 0) d).getD []).length ≤ 512 * (m + 1); omega⟩
theorem RecRel.B {t : TR} {r : List RecR} (h : RecRel t r) (ho : t.Ok) {B : Int} (hk : ∀ q ∈ t.dirty, 0 ≤ q.1 ∧ q.1 ≤ B) : RecB B t.dirty.length r := by
  obtain ⟨ks, h1, h2, rfl⟩ := h
  have hl : ks.length = t.dirty.length := by rw [h1.length_eq, List.length_map]
  rw [← hl]
  refine bldR_B ho.sec (fun n hn => ?_) _ (Nat.le_refl _)
  obtain ⟨q, hq, rfl⟩ := List.mem_map.1 (h1.subset hn)
  exact hk q hq
end Go.Proofs.Ytcfmlnddmpiemaa.Sx


set_option maxRecDepth 10000
namespace Go.Proofs.Ytcfmlnddmpiemaa.Sx
open Go.RowKit Go.Proofs.Ytcfmlnddmpiemaa.Sx.Tb
/-! ### Size -/
set_option maxHeartbeats 8000000 in
theorem tsize_c (t : TR) (j : JR) (s : DF) (k : K) (h0 : t.Ok ∧ t.dirty.length ≤ 1048576 ∧ ∀ q ∈ t.dirty, 0 ≤ q.1 ∧ q.1 ≤ 1048576) (hk : ∀ r : List RecR, RecRel t r → k (.v (.int .i64 ((encL r).length : Int))) (tpre t j s)) : evFunc tab [] [] Go.Proofs.Try.f39 [.p 0 0 1 0] (tpre t j s) k := by
  obtain ⟨h1, h2, h3⟩ := h0
  repeat' (first
 | (with_reducible first | exact True.intro | apply And.intro | apply If_true | apply If_false | apply If_not)
 | ((with_reducible apply VC.mk); (first | trivial | omega | (simp only [inR]; omega) | (exact ⟨rfl, List.prefix_rfl⟩) | (refine ⟨rfl, rfl, rfl, ?_, rfl⟩; (simp; done)) | (focus (repeat' (first | exact True.intro | apply And.intro | rfl | exact Nat.le_of_ble_eq_true rfl)); done) | (simp [inR, Cont.cells]; done) | (simp [inR, Cont.cells]; omega)))
 | ((with_reducible apply If_dec) <;> intro hc <;> (try (exfalso; omega)))
 | ((with_reducible apply If_any) <;> intro hc)
 | ((with_reducible first | apply PF.mk | apply DrawP.mk); (focus kernel_rfl))
 | ((with_reducible apply Same.mk); (focus rfl); (first | exact trivial | exact rfl))
 | (intro cap hcap)
 | ((fail_if_success (with_reducible first | apply Fin.mk | apply CallP.mk | apply LoopP.mk | apply VC.mk | apply falseMk | apply Round.mk | apply LookP.mk | apply RangeP.mk | apply NextP.mk | apply EntryP.mk | apply Eq.symm)); conv => whnf))
  refine trecs_at t j s 0 1 2 3 4 ⟨h1, by omega, fun q hq => ⟨(h3 q hq).1, by have := (h3 q hq).2; omega⟩⟩ rfl rfl rfl rfl rfl rfl ⟨rfl, trivial⟩ ?_
  intro r hr
  have hk2 := hk r hr
  obtain ⟨b1, b2, b3⟩ := hr.B h1 h3
  repeat' (first
 | (with_reducible first | exact True.intro | apply And.intro | apply If_true | apply If_false | apply If_not)
 | ((with_reducible apply VC.mk); (first | trivial | omega | (simp only [inR]; omega) | (exact ⟨rfl, List.prefix_rfl⟩) | (refine ⟨rfl, rfl, rfl, ?_, rfl⟩; (simp; done)) | (focus (repeat' (first | exact True.intro | apply And.intro | rfl | exact Nat.le_of_ble_eq_true rfl)); done) | (simp [inR, Cont.cells]; done) | (simp [inR, Cont.cells]; omega)))
 | ((with_reducible apply If_dec) <;> intro hc <;> (try (exfalso; omega)))
 | ((with_reducible apply If_any) <;> intro hc)
 | ((with_reducible first | apply PF.mk | apply DrawP.mk); (focus kernel_rfl))
 | ((with_reducible apply Same.mk); (focus rfl); (first | exact trivial | exact rfl))
 | (intro cap hcap)
 | ((fail_if_success (with_reducible first | apply Fin.mk | apply CallP.mk | apply LoopP.mk | apply VC.mk | apply falseMk | apply Round.mk | apply LookP.mk | apply RangeP.mk | apply NextP.mk | apply EntryP.mk | apply Eq.symm)); conv => whnf))
  refine enc_at r ⟨by omega, by omega, fun q hq => ?_⟩ ⟨⟨rfl, rfl, rfl, rfl, fun _ _ => rfl⟩, trivial⟩ ?_
  · have := b3 q hq
    exact ⟨this.1, by omega, by omega⟩
  intro l hl
  rw [← hl] at hk2
  repeat' (first
 | (with_reducible first | exact True.intro | apply And.intro | apply If_true | apply If_false | apply If_not)
 | ((with_reducible apply VC.mk); (first | trivial | omega | (simp only [inR]; omega) | (exact ⟨rfl, List.prefix_rfl⟩) | (refine ⟨rfl, rfl, rfl, ?_, rfl⟩; (simp; done)) | (focus (repeat' (first | exact True.intro | apply And.intro | rfl | exact Nat.le_of_ble_eq_true rfl)); done) | (simp [inR, Cont.cells]; done) | (simp [inR, Cont.cells]; omega)))
 | ((with_reducible apply If_dec) <;> intro hc <;> (try (exfalso; omega)))
 | ((with_reducible apply If_any) <;> intro hc)
 | ((with_reducible first | apply PF.mk | apply DrawP.mk); (focus kernel_rfl))
 | ((with_reducible apply Same.mk); (focus rfl); (first | exact trivial | exact rfl))
 | (intro cap hcap)
 | ((fail_if_success (with_reducible first | apply Fin.mk | apply CallP.mk | apply LoopP.mk | apply VC.mk | apply falseMk | apply Round.mk | apply LookP.mk | apply RangeP.mk | apply NextP.mk | apply EntryP.mk | apply Eq.symm)); conv => whnf))
  exact T5.fin rfl rfl rfl rfl rfl rfl hk2
def tsizeOk (x : TR × JR × DF) : Prop := x.1.Ok ∧ x.1.dirty.length ≤ 1048576 ∧ ∀ q ∈ x.1.dirty, 0 ≤ q.1 ∧ q.1 ≤ 1048576
def tsizeRel (x : TR × JR × DF) (r : List RecR) : Prop := RecRel x.1 r
theorem tsize_K : ConOk Go.Proofs.Try.prog 39 (Con.of (TR × JR × DF) (List RecR) (fun x => [.p 0 0 1 0]) (fun x => tpre x.1 x.2.1 x.2.2) tsizeOk tsizeRel (fun x r => .v (.int .i64 ((encL r).length : Int))) (fun x r => tpre (x.1) (x.2.1) (x.2.2))) := by
  refine conOk_rel (T := tab) mix Go.Proofs.Try.func39 (by decide +kernel) (by kernel_rfl) [] [] (fun n => by rw [Go.Proofs.Try.ntmps39]; exact Nat.le_of_ble_eq_true rfl) (fun x r _ _ => T5.good (by simp [AV.noF, noFs, Cont.noF])) (fun x _ => T5.nd) ?_
  intro x k h0 hk
  exact tsize_c x.1 x.2.1 x.2.2 k h0 (fun r hr => hk r hr)
theorem tsize_at {avs : List AV} {H : List Chunk} {k : K} (t : TR) (j : JR) (s : DF) (ta tb tc td te : Nat) (h0 : t.Ok ∧ t.dirty.length ≤ 1048576 ∧ ∀ q ∈ t.dirty, 0 ≤ q.1 ∧ q.1 ≤ 1048576) (hn : nodupN [ta, tb, tc, td, te] = true) (ha0 : nth H ta = some (t.c0 td tb tc)) (hb0 : nth H tb = some t.c1) (hc0 : nth H tc = some t.c2) (hd0 : nth H td = some (j.blk te)) (he0 : nth H te = some s.pk) (ha : argsM H [ta, tb, tc, td, te] [.p 0 0 1 0] avs)
    (hQ : ∀ r : List RecR, (RecRel t r) → k (.v (.int .i64 ((encL r).length : Int))) (((((H.set ta (TR.c0 (t) td tb tc)).set tb (TR.c1 (t))).set tc (TR.c2 (t))).set td (JR.blk (j) te)).set te (DF.pk (s)))) : CallP Go.Proofs.Try.prog 39 avs H k :=
  CallP.mk ⟨_, tsize_K.real, Con.spec tsize_K, (t, j, s), [ta, tb, tc, td, te], ⟨h0, hn, ⟨ha0, hb0.trans (congrArg some (TR.c1_ren t _).symm), hc0, hd0, he0, trivial⟩, ha⟩, fun r hr => (numK_eq _ _).mpr (by simpa [tpre, putAll, TR.c0_ren, TR.c1_ren, TR.c2_ren, JR.blk_ren, DF.pk_ren, AV.ren, rens, Cont.ren, fren, nth] using hQ r hr)⟩
end Go.Proofs.Ytcfmlnddmpiemaa.Sx


set_option maxRecDepth 10000
namespace Go.Proofs.Ytcfmlnddmpiemaa.Sx
/-! ### Law 27, put together, plain -/
theorem comRel_ok {j : JR} {s : DF} {rs : List RecR} {r : Int × JR × DF} {n : Int} (h : comRel j s rs r) (hs : s.Ok n) (hz : j.size ≤ 4194304) : r.2.2.Ok (n + 5000000) ∧ (r.2.1 = j ∨ r.2.1 = j.next) := by
  rcases h with ⟨_, rfl⟩ | ⟨_, _, rfl⟩ | ⟨_, hl, x, hx, h⟩
  · exact ⟨hs.mono (by omega), .inl rfl⟩
  · exact ⟨hs.mono (by omega), .inl rfl⟩
  · have hxo : x.2.Ok (n + 4194306) := by
      rw [hx]
      refine (DF.run_ok _ hs).mono ?_
      simp only [cost, FOp.size]
      omega
    rcases h with ⟨_, rfl⟩ | ⟨_, sg, hsg, y, hy, rfl⟩
    · exact ⟨hxo.mono (by omega), .inl rfl⟩
    · refine ⟨?_, .inr rfl⟩
      show y.2.Ok _
      rw [hy]
      refine (DF.run_ok _ hxo).mono ?_
      have : sg.length = 512 := by rw [hsg]; exact signL_length _ _ _
      simp only [cost, FOp.size]
      omega
end Go.Proofs.Ytcfmlnddmpiemaa.Sx


set_option maxRecDepth 10000
namespace Go.Proofs.Ytcfmlnddmpiemaa.Sx
open Go.RowKit Go.Proofs.Ytcfmlnddmpiemaa.Sx.Tb
/-! ### Commit of changes -/
theorem snocD_B8 {rs : List RecR} (h : ∀ r ∈ rs, B8 r.2) {x : List Int} (hx : B8 x) : ∀ r ∈ snocD rs x, B8 r.2 := by
  intro r hr
  unfold snocD at hr
  rcases List.mem_or_eq_of_mem_set hr with hr | rfl
  · exact h r hr
  · refine B8.append ?_ hx
    by_cases h0 : rs.length = 0
    · have : rs = [] := List.eq_nil_of_length_eq_zero h0
      subst this
      exact B8.nil
    · refine h _ ?_
      rw [show rs.getD (rs.length - 1) (0, []) = rs[rs.length - 1]'(by omega) by simp [List.getD_eq_getElem?_getD, show rs.length - 1 < rs.length by omega]]
      exact List.getElem_mem _
theorem bldR_B8 {d : List (Int × List Int)} (hd : ∀ q ∈ d, B8 q.2) (ks : List Int) : ∀ m, ∀ r ∈ bldR d ks m, B8 r.2
  | 0 => fun r hr => absurd hr List.not_mem_nil
  | m + 1 => by
    have ih := bldR_B8 hd ks m
    have e : bldR d ks (m + 1) = bldS d ks (bldR d ks m) m := by
      unfold bldR; rw [List.range_succ, List.foldl_append]; rfl
    rw [e]
    have hx : B8 ((lkS (ks.getD m 0) d).getD []) := by
      cases hq : lkS (ks.getD m 0) d with
      | none => exact B8.nil
      | some l => exact hd _ (lkS_mem hq)
    unfold bldS
    split
    · exact snocD_B8 ih hx
    · intro r hr
      rcases List.mem_append.1 hr with hr | hr
      · exact ih r hr
      · obtain rfl := List.mem_singleton.1 hr
        exact hx
theorem RecRel.B8 {t : TR} {r : List RecR} (h : RecRel t r) (hd : ∀ q ∈ t.dirty, B8 q.2) : ∀ q ∈ r, B8 q.2 := by
  obtain ⟨ks, h1, h2, rfl⟩ := h
  exact bldR_B8 hd ks _
def TR.close (t : TR) : TR := { t with over := true }
def frOps (t : TR) : List FOp := wrs t.fresh ++ if t.fresh.length = 0 then [] else [.fl]
def tcomRel (t : TR) (j : JR) (s : DF) (z : List Int) (x : Int × TR × JR × DF) : Prop :=
  t.over = true ∧ x = (6, t, j, s) ∨
  t.over = false ∧ ∃ rs, RecRel t rs ∧ (
    j.size - 512 < (encL rs).length ∧ x = (15, t, j, s) ∨
    (encL rs).length ≤ j.size - 512 ∧ ∃ y, y = s.run (frOps t) ∧ (
      y.1 ≠ 0 ∧ x = (y.1, t.close, j, y.2) ∨
      y.1 = 0 ∧ rs.length = 0 ∧ x = (0, t.close, j, y.2) ∨
      y.1 = 0 ∧ rs.length ≠ 0 ∧ ∃ q, comRel j y.2 rs q ∧ (
        q.1 ≠ 0 ∧ x = (q.1, t.close, q.2.1, q.2.2) ∨
        q.1 = 0 ∧ ∃ u, u = q.2.2.run (wrs rs ++ [.fl, .wr q.2.1.pos z, .fl]) ∧ x = (u.1, t.close, q.2.1, u.2))))
set_option maxHeartbeats 16000000 in
theorem tcommit_c (t : TR) (j : JR) (s : DF) (n : Int) (z : List Int) (k : K) (h0 : t.Ok ∧ (t.dirty.length ≤ 1048576 ∧ ∀ q ∈ t.dirty, 0 ≤ q.1 ∧ q.1 ≤ 1048576 ∧ B8 q.2) ∧ cost (wrs t.fresh) ≤ 34359738368 ∧ j.Ok ∧ s.Ok n ∧ n ≤ 34359738368 ∧ z = List.replicate 512 0) (hk : ∀ x : Int × TR × JR × DF, tcomRel t j s z x → k (.v (.int .i64 x.1)) (tpre x.2.1 x.2.2.1 x.2.2.2)) : evFunc tab [] p18 Go.Proofs.Try.f18 [.p 0 0 1 0] (tpre t j s) k := by
  obtain ⟨h1, ⟨h2, h3⟩, h4, h5, h6, h7, hz⟩ := h0
  have h2b : t.dirty.length ≤ 1073741824 ∧ ∀ q ∈ t.dirty, 0 ≤ q.1 ∧ q.1 ≤ 1073741824 := ⟨by omega, fun q hq => ⟨(h3 q hq).1, by have := (h3 q hq).2.1; omega⟩⟩
  have hcf := cost_nonneg (wrs t.fresh)
  repeat' (first
 | (with_reducible first | exact True.intro | apply And.intro | apply If_true | apply If_false | apply If_not)
 | ((with_reducible apply VC.mk); (first | trivial | omega | (simp only [inR]; omega) | (exact ⟨rfl, List.prefix_rfl⟩) | (refine ⟨rfl, rfl, rfl, ?_, rfl⟩; (simp; done)) | (focus (repeat' (first | exact True.intro | apply And.intro | rfl | exact Nat.le_of_ble_eq_true rfl)); done) | (simp [inR, Cont.cells]; done) | (simp [inR, Cont.cells]; omega)))
 | ((with_reducible apply If_dec) <;> intro hc <;> (try (exfalso; omega)))
 | ((with_reducible apply If_any) <;> intro hc)
 | ((with_reducible first | apply PF.mk | apply DrawP.mk); (focus kernel_rfl))
 | ((with_reducible apply Same.mk); (focus rfl); (first | exact trivial | exact rfl))
 | (intro cap hcap)
 | ((fail_if_success (with_reducible first | apply Fin.mk | apply CallP.mk | apply LoopP.mk | apply VC.mk | apply falseMk | apply Round.mk | apply LookP.mk | apply RangeP.mk | apply NextP.mk | apply EntryP.mk | apply Eq.symm)); conv => whnf))
  · exact T5.fin rfl rfl rfl rfl rfl rfl (hk (6, t, j, s) (.inl ⟨hc, rfl⟩))
  have hov : t.over = false := by simpa using hc
  refine trecs_at t j s 0 1 2 3 4 ⟨h1, h2b⟩ rfl rfl rfl rfl rfl rfl ⟨rfl, trivial⟩ ?_
  intro rs hr
  obtain ⟨b1, b2, b3⟩ := hr.B h1 (fun q hq => ⟨(h3 q hq).1, (h3 q hq).2.1⟩)
  have hr8 := hr.B8 (fun q hq => (h3 q hq).2.2)
  have bl : (encL rs).length ≤ 549453824 := by omega
  have bn : rs.length ≤ 1048576 := by omega
  clear b2 b1
  repeat' (first
 | (with_reducible first | exact True.intro | apply And.intro | apply If_true | apply If_false | apply If_not)
 | ((with_reducible apply VC.mk); (first | trivial | omega | (simp only [inR]; omega) | (exact ⟨rfl, List.prefix_rfl⟩) | (refine ⟨rfl, rfl, rfl, ?_, rfl⟩; (simp; done)) | (focus (repeat' (first | exact True.intro | apply And.intro | rfl | exact Nat.le_of_ble_eq_true rfl)); done) | (simp [inR, Cont.cells]; done) | (simp [inR, Cont.cells]; omega)))
 | ((with_reducible apply If_dec) <;> intro hc <;> (try (exfalso; omega)))
 | ((with_reducible apply If_any) <;> intro hc)
 | ((with_reducible first | apply PF.mk | apply DrawP.mk); (focus kernel_rfl))
 | ((with_reducible apply Same.mk); (focus rfl); (first | exact trivial | exact rfl))
 | (intro cap hcap)
 | ((fail_if_success (with_reducible first | apply Fin.mk | apply CallP.mk | apply LoopP.mk | apply VC.mk | apply falseMk | apply Round.mk | apply LookP.mk | apply RangeP.mk | apply NextP.mk | apply EntryP.mk | apply Eq.symm)); conv => whnf))
  refine enc_at rs ⟨by omega, by omega, fun q hq => ?_⟩ ⟨⟨rfl, rfl, rfl, rfl, fun _ _ => rfl⟩, trivial⟩ ?_
  · have := b3 q hq
    exact ⟨this.1, by omega, by omega⟩
  intro body hbody
  have hbl : body.length = (encL rs).length := by rw [hbody]
  repeat' (first
 | (with_reducible first | exact True.intro | apply And.intro | apply If_true | apply If_false | apply If_not)
 | ((with_reducible apply VC.mk); (first | trivial | omega | (simp only [inR]; omega) | (exact ⟨rfl, List.prefix_rfl⟩) | (refine ⟨rfl, rfl, rfl, ?_, rfl⟩; (simp; done)) | (focus (repeat' (first | exact True.intro | apply And.intro | rfl | exact Nat.le_of_ble_eq_true rfl)); done) | (simp [inR, Cont.cells]; done) | (simp [inR, Cont.cells]; omega)))
 | ((with_reducible apply If_dec) <;> intro hc <;> (try (exfalso; omega)))
 | ((with_reducible apply If_any) <;> intro hc)
 | ((with_reducible first | apply PF.mk | apply DrawP.mk); (focus kernel_rfl))
 | ((with_reducible apply Same.mk); (focus rfl); (first | exact trivial | exact rfl))
 | (intro cap hcap)
 | ((fail_if_success (with_reducible first | apply Fin.mk | apply CallP.mk | apply LoopP.mk | apply VC.mk | apply falseMk | apply Round.mk | apply LookP.mk | apply RangeP.mk | apply NextP.mk | apply EntryP.mk | apply Eq.symm)); conv => whnf))
  refine room_at j s 3 4 h5 rfl rfl rfl ⟨rfl, trivial⟩ ?_
  intro _ _
  repeat' (first
 | (with_reducible first | exact True.intro | apply And.intro | apply If_true | apply If_false | apply If_not)
 | ((with_reducible apply VC.mk); (first | trivial | omega | (simp only [inR]; omega) | (exact ⟨rfl, List.prefix_rfl⟩) | (refine ⟨rfl, rfl, rfl, ?_, rfl⟩; (simp; done)) | (focus (repeat' (first | exact True.intro | apply And.intro | rfl | exact Nat.le_of_ble_eq_true rfl)); done) | (simp [inR, Cont.cells]; done) | (simp [inR, Cont.cells]; omega)))
 | ((with_reducible apply If_dec) <;> intro hc <;> (try (exfalso; omega)))
 | ((with_reducible apply If_any) <;> intro hc)
 | ((with_reducible first | apply PF.mk | apply DrawP.mk); (focus kernel_rfl))
 | ((with_reducible apply Same.mk); (focus rfl); (first | exact trivial | exact rfl))
 | (intro cap hcap)
 | ((fail_if_success (with_reducible first | apply Fin.mk | apply CallP.mk | apply LoopP.mk | apply VC.mk | apply falseMk | apply Round.mk | apply LookP.mk | apply RangeP.mk | apply NextP.mk | apply EntryP.mk | apply Eq.symm)); conv => whnf))
  · exact T5.fin rfl rfl rfl rfl rfl rfl (hk (15, t, j, s) (.inr ⟨hov, rs, hr, .inl ⟨by omega, rfl⟩⟩))
  have hfit : (encL rs).length ≤ j.size - 512 := by omega
  clear hbody hbl
  have put : ∀ x, (∃ y, y = s.run (frOps t) ∧ (y.1 ≠ 0 ∧ x = (y.1, t.close, j, y.2) ∨ y.1 = 0 ∧ rs.length = 0 ∧ x = (0, t.close, j, y.2) ∨ y.1 = 0 ∧ rs.length ≠ 0 ∧ ∃ q, comRel j y.2 rs q ∧ (q.1 ≠ 0 ∧ x = (q.1, t.close, q.2.1, q.2.2) ∨ q.1 = 0 ∧ ∃ u, u = q.2.2.run (wrs rs ++ [.fl, .wr q.2.1.pos z, .fl]) ∧ x = (u.1, t.close, q.2.1, u.2)))) → k (.v (.int .i64 x.1)) (tpre x.2.1 x.2.2.1 x.2.2.2) := fun x hx => hk x (.inr ⟨hov, rs, hr, .inr ⟨hfit, hx⟩⟩)
  clear hk
  refine LoopP.mk ⟨Nat × DF, fun y => y.1 ≤ t.fresh.length ∧ s.run (wrs (t.fresh.take y.1)) = (0, y.2), fun y => ([(0, .p 0 0 1 0), (3, .im true 2 rs.length (recsC true rs)), (34, .s 2 0 2 t.fresh.length t.cap), (35, .v (.int .i64 t.fresh.length)), (36, .v (.int .i64 (y.1 : Int)))], tpre t.close j y.2), fun y => t.fresh.length - y.1, (0, s), ⟨Nat.zero_le _, rfl⟩, Fit.ren [0, 1, 2, 3, 4] [] rfl rfl trivial (T5.leX (t := t.close) rfl rfl rfl rfl rfl rfl rfl rfl rfl rfl trivial) ?_, ?_⟩
  · repeat' (first
 | (with_reducible first | exact True.intro | apply And.intro | apply If_true | apply If_false | apply If_not)
 | ((with_reducible apply VC.mk); (first | trivial | omega | (simp only [inR]; omega) | (exact ⟨rfl, List.prefix_rfl⟩) | (refine ⟨rfl, rfl, rfl, ?_, rfl⟩; (simp; done)) | (focus (repeat' (first | exact True.intro | apply And.intro | rfl | exact Nat.le_of_ble_eq_true rfl)); done) | (simp [inR, Cont.cells]; done) | (simp [inR, Cont.cells]; omega)))
 | ((with_reducible apply If_dec) <;> intro hc <;> (try (exfalso; omega)))
 | ((with_reducible apply If_any) <;> intro hc)
 | ((with_reducible first | apply PF.mk | apply DrawP.mk); (focus kernel_rfl))
 | ((with_reducible apply Same.mk); (focus rfl); (first | exact trivial | exact rfl))
 | (intro cap hcap)
 | ((fail_if_success (with_reducible first | apply Fin.mk | apply CallP.mk | apply LoopP.mk | apply VC.mk | apply falseMk | apply Round.mk | apply LookP.mk | apply RangeP.mk | apply NextP.mk | apply EntryP.mk | apply Eq.symm)); conv => whnf))
  intro y hy
  obtain ⟨g1, g2⟩ := hy
  have e : ((y.1 : Nat) : Int).toNat = y.1 := Int.toNat_natCast _
  have o := DF.run_ok (wrs (t.fresh.take y.1)) h6
  rw [g2] at o
  have o1 := cost_take t.fresh y.1
  have o2 : y.2.Ok (n + cost (wrs (t.fresh.take y.1))) := o
  have hce1 : t.close.fresh.length = t.fresh.length := rfl
  have hce2 : t.close.cap = t.cap := rfl
  by_cases hlt : y.1 < t.fresh.length
  · have hm : t.fresh.getD y.1 (0, []) ∈ t.fresh := by
      rw [show t.fresh.getD y.1 (0, []) = t.fresh[y.1] by simp [List.getD_eq_getElem?_getD, hlt]]; exact List.getElem_mem hlt
    have hok := h1.frs _ hm
    have hcl := h1.len
    have hsn := wrs_snoc t.fresh y.1 hlt
    repeat' (first
 | (with_reducible first | exact True.intro | apply And.intro | apply If_true | apply If_false | apply If_not)
 | ((with_reducible apply VC.mk); (first | trivial | omega | (simp only [inR]; omega) | (exact ⟨rfl, List.prefix_rfl⟩) | (refine ⟨rfl, rfl, rfl, ?_, rfl⟩; (simp; done)) | (focus (repeat' (first | exact True.intro | apply And.intro | rfl | exact Nat.le_of_ble_eq_true rfl)); done) | (simp [inR, Cont.cells]; done) | (simp [inR, Cont.cells]; omega)))
 | ((with_reducible apply If_dec) <;> intro hc <;> (try (exfalso; omega)))
 | ((with_reducible apply If_any) <;> intro hc)
 | ((with_reducible first | apply PF.mk | apply DrawP.mk); (focus kernel_rfl))
 | ((with_reducible apply Same.mk); (focus rfl); (first | exact trivial | exact rfl))
 | (intro cap hcap)
 | ((fail_if_success (with_reducible first | apply Fin.mk | apply CallP.mk | apply LoopP.mk | apply VC.mk | apply falseMk | apply Round.mk | apply LookP.mk | apply RangeP.mk | apply NextP.mk | apply EntryP.mk | apply Eq.symm)); conv => whnf))
    have hce : t.close.fresh = t.fresh := rfl
    simp only [e, Nat.zero_add, hce]
    generalize t.fresh.getD y.1 (0, []) = r at *
    refine doWr_at y.2 (n + cost (wrs (t.fresh.take y.1))) r.1 r.2 4 ⟨o2, by omega⟩ (by omega) rfl ⟨rfl, rfl, ⟨rfl, rfl, rfl⟩, trivial⟩ ?_
    have e1 : s.run (wrs (t.fresh.take (y.1 + 1))) = y.2.doOp (.wr r.1 r.2) := by rw [hsn, DF.run_good g2, DF.run1]
    obtain ⟨x, hx⟩ : ∃ x, x = y.2.doOp (.wr r.1 r.2) := ⟨_, rfl⟩
    rw [← hx] at e1
    rw [← hx]
    repeat' (first
 | (with_reducible first | exact True.intro | apply And.intro | apply If_true | apply If_false | apply If_not)
 | ((with_reducible apply VC.mk); (first | trivial | omega | (simp only [inR]; omega) | (exact ⟨rfl, List.prefix_rfl⟩) | (refine ⟨rfl, rfl, rfl, ?_, rfl⟩; (simp; done)) | (focus (repeat' (first | exact True.intro | apply And.intro | rfl | exact Nat.le_of_ble_eq_true rfl)); done) | (simp [inR, Cont.cells]; done) | (simp [inR, Cont.cells]; omega)))
 | ((with_reducible apply If_dec) <;> intro hc <;> (try (exfalso; omega)))
 | ((with_reducible apply If_any) <;> intro hc)
 | ((with_reducible first | apply PF.mk | apply DrawP.mk); (focus kernel_rfl))
 | ((with_reducible apply Same.mk); (focus rfl); (first | exact trivial | exact rfl))
 | (intro cap hcap)
 | ((fail_if_success (with_reducible first | apply Fin.mk | apply CallP.mk | apply LoopP.mk | apply VC.mk | apply falseMk | apply Round.mk | apply LookP.mk | apply RangeP.mk | apply NextP.mk | apply EntryP.mk | apply Eq.symm)); conv => whnf))
    · have e2 : s.run (frOps t) = x := by
        unfold frOps
        rw [wrs_cut t.fresh (y.1 + 1), List.append_assoc, DF.run_bad (by rw [e1]; exact hc), e1]
      exact T5.fin (t := t.close) rfl rfl rfl rfl rfl rfl (put (x.1, t.close, j, x.2) ⟨x, e2.symm, .inl ⟨hc, rfl⟩⟩)
    · refine Round.mk ⟨(y.1 + 1, x.2), ⟨by show y.1 + 1 ≤ _; omega, by rw [e1]; exact Prod.ext (Decidable.not_not.mp hc) rfl⟩, by show t.fresh.length - (y.1 + 1) < t.fresh.length - y.1; omega, Fit.ren [0, 1, 2, 3, 4] [] rfl rfl trivial (T5.leX (t := t.close) rfl rfl rfl rfl rfl rfl rfl rfl rfl rfl trivial) ?_⟩
      repeat' (first
 | (with_reducible first | exact True.intro | apply And.intro | apply If_true | apply If_false | apply If_not)
 | ((with_reducible apply VC.mk); (first | trivial | omega | (simp only [inR]; omega) | (exact ⟨rfl, List.prefix_rfl⟩) | (refine ⟨rfl, rfl, rfl, ?_, rfl⟩; (simp; done)) | (focus (repeat' (first | exact True.intro | apply And.intro | rfl | exact Nat.le_of_ble_eq_true rfl)); done) | (simp [inR, Cont.cells]; done) | (simp [inR, Cont.cells]; omega)))
 | ((with_reducible apply If_dec) <;> intro hc <;> (try (exfalso; omega)))
 | ((with_reducible apply If_any) <;> intro hc)
 | ((with_reducible first | apply PF.mk | apply DrawP.mk); (focus kernel_rfl))
 | ((with_reducible apply Same.mk); (focus rfl); (first | exact trivial | exact rfl))
 | (intro cap hcap)
 | ((fail_if_success (with_reducible first | apply Fin.mk | apply CallP.mk | apply LoopP.mk | apply VC.mk | apply falseMk | apply Round.mk | apply LookP.mk | apply RangeP.mk | apply NextP.mk | apply EntryP.mk | apply Eq.symm)); conv => whnf))
  · have e5 : t.fresh.take y.1 = t.fresh := List.take_of_length_le (by omega)
    rw [e5] at g2 o2
    have hsl : ∀ a n b, (signL a n b).length = 512 := signL_length
    repeat' (first
 | (with_reducible first | exact True.intro | apply And.intro | apply If_true | apply If_false | apply If_not)
 | ((with_reducible apply VC.mk); (first | trivial | omega | (simp only [inR]; omega) | (exact ⟨rfl, List.prefix_rfl⟩) | (refine ⟨rfl, rfl, rfl, ?_, rfl⟩; (simp; done)) | (focus (repeat' (first | exact True.intro | apply And.intro | rfl | exact Nat.le_of_ble_eq_true rfl)); done) | (simp [inR, Cont.cells]; done) | (simp [inR, Cont.cells]; omega)))
 | ((with_reducible apply If_dec) <;> intro hc <;> (try (exfalso; omega)))
 | ((with_reducible apply If_any) <;> intro hc)
 | ((with_reducible first | apply PF.mk | apply DrawP.mk); (focus kernel_rfl))
 | ((with_reducible apply Same.mk); (focus rfl); (first | exact trivial | exact rfl))
 | (intro cap hcap)
 | ((fail_if_success (with_reducible first | apply Fin.mk | apply CallP.mk | apply LoopP.mk | apply VC.mk | apply falseMk | apply Round.mk | apply LookP.mk | apply RangeP.mk | apply NextP.mk | apply EntryP.mk | apply Eq.symm)); conv => whnf))
    · refine doFl_at y.2 (n + cost (wrs t.fresh)) 4 ⟨o2, by omega⟩ rfl ⟨rfl, trivial⟩ ?_
      have e1 : s.run (frOps t) = y.2.doOp .fl := by
        unfold frOps
        rw [if_neg (by omega), DF.run_good g2, DF.run1]
      have o3 := DF.doOp_ok o2 .fl
      rw [show FOp.fl.size = 0 from rfl] at o3
      obtain ⟨x, hx⟩ : ∃ x, x = y.2.doOp .fl := ⟨_, rfl⟩
      rw [← hx] at e1 o3
      rw [← hx]
      repeat' (first
 | (with_reducible first | exact True.intro | apply And.intro | apply If_true | apply If_false | apply If_not)
 | ((with_reducible apply VC.mk); (first | trivial | omega | (simp only [inR]; omega) | (exact ⟨rfl, List.prefix_rfl⟩) | (refine ⟨rfl, rfl, rfl, ?_, rfl⟩; (simp; done)) | (focus (repeat' (first | exact True.intro | apply And.intro | rfl | exact Nat.le_of_ble_eq_true rfl)); done) | (simp [inR, Cont.cells]; done) | (simp [inR, Cont.cells]; omega)))
 | ((with_reducible apply If_dec) <;> intro hc <;> (try (exfalso; omega)))
 | ((with_reducible apply If_any) <;> intro hc)
 | ((with_reducible first | apply PF.mk | apply DrawP.mk); (focus kernel_rfl))
 | ((with_reducible apply Same.mk); (focus rfl); (first | exact trivial | exact rfl))
 | (intro cap hcap)
 | ((fail_if_success (with_reducible first | apply Fin.mk | apply CallP.mk | apply LoopP.mk | apply VC.mk | apply falseMk | apply Round.mk | apply LookP.mk | apply RangeP.mk | apply NextP.mk | apply EntryP.mk | apply Eq.symm)); conv => whnf))
      · exact T5.fin (t := t.close) rfl rfl rfl rfl rfl rfl (put (x.1, t.close, j, x.2) ⟨x, e1.symm, .inl ⟨hc, rfl⟩⟩)
      · exact T5.fin (t := t.close) rfl rfl rfl rfl rfl rfl (put (0, t.close, j, x.2) ⟨x, e1.symm, .inr (.inl ⟨Decidable.not_not.mp (by assumption), by omega, rfl⟩)⟩)
      have o4 : x.2.Ok (n + cost (wrs t.fresh) + 1) := o3.mono (by omega)
      have hx0 : (0, x.2) = s.run (frOps t) := by rw [e1]; exact Prod.ext (by simpa using Eq.symm (Decidable.not_not.mp (by assumption : ¬ x.1 ≠ 0))) rfl
      have hrl : ∀ r ∈ rs, r.2.length ≤ 1073741824 ∧ B8 r.2 := fun r hm => ⟨by have := (b3 r hm).2.2; omega, hr8 r hm⟩
      refine commit_at j x.2 (n + cost (wrs t.fresh) + 1) rs 3 4 ⟨h5, o4, by omega, by omega, by omega, hrl⟩ rfl rfl rfl ⟨rfl, ⟨rfl, rfl, rfl, rfl, fun _ _ => rfl⟩, trivial⟩ ?_
      rintro ⟨qe, qj, qs⟩ hq
      dsimp only at hq ⊢
      obtain ⟨p1, p2⟩ := comRel_ok hq o4 (by have := h5.2.2.2.1; omega)
      dsimp only at p1 p2
      have hjo : qj.Ok := by
        rcases p2 with rfl | rfl
        · exact h5
        · exact JR.next_ok h5
      repeat' (first
 | (with_reducible first | exact True.intro | apply And.intro | apply If_true | apply If_false | apply If_not)
 | ((with_reducible apply VC.mk); (first | trivial | omega | (simp only [inR]; omega) | (exact ⟨rfl, List.prefix_rfl⟩) | (refine ⟨rfl, rfl, rfl, ?_, rfl⟩; (simp; done)) | (focus (repeat' (first | exact True.intro | apply And.intro | rfl | exact Nat.le_of_ble_eq_true rfl)); done) | (simp [inR, Cont.cells]; done) | (simp [inR, Cont.cells]; omega)))
 | ((with_reducible apply If_dec) <;> intro hc <;> (try (exfalso; omega)))
 | ((with_reducible apply If_any) <;> intro hc)
 | ((with_reducible first | apply PF.mk | apply DrawP.mk); (focus kernel_rfl))
 | ((with_reducible apply Same.mk); (focus rfl); (first | exact trivial | exact rfl))
 | (intro cap hcap)
 | ((fail_if_success (with_reducible first | apply Fin.mk | apply CallP.mk | apply LoopP.mk | apply VC.mk | apply falseMk | apply Round.mk | apply LookP.mk | apply RangeP.mk | apply NextP.mk | apply EntryP.mk | apply Eq.symm)); conv => whnf))
      · exact T5.fin (t := t.close) rfl rfl rfl rfl rfl rfl (put (qe, t.close, qj, qs) ⟨(0, x.2), hx0, .inr (.inr ⟨rfl, by omega, (qe, qj, qs), hq, .inl ⟨hc, rfl⟩⟩)⟩)
      have hq0 : qe = 0 := Decidable.not_not.mp hc
      have hcw := cost_wrs_le rs
      refine apply_at qj qs (n + cost (wrs t.fresh) + 1 + 5000000) z rs 3 4 ⟨hjo, p1, by omega, by omega, fun r hm => (hrl r hm).1, by omega, hz⟩ rfl rfl rfl ⟨rfl, ⟨rfl, rfl, rfl, rfl, fun _ _ => rfl⟩, trivial⟩ ?_
      intro u hu
      repeat' (first
 | (with_reducible first | exact True.intro | apply And.intro | apply If_true | apply If_false | apply If_not)
 | ((with_reducible apply VC.mk); (first | trivial | omega | (simp only [inR]; omega) | (exact ⟨rfl, List.prefix_rfl⟩) | (refine ⟨rfl, rfl, rfl, ?_, rfl⟩; (simp; done)) | (focus (repeat' (first | exact True.intro | apply And.intro | rfl | exact Nat.le_of_ble_eq_true rfl)); done) | (simp [inR, Cont.cells]; done) | (simp [inR, Cont.cells]; omega)))
 | ((with_reducible apply If_dec) <;> intro hc <;> (try (exfalso; omega)))
 | ((with_reducible apply If_any) <;> intro hc)
 | ((with_reducible first | apply PF.mk | apply DrawP.mk); (focus kernel_rfl))
 | ((with_reducible apply Same.mk); (focus rfl); (first | exact trivial | exact rfl))
 | (intro cap hcap)
 | ((fail_if_success (with_reducible first | apply Fin.mk | apply CallP.mk | apply LoopP.mk | apply VC.mk | apply falseMk | apply Round.mk | apply LookP.mk | apply RangeP.mk | apply NextP.mk | apply EntryP.mk | apply Eq.symm)); conv => whnf))
      exact T5.fin (t := t.close) rfl rfl rfl rfl rfl rfl (put (u.1, t.close, qj, u.2) ⟨(0, x.2), hx0, .inr (.inr ⟨rfl, by omega, (qe, qj, qs), hq, .inr ⟨hq0, u, hu, rfl⟩⟩)⟩)
    · exact T5.fin (t := t.close) rfl rfl rfl rfl rfl rfl (put (0, t.close, j, y.2) ⟨(0, y.2), (by unfold frOps; rw [if_pos (by omega), List.append_nil, g2]), .inr (.inl ⟨rfl, by omega, rfl⟩)⟩)
    have hy0 : (0, y.2) = s.run (frOps t) := by unfold frOps; rw [if_pos (by omega), List.append_nil, g2]
    have hrl : ∀ r ∈ rs, r.2.length ≤ 1073741824 ∧ B8 r.2 := fun r hm => ⟨by have := (b3 r hm).2.2; omega, hr8 r hm⟩
    refine commit_at j y.2 (n + cost (wrs t.fresh)) rs 3 4 ⟨h5, o2, by omega, by omega, by omega, hrl⟩ rfl rfl rfl ⟨rfl, ⟨rfl, rfl, rfl, rfl, fun _ _ => rfl⟩, trivial⟩ ?_
    rintro ⟨qe, qj, qs⟩ hq
    dsimp only at hq ⊢
    obtain ⟨p1, p2⟩ := comRel_ok hq o2 (by have := h5.2.2.2.1; omega)
    dsimp only at p1 p2
    have hjo : qj.Ok := by
      rcases p2 with rfl | rfl
      · exact h5
      · exact JR.next_ok h5
    repeat' (first
 | (with_reducible first | exact True.intro | apply And.intro | apply If_true | apply If_false | apply If_not)
 | ((with_reducible apply VC.mk); (first | trivial | omega | (simp only [inR]; omega) | (exact ⟨rfl, List.prefix_rfl⟩) | (refine ⟨rfl, rfl, rfl, ?_, rfl⟩; (simp; done)) | (focus (repeat' (first | exact True.intro | apply And.intro | rfl | exact Nat.le_of_ble_eq_true rfl)); done) | (simp [inR, Cont.cells]; done) | (simp [inR, Cont.cells]; omega)))
 | ((with_reducible apply If_dec) <;> intro hc <;> (try (exfalso; omega)))
 | ((with_reducible apply If_any) <;> intro hc)
 | ((with_reducible first | apply PF.mk | apply DrawP.mk); (focus kernel_rfl))
 | ((with_reducible apply Same.mk); (focus rfl); (first | exact trivial | exact rfl))
 | (intro cap hcap)
 | ((fail_if_success (with_reducible first | apply Fin.mk | apply CallP.mk | apply LoopP.mk | apply VC.mk | apply falseMk | apply Round.mk | apply LookP.mk | apply RangeP.mk | apply NextP.mk | apply EntryP.mk | apply Eq.symm)); conv => whnf))
    · exact T5.fin (t := t.close) rfl rfl rfl rfl rfl rfl (put (qe, t.close, qj, qs) ⟨(0, y.2), hy0, .inr (.inr ⟨rfl, by omega, (qe, qj, qs), hq, .inl ⟨hc, rfl⟩⟩)⟩)
    have hq0 : qe = 0 := Decidable.not_not.mp hc
    have hcw := cost_wrs_le rs
    refine apply_at qj qs (n + cost (wrs t.fresh) + 5000000) z rs 3 4 ⟨hjo, p1, by omega, by omega, fun r hm => (hrl r hm).1, by omega, hz⟩ rfl rfl rfl ⟨rfl, ⟨rfl, rfl, rfl, rfl, fun _ _ => rfl⟩, trivial⟩ ?_
    intro u hu
    repeat' (first
 | (with_reducible first | exact True.intro | apply And.intro | apply If_true | apply If_false | apply If_not)
 | ((with_reducible apply VC.mk); (first | trivial | omega | (simp only [inR]; omega) | (exact ⟨rfl, List.prefix_rfl⟩) | (refine ⟨rfl, rfl, rfl, ?_, rfl⟩; (simp; done)) | (focus (repeat' (first | exact True.intro | apply And.intro | rfl | exact Nat.le_of_ble_eq_true rfl)); done) | (simp [inR, Cont.cells]; done) | (simp [inR, Cont.cells]; omega)))
 | ((with_reducible apply If_dec) <;> intro hc <;> (try (exfalso; omega)))
 | ((with_reducible apply If_any) <;> intro hc)
 | ((with_reducible first | apply PF.mk | apply DrawP.mk); (focus kernel_rfl))
 | ((with_reducible apply Same.mk); (focus rfl); (first | exact trivial | exact rfl))
 | (intro cap hcap)
 | ((fail_if_success (with_reducible first | apply Fin.mk | apply CallP.mk | apply LoopP.mk | apply VC.mk | apply falseMk | apply Round.mk | apply LookP.mk | apply RangeP.mk | apply NextP.mk | apply EntryP.mk | apply Eq.symm)); conv => whnf))
    exact T5.fin (t := t.close) rfl rfl rfl rfl rfl rfl (put (u.1, t.close, qj, u.2) ⟨(0, y.2), hy0, .inr (.inr ⟨rfl, by omega, (qe, qj, qs), hq, .inr ⟨hq0, u, hu, rfl⟩⟩)⟩)
def tcommitOk (x : TR × JR × DF × Int × List Int) : Prop := x.1.Ok ∧ (x.1.dirty.length ≤ 1048576 ∧ ∀ q ∈ x.1.dirty, 0 ≤ q.1 ∧ q.1 ≤ 1048576 ∧ B8 q.2) ∧ cost (wrs x.1.fresh) ≤ 34359738368 ∧ x.2.1.Ok ∧ x.2.2.1.Ok x.2.2.2.1 ∧ x.2.2.2.1 ≤ 34359738368 ∧ x.2.2.2.2 = List.replicate 512 0
def tcommitRel (x : TR × JR × DF × Int × List Int) (r : Int × TR × JR × DF) : Prop := tcomRel x.1 x.2.1 x.2.2.1 x.2.2.2.2 r
theorem tcommit_K : ConOk Go.Proofs.Try.prog 18 (Con.of (TR × JR × DF × Int × List Int) (Int × TR × JR × DF) (fun x => [.p 0 0 1 0]) (fun x => tpre x.1 x.2.1 x.2.2.1) tcommitOk tcommitRel (fun x r => .v (.int .i64 r.1)) (fun x r => tpre (r.2.1) (r.2.2.1) (r.2.2.2))) := by
  refine conOk_rel (T := tab) mix Go.Proofs.Try.func18 (by decide +kernel) (by kernel_rfl) [] p18 (fun n => by rw [Go.Proofs.Try.ntmps18]; exact Nat.le_of_ble_eq_true rfl) (fun x r _ _ => T5.good (by simp [AV.noF, noFs, Cont.noF])) (fun x _ => T5.nd) ?_
  intro x k h0 hk
  exact tcommit_c x.1 x.2.1 x.2.2.1 x.2.2.2.1 x.2.2.2.2 k h0 (fun r hr => hk r hr)
theorem tcommit_at {avs : List AV} {H : List Chunk} {k : K} (t : TR) (j : JR) (s : DF) (n : Int) (z : List Int) (ta tb tc td te : Nat) (h0 : t.Ok ∧ (t.dirty.length ≤ 1048576 ∧ ∀ q ∈ t.dirty, 0 ≤ q.1 ∧ q.1 ≤ 1048576 ∧ B8 q.2) ∧ cost (wrs t.fresh) ≤ 34359738368 ∧ j.Ok ∧ s.Ok n ∧ n ≤ 34359738368 ∧ z = List.replicate 512 0) (hn : nodupN [ta, tb, tc, td, te] = true) (ha0 : nth H ta = some (t.c0 td tb tc)) (hb0 : nth H tb = some t.c1) (hc0 : nth H tc = some t.c2) (hd0 : nth H td = some (j.blk te)) (he0 : nth H te = some s.pk) (ha : argsM H [ta, tb, tc, td, te] [.p 0 0 1 0] avs)
    (hQ : ∀ r : Int × TR × JR × DF, (tcomRel t j s z r) → k (.v (.int .i64 r.1)) (((((H.set ta (TR.c0 (r.2.1) td tb tc)).set tb (TR.c1 (r.2.1))).set tc (TR.c2 (r.2.1))).set td (JR.blk (r.2.2.1) te)).set te (DF.pk (r.2.2.2)))) : CallP Go.Proofs.Try.prog 18 avs H k :=
  CallP.mk ⟨_, tcommit_K.real, Con.spec tcommit_K, (t, j, s, n, z), [ta, tb, tc, td, te], ⟨h0, hn, ⟨ha0, hb0.trans (congrArg some (TR.c1_ren t _).symm), hc0, hd0, he0, trivial⟩, ha⟩, fun r hr => (numK_eq _ _).mpr (by simpa [tpre, putAll, TR.c0_ren, TR.c1_ren, TR.c2_ren, JR.blk_ren, DF.pk_ren, AV.ren, rens, Cont.ren, fren, nth] using hQ r hr)⟩
end Go.Proofs.Ytcfmlnddmpiemaa.Sx

