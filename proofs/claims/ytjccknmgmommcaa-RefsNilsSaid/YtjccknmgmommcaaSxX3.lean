import Derived.Test.YtjccknmgmommcaaSxX2
set_option linter.unusedVariables false
set_option linter.unusedSimpArgs false
set_option maxRecDepth 10000
namespace Go.Proofs.Ytjccknmgmommcaa.Sx
open Go.RowKit Go.Proofs.Ytjccknmgmommcaa.Sx.Tb
/-! ### Put -/
def TR.wr1 (t : TR) (now : List Int) (a : Nat) (xs : List Int) : TR := { t with dirty := upS ((a / 512 : Nat) : Int) (putG (t.sec now ((a / 512 : Nat) : Int)) (a % 512) xs) t.dirty }
def TR.putF : Nat → TR → List Int → Nat → List Int → TR
  | 0, t, _, _, _ => t
  | f + 1, t, now, a, p => if p.length = 0 then t else TR.putF f (t.wr1 now a (p.take (min p.length (512 - a % 512)))) now (a + min p.length (512 - a % 512)) (p.drop (min p.length (512 - a % 512)))
def TR.put (t : TR) (now : List Int) (a : Nat) (p : List Int) : TR := TR.putF p.length t now a p
theorem putF_nil (f : Nat) (t : TR) (now : List Int) (a : Nat) (p : List Int) (h : p.length = 0) : TR.putF f t now a p = t := by
  cases f with
  | zero => rfl
  | succ f => show (if _ then _ else _) = _; rw [if_pos h]
theorem upS_len {n : Int} {v : List Int} (hv : v.length = 512) : ∀ (d : List (Int × List Int)), (∀ x ∈ d, x.2.length = 512) → ∀ x ∈ upS n v d, x.2.length = 512
  | [], _, x, hx => by
    simp [upS] at hx; subst hx; exact hv
  | (a, u) :: r, h, x, hx => by
    unfold upS at hx
    split at hx
    · rcases List.mem_cons.1 hx with rfl | hx
      · exact hv
      · exact h x (List.mem_cons_of_mem _ hx)
    · rcases List.mem_cons.1 hx with rfl | hx
      · exact h _ (List.mem_cons_self ..)
      · exact upS_len hv r (fun y hy => h y (List.mem_cons_of_mem _ hy)) x hx
theorem TR.Ok.wr1 {t : TR} (h : t.Ok) (now : List Int) (a : Nat) (xs : List Int) (hx : xs.length ≤ 512 - a % 512) : (t.wr1 now a xs).Ok := by
  refine ⟨?_, h.frs, h.cap, h.len⟩
  show ∀ x ∈ upS _ _ _, _
  exact upS_len (by rw [putG_length (by rw [h.sec_length _ _ (by omega)]; omega), h.sec_length _ _ (by omega)]; omega) _ h.sec
theorem put_sec {l q : List Int} {lo K0 : Nat} (hl : l.length = 512) (hk : K0 ≤ q.length) (h1 : lo + K0 ≤ 512) : List.take 512 (List.drop (0 * 1 + 0) (List.take lo l ++ List.take (min (K0 - Int.toNat 0) (512 - lo)) (List.take (K0 - Int.toNat 0) (List.drop (Int.toNat 0) q)) ++ List.drop (lo + min (K0 - Int.toNat 0) (512 - lo)) l)) = putG l lo (q.take K0) := by
  have e0 : Int.toNat 0 = 0 := rfl
  have e1 : (q.take K0).length = K0 := by rw [List.length_take]; omega
  rw [e0, Nat.sub_zero, show min K0 (512 - lo) = K0 by omega, List.drop_zero, List.take_take, Nat.min_self, List.drop_zero, List.append_assoc]
  unfold putG
  rw [e1]
  exact List.take_of_length_le (by rw [List.length_append, List.length_append, List.length_take, List.length_drop, e1]; omega)
set_option maxHeartbeats 16000000 in
theorem tput_c (t : TR) (j : JR) (s : DF) (at_ : Int) (p : List Int) (k : K) (h0 : t.Ok ∧ s.live ∧ (inR .i64 at_ ∧ p.length ≤ 9223372036854775807) ∧ 0 ≤ s.ops ∧ s.ops ≤ 274877906944 ∧ s.now.length ≤ 4194304)
    (hk : ∀ x : Int × TR × Nat, (t.over = true ∧ x.1 = 6 ∧ x.2.1 = t ∧ x.2.2 = 0 ∨ t.over = false ∧ ¬ inB at_ p.length ∧ x.1 = 4 ∧ x.2.1 = t ∧ x.2.2 = 0 ∨ t.over = false ∧ inB at_ p.length ∧ x.1 = 0 ∧ x.2.1 = t.put s.now at_.toNat p ∧ x.2.2 ≤ p.length) → k (.v (.int .i64 x.1)) (tpre x.2.1 j (s.tick x.2.2))) : evFunc tab [] p80 Go.Proofs.Try.f80 [.p 0 0 1 0, .v (.int .i64 at_), .im false 1 p.length (.ints .u8 p)] (tpre t j s) k := by
  obtain ⟨h1, h2, h3, h4, h5, h6⟩ := h0
  have s0 : s.tick 0 = s := by unfold DF.tick; simp
  have bad : ∀ (e : Int) (H : List Chunk), (t.over = true ∧ e = 6 ∨ t.over = false ∧ ¬ inB at_ p.length ∧ e = 4) → Nat.ble 5 H.length = true → nth H 0 = some (t.c0 3 1 2) → nth H 1 = some t.c1 → nth H 2 = some t.c2 → nth H 3 = some (j.blk 4) → nth H 4 = some s.pk → Fin 5 (.v (.int .i64 e)) H k := by
    intro e H hb q3 q4 q5 q6 q7 q8
    refine T5.fin q3 q4 q5 q6 q7 q8 ?_
    have := hk (e, t, 0) (by rcases hb with ⟨a, b⟩ | ⟨a, b, c⟩; exact .inl ⟨a, b, rfl, rfl⟩; exact .inr (.inl ⟨a, b, c, rfl, rfl⟩))
    rw [show ((e, t, 0) : Int × TR × Nat).2.2 = 0 from rfl, s0] at this
    exact this
  repeat' (first
 | (with_reducible first | exact True.intro | apply And.intro | apply If_true | apply If_false | apply If_not)
 | ((with_reducible apply VC.mk); (first | trivial | omega | (simp only [inR]; omega) | (exact ⟨rfl, List.prefix_rfl⟩) | (refine ⟨rfl, rfl, rfl, ?_, rfl⟩; (simp; done)) | (focus (repeat' (first | exact True.intro | apply And.intro | rfl | exact Nat.le_of_ble_eq_true rfl)); done) | (simp [inR, Cont.cells]; done) | (simp [inR, Cont.cells]; omega)))
 | ((with_reducible apply If_dec) <;> intro hc <;> (try (exfalso; omega)))
 | ((with_reducible apply If_any) <;> intro hc)
 | ((with_reducible first | apply PF.mk | apply DrawP.mk); (focus kernel_rfl))
 | ((with_reducible apply Same.mk); (focus rfl); (first | exact trivial | exact rfl))
 | (intro cap hcap)
 | ((fail_if_success (with_reducible first | apply Fin.mk | apply CallP.mk | apply LoopP.mk | apply VC.mk | apply falseMk | apply Round.mk | apply LookP.mk | apply RangeP.mk | apply NextP.mk | apply EntryP.mk | apply Eq.symm)); conv => whnf))
  all_goals (try exact bad 6 _ (.inl ⟨by assumption, rfl⟩) rfl rfl rfl rfl rfl rfl)
  all_goals (try exact bad 4 _ (.inr ⟨by assumption, by unfold inB; omega, rfl⟩) rfl rfl rfl rfl rfl rfl)
  have hin : inB at_ p.length := by unfold inB; omega
  have hov : t.over = false := by assumption
  clear bad
  obtain ⟨A, hA⟩ : ∃ A : Nat, at_ = A := ⟨at_.toNat, by omega⟩
  subst hA
  rw [show ((A : Nat) : Int).toNat = A from Int.toNat_natCast _] at hk
  have hin2 : (A : Int) ≤ 4194304 ∧ (p.length : Int) ≤ 4194304 - A := ⟨hin.2.2.1, hin.2.2.2⟩
  refine LoopP.mk ⟨Nat × TR × Nat × List Int, fun y => y.1 ≤ p.length ∧ y.2.1.Ok ∧ y.2.1.over = t.over ∧ y.2.2.1 ≤ y.1 ∧ y.2.2.2 = p.drop y.1 ∧ ∃ f, y.2.2.2.length ≤ f ∧ TR.putF f y.2.1 s.now (A + y.1) y.2.2.2 = t.put s.now A p, fun y => ([(0, .p 0 0 1 0), (1, .v (.int .i64 ((A + y.1 : Nat) : Int))), (2, .im false 1 y.2.2.2.length (.ints .u8 y.2.2.2))], tpre y.2.1 j (s.tick y.2.2.1)), fun y => p.length - y.1, (0, t, 0, p), ⟨Nat.zero_le _, h1, rfl, Nat.le_refl _, rfl, p.length, Nat.le_refl _, rfl⟩, Fit.ren [0, 1, 2, 3, 4] [] rfl rfl trivial ?_ ?_, ?_⟩
  · show chunksLe _ [] _ _ [0, 1, 2, 3, 4] (tpre t j (s.tick 0))
    rw [s0]
    exact T5.le rfl rfl rfl rfl (Nat.le_of_ble_eq_true rfl) rfl rfl rfl rfl rfl
  · repeat' (first
 | (with_reducible first | exact True.intro | apply And.intro | apply If_true | apply If_false | apply If_not)
 | ((with_reducible apply VC.mk); (first | trivial | omega | (simp only [inR]; omega) | (exact ⟨rfl, List.prefix_rfl⟩) | (refine ⟨rfl, rfl, rfl, ?_, rfl⟩; (simp; done)) | (focus (repeat' (first | exact True.intro | apply And.intro | rfl | exact Nat.le_of_ble_eq_true rfl)); done) | (simp [inR, Cont.cells]; done) | (simp [inR, Cont.cells]; omega)))
 | ((with_reducible apply If_dec) <;> intro hc <;> (try (exfalso; omega)))
 | ((with_reducible apply If_any) <;> intro hc)
 | ((with_reducible first | apply PF.mk | apply DrawP.mk); (focus kernel_rfl))
 | ((with_reducible apply Same.mk); (focus rfl); (first | exact trivial | exact rfl))
 | (intro cap hcap)
 | ((fail_if_success (with_reducible first | apply Fin.mk | apply CallP.mk | apply LoopP.mk | apply VC.mk | apply falseMk | apply Round.mk | apply LookP.mk | apply RangeP.mk | apply NextP.mk | apply EntryP.mk | apply Eq.symm)); conv => whnf))
  · intro y hy
    obtain ⟨g1, g2, g3, g4, g5, f, g6, g7⟩ := hy
    have g8 : y.2.2.2.length = p.length - y.1 := by rw [g5, List.length_drop]
    have hop : 0 ≤ (s.tick y.2.2.1).ops ∧ (s.tick y.2.2.1).ops ≤ 549755813888 := by
      show 0 ≤ s.ops + (y.2.2.1 : Int) ∧ s.ops + (y.2.2.1 : Int) ≤ _
      omega
    repeat' (first
 | (with_reducible first | exact True.intro | apply And.intro | apply If_true | apply If_false | apply If_not)
 | ((with_reducible apply VC.mk); (first | trivial | omega | (simp only [inR]; omega) | (exact ⟨rfl, List.prefix_rfl⟩) | (refine ⟨rfl, rfl, rfl, ?_, rfl⟩; (simp; done)) | (focus (repeat' (first | exact True.intro | apply And.intro | rfl | exact Nat.le_of_ble_eq_true rfl)); done) | (simp [inR, Cont.cells]; done) | (simp [inR, Cont.cells]; omega)))
 | ((with_reducible apply If_dec) <;> intro hc <;> (try (exfalso; omega)))
 | ((with_reducible apply If_any) <;> intro hc)
 | ((with_reducible first | apply PF.mk | apply DrawP.mk); (focus kernel_rfl))
 | ((with_reducible apply Same.mk); (focus rfl); (first | exact trivial | exact rfl))
 | (intro cap hcap)
 | ((fail_if_success (with_reducible first | apply Fin.mk | apply CallP.mk | apply LoopP.mk | apply VC.mk | apply falseMk | apply Round.mk | apply LookP.mk | apply RangeP.mk | apply NextP.mk | apply EntryP.mk | apply Eq.symm)); conv => whnf))
    · refine load_at y.2.1 j (s.tick y.2.2.1) (((A + y.1 : Nat) : Int) / 512) 0 1 2 3 4 ⟨g2, h2, by omega, hop.1, hop.2, h6⟩ rfl rfl rfl rfl rfl rfl ⟨rfl, rfl, trivial⟩ ?_
      rintro ⟨l, s'⟩ ⟨r1, r2⟩
      have r3 : l = y.2.1.sec s.now (((A + y.1) / 512 : Nat) : Int) := r1
      have r1l : l.length = 512 := by rw [r3]; exact g2.sec_length _ _ (by omega)
      have r2 : ∃ m, m ≤ y.2.2.1 + 1 ∧ s' = s.tick m := by
        rcases r2 with r2 | r2
        · exact ⟨y.2.2.1, by omega, r2⟩
        · exact ⟨y.2.2.1 + 1, by omega, by
            rw [show s' = (s.tick y.2.2.1).asked from r2]
            show ({ s with ops := _ } : DF) = { s with ops := _ }
            congr 1
            show s.ops + (y.2.2.1 : Int) + 1 = s.ops + ((y.2.2.1 + 1 : Nat) : Int)
            omega⟩
      obtain ⟨m, hm, rfl⟩ := r2
      repeat' (first
 | (with_reducible first | exact True.intro | apply And.intro | apply If_true | apply If_false | apply If_not)
 | ((with_reducible apply VC.mk); (first | trivial | omega | (simp only [inR]; omega) | (exact ⟨rfl, List.prefix_rfl⟩) | (refine ⟨rfl, rfl, rfl, ?_, rfl⟩; (simp; done)) | (focus (repeat' (first | exact True.intro | apply And.intro | rfl | exact Nat.le_of_ble_eq_true rfl)); done) | (simp [inR, Cont.cells]; done) | (simp [inR, Cont.cells]; omega)))
 | ((with_reducible apply If_dec) <;> intro hc <;> (try (exfalso; omega)))
 | ((with_reducible apply If_any) <;> intro hc)
 | ((with_reducible first | apply PF.mk | apply DrawP.mk); (focus kernel_rfl))
 | ((with_reducible apply Same.mk); (focus rfl); (first | exact trivial | exact rfl))
 | (intro cap hcap)
 | ((fail_if_success (with_reducible first | apply Fin.mk | apply CallP.mk | apply LoopP.mk | apply VC.mk | apply falseMk | apply Round.mk | apply LookP.mk | apply RangeP.mk | apply NextP.mk | apply EntryP.mk | apply Eq.symm)); conv => whnf))
      simp only [cond_true, cond_false]
      obtain ⟨K0, hK⟩ : ∃ K0 : Nat, K0 = min y.2.2.2.length (512 - (A + y.1) % 512) := ⟨_, rfl⟩
      have e1 : min (y.2.2.2.length : Int) ((512 : Int) - ((A + y.1 : Nat) : Int) % 512) = (K0 : Int) := by omega
      have e2 : (((A + y.1 : Nat) : Int) % 512).toNat = (A + y.1) % 512 := by omega
      have e3 : ((K0 : Nat) : Int).toNat = K0 := Int.toNat_natCast _
      have hf : ∃ f', f = f' + 1 := ⟨f - 1, by omega⟩
      obtain ⟨f', rfl⟩ := hf
      have g9 : TR.putF f' (y.2.1.wr1 s.now (A + y.1) (y.2.2.2.take K0)) s.now (A + y.1 + K0) (y.2.2.2.drop K0) = t.put s.now A p := by
        rw [← g7, hK]
        show _ = (if _ then _ else _)
        rw [if_neg (by omega)]
      refine Round.mk ⟨(y.1 + K0, y.2.1.wr1 s.now (A + y.1) (y.2.2.2.take K0), m, y.2.2.2.drop K0), ⟨by show y.1 + K0 ≤ _; omega, g2.wr1 _ _ _ (by rw [List.length_take]; omega), g3, by show m ≤ y.1 + K0; omega, by show y.2.2.2.drop K0 = _; rw [g5, List.drop_drop], f', by show (y.2.2.2.drop K0).length ≤ _; rw [List.length_drop]; omega, by show TR.putF f' _ _ (A + (y.1 + K0)) _ = _; rw [← Nat.add_assoc]; exact g9⟩, by show p.length - (y.1 + K0) < p.length - y.1; omega, Fit.ren [0, 1, 2, 3, 4] [] rfl rfl trivial ?_ ?_⟩
      · refine T5.le rfl rfl rfl rfl (Nat.le_of_ble_eq_true rfl) rfl ?_ rfl rfl rfl
        show some (Chunk.mp _ _) = some (Chunk.mp (List.map _ (upS _ _ _)) _)
        rw [e1, e2, e3, put_sec r1l (by omega) (by omega), ← upm_map, ← r3, show ((A + y.1 : Nat) : Int) / 512 = (((A + y.1) / 512 : Nat) : Int) by omega]
      · repeat' (first
 | (with_reducible first | exact True.intro | apply And.intro | apply If_true | apply If_false | apply If_not)
 | ((with_reducible apply VC.mk); (first | trivial | omega | (simp only [inR]; omega) | (exact ⟨rfl, List.prefix_rfl⟩) | (refine ⟨rfl, rfl, rfl, ?_, rfl⟩; (simp; done)) | (focus (repeat' (first | exact True.intro | apply And.intro | rfl | exact Nat.le_of_ble_eq_true rfl)); done) | (simp [inR, Cont.cells]; done) | (simp [inR, Cont.cells]; omega)))
 | ((with_reducible apply If_dec) <;> intro hc <;> (try (exfalso; omega)))
 | ((with_reducible apply If_any) <;> intro hc)
 | ((with_reducible first | apply PF.mk | apply DrawP.mk); (focus kernel_rfl))
 | ((with_reducible apply Same.mk); (focus rfl); (first | exact trivial | exact rfl))
 | (intro cap hcap)
 | ((fail_if_success (with_reducible first | apply Fin.mk | apply CallP.mk | apply LoopP.mk | apply VC.mk | apply falseMk | apply Round.mk | apply LookP.mk | apply RangeP.mk | apply NextP.mk | apply EntryP.mk | apply Eq.symm)); conv => whnf))
        exact VC.mk ⟨rfl, by
          show _ = y.2.2.2.drop K0
          rw [e1, e3]
          exact List.take_of_length_le (by rw [List.length_drop]; exact Nat.le_refl _)⟩
    · rw [putF_nil _ _ _ _ _ (by omega)] at g7
      refine T5.fin rfl rfl rfl rfl rfl rfl ?_
      exact hk (0, y.2.1, y.2.2.1) (.inr (.inr ⟨hov, hin, rfl, g7, by show y.2.2.1 ≤ _; omega⟩))
def tputOk (x : TR × JR × DF × Int × List Int) : Prop := x.1.Ok ∧ x.2.2.1.live ∧ (inR .i64 x.2.2.2.1 ∧ x.2.2.2.2.length ≤ 9223372036854775807) ∧ 0 ≤ x.2.2.1.ops ∧ x.2.2.1.ops ≤ 274877906944 ∧ x.2.2.1.now.length ≤ 4194304
def tputRel (x : TR × JR × DF × Int × List Int) (r : Int × TR × Nat) : Prop := (x.1.over = true ∧ r.1 = 6 ∧ r.2.1 = x.1 ∧ r.2.2 = 0 ∨ x.1.over = false ∧ ¬ inB x.2.2.2.1 x.2.2.2.2.length ∧ r.1 = 4 ∧ r.2.1 = x.1 ∧ r.2.2 = 0 ∨ x.1.over = false ∧ inB x.2.2.2.1 x.2.2.2.2.length ∧ r.1 = 0 ∧ r.2.1 = x.1.put x.2.2.1.now x.2.2.2.1.toNat x.2.2.2.2 ∧ r.2.2 ≤ x.2.2.2.2.length)
theorem tput_K : ConOk Go.Proofs.Try.prog 80 (Con.of (TR × JR × DF × Int × List Int) (Int × TR × Nat) (fun x => [.p 0 0 1 0, .v (.int .i64 x.2.2.2.1), .im false 1 x.2.2.2.2.length (.ints .u8 x.2.2.2.2)]) (fun x => tpre x.1 x.2.1 x.2.2.1) tputOk tputRel (fun x r => .v (.int .i64 r.1)) (fun x r => tpre (r.2.1) (x.2.1) (x.2.2.1.tick r.2.2))) := by
  refine conOk_rel (T := tab) mix Go.Proofs.Try.func80 (by decide +kernel) (by kernel_rfl) [] p80 (fun n => by rw [Go.Proofs.Try.ntmps80]; exact Nat.le_of_ble_eq_true rfl) (fun x r _ _ => T5.good (by simp [AV.noF, noFs, Cont.noF])) (fun x _ => T5.nd) ?_
  intro x k h0 hk
  exact tput_c x.1 x.2.1 x.2.2.1 x.2.2.2.1 x.2.2.2.2 k h0 (fun r hr => hk r hr)
theorem tput_at {avs : List AV} {H : List Chunk} {k : K} (t : TR) (j : JR) (s : DF) (at_ : Int) (p : List Int) (ta tb tc td te : Nat) (h0 : t.Ok ∧ s.live ∧ (inR .i64 at_ ∧ p.length ≤ 9223372036854775807) ∧ 0 ≤ s.ops ∧ s.ops ≤ 274877906944 ∧ s.now.length ≤ 4194304) (hn : nodupN [ta, tb, tc, td, te] = true) (ha0 : nth H ta = some (t.c0 td tb tc)) (hb0 : nth H tb = some t.c1) (hc0 : nth H tc = some t.c2) (hd0 : nth H td = some (j.blk te)) (he0 : nth H te = some s.pk) (ha : argsM H [ta, tb, tc, td, te] [.p 0 0 1 0, .v (.int .i64 at_), .im false 1 p.length (.ints .u8 p)] avs)
    (hQ : ∀ r : Int × TR × Nat, ((t.over = true ∧ r.1 = 6 ∧ r.2.1 = t ∧ r.2.2 = 0 ∨ t.over = false ∧ ¬ inB at_ p.length ∧ r.1 = 4 ∧ r.2.1 = t ∧ r.2.2 = 0 ∨ t.over = false ∧ inB at_ p.length ∧ r.1 = 0 ∧ r.2.1 = t.put s.now at_.toNat p ∧ r.2.2 ≤ p.length)) → k (.v (.int .i64 r.1)) (((((H.set ta (TR.c0 (r.2.1) td tb tc)).set tb (TR.c1 (r.2.1))).set tc (TR.c2 (r.2.1))).set td (JR.blk (j) te)).set te (DF.pk (s.tick r.2.2)))) : CallP Go.Proofs.Try.prog 80 avs H k :=
  CallP.mk ⟨_, tput_K.real, Con.spec tput_K, (t, j, s, at_, p), [ta, tb, tc, td, te], ⟨h0, hn, ⟨ha0, hb0.trans (congrArg some (TR.c1_ren t _).symm), hc0, hd0, he0, trivial⟩, ha⟩, fun r hr => (numK_eq _ _).mpr (by simpa [tpre, putAll, TR.c0_ren, TR.c1_ren, TR.c2_ren, JR.blk_ren, DF.pk_ren, AV.ren, rens, Cont.ren, fren, nth] using hQ r hr)⟩
end Go.Proofs.Ytjccknmgmommcaa.Sx

