import Derived.Test.YtjccknmgmommcaaSxX1
set_option linter.unusedVariables false
set_option linter.unusedSimpArgs false
set_option maxRecDepth 10000
namespace Go.Proofs.Ytjccknmgmommcaa.Sx
open Go.RowKit Go.Proofs.Ytjccknmgmommcaa.Sx.Tb
/-! ### Get -/
theorem TR.c1_ren (t : TR) (f : Nat → Nat) : t.c1.ren f = t.c1 := by
  show Chunk.mp _ _ = Chunk.mp _ _
  congr 1
  rw [List.map_map]
  rfl
theorem TR.c0_ren (t : TR) (a b c : Nat) (f : Nat → Nat) : (t.c0 a b c).ren f = t.c0 (f a) (f b) (f c) := rfl
theorem JR.blk_ren (j : JR) (a : Nat) (f : Nat → Nat) : (j.blk a).ren f = j.blk (f a) := rfl
theorem DF.pk_ren (s : DF) (f : Nat → Nat) : s.pk.ren f = s.pk := rfl
theorem TR.c2_ren (t : TR) (f : Nat → Nat) : t.c2.ren f = t.c2 := rfl
def loadOk (x : TR × JR × DF × Int) : Prop := x.1.Ok ∧ x.2.2.1.live ∧ (0 ≤ x.2.2.2 ∧ x.2.2.2 ≤ 1073741824) ∧ 0 ≤ x.2.2.1.ops ∧ x.2.2.1.ops ≤ 549755813888 ∧ x.2.2.1.now.length ≤ 4194304
def loadRel (x : TR × JR × DF × Int) (r : List Int × DF) : Prop := r.1 = x.1.sec x.2.2.1.now x.2.2.2 ∧ (r.2 = x.2.2.1 ∨ r.2 = x.2.2.1.asked)
theorem load_K : ConOk Go.Proofs.Try.prog 118 (Con.of (TR × JR × DF × Int) (List Int × DF) (fun x => [.p 0 0 1 0, .v (.int .i64 x.2.2.2)]) (fun x => tpre x.1 x.2.1 x.2.2.1) loadOk loadRel (fun x r => .tup [.arr .u8 r.1, .v (.int .i64 0)]) (fun x r => tpre (x.1) (x.2.1) (r.2))) := by
  refine conOk_rel (T := tab) mix Go.Proofs.Try.func118 (by decide +kernel) (by kernel_rfl) [] p118 (fun n => by rw [Go.Proofs.Try.ntmps118]; exact Nat.le_of_ble_eq_true rfl) (fun x r _ _ => T5.good (by simp [AV.noF, noFs, Cont.noF])) (fun x _ => T5.nd) ?_
  intro x k h0 hk
  exact load_c x.1 x.2.1 x.2.2.1 x.2.2.2 k h0 (fun r hr => hk r hr)
theorem load_at {avs : List AV} {H : List Chunk} {k : K} (t : TR) (j : JR) (s : DF) (n : Int) (ta tb tc td te : Nat) (h0 : t.Ok ∧ s.live ∧ (0 ≤ n ∧ n ≤ 1073741824) ∧ 0 ≤ s.ops ∧ s.ops ≤ 549755813888 ∧ s.now.length ≤ 4194304) (hn : nodupN [ta, tb, tc, td, te] = true) (ha0 : nth H ta = some (t.c0 td tb tc)) (hb0 : nth H tb = some t.c1) (hc0 : nth H tc = some t.c2) (hd0 : nth H td = some (j.blk te)) (he0 : nth H te = some s.pk) (ha : argsM H [ta, tb, tc, td, te] [.p 0 0 1 0, .v (.int .i64 n)] avs)
    (hQ : ∀ r : List Int × DF, (r.1 = t.sec s.now n ∧ (r.2 = s ∨ r.2 = s.asked)) → k (.tup [.arr .u8 r.1, .v (.int .i64 0)]) (((((H.set ta (TR.c0 (t) td tb tc)).set tb (TR.c1 (t))).set tc (TR.c2 (t))).set td (JR.blk (j) te)).set te (DF.pk (r.2)))) : CallP Go.Proofs.Try.prog 118 avs H k :=
  CallP.mk ⟨_, load_K.real, Con.spec load_K, (t, j, s, n), [ta, tb, tc, td, te], ⟨h0, hn, ⟨ha0, hb0.trans (congrArg some (TR.c1_ren t _).symm), hc0, hd0, he0, trivial⟩, ha⟩, fun r hr => (numK_eq _ _).mpr (by simpa [tpre, putAll, TR.c0_ren, TR.c1_ren, TR.c2_ren, JR.blk_ren, DF.pk_ren, AV.ren, rens, Cont.ren, fren, nth] using hQ r hr)⟩
def inB (at_ n : Int) : Prop := 0 ≤ at_ ∧ 0 ≤ n ∧ at_ ≤ 4194304 ∧ n ≤ 4194304 - at_
def TR.V (t : TR) (now : List Int) (i : Nat) : Int := (t.sec now (i / 512 : Nat)).getD (i % 512) 0
def TR.rd (t : TR) (now : List Int) (at_ n : Nat) : List Int := (List.range n).map (fun i => t.V now (at_ + i))
def DF.tick (s : DF) (m : Nat) : DF := { s with ops := s.ops + m }
theorem TR.rd_length (t : TR) (now : List Int) (at_ n : Nat) : (t.rd now at_ n).length = n := by unfold TR.rd; rw [List.length_map, List.length_range]
theorem take_drop_map (l : List Int) (lo k : Nat) (h : lo + k ≤ l.length) : (l.drop lo).take k = (List.range k).map (fun i => l.getD (lo + i) 0) := by
  refine ext_getD (by rw [List.length_take, List.length_drop, List.length_map, List.length_range]; omega) (fun i hi => ?_)
  rw [List.length_take, List.length_drop] at hi
  have hk : i < k := by omega
  simp only [List.getD_eq_getElem?_getD, List.getElem?_take, if_pos hk, List.getElem?_drop, List.getElem?_map, List.getElem?_range, hk]
  simp
theorem TR.rd_step {t : TR} {now l : List Int} {at_ d k : Nat} (hl : l = t.sec now ((at_ + d) / 512 : Nat)) (hll : l.length = 512) (hk : k ≤ 512 - (at_ + d) % 512) : t.rd now at_ d ++ (l.drop ((at_ + d) % 512)).take k = t.rd now at_ (d + k) := by
  rw [take_drop_map l _ k (by omega)]
  unfold TR.rd
  rw [List.range_add, List.map_append, List.map_map]
  congr 1
  refine List.map_congr_left (fun i hi => ?_)
  rw [List.mem_range] at hi
  show l.getD _ 0 = (t.sec now ((at_ + (d + i)) / 512 : Nat)).getD ((at_ + (d + i)) % 512) 0
  have e1 : (at_ + (d + i)) / 512 = (at_ + d) / 512 := by omega
  have e2 : (at_ + (d + i)) % 512 = (at_ + d) % 512 + i := by omega
  rw [e1, e2, hl]
set_option maxHeartbeats 16000000 in
theorem tget_c (t : TR) (j : JR) (s : DF) (at_ n : Int) (k : K) (h0 : t.Ok ∧ s.live ∧ (inR .i64 at_ ∧ inR .i64 n) ∧ 0 ≤ s.ops ∧ s.ops ≤ 274877906944 ∧ s.now.length ≤ 4194304)
    (hk : ∀ x : List Int × Int × Nat, (inB at_ n ∧ x.2.1 = 0 ∧ x.1 = t.rd s.now at_.toNat n.toNat ∧ x.2.2 ≤ n.toNat ∨ ¬ inB at_ n ∧ x.2.1 = 4 ∧ x.1 = [] ∧ x.2.2 = 0) → k (.tup [.im true 1 x.1.length (.ints .u8 x.1), .v (.int .i64 x.2.1)]) (tpre t j (s.tick x.2.2))) : evFunc tab [] [] Go.Proofs.Try.f79 [.p 0 0 1 0, .v (.int .i64 at_), .v (.int .i64 n)] (tpre t j s) k := by
  obtain ⟨h1, h2, h3, h4, h5, h6⟩ := h0
  have s0 : s.tick 0 = s := by unfold DF.tick; simp
  have bad : ∀ H : List Chunk, ¬ inB at_ n → Nat.ble 5 H.length = true → nth H 0 = some (t.c0 3 1 2) → nth H 1 = some t.c1 → nth H 2 = some t.c2 → nth H 3 = some (j.blk 4) → nth H 4 = some s.pk → Fin 5 (.tup [.v (.slice none 0 0), .v (.int .i64 4)]) H k := by
    intro H hb q3 q4 q5 q6 q7 q8
    refine Fin.ren [0, 1, 2, 3, 4] [] (.tup [.im true 1 0 (.ints .u8 []), .v (.int .i64 4)]) (tpre t j s) rfl rfl trivial (T5.le rfl rfl rfl rfl (Nat.le_of_ble_eq_true q3) q4 q5 q6 q7 q8) ⟨⟨VC.mk rfl, VC.mk rfl⟩, VC.mk rfl, trivial⟩ ?_
    have := hk ([], 4, 0) (.inr ⟨hb, rfl, rfl, rfl⟩)
    rw [show (([], 4, 0) : List Int × Int × Nat).2.2 = 0 from rfl, s0] at this
    exact this
  repeat' (first
 | (with_reducible first | exact True.intro | apply And.intro | apply If_true | apply If_false | apply If_not)
 | ((with_reducible apply VC.mk); (first | trivial | omega | (simp only [inR]; omega) | (exact ⟨rfl, List.prefix_rfl⟩) | (refine ⟨rfl, rfl, rfl, ?_, rfl⟩; (simp; done)) | (focus (repeat' (first | exact True.intro | apply And.intro | rfl | exact Nat.le_of_ble_eq_true rfl)); done) | (simp [inR, Cont.cells]; done) | (simp [inR, Cont.cells]; omega)))
 | ((with_reducible apply If_dec) <;> intro hc <;> (try (exfalso; omega)))
 | ((with_reducible apply If_any) <;> intro hc)
 | ((with_reducible first | apply PF.mk | apply DrawP.mk); (focus kernel_rfl))
 | ((with_reducible apply Same.mk); (focus rfl); (first | exact trivial | exact rfl))
 | (intro cap hcap)
 | ((fail_if_success (with_reducible first | apply Fin.mk | apply CallP.mk | apply LoopP.mk | apply VC.mk | apply falseMk | apply Round.mk | apply LookP.mk | apply RangeP.mk | apply NextP.mk | apply EntryP.mk | apply Eq.symm)); conv => whnf))
  all_goals (try exact bad _ (by unfold inB; omega) rfl rfl rfl rfl rfl rfl)
  have hin : inB at_ n := by unfold inB; omega
  clear bad
  obtain ⟨A, hA⟩ : ∃ A : Nat, at_ = A := ⟨at_.toNat, by omega⟩
  obtain ⟨N, hN⟩ : ∃ N : Nat, n = N := ⟨n.toNat, by omega⟩
  subst hA hN
  rw [show ((A : Nat) : Int).toNat = A from Int.toNat_natCast _, show ((N : Nat) : Int).toNat = N from Int.toNat_natCast _] at hk
  refine LoopP.mk ⟨Nat × List Int × Nat × Nat, fun y => y.1 ≤ N ∧ y.2.1 = t.rd s.now A y.1 ∧ y.2.2.2 ≤ y.1 ∧ y.1 ≤ y.2.2.1, fun y => ([(0, .p 0 0 1 0), (1, .v (.int .i64 ((A + y.1 : Nat) : Int))), (2, .v (.int .i64 ((N - y.1 : Nat) : Int))), (8, .s 5 0 1 y.2.1.length y.2.2.1)], tpre t j (s.tick y.2.2.2) ++ [.blk 5 (.ints .u8 y.2.1) y.2.2.1]), fun y => N - y.1, (0, [], N, 0), ⟨Nat.zero_le _, rfl, Nat.le_refl _, Nat.zero_le _⟩, Fit.ren [0, 1, 2, 3, 4, 5] [] rfl rfl trivial ?_ ?_, ?_⟩
  · show chunksLe _ [] _ _ (0 :: 1 :: 2 :: 3 :: 4 :: [5]) (tpre t j (s.tick 0) ++ [.blk 5 (.ints .u8 []) N])
    rw [s0]
    exact T5.leX rfl rfl rfl rfl rfl rfl rfl rfl rfl rfl ⟨⟨VC.mk ⟨rfl, by omega⟩, VC.mk ⟨rfl, List.nil_prefix⟩⟩, trivial⟩
  · repeat' (first
 | (with_reducible first | exact True.intro | apply And.intro | apply If_true | apply If_false | apply If_not)
 | ((with_reducible apply VC.mk); (first | trivial | omega | (simp only [inR]; omega) | (exact ⟨rfl, List.prefix_rfl⟩) | (refine ⟨rfl, rfl, rfl, ?_, rfl⟩; (simp; done)) | (focus (repeat' (first | exact True.intro | apply And.intro | rfl | exact Nat.le_of_ble_eq_true rfl)); done) | (simp [inR, Cont.cells]; done) | (simp [inR, Cont.cells]; omega)))
 | ((with_reducible apply If_dec) <;> intro hc <;> (try (exfalso; omega)))
 | ((with_reducible apply If_any) <;> intro hc)
 | ((with_reducible first | apply PF.mk | apply DrawP.mk); (focus kernel_rfl))
 | ((with_reducible apply Same.mk); (focus rfl); (first | exact trivial | exact rfl))
 | (intro cap hcap)
 | ((fail_if_success (with_reducible first | apply Fin.mk | apply CallP.mk | apply LoopP.mk | apply VC.mk | apply falseMk | apply Round.mk | apply LookP.mk | apply RangeP.mk | apply NextP.mk | apply EntryP.mk | apply Eq.symm)); conv => whnf))
    all_goals skip
  · intro y hy
    obtain ⟨g1, g2, g3, g4⟩ := hy
    have g5 : y.2.1.length = y.1 := by rw [g2, TR.rd_length]
    have hop : 0 ≤ (s.tick y.2.2.2).ops ∧ (s.tick y.2.2.2).ops ≤ 549755813888 := by
      show 0 ≤ s.ops + (y.2.2.2 : Int) ∧ s.ops + (y.2.2.2 : Int) ≤ _
      unfold inB at hin
      omega
    have hin2 : (A : Int) ≤ 4194304 ∧ (N : Int) ≤ 4194304 - A := ⟨hin.2.2.1, hin.2.2.2⟩
    repeat' (first
 | (with_reducible first | exact True.intro | apply And.intro | apply If_true | apply If_false | apply If_not)
 | ((with_reducible apply VC.mk); (first | trivial | omega | (simp only [inR]; omega) | (exact ⟨rfl, List.prefix_rfl⟩) | (refine ⟨rfl, rfl, rfl, ?_, rfl⟩; (simp; done)) | (focus (repeat' (first | exact True.intro | apply And.intro | rfl | exact Nat.le_of_ble_eq_true rfl)); done) | (simp [inR, Cont.cells]; done) | (simp [inR, Cont.cells]; omega)))
 | ((with_reducible apply If_dec) <;> intro hc <;> (try (exfalso; omega)))
 | ((with_reducible apply If_any) <;> intro hc)
 | ((with_reducible first | apply PF.mk | apply DrawP.mk); (focus kernel_rfl))
 | ((with_reducible apply Same.mk); (focus rfl); (first | exact trivial | exact rfl))
 | (intro cap hcap)
 | ((fail_if_success (with_reducible first | apply Fin.mk | apply CallP.mk | apply LoopP.mk | apply VC.mk | apply falseMk | apply Round.mk | apply LookP.mk | apply RangeP.mk | apply NextP.mk | apply EntryP.mk | apply Eq.symm)); conv => whnf))
    · refine load_at t j (s.tick y.2.2.2) (((A + y.1 : Nat) : Int) / 512) 0 1 2 3 4 ⟨h1, h2, by omega, hop.1, hop.2, h6⟩ rfl rfl rfl rfl rfl rfl ⟨rfl, rfl, trivial⟩ ?_
      rintro ⟨l, s'⟩ ⟨r1, r2⟩
      have r1 : l = t.sec s.now ((A + y.1) / 512 : Nat) := r1
      have r1l : l.length = 512 := by rw [r1]; exact h1.sec_length _ _ (by omega)
      have r2 : ∃ m, m ≤ y.2.2.2 + 1 ∧ s' = s.tick m := by
        rcases r2 with r2 | r2
        · exact ⟨y.2.2.2, by omega, r2⟩
        · exact ⟨y.2.2.2 + 1, by omega, by
            rw [show s' = (s.tick y.2.2.2).asked from r2]
            show ({ s with ops := _ } : DF) = { s with ops := _ }
            congr 1
            show s.ops + (y.2.2.2 : Int) + 1 = s.ops + ((y.2.2.2 + 1 : Nat) : Int)
            omega⟩
      obtain ⟨m, hm, rfl⟩ := r2
      repeat' (first
 | (with_reducible first | exact True.intro | apply And.intro | apply If_true | apply If_false | apply If_not)
 | ((with_reducible apply VC.mk); (first | trivial | omega | (simp only [inR]; omega) | (exact ⟨rfl, List.prefix_rfl⟩) | (refine ⟨rfl, rfl, rfl, ?_, rfl⟩; (simp; done)) | (focus (repeat' (first | exact True.intro | apply And.intro | rfl | exact Nat.le_of_ble_eq_true rfl)); done) | (simp [inR, Cont.cells]; done) | (simp [inR, Cont.cells]; omega)))
 | ((with_reducible apply If_dec) <;> intro hc <;> (try (exfalso; omega)))
 | ((with_reducible apply If_any) <;> intro hc)
 | ((with_reducible first | apply PF.mk | apply DrawP.mk); (focus kernel_rfl))
 | ((with_reducible apply Same.mk); (focus rfl); (first | exact trivial | exact rfl))
 | (intro cap hcap)
 | ((fail_if_success (with_reducible first | apply Fin.mk | apply CallP.mk | apply LoopP.mk | apply VC.mk | apply falseMk | apply Round.mk | apply LookP.mk | apply RangeP.mk | apply NextP.mk | apply EntryP.mk | apply Eq.symm)); conv => whnf))
      simp only [cond_true, cond_false] at hcap ⊢
      obtain ⟨K0, hK⟩ : ∃ K0 : Nat, K0 = min (N - y.1) (512 - (A + y.1) % 512) := ⟨_, rfl⟩
      have e1 : min ((N - y.1 : Nat) : Int) ((512 : Int) - ((A + y.1 : Nat) : Int) % 512) = (K0 : Int) := by omega
      have e2 : (((A + y.1 : Nat) : Int) % 512).toNat = (A + y.1) % 512 := by omega
      have e3 : ((((A + y.1 : Nat) : Int) % 512 + (K0 : Int)).toNat - (A + y.1) % 512) = K0 := by omega
      rw [e1, e2, e3] at hcap
      have hrd := TR.rd_step (t := t) (now := s.now) (d := y.1) (k := K0) r1 r1l (by omega)
      refine Round.mk ⟨(y.1 + K0, y.2.1 ++ (l.drop ((A + y.1) % 512)).take K0, cap, m), ⟨by show y.1 + K0 ≤ N; omega, by show y.2.1 ++ _ = t.rd s.now A (y.1 + K0); rw [g2]; exact hrd, by show m ≤ y.1 + K0; omega, by show y.1 + K0 ≤ cap; omega⟩, by show N - (y.1 + K0) < N - y.1; omega, Fit.ren [0, 1, 2, 3, 4, 7] [] rfl rfl trivial ?_ ?_⟩
      · refine T5.leX rfl rfl rfl rfl rfl rfl rfl rfl rfl rfl ⟨⟨VC.mk ⟨rfl, ?_⟩, VC.mk ⟨rfl, ?_⟩⟩, trivial⟩
        · exact Nat.mul_one _
        · show y.2.1 ++ (l.drop ((A + y.1) % 512)).take K0 <+: _
          rw [e1, e2, e3]
          exact List.prefix_rfl
      · repeat' (first
 | (with_reducible first | exact True.intro | apply And.intro | apply If_true | apply If_false | apply If_not)
 | ((with_reducible apply VC.mk); (first | trivial | omega | (simp only [inR]; omega) | (exact ⟨rfl, List.prefix_rfl⟩) | (refine ⟨rfl, rfl, rfl, ?_, rfl⟩; (simp; done)) | (focus (repeat' (first | exact True.intro | apply And.intro | rfl | exact Nat.le_of_ble_eq_true rfl)); done) | (simp [inR, Cont.cells]; done) | (simp [inR, Cont.cells]; omega)))
 | ((with_reducible apply If_dec) <;> intro hc <;> (try (exfalso; omega)))
 | ((with_reducible apply If_any) <;> intro hc)
 | ((with_reducible first | apply PF.mk | apply DrawP.mk); (focus kernel_rfl))
 | ((with_reducible apply Same.mk); (focus rfl); (first | exact trivial | exact rfl))
 | (intro cap hcap)
 | ((fail_if_success (with_reducible first | apply Fin.mk | apply CallP.mk | apply LoopP.mk | apply VC.mk | apply falseMk | apply Round.mk | apply LookP.mk | apply RangeP.mk | apply NextP.mk | apply EntryP.mk | apply Eq.symm)); conv => whnf))
        exact VC.mk ⟨rfl, rfl, rfl, by
          show y.2.1.length + _ = (y.2.1 ++ (l.drop ((A + y.1) % 512)).take K0).length
          rw [e1, e2, e3, List.length_append, List.length_take, List.length_drop]
          omega, rfl⟩
    · have hyN : y.1 = N := by omega
      rw [hyN] at g2 g3
      exact Fin.ren [0, 1, 2, 3, 4] [5] (.tup [.im true 1 y.2.1.length (.ints .u8 y.2.1), .v (.int .i64 0)]) (tpre t j (s.tick y.2.2.2)) rfl rfl ⟨trivial, trivial⟩ (T5.le rfl rfl rfl rfl (Nat.le_of_ble_eq_true rfl) rfl rfl rfl rfl rfl) ⟨⟨VC.mk ⟨by omega, rfl, rfl, rfl, Nat.one_pos⟩, VC.mk ⟨rfl, by simp⟩⟩, VC.mk rfl, trivial⟩ (hk (y.2.1, 0, y.2.2.2) (.inl ⟨hin, rfl, g2, g3⟩))
def tgetOk (x : TR × JR × DF × Int × Int) : Prop := x.1.Ok ∧ x.2.2.1.live ∧ (inR .i64 x.2.2.2.1 ∧ inR .i64 x.2.2.2.2) ∧ 0 ≤ x.2.2.1.ops ∧ x.2.2.1.ops ≤ 274877906944 ∧ x.2.2.1.now.length ≤ 4194304
def tgetRel (x : TR × JR × DF × Int × Int) (r : List Int × Int × Nat) : Prop := (inB x.2.2.2.1 x.2.2.2.2 ∧ r.2.1 = 0 ∧ r.1 = x.1.rd x.2.2.1.now x.2.2.2.1.toNat x.2.2.2.2.toNat ∧ r.2.2 ≤ x.2.2.2.2.toNat ∨ ¬ inB x.2.2.2.1 x.2.2.2.2 ∧ r.2.1 = 4 ∧ r.1 = [] ∧ r.2.2 = 0)
theorem tget_K : ConOk Go.Proofs.Try.prog 79 (Con.of (TR × JR × DF × Int × Int) (List Int × Int × Nat) (fun x => [.p 0 0 1 0, .v (.int .i64 x.2.2.2.1), .v (.int .i64 x.2.2.2.2)]) (fun x => tpre x.1 x.2.1 x.2.2.1) tgetOk tgetRel (fun x r => .tup [.im true 1 r.1.length (.ints .u8 r.1), .v (.int .i64 r.2.1)]) (fun x r => tpre (x.1) (x.2.1) (x.2.2.1.tick r.2.2))) := by
  refine conOk_rel (T := tab) mix Go.Proofs.Try.func79 (by decide +kernel) (by kernel_rfl) [] [] (fun n => by rw [Go.Proofs.Try.ntmps79]; exact Nat.le_of_ble_eq_true rfl) (fun x r _ _ => T5.good (by simp [AV.noF, noFs, Cont.noF])) (fun x _ => T5.nd) ?_
  intro x k h0 hk
  exact tget_c x.1 x.2.1 x.2.2.1 x.2.2.2.1 x.2.2.2.2 k h0 (fun r hr => hk r hr)
theorem tget_at {avs : List AV} {H : List Chunk} {k : K} (t : TR) (j : JR) (s : DF) (at_ : Int) (n : Int) (ta tb tc td te : Nat) (h0 : t.Ok ∧ s.live ∧ (inR .i64 at_ ∧ inR .i64 n) ∧ 0 ≤ s.ops ∧ s.ops ≤ 274877906944 ∧ s.now.length ≤ 4194304) (hn : nodupN [ta, tb, tc, td, te] = true) (ha0 : nth H ta = some (t.c0 td tb tc)) (hb0 : nth H tb = some t.c1) (hc0 : nth H tc = some t.c2) (hd0 : nth H td = some (j.blk te)) (he0 : nth H te = some s.pk) (ha : argsM H [ta, tb, tc, td, te] [.p 0 0 1 0, .v (.int .i64 at_), .v (.int .i64 n)] avs)
    (hQ : ∀ r : List Int × Int × Nat, ((inB at_ n ∧ r.2.1 = 0 ∧ r.1 = t.rd s.now at_.toNat n.toNat ∧ r.2.2 ≤ n.toNat ∨ ¬ inB at_ n ∧ r.2.1 = 4 ∧ r.1 = [] ∧ r.2.2 = 0)) → k (.tup [.im true 1 r.1.length (.ints .u8 r.1), .v (.int .i64 r.2.1)]) (((((H.set ta (TR.c0 (t) td tb tc)).set tb (TR.c1 (t))).set tc (TR.c2 (t))).set td (JR.blk (j) te)).set te (DF.pk (s.tick r.2.2)))) : CallP Go.Proofs.Try.prog 79 avs H k :=
  CallP.mk ⟨_, tget_K.real, Con.spec tget_K, (t, j, s, at_, n), [ta, tb, tc, td, te], ⟨h0, hn, ⟨ha0, hb0.trans (congrArg some (TR.c1_ren t _).symm), hc0, hd0, he0, trivial⟩, ha⟩, fun r hr => (numK_eq _ _).mpr (by simpa [tpre, putAll, TR.c0_ren, TR.c1_ren, TR.c2_ren, JR.blk_ren, DF.pk_ren, AV.ren, rens, Cont.ren, fren, nth] using hQ r hr)⟩
end Go.Proofs.Ytjccknmgmommcaa.Sx

