/- What the Go functions of this text come to, laid by a program of this session (wip/tools/pp.py) out of the translation: for every input. -/
import Derived.Test.YtpmhlomilobgaaaPExtx0
import Derived.Test.YtpmhlomilobgaaaPExtx2
import Derived.Test.YtpmhlomilobgaaaPExtx3
import Derived.Test.YtpmhlomilobgaaaPExtx4
import Derived.Test.YtpmhlomilobgaaaPExtx5
import Derived.Test.YtpmhlomilobgaaaPExtx6
import Derived.Test.YtpmhlomilobgaaaPExtx7
namespace Go.Proofs.Ytpmhlomilobgaaa.PExt
open Go.RowKit Go.Proofs.YtpmhlomilobgaaaW.PrintWords Go.Proofs.YtpmhlomilobgaaaW.PrintLast Go.Proofs.YtpmhlomilobgaaaW.PrintMore
attribute [local go_sem] max2_int min2_int max_two min_two max_three min_three max_four min_four
set_option linter.unusedVariables false
set_option linter.unusedSimpArgs false
mutual
def fettleref03_Apart.l0 : Nat → List (S65) → Int → Option (Bool)
 | 0, _, _ => none
 | k + 1, x0, x3 => if x3 < (x0.length : Int) then (fettleref03_Apart.l1 k x0 x3 0) else (some true)
def fettleref03_Apart.l1 : Nat → List (S65) → Int → Int → Option (Bool)
 | 0, _, _, _ => none
 | k + 1, x0, x3, x4 => if x4 < x3 then (if 0 ≤ x3 then (if x3 < (x0.length : Int) then (if 0 ≤ x4 then (if x4 < (x0.length : Int) then ((fettleref03_Both.f k (([(⟨(rd_T65 x0 x3).f0, (rd_T65 x0 x3).f1⟩ : S65)] : List (S65))) (([(⟨(rd_T65 x0 x4).f0, (rd_T65 x0 x4).f1⟩ : S65)] : List (S65))) 0).bind fun t307 => (if (t307.length : Int) > 0 then (some false) else (fettleref03_Apart.l1 k x0 x3 (wrap64 (x4 + 1))))) else (none)) else (none)) else (none)) else (none)) else (fettleref03_Apart.l0 k x0 (wrap64 (x3 + 1)))
end
def fettleref03_Apart.f (k : Nat) (l0 : List (S65)) : Option (Bool) := fettleref03_Apart.l0 k l0 0
def fettleref03_Apart.T7 : Bool × List (List Nat × List Nat) := (true, [([], []), ([], []), ([0, 1], [0, 1]), ([2], [2]), ([3], [3]), ([], []), ([], []), ([5, 6], [5, 6]), ([7], [7]), ([8], [8]), ([4, 9], [4, 9]), ([10], [10]), ([11], [11])])
def fettleref03_Apart.B7 : List Nat := [0, 0, 3, 7, 15, 0, 0, 96, 224, 480, 1023, 2047, 4095]
theorem fettleref03_Apart.tab7 : rtab .any (opsOf Try.f41 7) = fettleref03_Apart.T7 := by kernel_rfl
theorem fettleref03_Apart.bits7 : waitsOk fettleref03_Apart.T7.2 fettleref03_Apart.B7 = true := by kernel_rfl
set_option maxHeartbeats 8000000 in
set_option maxRecDepth 100000 in
theorem fettleref03_Apart.calls (k : Nat) (A0 : Option Addr) (c0 : Nat) (l0 : List (S65)) (r : Bool) (w : World) (hr0 : Kd.C k65 w A0 l0.length l0) (hc0 : l0.length ≤ c0) (h : fettleref03_Apart.f k l0 = some r) :
  Calls Try.prog 41 #[.slice A0 l0.length c0] w fun e w' => e = .returned (.bool r) ∧ Below w.heap.size w w' := by
 have hu65 := Try.underlying65
 have HR0 := Aside0.mk hr0
 have HC0 := Aside0.mk hc0
 clear hr0 hc0
 have HB := Aside0.mk (Below.refl w.heap.size w)
 have H : (fettleref03_Apart.l0 k l0 0) = some r := h
 clear h
 have H' := Aside0.mk H
 clear H
 go_enter Try.func41, Try.ntmps41
 go_wp2
 go_loopg [3] k (fun kq v3 w' => ∃ (x3_1 : Int), v3 = .int .i64 x3_1 ∧ Aside0 (fettleref03_Apart.l0 kq l0 x3_1 = some r) ∧ Aside0 (kq ≤ k) ∧ Aside0 (Below w.heap.size w w'))
 case atStart => exact ⟨(0), (by first | rfl | (simp; done) | (simp [*]; done) | (simp [*, Int.tdiv_eq_ediv_of_nonneg]; done)), H', ⟨Nat.le_refl _⟩, ⟨by repeat (first | (with_reducible first | exact HB.out | apply below_alloc | apply pw_below_drewN | apply below_drew1) | exact HB.out)⟩⟩
 case round =>
  clear H'
  obtain ⟨x3_1, rfl, HA, HK1, HB⟩ := hrel
  cases gk with
  | zero => exact absurd HA.out (by simp [fettleref03_Apart.l0])
  | succ k1 =>
   have H := HA.out
   clear HA
   simp only [fettleref03_Apart.l0] at H
   by_cases c2 : x3_1 < (l0.length : Int)
   ·rw [if_pos c2] at H
    have c2b0 : decide (x3_1 < (l0.length : Int)) = true := decide_eq_true c2
    clear c2
    have H' := Aside0.mk H
    clear H
    go_wp2
    go_loopg [4] k1 (fun kq v4 w' => ∃ (x4_2 : Int), v4 = .int .i64 x4_2 ∧ Aside0 (fettleref03_Apart.l1 kq l0 x3_1 x4_2 = some r) ∧ Aside0 (kq ≤ k1) ∧ Aside0 (Below w.heap.size w w'))
    case atStart => exact ⟨(0), (by first | rfl | (simp; done) | (simp [*]; done) | (simp [*, Int.tdiv_eq_ediv_of_nonneg]; done)), H', ⟨Nat.le_refl _⟩, ⟨by repeat (first | (with_reducible first | exact HB.out | apply below_alloc | apply pw_below_drewN | apply below_drew1) | exact HB.out)⟩⟩
    case round =>
     clear H'
     try clear c2
     try clear c2b0
     try clear p2
     obtain ⟨x4_2, rfl, HA, HK2, HB⟩ := hrel
     cases gk with
     | zero => exact absurd HA.out (by simp [fettleref03_Apart.l1])
     | succ k2 =>
      have H := HA.out
      clear HA
      simp only [fettleref03_Apart.l1] at H
      by_cases c3 : x4_2 < x3_1
      ·rw [if_pos c3] at H
       have c3b0 : decide (x4_2 < x3_1) = true := decide_eq_true c3
       clear c3
       by_cases c4 : 0 ≤ x3_1
       ·rw [if_pos c4] at H
        have c4b0 : decide (0 ≤ x3_1) = true := decide_eq_true c4
        clear c4
        by_cases c5 : x3_1 < (l0.length : Int)
        ·rw [if_pos c5] at H
         have c5b0 : decide (x3_1 < (l0.length : Int)) = true := decide_eq_true c5
         clear c5
         obtain ⟨y300, hy300⟩ : ∃ y_ : List (S65), y_ = (([(⟨(rd_T65 l0 x3_1).f0, (rd_T65 l0 x3_1).f1⟩ : S65)] : List (S65))) := ⟨_, rfl⟩
         replace H : (if 0 ≤ x4_2 then (if x4_2 < (l0.length : Int) then ((fettleref03_Both.f k2 y300 (([(⟨(rd_T65 l0 x4_2).f0, (rd_T65 l0 x4_2).f1⟩ : S65)] : List (S65))) 0).bind fun t307 => (if (t307.length : Int) > 0 then (some false) else (fettleref03_Apart.l1 k2 l0 x3_1 (wrap64 (x4_2 + 1))))) else (none)) else (none)) = some r := by first | (rw [hy300]; with_reducible exact H) | (have H2_ := (Option.bind_some _ _).symm.trans H; rw [hy300]; with_reducible exact H2_) | (have H2_ := (Option.bind_some _ _).symm.trans H; with_reducible exact H2_) | with_reducible exact H | (rw [hy300]; exact H) | exact H
         have Ny300 := Aside0.mk hy300
         clear hy300
         by_cases c6 : 0 ≤ x4_2
         ·rw [if_pos c6] at H
          have c6b0 : decide (0 ≤ x4_2) = true := decide_eq_true c6
          clear c6
          by_cases c7 : x4_2 < (l0.length : Int)
          ·rw [if_pos c7] at H
           have c7b0 : decide (x4_2 < (l0.length : Int)) = true := decide_eq_true c7
           clear c7
           obtain ⟨y304, hy304⟩ : ∃ y_ : List (S65), y_ = (([(⟨(rd_T65 l0 x4_2).f0, (rd_T65 l0 x4_2).f1⟩ : S65)] : List (S65))) := ⟨_, rfl⟩
           replace H : ((fettleref03_Both.f k2 y300 y304 0).bind fun t307 => (if (t307.length : Int) > 0 then (some false) else (fettleref03_Apart.l1 k2 l0 x3_1 (wrap64 (x4_2 + 1))))) = some r := by first | (rw [hy304]; with_reducible exact H) | (have H2_ := (Option.bind_some _ _).symm.trans H; rw [hy304]; with_reducible exact H2_) | (have H2_ := (Option.bind_some _ _).symm.trans H; with_reducible exact H2_) | with_reducible exact H | (rw [hy304]; exact H) | exact H
           have Ny304 := Aside0.mk hy304
           clear hy304
           replace H := Option.bind_eq_some_iff.mp H
           obtain ⟨t307, A80, H⟩ := H
           replace H : (if (t307.length : Int) > 0 then (some false) else (fettleref03_Apart.l1 k2 l0 x3_1 (wrap64 (x4_2 + 1)))) = some r := H
           have A8 := Aside0.mk A80
           clear A80
           by_cases c9 : (t307.length : Int) > 0
           ·rw [if_pos c9] at H
            have c9b0 : decide (0 < (t307.length : Int)) = true := decide_eq_true c9
            have c9b1 : decide (0 < t307.length) = true := decide_eq_true (by omega)
            clear c9
            obtain rfl := Option.some.inj H
            try go_wp2
            have n0_ := Aside0.mk (below_drew1 HB.out)
            clear HB
            have HB := n0_
            clear n0_
            have p299 : 0 ≤ (x3_1 : Int) := of_decide_eq_true (by first | (with_reducible assumption) | assumption)
            have q299 : x3_1 < (l0.length : Int) := of_decide_eq_true (by first | (with_reducible assumption) | assumption)
            obtain ⟨ad299, e299, hx299_0, hx299_1⟩ := at_T65 HR0.out x3_1 p299 q299
            have hw299_1 := hx299_1
            have hw299_0 := hx299_0
            cases e299
            replace hx299_0 := (HB.out.cell (World.block_lt_of_cell? w _ hx299_0)).trans hx299_0
            replace hx299_1 := (HB.out.cell (World.block_lt_of_cell? w _ hx299_1)).trans hx299_1
            replace p299 := eq_true p299
            replace q299 := eq_true q299
            have p303 : 0 ≤ (x4_2 : Int) := of_decide_eq_true (by first | (with_reducible assumption) | assumption)
            have q303 : x4_2 < (l0.length : Int) := of_decide_eq_true (by first | (with_reducible assumption) | assumption)
            obtain ⟨ad303, e303, hx303_0, hx303_1⟩ := at_T65 HR0.out x4_2 p303 q303
            have hw303_1 := hx303_1
            have hw303_0 := hx303_0
            obtain rfl : ad299 = ad303 := (by injection e303)
            replace hx303_0 := (HB.out.cell (World.block_lt_of_cell? w _ hx303_0)).trans hx303_0
            replace hx303_1 := (HB.out.cell (World.block_lt_of_cell? w _ hx303_1)).trans hx303_1
            replace p303 := eq_true p303
            replace q303 := eq_true q303
            refine start_ (n := 13) (S := fun w' => True) (ds := []) #[false, false, false, false, false, false, false, false, false, false, false, false, false] (by kernel_rfl) rfl rfl trivial (fun hHeld => ?_); refine with_tabW fettleref03_Apart.tab7 fettleref03_Apart.bits7 (fun HT_ HW_ => ?_)
            generalize wr.drew = w10 at HB hx299_0 hx299_1 hx303_0 hx303_1 hHeld ⊢
            refine pure_ (i := 0) (N := some 16) (v := ?_) (a' := ?_) #[true, false, false, false, false, false, false, false, false, false, false, false, false] rfl rfl (any_of HT_.out (by kernel_rfl)) (fun _ _ _ h => h) (Or.inl ⟨by rfl, ?_⟩) ?_ ?_
            rotate_left
            ·intro w'
             go_simp
             with_reducible rfl
            rotate_left
            ·simp only [Act.put, List.setIfInBounds_toArray, List.set_cons_zero, List.set_cons_succ, i64_w, i32_w]
             rfl
            refine pure_ (i := 1) (N := some 17) (v := ?_) (a' := ?_) #[true, true, false, false, false, false, false, false, false, false, false, false, false] rfl rfl (any_of HT_.out (by kernel_rfl)) (fun _ _ _ h => h) (Or.inl ⟨by rfl, ?_⟩) ?_ ?_
            rotate_left
            ·intro w'
             go_simp
             with_reducible rfl
            rotate_left
            ·simp only [Act.put, List.setIfInBounds_toArray, List.set_cons_zero, List.set_cons_succ, i64_w, i32_w]
             rfl
            refine pure_ (i := 5) (N := some 21) (v := ?_) (a' := ?_) #[true, true, false, false, false, true, false, false, false, false, false, false, false] rfl rfl (any_of HT_.out (by kernel_rfl)) (fun _ _ _ h => h) (Or.inl ⟨by rfl, ?_⟩) ?_ ?_
            rotate_left
            ·intro w'
             go_simp
             with_reducible rfl
            rotate_left
            ·simp only [Act.put, List.setIfInBounds_toArray, List.set_cons_zero, List.set_cons_succ, i64_w, i32_w]
             rfl
            refine pure_ (i := 6) (N := some 22) (v := ?_) (a' := ?_) #[true, true, false, false, false, true, true, false, false, false, false, false, false] rfl rfl (any_of HT_.out (by kernel_rfl)) (fun _ _ _ h => h) (Or.inl ⟨by rfl, ?_⟩) ?_ ?_
            rotate_left
            ·intro w'
             go_simp
             with_reducible rfl
            rotate_left
            ·simp only [Act.put, List.setIfInBounds_toArray, List.set_cons_zero, List.set_cons_succ, i64_w, i32_w]
             rfl
            refine inv_at [2, 3, 4, 7, 8, 9, 10, 11, 12] (fun a0_ b a w' => ∃ (v301 : Value) (v305 : Value) (v308 : Value), a = putSel a0_ b [(2, 18, .pointer (some (ad299.add ((x3_1).toNat * 2)))), (3, 19, .agg #[.int .i64 ((rd_T65 l0 x3_1).f0), .int .i64 ((rd_T65 l0 x3_1).f1)]), (4, 20, v301), (7, 23, .pointer (some (ad299.add ((x4_2).toNat * 2)))), (8, 24, .agg #[.int .i64 ((rd_T65 l0 x4_2).f0), .int .i64 ((rd_T65 l0 x4_2).f1)]), (9, 25, v305), (10, 26, v308), (11, 27, .int .i64 (t307.length : Int)), (12, 28, .bool (decide ((t307.length : Int) > 0)))] ∧ (Below w.heap.size w w') ∧ (b 4 = true → Kd.R k65 65 w' w.heap.size (fun _ => True) v301 y300) ∧ (b 9 = true → Kd.R k65 65 w' w.heap.size (fun _ => True) v305 y304) ∧ (b 10 = true → Kd.R k65 65 w' w.heap.size (fun _ => True) v308 t307)) HT_.out HW_.out (by kernel_rfl) (by kernel_rfl) ?_ ?_ ?_
            ·exact ⟨.bool false, .bool false, .bool false, by simp only [putSel, Bool.false_eq_true, if_false], HB.out, fun h_ => absurd h_ (by decide), fun h_ => absurd h_ (by decide), fun h_ => absurd h_ (by decide)⟩
            ·skip
             clear HB
             refine steps_cons ?_ ?_
             ·rintro b a w' ⟨v301, v305, v308, ha, Q_HB, Q_HO302, Q_HO306, Q_HO309⟩ hb_ hon hoff
              refine ⟨_, rfl, fun K hK => ?_⟩
              have e16 : a.tmps[16]? = some (.slice (some ad299) l0.length c0) := by rw [ha]; exact (putSel_off rfl).trans rfl
              have e17 : a.tmps[17]? = some (.int .i64 x3_1) := by rw [ha]; exact (putSel_off rfl).trans rfl
              replace ha := Aside0.mk ha
              have HB := Aside0.mk Q_HB
              have hs0_ : w'.cell? (ad299.add ((x3_1).toNat * 2)) = some (.int .i64 ((rd_T65 l0 x3_1).f0)) := ((HB.out.cell (World.block_lt_of_cell? w _ hw299_0)).trans hw299_0)
              have hs1_ : w'.cell? ⟨(ad299.add ((x3_1).toNat * 2)).block, (ad299.add ((x3_1).toNat * 2)).off + 1, none⟩ = some (.int .i64 ((rd_T65 l0 x3_1).f1)) := ((HB.out.cell (World.block_lt_of_cell? w _ hw299_1)).trans hw299_1)
              refine value_ (w1 := w') (v := .pointer (some (ad299.add ((x3_1).toNat * 2)))) (by rfl) rfl ?_ ?_
              ·go_simp
               (try simp only [i64_w])
               try rfl
              refine hK.out _ _ ⟨v301, v305, v308, (by rw [ha.out]; exact putSel_upk 0 hb_ rfl rfl rfl), Q_HB, fun h0_ => absurd ((hoff 4 (by kernel_rfl)).symm.trans h0_) (by decide), Q_HO306, fun h0_ => absurd ((hoff 10 (by kernel_rfl)).symm.trans h0_) (by decide)⟩
             refine steps_cons ?_ ?_
             ·rintro b a w' ⟨v301, v305, v308, ha, Q_HB, Q_HO302, Q_HO306, Q_HO309⟩ hb_ hon hoff
              refine ⟨_, rfl, fun K hK => ?_⟩
              have e18 : a.tmps[18]? = some (.pointer (some (ad299.add ((x3_1).toNat * 2)))) := by rw [ha]; exact putSel_on (e := (2, 18, .pointer (some (ad299.add ((x3_1).toNat * 2))))) 0 rfl rfl (hon 2 (by kernel_rfl)) rfl
              replace ha := Aside0.mk ha
              have HB := Aside0.mk Q_HB
              have hs0_ : w'.cell? (ad299.add ((x3_1).toNat * 2)) = some (.int .i64 ((rd_T65 l0 x3_1).f0)) := ((HB.out.cell (World.block_lt_of_cell? w _ hw299_0)).trans hw299_0)
              have hs1_ : w'.cell? ⟨(ad299.add ((x3_1).toNat * 2)).block, (ad299.add ((x3_1).toNat * 2)).off + 1, none⟩ = some (.int .i64 ((rd_T65 l0 x3_1).f1)) := ((HB.out.cell (World.block_lt_of_cell? w _ hw299_1)).trans hw299_1)
              refine value_ (w1 := w') (v := .agg #[.int .i64 ((rd_T65 l0 x3_1).f0), .int .i64 ((rd_T65 l0 x3_1).f1)]) (by rfl) rfl ?_ ?_
              ·go_simp
               (try simp only [i64_w])
               try rfl
              refine hK.out _ _ ⟨v301, v305, v308, (by rw [ha.out]; exact putSel_upk 1 hb_ rfl rfl rfl), Q_HB, fun h0_ => absurd ((hoff 4 (by kernel_rfl)).symm.trans h0_) (by decide), Q_HO306, fun h0_ => absurd ((hoff 10 (by kernel_rfl)).symm.trans h0_) (by decide)⟩
             refine steps_cons ?_ ?_
             ·rintro b a w' ⟨v301, v305, v308, ha, Q_HB, Q_HO302, Q_HO306, Q_HO309⟩ hb_ hon hoff
              refine ⟨_, rfl, fun K hK => ?_⟩
              have e19 : a.tmps[19]? = some (.agg #[.int .i64 ((rd_T65 l0 x3_1).f0), .int .i64 ((rd_T65 l0 x3_1).f1)]) := by rw [ha]; exact putSel_on (e := (3, 19, .agg #[.int .i64 ((rd_T65 l0 x3_1).f0), .int .i64 ((rd_T65 l0 x3_1).f1)])) 1 rfl rfl (hon 3 (by kernel_rfl)) rfl
              replace ha := Aside0.mk ha
              have HB := Aside0.mk Q_HB
              refine Kd.R_lit_step k65 _ 65 ?hg (N := 20) ?hd (xs := ([(⟨(rd_T65 l0 x3_1).f0, (rd_T65 l0 x3_1).f1⟩ : S65)] : List (S65))) (inner := [.int .i64 ((rd_T65 l0 x3_1).f0), .int .i64 ((rd_T65 l0 x3_1).f1)]) (ok := fun _ => True) (okp := fun _ => True) ?hr ?hp (fun _ hk => hk) trivial (Below.refl _ _) (Nat.le_refl _) (by simp) ?_; (case hd => rfl); (case hg => rfl); (case hr => first | (go_simp; done) | (go_simp; rfl)); (case hp => exact (Reps.c2 (show Kd.M k65 _ _ _ (⟨(rd_T65 l0 x3_1).f0, (rd_T65 l0 x3_1).f1⟩ : S65) [.int .i64 ((rd_T65 l0 x3_1).f0), .int .i64 ((rd_T65 l0 x3_1).f1)] from (k65_mkM _ _ _ (⟨(rd_T65 l0 x3_1).f0, (rd_T65 l0 x3_1).f1⟩ : S65) )) (Reps.none _ _)))
              intro v301 w11 ho12 hb hg_ hnew_
              clear hg_ hnew_
              (first | rw [← Ny300.out] at ho12 | (simp only [Int.reduceToNat] at ho12; rw [← Ny300.out] at ho12))
              have n0_ := Aside0.mk (Kd.R_lower ho12 (below_size (by repeat (first | (with_reducible first | exact HB.out | apply below_alloc | apply pw_below_drewN | apply below_drew1) | exact HB.out))))
              have n1_ := Aside0.mk (below_step (by repeat (first | (with_reducible first | exact HB.out | apply below_alloc | apply pw_below_drewN | apply below_drew1) | exact HB.out)) hb)
              have z_HO306 := fun (h0_ : b 9 = true) => (show Kd.R k65 65 w11 w.heap.size (fun _ => True) v305 y304 from by first | exact (Kd.R_elder' (by (with_reducible repeat (first | apply Kd.R_alloc | apply Kd.R_drewN | apply Kd.R_drew)); exact (Q_HO306 h0_)) (Kd.R_base ho12) hb) | exact Kd.R_mono (Kd.R_elder' (by (with_reducible repeat (first | apply Kd.R_alloc | apply Kd.R_drewN | apply Kd.R_drew)); exact (Q_HO306 h0_)) (Kd.R_base ho12) hb) (fun _ h_ => by first | trivial | exact h_ | exact h_.1))
              clear HB
              have HO302 := n0_
              have HB := n1_
              clear n0_ n1_
              clear hb ho12
              refine hK.out _ _ ⟨v301, v305, v308, (by rw [ha.out]; exact putSel_upk 2 hb_ rfl rfl rfl), (by repeat (first | (with_reducible first | exact HB.out | apply below_alloc | apply pw_below_drewN | apply below_drew1) | exact HB.out)), fun _ => (by (with_reducible repeat (first | apply Kd.R_alloc | apply Kd.R_drewN | apply Kd.R_drew)); exact HO302.out), z_HO306, fun h0_ => absurd ((hoff 10 (by kernel_rfl)).symm.trans h0_) (by decide)⟩
             refine steps_cons ?_ ?_
             ·rintro b a w' ⟨v301, v305, v308, ha, Q_HB, Q_HO302, Q_HO306, Q_HO309⟩ hb_ hon hoff
              refine ⟨_, rfl, fun K hK => ?_⟩
              have e21 : a.tmps[21]? = some (.slice (some ad299) l0.length c0) := by rw [ha]; exact (putSel_off rfl).trans rfl
              have e22 : a.tmps[22]? = some (.int .i64 x4_2) := by rw [ha]; exact (putSel_off rfl).trans rfl
              replace ha := Aside0.mk ha
              have HB := Aside0.mk Q_HB
              have hs2_ : w'.cell? (ad299.add ((x4_2).toNat * 2)) = some (.int .i64 ((rd_T65 l0 x4_2).f0)) := ((HB.out.cell (World.block_lt_of_cell? w _ hw303_0)).trans hw303_0)
              have hs3_ : w'.cell? ⟨(ad299.add ((x4_2).toNat * 2)).block, (ad299.add ((x4_2).toNat * 2)).off + 1, none⟩ = some (.int .i64 ((rd_T65 l0 x4_2).f1)) := ((HB.out.cell (World.block_lt_of_cell? w _ hw303_1)).trans hw303_1)
              refine value_ (w1 := w') (v := .pointer (some (ad299.add ((x4_2).toNat * 2)))) (by rfl) rfl ?_ ?_
              ·go_simp
               (try simp only [i64_w])
               try rfl
              refine hK.out _ _ ⟨v301, v305, v308, (by rw [ha.out]; exact putSel_upk 3 hb_ rfl rfl rfl), Q_HB, Q_HO302, fun h0_ => absurd ((hoff 9 (by kernel_rfl)).symm.trans h0_) (by decide), fun h0_ => absurd ((hoff 10 (by kernel_rfl)).symm.trans h0_) (by decide)⟩
             refine steps_cons ?_ ?_
             ·rintro b a w' ⟨v301, v305, v308, ha, Q_HB, Q_HO302, Q_HO306, Q_HO309⟩ hb_ hon hoff
              refine ⟨_, rfl, fun K hK => ?_⟩
              have e23 : a.tmps[23]? = some (.pointer (some (ad299.add ((x4_2).toNat * 2)))) := by rw [ha]; exact putSel_on (e := (7, 23, .pointer (some (ad299.add ((x4_2).toNat * 2))))) 3 rfl rfl (hon 7 (by kernel_rfl)) rfl
              replace ha := Aside0.mk ha
              have HB := Aside0.mk Q_HB
              have hs2_ : w'.cell? (ad299.add ((x4_2).toNat * 2)) = some (.int .i64 ((rd_T65 l0 x4_2).f0)) := ((HB.out.cell (World.block_lt_of_cell? w _ hw303_0)).trans hw303_0)
              have hs3_ : w'.cell? ⟨(ad299.add ((x4_2).toNat * 2)).block, (ad299.add ((x4_2).toNat * 2)).off + 1, none⟩ = some (.int .i64 ((rd_T65 l0 x4_2).f1)) := ((HB.out.cell (World.block_lt_of_cell? w _ hw303_1)).trans hw303_1)
              refine value_ (w1 := w') (v := .agg #[.int .i64 ((rd_T65 l0 x4_2).f0), .int .i64 ((rd_T65 l0 x4_2).f1)]) (by rfl) rfl ?_ ?_
              ·go_simp
               (try simp only [i64_w])
               try rfl
              refine hK.out _ _ ⟨v301, v305, v308, (by rw [ha.out]; exact putSel_upk 4 hb_ rfl rfl rfl), Q_HB, Q_HO302, fun h0_ => absurd ((hoff 9 (by kernel_rfl)).symm.trans h0_) (by decide), fun h0_ => absurd ((hoff 10 (by kernel_rfl)).symm.trans h0_) (by decide)⟩
             refine steps_cons ?_ ?_
             ·rintro b a w' ⟨v301, v305, v308, ha, Q_HB, Q_HO302, Q_HO306, Q_HO309⟩ hb_ hon hoff
              refine ⟨_, rfl, fun K hK => ?_⟩
              have e24 : a.tmps[24]? = some (.agg #[.int .i64 ((rd_T65 l0 x4_2).f0), .int .i64 ((rd_T65 l0 x4_2).f1)]) := by rw [ha]; exact putSel_on (e := (8, 24, .agg #[.int .i64 ((rd_T65 l0 x4_2).f0), .int .i64 ((rd_T65 l0 x4_2).f1)])) 4 rfl rfl (hon 8 (by kernel_rfl)) rfl
              replace ha := Aside0.mk ha
              have HB := Aside0.mk Q_HB
              refine Kd.R_lit_step k65 _ 65 ?hg (N := 25) ?hd (xs := ([(⟨(rd_T65 l0 x4_2).f0, (rd_T65 l0 x4_2).f1⟩ : S65)] : List (S65))) (inner := [.int .i64 ((rd_T65 l0 x4_2).f0), .int .i64 ((rd_T65 l0 x4_2).f1)]) (ok := fun _ => True) (okp := fun _ => True) ?hr ?hp (fun _ hk => hk) trivial (Below.refl _ _) (Nat.le_refl _) (by simp) ?_; (case hd => rfl); (case hg => rfl); (case hr => first | (go_simp; done) | (go_simp; rfl)); (case hp => exact (Reps.c2 (show Kd.M k65 _ _ _ (⟨(rd_T65 l0 x4_2).f0, (rd_T65 l0 x4_2).f1⟩ : S65) [.int .i64 ((rd_T65 l0 x4_2).f0), .int .i64 ((rd_T65 l0 x4_2).f1)] from (k65_mkM _ _ _ (⟨(rd_T65 l0 x4_2).f0, (rd_T65 l0 x4_2).f1⟩ : S65) )) (Reps.none _ _)))
              intro v305 w11 ho12 hb hg_ hnew_
              clear hg_ hnew_
              (first | rw [← Ny304.out] at ho12 | (simp only [Int.reduceToNat] at ho12; rw [← Ny304.out] at ho12))
              have n0_ := Aside0.mk (Kd.R_lower ho12 (below_size (by repeat (first | (with_reducible first | exact HB.out | apply below_alloc | apply pw_below_drewN | apply below_drew1) | exact HB.out))))
              have n1_ := Aside0.mk (below_step (by repeat (first | (with_reducible first | exact HB.out | apply below_alloc | apply pw_below_drewN | apply below_drew1) | exact HB.out)) hb)
              have z_HO302 := fun (h0_ : b 4 = true) => (show Kd.R k65 65 w11 w.heap.size (fun _ => True) v301 y300 from by first | exact (Kd.R_elder' (by (with_reducible repeat (first | apply Kd.R_alloc | apply Kd.R_drewN | apply Kd.R_drew)); exact (Q_HO302 h0_)) (Kd.R_base ho12) hb) | exact Kd.R_mono (Kd.R_elder' (by (with_reducible repeat (first | apply Kd.R_alloc | apply Kd.R_drewN | apply Kd.R_drew)); exact (Q_HO302 h0_)) (Kd.R_base ho12) hb) (fun _ h_ => by first | trivial | exact h_ | exact h_.1))
              clear HB
              have HO306 := n0_
              have HB := n1_
              clear n0_ n1_
              clear hb ho12
              refine hK.out _ _ ⟨v301, v305, v308, (by rw [ha.out]; exact putSel_upk 5 hb_ rfl rfl rfl), (by repeat (first | (with_reducible first | exact HB.out | apply below_alloc | apply pw_below_drewN | apply below_drew1) | exact HB.out)), z_HO302, fun _ => (by (with_reducible repeat (first | apply Kd.R_alloc | apply Kd.R_drewN | apply Kd.R_drew)); exact HO306.out), fun h0_ => absurd ((hoff 10 (by kernel_rfl)).symm.trans h0_) (by decide)⟩
             refine steps_cons ?_ ?_
             ·rintro b a w' ⟨v301, v305, v308, ha, Q_HB, Q_HO302, Q_HO306, Q_HO309⟩ hb_ hon hoff
              refine ⟨_, rfl, fun K hK => ?_⟩
              have e20 : a.tmps[20]? = some (v301) := by rw [ha]; exact putSel_on (e := (4, 20, v301)) 2 rfl rfl (hon 4 (by kernel_rfl)) rfl
              have e25 : a.tmps[25]? = some (v305) := by rw [ha]; exact putSel_on (e := (9, 25, v305)) 5 rfl rfl (hon 9 (by kernel_rfl)) rfl
              replace ha := Aside0.mk ha
              have HB := Aside0.mk Q_HB
              have HO302 := Aside0.mk (Q_HO302 (hon 4 (by kernel_rfl)))
              have HO306 := Aside0.mk (Q_HO306 (hon 9 (by kernel_rfl)))
              obtain ⟨Ao16, co16, eo16⟩ := Kd.R_slice HO302.out
              (first | subst eo16 | (injection eo16 with f1_ f2_ f3_; have f4_ := f1_.symm; have f5_ := f3_.symm; clear f1_ f2_ f3_; subst f4_; subst f5_))
              obtain ⟨Ao17, co17, eo17⟩ := Kd.R_slice HO306.out
              (first | subst eo17 | (injection eo17 with f1_ f2_ f3_; have f4_ := f1_.symm; have f5_ := f3_.symm; clear f1_ f2_ f3_; subst f4_; subst f5_))
              refine goes_ Try.func45 (by kernel_rfl) rfl #[.slice Ao16 y300.length co16, .slice Ao17 y304.length co17, .int .i64 0] (by rfl) rfl rfl (by first | (simp only [List.map_toArray, List.map_cons, List.map_nil, Act.eval, Array.getD_eq_getD_getElem?, Option.getD_some, e20, e25]; done) | (simp only [List.map_toArray, List.map_cons, List.map_nil, Act.eval, Array.getD_eq_getD_getElem?, Option.getD_some, e20, e25]; rfl)) ?_
              with_reducible refine (fettleref03_Both.calls k2 (fun k_ => some k_ = (.slice Ao16 y300.length co16 : Value).ownBlock) _ _ y300 (fun k_ => some k_ = (.slice Ao17 y304.length co17 : Value).ownBlock) _ _ y304 0 t307 _ ?side1 ?side2 A8.out).mono ?_
              (case side1 => exact Kd.R_V (Kd.R_tight rfl (HO302.out)))
              (case side2 => exact Kd.R_V (Kd.R_tight rfl (HO306.out)))
              rintro e w18 ⟨v308, rfl, ho0, hb⟩
              refine ⟨_, rfl, ?_⟩
              have n0_ := Aside0.mk (Kd.R_elder' (by (with_reducible repeat (first | apply Kd.R_alloc | apply Kd.R_drewN | apply Kd.R_drew)); exact HO302.out) (Kd.R_base ho0) hb)
              have n1_ := Aside0.mk (Kd.R_elder' (by (with_reducible repeat (first | apply Kd.R_alloc | apply Kd.R_drewN | apply Kd.R_drew)); exact HO306.out) (Kd.R_base ho0) hb)
              have n2_ := Aside0.mk (Kd.R_lower (Kd.R_new' (Kd.R_new' (Kd.R_mono (ok' := fun k_ => True) ho0 (fun _ hk_ => trivial)) (Kd.R_lt (by (with_reducible repeat (first | apply Kd.R_alloc | apply Kd.R_drewN | apply Kd.R_drew)); exact HO302.out))) (Kd.R_lt (by (with_reducible repeat (first | apply Kd.R_alloc | apply Kd.R_drewN | apply Kd.R_drew)); exact HO306.out))) (below_size (by repeat (first | (with_reducible first | exact HB.out | apply below_alloc | apply pw_below_drewN | apply below_drew1) | exact HB.out))))
              have n3_ := Aside0.mk (below_step (by repeat (first | (with_reducible first | exact HB.out | apply below_alloc | apply pw_below_drewN | apply below_drew1) | exact HB.out)) hb)
              clear HO302
              clear HO306
              clear HB
              have HO302 := n0_
              have HO306 := n1_
              have HO309 := n2_
              have HB := n3_
              clear n0_ n1_ n2_ n3_
              (try clear hb)
              (try clear hb2)
              (try clear hk)
              (try clear hi)
              (try clear ho0)
              obtain ⟨Ao19, co19, eo19⟩ := Kd.R_slice HO309.out
              (first | subst eo19 | (injection eo19 with f1_ f2_ f3_; have f4_ := f1_.symm; have f5_ := f3_.symm; clear f1_ f2_ f3_; subst f4_; subst f5_))
              refine hK.out _ _ ⟨.slice Ao16 y300.length co16, .slice Ao17 y304.length co17, .slice Ao19 t307.length co19, (by rw [ha.out]; exact putSel_upk 6 hb_ rfl rfl rfl), (by repeat (first | (with_reducible first | exact HB.out | apply below_alloc | apply pw_below_drewN | apply below_drew1) | exact HB.out)), fun _ => (by (with_reducible repeat (first | apply Kd.R_alloc | apply Kd.R_drewN | apply Kd.R_drew)); exact Kd.R_mono HO302.out (fun _ _ => trivial)), fun _ => (by (with_reducible repeat (first | apply Kd.R_alloc | apply Kd.R_drewN | apply Kd.R_drew)); exact Kd.R_mono HO306.out (fun _ _ => trivial)), fun _ => (by (with_reducible repeat (first | apply Kd.R_alloc | apply Kd.R_drewN | apply Kd.R_drew)); exact Kd.R_mono HO309.out (fun _ _ => trivial))⟩
             refine steps_cons ?_ ?_
             ·rintro b a w' ⟨v301, v305, v308, ha, Q_HB, Q_HO302, Q_HO306, Q_HO309⟩ hb_ hon hoff
              refine ⟨_, rfl, fun K hK => ?_⟩
              have e26 : a.tmps[26]? = some (v308) := by rw [ha]; exact putSel_on (e := (10, 26, v308)) 6 rfl rfl (hon 10 (by kernel_rfl)) rfl
              replace ha := Aside0.mk ha
              have HB := Aside0.mk Q_HB
              have HO302 := Aside0.mk (Q_HO302 (hon 4 (by kernel_rfl)))
              have HO306 := Aside0.mk (Q_HO306 (hon 9 (by kernel_rfl)))
              have HO309 := Aside0.mk (Q_HO309 (hon 10 (by kernel_rfl)))
              obtain ⟨Ao11_0, co11_0, eo_⟩ := Kd.R_slice HO309.out
              subst eo_
              refine value_ (w1 := w') (v := .int .i64 (t307.length : Int)) (by rfl) rfl ?_ ?_
              ·go_simp
               (try simp only [i64_w])
               try rfl
              refine hK.out _ _ ⟨v301, v305, .slice Ao11_0 t307.length co11_0, (by rw [ha.out]; exact putSel_upk 7 hb_ rfl rfl rfl), Q_HB, Q_HO302, Q_HO306, Q_HO309⟩
             refine steps_cons ?_ ?_
             ·rintro b a w' ⟨v301, v305, v308, ha, Q_HB, Q_HO302, Q_HO306, Q_HO309⟩ hb_ hon hoff
              refine ⟨_, rfl, fun K hK => ?_⟩
              have e27 : a.tmps[27]? = some (.int .i64 (t307.length : Int)) := by rw [ha]; exact putSel_on (e := (11, 27, .int .i64 (t307.length : Int))) 7 rfl rfl (hon 11 (by kernel_rfl)) rfl
              replace ha := Aside0.mk ha
              have HB := Aside0.mk Q_HB
              have HO302 := Aside0.mk (Q_HO302 (hon 4 (by kernel_rfl)))
              have HO306 := Aside0.mk (Q_HO306 (hon 9 (by kernel_rfl)))
              have HO309 := Aside0.mk (Q_HO309 (hon 10 (by kernel_rfl)))
              refine value_ (w1 := w') (v := .bool (decide ((t307.length : Int) > 0))) (by rfl) rfl ?_ ?_
              ·go_simp
               (try simp only [i64_w])
               try rfl
              refine hK.out _ _ ⟨v301, v305, v308, (by rw [ha.out]; exact putSel_upk 8 hb_ rfl rfl rfl), Q_HB, Q_HO302, Q_HO306, Q_HO309⟩
             exact steps_nil
            rintro b a w19 hall ⟨v301, v305, v308, ha, Q_HB, Q_HO302, Q_HO306, Q_HO309⟩
            clear HB
            have hb2_ := hall 2 (by kernel_rfl)
            have hb3_ := hall 3 (by kernel_rfl)
            have hb4_ := hall 4 (by kernel_rfl)
            have hb7_ := hall 7 (by kernel_rfl)
            have hb8_ := hall 8 (by kernel_rfl)
            have hb9_ := hall 9 (by kernel_rfl)
            have hb10_ := hall 10 (by kernel_rfl)
            have hb11_ := hall 11 (by kernel_rfl)
            have hb12_ := hall 12 (by kernel_rfl)
            subst ha
            simp only [putSel, hb2_, hb3_, hb4_, hb7_, hb8_, hb9_, hb10_, hb11_, hb12_, if_true, Act.put, List.setIfInBounds_toArray, List.set_cons_zero, List.set_cons_succ]
            have HB := Aside0.mk Q_HB
            clear Q_HB
            have HO302 := Aside0.mk (Q_HO302 hb4_)
            clear Q_HO302
            have HO306 := Aside0.mk (Q_HO306 hb9_)
            clear Q_HO306
            have HO309 := Aside0.mk (Q_HO309 hb10_)
            clear Q_HO309
            clear hall hb2_ hb3_ hb4_ hb7_ hb8_ hb9_ hb10_ hb11_ hb12_
            obtain ⟨Ao20, co20, eo20⟩ := Kd.R_slice HO309.out
            (first | subst eo20 | (injection eo20 with f1_ f2_ f3_; have f4_ := f1_.symm; have f5_ := f3_.symm; clear f1_ f2_ f3_; subst f4_; subst f5_))
            try go_wp2
            all_goals first | (exfalso; have q_ := of_decide_eq_true c9b0; omega) | skip
            go_ret
            exact ⟨by first | rfl | (simp [errW_none, errW_some] <;> rfl) | (simp [*, errW_none, errW_some] <;> rfl), by repeat (first | (with_reducible first | exact HB.out | apply below_alloc | apply pw_below_drewN | apply below_drew1) | exact HB.out)⟩
           ·rw [if_neg c9] at H
            have c9b0 : decide (0 < (t307.length : Int)) = false := decide_eq_false c9
            have c9b1 : decide (0 < t307.length) = false := decide_eq_false (by omega)
            clear c9
            have H' := Aside0.mk H
            clear H
            try go_wp2
            have n0_ := Aside0.mk (below_drew1 HB.out)
            clear HB
            have HB := n0_
            clear n0_
            have p299 : 0 ≤ (x3_1 : Int) := of_decide_eq_true (by first | (with_reducible assumption) | assumption)
            have q299 : x3_1 < (l0.length : Int) := of_decide_eq_true (by first | (with_reducible assumption) | assumption)
            obtain ⟨ad299, e299, hx299_0, hx299_1⟩ := at_T65 HR0.out x3_1 p299 q299
            have hw299_1 := hx299_1
            have hw299_0 := hx299_0
            cases e299
            replace hx299_0 := (HB.out.cell (World.block_lt_of_cell? w _ hx299_0)).trans hx299_0
            replace hx299_1 := (HB.out.cell (World.block_lt_of_cell? w _ hx299_1)).trans hx299_1
            replace p299 := eq_true p299
            replace q299 := eq_true q299
            have p303 : 0 ≤ (x4_2 : Int) := of_decide_eq_true (by first | (with_reducible assumption) | assumption)
            have q303 : x4_2 < (l0.length : Int) := of_decide_eq_true (by first | (with_reducible assumption) | assumption)
            obtain ⟨ad303, e303, hx303_0, hx303_1⟩ := at_T65 HR0.out x4_2 p303 q303
            have hw303_1 := hx303_1
            have hw303_0 := hx303_0
            obtain rfl : ad299 = ad303 := (by injection e303)
            replace hx303_0 := (HB.out.cell (World.block_lt_of_cell? w _ hx303_0)).trans hx303_0
            replace hx303_1 := (HB.out.cell (World.block_lt_of_cell? w _ hx303_1)).trans hx303_1
            replace p303 := eq_true p303
            replace q303 := eq_true q303
            refine start_ (n := 13) (S := fun w' => True) (ds := []) #[false, false, false, false, false, false, false, false, false, false, false, false, false] (by kernel_rfl) rfl rfl trivial (fun hHeld => ?_); refine with_tabW fettleref03_Apart.tab7 fettleref03_Apart.bits7 (fun HT_ HW_ => ?_)
            generalize wr.drew = w21 at HB hx299_0 hx299_1 hx303_0 hx303_1 hHeld ⊢
            refine pure_ (i := 0) (N := some 16) (v := ?_) (a' := ?_) #[true, false, false, false, false, false, false, false, false, false, false, false, false] rfl rfl (any_of HT_.out (by kernel_rfl)) (fun _ _ _ h => h) (Or.inl ⟨by rfl, ?_⟩) ?_ ?_
            rotate_left
            ·intro w'
             go_simp
             with_reducible rfl
            rotate_left
            ·simp only [Act.put, List.setIfInBounds_toArray, List.set_cons_zero, List.set_cons_succ, i64_w, i32_w]
             rfl
            refine pure_ (i := 1) (N := some 17) (v := ?_) (a' := ?_) #[true, true, false, false, false, false, false, false, false, false, false, false, false] rfl rfl (any_of HT_.out (by kernel_rfl)) (fun _ _ _ h => h) (Or.inl ⟨by rfl, ?_⟩) ?_ ?_
            rotate_left
            ·intro w'
             go_simp
             with_reducible rfl
            rotate_left
            ·simp only [Act.put, List.setIfInBounds_toArray, List.set_cons_zero, List.set_cons_succ, i64_w, i32_w]
             rfl
            refine pure_ (i := 5) (N := some 21) (v := ?_) (a' := ?_) #[true, true, false, false, false, true, false, false, false, false, false, false, false] rfl rfl (any_of HT_.out (by kernel_rfl)) (fun _ _ _ h => h) (Or.inl ⟨by rfl, ?_⟩) ?_ ?_
            rotate_left
            ·intro w'
             go_simp
             with_reducible rfl
            rotate_left
            ·simp only [Act.put, List.setIfInBounds_toArray, List.set_cons_zero, List.set_cons_succ, i64_w, i32_w]
             rfl
            refine pure_ (i := 6) (N := some 22) (v := ?_) (a' := ?_) #[true, true, false, false, false, true, true, false, false, false, false, false, false] rfl rfl (any_of HT_.out (by kernel_rfl)) (fun _ _ _ h => h) (Or.inl ⟨by rfl, ?_⟩) ?_ ?_
            rotate_left
            ·intro w'
             go_simp
             with_reducible rfl
            rotate_left
            ·simp only [Act.put, List.setIfInBounds_toArray, List.set_cons_zero, List.set_cons_succ, i64_w, i32_w]
             rfl
            refine inv_at [2, 3, 4, 7, 8, 9, 10, 11, 12] (fun a0_ b a w' => ∃ (v301 : Value) (v305 : Value) (v308 : Value), a = putSel a0_ b [(2, 18, .pointer (some (ad299.add ((x3_1).toNat * 2)))), (3, 19, .agg #[.int .i64 ((rd_T65 l0 x3_1).f0), .int .i64 ((rd_T65 l0 x3_1).f1)]), (4, 20, v301), (7, 23, .pointer (some (ad299.add ((x4_2).toNat * 2)))), (8, 24, .agg #[.int .i64 ((rd_T65 l0 x4_2).f0), .int .i64 ((rd_T65 l0 x4_2).f1)]), (9, 25, v305), (10, 26, v308), (11, 27, .int .i64 (t307.length : Int)), (12, 28, .bool (decide ((t307.length : Int) > 0)))] ∧ (Below w.heap.size w w') ∧ (b 4 = true → Kd.R k65 65 w' w.heap.size (fun _ => True) v301 y300) ∧ (b 9 = true → Kd.R k65 65 w' w.heap.size (fun _ => True) v305 y304) ∧ (b 10 = true → Kd.R k65 65 w' w.heap.size (fun _ => True) v308 t307)) HT_.out HW_.out (by kernel_rfl) (by kernel_rfl) ?_ ?_ ?_
            ·exact ⟨.bool false, .bool false, .bool false, by simp only [putSel, Bool.false_eq_true, if_false], HB.out, fun h_ => absurd h_ (by decide), fun h_ => absurd h_ (by decide), fun h_ => absurd h_ (by decide)⟩
            ·skip
             clear HB
             refine steps_cons ?_ ?_
             ·rintro b a w' ⟨v301, v305, v308, ha, Q_HB, Q_HO302, Q_HO306, Q_HO309⟩ hb_ hon hoff
              refine ⟨_, rfl, fun K hK => ?_⟩
              have e16 : a.tmps[16]? = some (.slice (some ad299) l0.length c0) := by rw [ha]; exact (putSel_off rfl).trans rfl
              have e17 : a.tmps[17]? = some (.int .i64 x3_1) := by rw [ha]; exact (putSel_off rfl).trans rfl
              replace ha := Aside0.mk ha
              have HB := Aside0.mk Q_HB
              have hs0_ : w'.cell? (ad299.add ((x3_1).toNat * 2)) = some (.int .i64 ((rd_T65 l0 x3_1).f0)) := ((HB.out.cell (World.block_lt_of_cell? w _ hw299_0)).trans hw299_0)
              have hs1_ : w'.cell? ⟨(ad299.add ((x3_1).toNat * 2)).block, (ad299.add ((x3_1).toNat * 2)).off + 1, none⟩ = some (.int .i64 ((rd_T65 l0 x3_1).f1)) := ((HB.out.cell (World.block_lt_of_cell? w _ hw299_1)).trans hw299_1)
              refine value_ (w1 := w') (v := .pointer (some (ad299.add ((x3_1).toNat * 2)))) (by rfl) rfl ?_ ?_
              ·go_simp
               (try simp only [i64_w])
               try rfl
              refine hK.out _ _ ⟨v301, v305, v308, (by rw [ha.out]; exact putSel_upk 0 hb_ rfl rfl rfl), Q_HB, fun h0_ => absurd ((hoff 4 (by kernel_rfl)).symm.trans h0_) (by decide), Q_HO306, fun h0_ => absurd ((hoff 10 (by kernel_rfl)).symm.trans h0_) (by decide)⟩
             refine steps_cons ?_ ?_
             ·rintro b a w' ⟨v301, v305, v308, ha, Q_HB, Q_HO302, Q_HO306, Q_HO309⟩ hb_ hon hoff
              refine ⟨_, rfl, fun K hK => ?_⟩
              have e18 : a.tmps[18]? = some (.pointer (some (ad299.add ((x3_1).toNat * 2)))) := by rw [ha]; exact putSel_on (e := (2, 18, .pointer (some (ad299.add ((x3_1).toNat * 2))))) 0 rfl rfl (hon 2 (by kernel_rfl)) rfl
              replace ha := Aside0.mk ha
              have HB := Aside0.mk Q_HB
              have hs0_ : w'.cell? (ad299.add ((x3_1).toNat * 2)) = some (.int .i64 ((rd_T65 l0 x3_1).f0)) := ((HB.out.cell (World.block_lt_of_cell? w _ hw299_0)).trans hw299_0)
              have hs1_ : w'.cell? ⟨(ad299.add ((x3_1).toNat * 2)).block, (ad299.add ((x3_1).toNat * 2)).off + 1, none⟩ = some (.int .i64 ((rd_T65 l0 x3_1).f1)) := ((HB.out.cell (World.block_lt_of_cell? w _ hw299_1)).trans hw299_1)
              refine value_ (w1 := w') (v := .agg #[.int .i64 ((rd_T65 l0 x3_1).f0), .int .i64 ((rd_T65 l0 x3_1).f1)]) (by rfl) rfl ?_ ?_
              ·go_simp
               (try simp only [i64_w])
               try rfl
              refine hK.out _ _ ⟨v301, v305, v308, (by rw [ha.out]; exact putSel_upk 1 hb_ rfl rfl rfl), Q_HB, fun h0_ => absurd ((hoff 4 (by kernel_rfl)).symm.trans h0_) (by decide), Q_HO306, fun h0_ => absurd ((hoff 10 (by kernel_rfl)).symm.trans h0_) (by decide)⟩
             refine steps_cons ?_ ?_
             ·rintro b a w' ⟨v301, v305, v308, ha, Q_HB, Q_HO302, Q_HO306, Q_HO309⟩ hb_ hon hoff
              refine ⟨_, rfl, fun K hK => ?_⟩
              have e19 : a.tmps[19]? = some (.agg #[.int .i64 ((rd_T65 l0 x3_1).f0), .int .i64 ((rd_T65 l0 x3_1).f1)]) := by rw [ha]; exact putSel_on (e := (3, 19, .agg #[.int .i64 ((rd_T65 l0 x3_1).f0), .int .i64 ((rd_T65 l0 x3_1).f1)])) 1 rfl rfl (hon 3 (by kernel_rfl)) rfl
              replace ha := Aside0.mk ha
              have HB := Aside0.mk Q_HB
              refine Kd.R_lit_step k65 _ 65 ?hg (N := 20) ?hd (xs := ([(⟨(rd_T65 l0 x3_1).f0, (rd_T65 l0 x3_1).f1⟩ : S65)] : List (S65))) (inner := [.int .i64 ((rd_T65 l0 x3_1).f0), .int .i64 ((rd_T65 l0 x3_1).f1)]) (ok := fun _ => True) (okp := fun _ => True) ?hr ?hp (fun _ hk => hk) trivial (Below.refl _ _) (Nat.le_refl _) (by simp) ?_; (case hd => rfl); (case hg => rfl); (case hr => first | (go_simp; done) | (go_simp; rfl)); (case hp => exact (Reps.c2 (show Kd.M k65 _ _ _ (⟨(rd_T65 l0 x3_1).f0, (rd_T65 l0 x3_1).f1⟩ : S65) [.int .i64 ((rd_T65 l0 x3_1).f0), .int .i64 ((rd_T65 l0 x3_1).f1)] from (k65_mkM _ _ _ (⟨(rd_T65 l0 x3_1).f0, (rd_T65 l0 x3_1).f1⟩ : S65) )) (Reps.none _ _)))
              intro v301 w22 ho23 hb hg_ hnew_
              clear hg_ hnew_
              (first | rw [← Ny300.out] at ho23 | (simp only [Int.reduceToNat] at ho23; rw [← Ny300.out] at ho23))
              have n0_ := Aside0.mk (Kd.R_lower ho23 (below_size (by repeat (first | (with_reducible first | exact HB.out | apply below_alloc | apply pw_below_drewN | apply below_drew1) | exact HB.out))))
              have n1_ := Aside0.mk (below_step (by repeat (first | (with_reducible first | exact HB.out | apply below_alloc | apply pw_below_drewN | apply below_drew1) | exact HB.out)) hb)
              have z_HO306 := fun (h0_ : b 9 = true) => (show Kd.R k65 65 w22 w.heap.size (fun _ => True) v305 y304 from by first | exact (Kd.R_elder' (by (with_reducible repeat (first | apply Kd.R_alloc | apply Kd.R_drewN | apply Kd.R_drew)); exact (Q_HO306 h0_)) (Kd.R_base ho23) hb) | exact Kd.R_mono (Kd.R_elder' (by (with_reducible repeat (first | apply Kd.R_alloc | apply Kd.R_drewN | apply Kd.R_drew)); exact (Q_HO306 h0_)) (Kd.R_base ho23) hb) (fun _ h_ => by first | trivial | exact h_ | exact h_.1))
              clear HB
              have HO302 := n0_
              have HB := n1_
              clear n0_ n1_
              clear hb ho23
              refine hK.out _ _ ⟨v301, v305, v308, (by rw [ha.out]; exact putSel_upk 2 hb_ rfl rfl rfl), (by repeat (first | (with_reducible first | exact HB.out | apply below_alloc | apply pw_below_drewN | apply below_drew1) | exact HB.out)), fun _ => (by (with_reducible repeat (first | apply Kd.R_alloc | apply Kd.R_drewN | apply Kd.R_drew)); exact HO302.out), z_HO306, fun h0_ => absurd ((hoff 10 (by kernel_rfl)).symm.trans h0_) (by decide)⟩
             refine steps_cons ?_ ?_
             ·rintro b a w' ⟨v301, v305, v308, ha, Q_HB, Q_HO302, Q_HO306, Q_HO309⟩ hb_ hon hoff
              refine ⟨_, rfl, fun K hK => ?_⟩
              have e21 : a.tmps[21]? = some (.slice (some ad299) l0.length c0) := by rw [ha]; exact (putSel_off rfl).trans rfl
              have e22 : a.tmps[22]? = some (.int .i64 x4_2) := by rw [ha]; exact (putSel_off rfl).trans rfl
              replace ha := Aside0.mk ha
              have HB := Aside0.mk Q_HB
              have hs2_ : w'.cell? (ad299.add ((x4_2).toNat * 2)) = some (.int .i64 ((rd_T65 l0 x4_2).f0)) := ((HB.out.cell (World.block_lt_of_cell? w _ hw303_0)).trans hw303_0)
              have hs3_ : w'.cell? ⟨(ad299.add ((x4_2).toNat * 2)).block, (ad299.add ((x4_2).toNat * 2)).off + 1, none⟩ = some (.int .i64 ((rd_T65 l0 x4_2).f1)) := ((HB.out.cell (World.block_lt_of_cell? w _ hw303_1)).trans hw303_1)
              refine value_ (w1 := w') (v := .pointer (some (ad299.add ((x4_2).toNat * 2)))) (by rfl) rfl ?_ ?_
              ·go_simp
               (try simp only [i64_w])
               try rfl
              refine hK.out _ _ ⟨v301, v305, v308, (by rw [ha.out]; exact putSel_upk 3 hb_ rfl rfl rfl), Q_HB, Q_HO302, fun h0_ => absurd ((hoff 9 (by kernel_rfl)).symm.trans h0_) (by decide), fun h0_ => absurd ((hoff 10 (by kernel_rfl)).symm.trans h0_) (by decide)⟩
             refine steps_cons ?_ ?_
             ·rintro b a w' ⟨v301, v305, v308, ha, Q_HB, Q_HO302, Q_HO306, Q_HO309⟩ hb_ hon hoff
              refine ⟨_, rfl, fun K hK => ?_⟩
              have e23 : a.tmps[23]? = some (.pointer (some (ad299.add ((x4_2).toNat * 2)))) := by rw [ha]; exact putSel_on (e := (7, 23, .pointer (some (ad299.add ((x4_2).toNat * 2))))) 3 rfl rfl (hon 7 (by kernel_rfl)) rfl
              replace ha := Aside0.mk ha
              have HB := Aside0.mk Q_HB
              have hs2_ : w'.cell? (ad299.add ((x4_2).toNat * 2)) = some (.int .i64 ((rd_T65 l0 x4_2).f0)) := ((HB.out.cell (World.block_lt_of_cell? w _ hw303_0)).trans hw303_0)
              have hs3_ : w'.cell? ⟨(ad299.add ((x4_2).toNat * 2)).block, (ad299.add ((x4_2).toNat * 2)).off + 1, none⟩ = some (.int .i64 ((rd_T65 l0 x4_2).f1)) := ((HB.out.cell (World.block_lt_of_cell? w _ hw303_1)).trans hw303_1)
              refine value_ (w1 := w') (v := .agg #[.int .i64 ((rd_T65 l0 x4_2).f0), .int .i64 ((rd_T65 l0 x4_2).f1)]) (by rfl) rfl ?_ ?_
              ·go_simp
               (try simp only [i64_w])
               try rfl
              refine hK.out _ _ ⟨v301, v305, v308, (by rw [ha.out]; exact putSel_upk 4 hb_ rfl rfl rfl), Q_HB, Q_HO302, fun h0_ => absurd ((hoff 9 (by kernel_rfl)).symm.trans h0_) (by decide), fun h0_ => absurd ((hoff 10 (by kernel_rfl)).symm.trans h0_) (by decide)⟩
             refine steps_cons ?_ ?_
             ·rintro b a w' ⟨v301, v305, v308, ha, Q_HB, Q_HO302, Q_HO306, Q_HO309⟩ hb_ hon hoff
              refine ⟨_, rfl, fun K hK => ?_⟩
              have e24 : a.tmps[24]? = some (.agg #[.int .i64 ((rd_T65 l0 x4_2).f0), .int .i64 ((rd_T65 l0 x4_2).f1)]) := by rw [ha]; exact putSel_on (e := (8, 24, .agg #[.int .i64 ((rd_T65 l0 x4_2).f0), .int .i64 ((rd_T65 l0 x4_2).f1)])) 4 rfl rfl (hon 8 (by kernel_rfl)) rfl
              replace ha := Aside0.mk ha
              have HB := Aside0.mk Q_HB
              refine Kd.R_lit_step k65 _ 65 ?hg (N := 25) ?hd (xs := ([(⟨(rd_T65 l0 x4_2).f0, (rd_T65 l0 x4_2).f1⟩ : S65)] : List (S65))) (inner := [.int .i64 ((rd_T65 l0 x4_2).f0), .int .i64 ((rd_T65 l0 x4_2).f1)]) (ok := fun _ => True) (okp := fun _ => True) ?hr ?hp (fun _ hk => hk) trivial (Below.refl _ _) (Nat.le_refl _) (by simp) ?_; (case hd => rfl); (case hg => rfl); (case hr => first | (go_simp; done) | (go_simp; rfl)); (case hp => exact (Reps.c2 (show Kd.M k65 _ _ _ (⟨(rd_T65 l0 x4_2).f0, (rd_T65 l0 x4_2).f1⟩ : S65) [.int .i64 ((rd_T65 l0 x4_2).f0), .int .i64 ((rd_T65 l0 x4_2).f1)] from (k65_mkM _ _ _ (⟨(rd_T65 l0 x4_2).f0, (rd_T65 l0 x4_2).f1⟩ : S65) )) (Reps.none _ _)))
              intro v305 w22 ho23 hb hg_ hnew_
              clear hg_ hnew_
              (first | rw [← Ny304.out] at ho23 | (simp only [Int.reduceToNat] at ho23; rw [← Ny304.out] at ho23))
              have n0_ := Aside0.mk (Kd.R_lower ho23 (below_size (by repeat (first | (with_reducible first | exact HB.out | apply below_alloc | apply pw_below_drewN | apply below_drew1) | exact HB.out))))
              have n1_ := Aside0.mk (below_step (by repeat (first | (with_reducible first | exact HB.out | apply below_alloc | apply pw_below_drewN | apply below_drew1) | exact HB.out)) hb)
              have z_HO302 := fun (h0_ : b 4 = true) => (show Kd.R k65 65 w22 w.heap.size (fun _ => True) v301 y300 from by first | exact (Kd.R_elder' (by (with_reducible repeat (first | apply Kd.R_alloc | apply Kd.R_drewN | apply Kd.R_drew)); exact (Q_HO302 h0_)) (Kd.R_base ho23) hb) | exact Kd.R_mono (Kd.R_elder' (by (with_reducible repeat (first | apply Kd.R_alloc | apply Kd.R_drewN | apply Kd.R_drew)); exact (Q_HO302 h0_)) (Kd.R_base ho23) hb) (fun _ h_ => by first | trivial | exact h_ | exact h_.1))
              clear HB
              have HO306 := n0_
              have HB := n1_
              clear n0_ n1_
              clear hb ho23
              refine hK.out _ _ ⟨v301, v305, v308, (by rw [ha.out]; exact putSel_upk 5 hb_ rfl rfl rfl), (by repeat (first | (with_reducible first | exact HB.out | apply below_alloc | apply pw_below_drewN | apply below_drew1) | exact HB.out)), z_HO302, fun _ => (by (with_reducible repeat (first | apply Kd.R_alloc | apply Kd.R_drewN | apply Kd.R_drew)); exact HO306.out), fun h0_ => absurd ((hoff 10 (by kernel_rfl)).symm.trans h0_) (by decide)⟩
             refine steps_cons ?_ ?_
             ·rintro b a w' ⟨v301, v305, v308, ha, Q_HB, Q_HO302, Q_HO306, Q_HO309⟩ hb_ hon hoff
              refine ⟨_, rfl, fun K hK => ?_⟩
              have e20 : a.tmps[20]? = some (v301) := by rw [ha]; exact putSel_on (e := (4, 20, v301)) 2 rfl rfl (hon 4 (by kernel_rfl)) rfl
              have e25 : a.tmps[25]? = some (v305) := by rw [ha]; exact putSel_on (e := (9, 25, v305)) 5 rfl rfl (hon 9 (by kernel_rfl)) rfl
              replace ha := Aside0.mk ha
              have HB := Aside0.mk Q_HB
              have HO302 := Aside0.mk (Q_HO302 (hon 4 (by kernel_rfl)))
              have HO306 := Aside0.mk (Q_HO306 (hon 9 (by kernel_rfl)))
              obtain ⟨Ao27, co27, eo27⟩ := Kd.R_slice HO302.out
              (first | subst eo27 | (injection eo27 with f1_ f2_ f3_; have f4_ := f1_.symm; have f5_ := f3_.symm; clear f1_ f2_ f3_; subst f4_; subst f5_))
              obtain ⟨Ao28, co28, eo28⟩ := Kd.R_slice HO306.out
              (first | subst eo28 | (injection eo28 with f1_ f2_ f3_; have f4_ := f1_.symm; have f5_ := f3_.symm; clear f1_ f2_ f3_; subst f4_; subst f5_))
              refine goes_ Try.func45 (by kernel_rfl) rfl #[.slice Ao27 y300.length co27, .slice Ao28 y304.length co28, .int .i64 0] (by rfl) rfl rfl (by first | (simp only [List.map_toArray, List.map_cons, List.map_nil, Act.eval, Array.getD_eq_getD_getElem?, Option.getD_some, e20, e25]; done) | (simp only [List.map_toArray, List.map_cons, List.map_nil, Act.eval, Array.getD_eq_getD_getElem?, Option.getD_some, e20, e25]; rfl)) ?_
              with_reducible refine (fettleref03_Both.calls k2 (fun k_ => some k_ = (.slice Ao27 y300.length co27 : Value).ownBlock) _ _ y300 (fun k_ => some k_ = (.slice Ao28 y304.length co28 : Value).ownBlock) _ _ y304 0 t307 _ ?side1 ?side2 A8.out).mono ?_
              (case side1 => exact Kd.R_V (Kd.R_tight rfl (HO302.out)))
              (case side2 => exact Kd.R_V (Kd.R_tight rfl (HO306.out)))
              rintro e w29 ⟨v308, rfl, ho0, hb⟩
              refine ⟨_, rfl, ?_⟩
              have n0_ := Aside0.mk (Kd.R_elder' (by (with_reducible repeat (first | apply Kd.R_alloc | apply Kd.R_drewN | apply Kd.R_drew)); exact HO302.out) (Kd.R_base ho0) hb)
              have n1_ := Aside0.mk (Kd.R_elder' (by (with_reducible repeat (first | apply Kd.R_alloc | apply Kd.R_drewN | apply Kd.R_drew)); exact HO306.out) (Kd.R_base ho0) hb)
              have n2_ := Aside0.mk (Kd.R_lower (Kd.R_new' (Kd.R_new' (Kd.R_mono (ok' := fun k_ => True) ho0 (fun _ hk_ => trivial)) (Kd.R_lt (by (with_reducible repeat (first | apply Kd.R_alloc | apply Kd.R_drewN | apply Kd.R_drew)); exact HO302.out))) (Kd.R_lt (by (with_reducible repeat (first | apply Kd.R_alloc | apply Kd.R_drewN | apply Kd.R_drew)); exact HO306.out))) (below_size (by repeat (first | (with_reducible first | exact HB.out | apply below_alloc | apply pw_below_drewN | apply below_drew1) | exact HB.out))))
              have n3_ := Aside0.mk (below_step (by repeat (first | (with_reducible first | exact HB.out | apply below_alloc | apply pw_below_drewN | apply below_drew1) | exact HB.out)) hb)
              clear HO302
              clear HO306
              clear HB
              have HO302 := n0_
              have HO306 := n1_
              have HO309 := n2_
              have HB := n3_
              clear n0_ n1_ n2_ n3_
              (try clear hb)
              (try clear hb2)
              (try clear hk)
              (try clear hi)
              (try clear ho0)
              obtain ⟨Ao30, co30, eo30⟩ := Kd.R_slice HO309.out
              (first | subst eo30 | (injection eo30 with f1_ f2_ f3_; have f4_ := f1_.symm; have f5_ := f3_.symm; clear f1_ f2_ f3_; subst f4_; subst f5_))
              refine hK.out _ _ ⟨.slice Ao27 y300.length co27, .slice Ao28 y304.length co28, .slice Ao30 t307.length co30, (by rw [ha.out]; exact putSel_upk 6 hb_ rfl rfl rfl), (by repeat (first | (with_reducible first | exact HB.out | apply below_alloc | apply pw_below_drewN | apply below_drew1) | exact HB.out)), fun _ => (by (with_reducible repeat (first | apply Kd.R_alloc | apply Kd.R_drewN | apply Kd.R_drew)); exact Kd.R_mono HO302.out (fun _ _ => trivial)), fun _ => (by (with_reducible repeat (first | apply Kd.R_alloc | apply Kd.R_drewN | apply Kd.R_drew)); exact Kd.R_mono HO306.out (fun _ _ => trivial)), fun _ => (by (with_reducible repeat (first | apply Kd.R_alloc | apply Kd.R_drewN | apply Kd.R_drew)); exact Kd.R_mono HO309.out (fun _ _ => trivial))⟩
             refine steps_cons ?_ ?_
             ·rintro b a w' ⟨v301, v305, v308, ha, Q_HB, Q_HO302, Q_HO306, Q_HO309⟩ hb_ hon hoff
              refine ⟨_, rfl, fun K hK => ?_⟩
              have e26 : a.tmps[26]? = some (v308) := by rw [ha]; exact putSel_on (e := (10, 26, v308)) 6 rfl rfl (hon 10 (by kernel_rfl)) rfl
              replace ha := Aside0.mk ha
              have HB := Aside0.mk Q_HB
              have HO302 := Aside0.mk (Q_HO302 (hon 4 (by kernel_rfl)))
              have HO306 := Aside0.mk (Q_HO306 (hon 9 (by kernel_rfl)))
              have HO309 := Aside0.mk (Q_HO309 (hon 10 (by kernel_rfl)))
              obtain ⟨Ao11_0, co11_0, eo_⟩ := Kd.R_slice HO309.out
              subst eo_
              refine value_ (w1 := w') (v := .int .i64 (t307.length : Int)) (by rfl) rfl ?_ ?_
              ·go_simp
               (try simp only [i64_w])
               try rfl
              refine hK.out _ _ ⟨v301, v305, .slice Ao11_0 t307.length co11_0, (by rw [ha.out]; exact putSel_upk 7 hb_ rfl rfl rfl), Q_HB, Q_HO302, Q_HO306, Q_HO309⟩
             refine steps_cons ?_ ?_
             ·rintro b a w' ⟨v301, v305, v308, ha, Q_HB, Q_HO302, Q_HO306, Q_HO309⟩ hb_ hon hoff
              refine ⟨_, rfl, fun K hK => ?_⟩
              have e27 : a.tmps[27]? = some (.int .i64 (t307.length : Int)) := by rw [ha]; exact putSel_on (e := (11, 27, .int .i64 (t307.length : Int))) 7 rfl rfl (hon 11 (by kernel_rfl)) rfl
              replace ha := Aside0.mk ha
              have HB := Aside0.mk Q_HB
              have HO302 := Aside0.mk (Q_HO302 (hon 4 (by kernel_rfl)))
              have HO306 := Aside0.mk (Q_HO306 (hon 9 (by kernel_rfl)))
              have HO309 := Aside0.mk (Q_HO309 (hon 10 (by kernel_rfl)))
              refine value_ (w1 := w') (v := .bool (decide ((t307.length : Int) > 0))) (by rfl) rfl ?_ ?_
              ·go_simp
               (try simp only [i64_w])
               try rfl
              refine hK.out _ _ ⟨v301, v305, v308, (by rw [ha.out]; exact putSel_upk 8 hb_ rfl rfl rfl), Q_HB, Q_HO302, Q_HO306, Q_HO309⟩
             exact steps_nil
            rintro b a w30 hall ⟨v301, v305, v308, ha, Q_HB, Q_HO302, Q_HO306, Q_HO309⟩
            clear HB
            have hb2_ := hall 2 (by kernel_rfl)
            have hb3_ := hall 3 (by kernel_rfl)
            have hb4_ := hall 4 (by kernel_rfl)
            have hb7_ := hall 7 (by kernel_rfl)
            have hb8_ := hall 8 (by kernel_rfl)
            have hb9_ := hall 9 (by kernel_rfl)
            have hb10_ := hall 10 (by kernel_rfl)
            have hb11_ := hall 11 (by kernel_rfl)
            have hb12_ := hall 12 (by kernel_rfl)
            subst ha
            simp only [putSel, hb2_, hb3_, hb4_, hb7_, hb8_, hb9_, hb10_, hb11_, hb12_, if_true, Act.put, List.setIfInBounds_toArray, List.set_cons_zero, List.set_cons_succ]
            have HB := Aside0.mk Q_HB
            clear Q_HB
            have HO302 := Aside0.mk (Q_HO302 hb4_)
            clear Q_HO302
            have HO306 := Aside0.mk (Q_HO306 hb9_)
            clear Q_HO306
            have HO309 := Aside0.mk (Q_HO309 hb10_)
            clear Q_HO309
            clear hall hb2_ hb3_ hb4_ hb7_ hb8_ hb9_ hb10_ hb11_ hb12_
            obtain ⟨Ao31, co31, eo31⟩ := Kd.R_slice HO309.out
            (first | subst eo31 | (injection eo31 with f1_ f2_ f3_; have f4_ := f1_.symm; have f5_ := f3_.symm; clear f1_ f2_ f3_; subst f4_; subst f5_))
            try go_wp2
            all_goals first | (exfalso; have q_ := of_decide_eq_false c9b0; omega) | skip
            go_roundg k2
            case measure => have := HK1.out; have := HK2.out; omega
            case rel => exact ⟨(wrap64 (x4_2 + 1)), (by first | rfl | (simp; done) | (simp [*]; done) | (simp [*, Int.tdiv_eq_ediv_of_nonneg]; done)), H', ⟨by have := HK1.out; have := HK2.out; omega⟩, ⟨by repeat (first | (with_reducible first | exact HB.out | apply below_alloc | apply pw_below_drewN | apply below_drew1) | exact HB.out)⟩⟩
          ·rw [if_neg c7] at H
           exact absurd H (by simp)
         ·rw [if_neg c6] at H
          exact absurd H (by simp)
        ·rw [if_neg c5] at H
         exact absurd H (by simp)
       ·rw [if_neg c4] at H
        exact absurd H (by simp)
      ·rw [if_neg c3] at H
       have c3b0 : decide (x4_2 < x3_1) = false := decide_eq_false c3
       clear c3
       have H' := Aside0.mk H
       clear H
       go_wp2
       go_roundg k2
       case measure => have := HK1.out; have := HK2.out; omega
       case rel => exact ⟨(wrap64 (x3_1 + 1)), (by first | rfl | (simp; done) | (simp [*]; done) | (simp [*, Int.tdiv_eq_ediv_of_nonneg]; done)), H', ⟨by have := HK1.out; have := HK2.out; omega⟩, ⟨by repeat (first | (with_reducible first | exact HB.out | apply below_alloc | apply pw_below_drewN | apply below_drew1) | exact HB.out)⟩⟩
   ·rw [if_neg c2] at H
    have c2b0 : decide (x3_1 < (l0.length : Int)) = false := decide_eq_false c2
    clear c2
    obtain rfl := Option.some.inj H
    go_wp2
    go_ret
    exact ⟨by first | rfl | (simp [errW_none, errW_some] <;> rfl) | (simp [*, errW_none, errW_some] <;> rfl), by repeat (first | (with_reducible first | exact HB.out | apply below_alloc | apply pw_below_drewN | apply below_drew1) | exact HB.out)⟩
def fettlelaw03_ExtentNorms.f (k : Nat) (l0 : List (S65)) : Option (Bool) := (fettlelaw03_near.f k l0).bind fun t310 => (if t310 = true then ((fettlelaw03_joined.f k).bind fun t312 => (if t312 = true then ((extent_Norm.f k l0).bind fun t313 => ((fettleref03_Norm.f k l0).bind fun t316 => ((fettleref03_Same.f k t313 t316).bind fun t319 => (if t319 = true then ((extent_Set_Bytes.f l0).bind fun t320 => ((fettleref03_Bytes.f k l0).bind fun t321 => (if t320 = t321 then ((extent_Apart.f k l0).bind fun t322 => ((fettleref03_Apart.f k l0).bind fun t323 => (some (t322 == t323)))) else (none)))) else (none))))) else (none))) else ((fettlelaw03_joined.f k).bind fun t311 => (some t311)))
set_option maxHeartbeats 8000000 in
set_option maxRecDepth 100000 in
theorem fettlelaw03_ExtentNorms.calls (k : Nat) (A0 : Option Addr) (c0 : Nat) (l0 : List (S65)) (r : Bool) (w : World) (hr0 : Kd.C k65 w A0 l0.length l0) (hc0 : l0.length ≤ c0) (h : fettlelaw03_ExtentNorms.f k l0 = some r) :
  Calls Try.prog 8 #[.slice A0 l0.length c0] w fun e w' => e = .returned (.bool r) ∧ Below w.heap.size w w' := by
 have HR0 := Aside0.mk hr0
 have HC0 := Aside0.mk hc0
 clear hr0 hc0
 have HB := Aside0.mk (Below.refl w.heap.size w)
 have H : ((fettlelaw03_near.f k l0).bind fun t310 => (if t310 = true then ((fettlelaw03_joined.f k).bind fun t312 => (if t312 = true then ((extent_Norm.f k l0).bind fun t313 => ((fettleref03_Norm.f k l0).bind fun t316 => ((fettleref03_Same.f k t313 t316).bind fun t319 => (if t319 = true then ((extent_Set_Bytes.f l0).bind fun t320 => ((fettleref03_Bytes.f k l0).bind fun t321 => (if t320 = t321 then ((extent_Apart.f k l0).bind fun t322 => ((fettleref03_Apart.f k l0).bind fun t323 => (some (t322 == t323)))) else (none)))) else (none))))) else (none))) else ((fettlelaw03_joined.f k).bind fun t311 => (some t311)))) = some r := h
 clear h
 replace H := Option.bind_eq_some_iff.mp H
 obtain ⟨t310, A20, H⟩ := H
 replace H : (if t310 = true then ((fettlelaw03_joined.f k).bind fun t312 => (if t312 = true then ((extent_Norm.f k l0).bind fun t313 => ((fettleref03_Norm.f k l0).bind fun t316 => ((fettleref03_Same.f k t313 t316).bind fun t319 => (if t319 = true then ((extent_Set_Bytes.f l0).bind fun t320 => ((fettleref03_Bytes.f k l0).bind fun t321 => (if t320 = t321 then ((extent_Apart.f k l0).bind fun t322 => ((fettleref03_Apart.f k l0).bind fun t323 => (some (t322 == t323)))) else (none)))) else (none))))) else (none))) else ((fettlelaw03_joined.f k).bind fun t311 => (some t311))) = some r := H
 have A2 := Aside0.mk A20
 clear A20
 by_cases c3 : t310 = true
 ·subst c3
  have H1 : ((fettlelaw03_joined.f k).bind fun t312 => (if t312 = true then ((extent_Norm.f k l0).bind fun t313 => ((fettleref03_Norm.f k l0).bind fun t316 => ((fettleref03_Same.f k t313 t316).bind fun t319 => (if t319 = true then ((extent_Set_Bytes.f l0).bind fun t320 => ((fettleref03_Bytes.f k l0).bind fun t321 => (if t320 = t321 then ((extent_Apart.f k l0).bind fun t322 => ((fettleref03_Apart.f k l0).bind fun t323 => (some (t322 == t323)))) else (none)))) else (none))))) else (none))) = some r := by rw [if_pos rfl] at H; exact H
  clear H
  have H := H1
  clear H1
  replace H := Option.bind_eq_some_iff.mp H
  obtain ⟨t312, A40, H⟩ := H
  replace H : (if t312 = true then ((extent_Norm.f k l0).bind fun t313 => ((fettleref03_Norm.f k l0).bind fun t316 => ((fettleref03_Same.f k t313 t316).bind fun t319 => (if t319 = true then ((extent_Set_Bytes.f l0).bind fun t320 => ((fettleref03_Bytes.f k l0).bind fun t321 => (if t320 = t321 then ((extent_Apart.f k l0).bind fun t322 => ((fettleref03_Apart.f k l0).bind fun t323 => (some (t322 == t323)))) else (none)))) else (none))))) else (none)) = some r := H
  have A4 := Aside0.mk A40
  clear A40
  by_cases c5 : t312 = true
  ·subst c5
   have H1 : ((extent_Norm.f k l0).bind fun t313 => ((fettleref03_Norm.f k l0).bind fun t316 => ((fettleref03_Same.f k t313 t316).bind fun t319 => (if t319 = true then ((extent_Set_Bytes.f l0).bind fun t320 => ((fettleref03_Bytes.f k l0).bind fun t321 => (if t320 = t321 then ((extent_Apart.f k l0).bind fun t322 => ((fettleref03_Apart.f k l0).bind fun t323 => (some (t322 == t323)))) else (none)))) else (none))))) = some r := by rw [if_pos rfl] at H; exact H
   clear H
   have H := H1
   clear H1
   replace H := Option.bind_eq_some_iff.mp H
   obtain ⟨t313, A60, H⟩ := H
   replace H : ((fettleref03_Norm.f k l0).bind fun t316 => ((fettleref03_Same.f k t313 t316).bind fun t319 => (if t319 = true then ((extent_Set_Bytes.f l0).bind fun t320 => ((fettleref03_Bytes.f k l0).bind fun t321 => (if t320 = t321 then ((extent_Apart.f k l0).bind fun t322 => ((fettleref03_Apart.f k l0).bind fun t323 => (some (t322 == t323)))) else (none)))) else (none)))) = some r := H
   have A6 := Aside0.mk A60
   clear A60
   replace H := Option.bind_eq_some_iff.mp H
   obtain ⟨t316, A70, H⟩ := H
   replace H : ((fettleref03_Same.f k t313 t316).bind fun t319 => (if t319 = true then ((extent_Set_Bytes.f l0).bind fun t320 => ((fettleref03_Bytes.f k l0).bind fun t321 => (if t320 = t321 then ((extent_Apart.f k l0).bind fun t322 => ((fettleref03_Apart.f k l0).bind fun t323 => (some (t322 == t323)))) else (none)))) else (none))) = some r := H
   have A7 := Aside0.mk A70
   clear A70
   replace H := Option.bind_eq_some_iff.mp H
   obtain ⟨t319, A80, H⟩ := H
   replace H : (if t319 = true then ((extent_Set_Bytes.f l0).bind fun t320 => ((fettleref03_Bytes.f k l0).bind fun t321 => (if t320 = t321 then ((extent_Apart.f k l0).bind fun t322 => ((fettleref03_Apart.f k l0).bind fun t323 => (some (t322 == t323)))) else (none)))) else (none)) = some r := H
   have A8 := Aside0.mk A80
   clear A80
   by_cases c9 : t319 = true
   ·subst c9
    have H1 : ((extent_Set_Bytes.f l0).bind fun t320 => ((fettleref03_Bytes.f k l0).bind fun t321 => (if t320 = t321 then ((extent_Apart.f k l0).bind fun t322 => ((fettleref03_Apart.f k l0).bind fun t323 => (some (t322 == t323)))) else (none)))) = some r := by rw [if_pos rfl] at H; exact H
    clear H
    have H := H1
    clear H1
    replace H := Option.bind_eq_some_iff.mp H
    obtain ⟨t320, A100, H⟩ := H
    replace H : ((fettleref03_Bytes.f k l0).bind fun t321 => (if t320 = t321 then ((extent_Apart.f k l0).bind fun t322 => ((fettleref03_Apart.f k l0).bind fun t323 => (some (t322 == t323)))) else (none))) = some r := H
    have A10 := Aside0.mk A100
    clear A100
    replace H := Option.bind_eq_some_iff.mp H
    obtain ⟨t321, A110, H⟩ := H
    replace H : (if t320 = t321 then ((extent_Apart.f k l0).bind fun t322 => ((fettleref03_Apart.f k l0).bind fun t323 => (some (t322 == t323)))) else (none)) = some r := H
    have A11 := Aside0.mk A110
    clear A110
    by_cases c12 : t320 = t321
    ·rw [if_pos c12] at H
     have c12b0 : (t320 == t321) = true := beq_iff_eq.mpr c12
     have c12b1 : (t320 != t321) = false := bne_eq_false_iff_eq.mpr c12
     clear c12
     replace H := Option.bind_eq_some_iff.mp H
     obtain ⟨t322, A130, H⟩ := H
     replace H : ((fettleref03_Apart.f k l0).bind fun t323 => (some (t322 == t323))) = some r := H
     have A13 := Aside0.mk A130
     clear A130
     replace H := Option.bind_eq_some_iff.mp H
     obtain ⟨t323, A140, H⟩ := H
     replace H : (some (t322 == t323)) = some r := H
     have A14 := Aside0.mk A140
     clear A140
     obtain rfl := Option.some.inj H
     go_enter Try.func8, Try.ntmps8
     go_wp2_with (first | ((with_reducible refine gate_callee (f := 35) rfl ?_); refine goesL_ (some 4) rfl rfl Try.func35 (by kernel_rfl) rfl #[.slice A0 l0.length c0] rfl (by (try simp only [List.map_toArray, List.map_cons, List.map_nil]); first | done | rfl | (simp only [List.length_drop, List.length_take]; rfl)) ?_; (with_reducible refine (fettlelaw03_near.calls k _ _ l0 true _ ?side1 ?side2 A2.out).mono ?_); (case side1 => repeat (first | exact HR0.out | (with_reducible refine Kd.C_alloc ?_ _) | (with_reducible refine Kd.C_drewN ?_ _) | (with_reducible refine Kd.C_drew ?_))); (case side2 => exact HC0.out); rintro e w' ⟨rfl, ⟨nd, rfl⟩⟩; refine ⟨_, rfl, ?_⟩) | ((with_reducible refine gate_callee (f := 31) rfl ?_); refine goesL_ (some 7) rfl rfl Try.func31 (by kernel_rfl) rfl #[] rfl (by (try simp only [List.map_toArray, List.map_cons, List.map_nil]); first | done | rfl | (simp only [List.length_drop, List.length_take]; rfl)) ?_; (with_reducible refine (fettlelaw03_joined.calls k  true _ A4.out).mono ?_); rintro e w15 ⟨rfl, hb⟩; refine ⟨_, rfl, ?_⟩; have n0_ := Aside0.mk (below_step (by repeat (first | (with_reducible first | exact HB.out | apply below_alloc | apply pw_below_drewN | apply below_drew1) | exact HB.out)) hb); clear HB; have HB := n0_; clear n0_; (try clear hb); (try clear hb2); (try clear hk); (try clear hi)) | (go_at_call 37; (with_reducible refine (extent_Norm.calls k _ _ l0 t313 _ ?side1 ?side2 A6.out).mono ?_); (case side1 => repeat (first | exact (Kd.C_below HR0.out HB.out) | (with_reducible refine Kd.C_alloc ?_ _) | (with_reducible refine Kd.C_drewN ?_ _) | (with_reducible refine Kd.C_drew ?_))); (case side2 => exact HC0.out); rintro e w16 ⟨v314, rfl, ho0, hb⟩; have n0_ := Aside0.mk (Kd.R_lower ho0 (below_size (by repeat (first | (with_reducible first | exact HB.out | apply below_alloc | apply pw_below_drewN | apply below_drew1) | exact HB.out)))); have n1_ := Aside0.mk (below_step (by repeat (first | (with_reducible first | exact HB.out | apply below_alloc | apply pw_below_drewN | apply below_drew1) | exact HB.out)) hb); clear HB; have HO315 := n0_; have HB := n1_; clear n0_ n1_; (try clear hb); (try clear hb2); (try clear hk); (try clear hi); (try clear ho0)) | (go_at_call 33; (with_reducible refine (fettleref03_Norm.calls k (fun k_ => k_ < w.heap.size) _ _ l0 t316 _ ?side1 A7.out).mono ?_); (case side1 => exact Kd.V_mk HC0.out (Kd.F_below (Kd.C_F k65_heap HR0.out) (by repeat (first | (with_reducible first | exact HB.out | apply below_alloc | apply pw_below_drewN | apply below_drew1) | exact HB.out)))); rintro e w17 ⟨v317, rfl, ho0, hb⟩; have n0_ := Aside0.mk (Kd.R_elder' (by (with_reducible repeat (first | apply Kd.R_alloc | apply Kd.R_drewN | apply Kd.R_drew)); exact HO315.out) (Kd.R_base ho0) hb); have n1_ := Aside0.mk (Kd.R_lower (Kd.R_new' (Kd.R_mono (ok' := fun k_ => True) ho0 (fun _ hk_ => trivial)) (Kd.R_lt (by (with_reducible repeat (first | apply Kd.R_alloc | apply Kd.R_drewN | apply Kd.R_drew)); exact HO315.out))) (below_size (by repeat (first | (with_reducible first | exact HB.out | apply below_alloc | apply pw_below_drewN | apply below_drew1) | exact HB.out)))); have n2_ := Aside0.mk (below_step (by repeat (first | (with_reducible first | exact HB.out | apply below_alloc | apply pw_below_drewN | apply below_drew1) | exact HB.out)) hb); clear HO315; clear HB; have HO315 := n0_; have HO318 := n1_; have HB := n2_; clear n0_ n1_ n2_; (try clear hb); (try clear hb2); (try clear hk); (try clear hi); (try clear ho0); obtain ⟨Ao18, co18, eo18⟩ := Kd.R_slice HO315.out; subst eo18; obtain ⟨Ao19, co19, eo19⟩ := Kd.R_slice HO318.out; subst eo19) | (go_at_call 36; (with_reducible refine (fettleref03_Same.calls k _ _ t313 _ _ t316 true _ ?side1 ?side2 ?side3 ?side4 A8.out).mono ?_); (case side1 => repeat (first | exact (Kd.R_reads' HO315.out).2.2 | (with_reducible refine Kd.C_alloc ?_ _) | (with_reducible refine Kd.C_drewN ?_ _) | (with_reducible refine Kd.C_drew ?_))); (case side2 => exact (Kd.R_reads' HO315.out).2.1); (case side3 => repeat (first | exact (Kd.R_reads' HO318.out).2.2 | (with_reducible refine Kd.C_alloc ?_ _) | (with_reducible refine Kd.C_drewN ?_ _) | (with_reducible refine Kd.C_drew ?_))); (case side4 => exact (Kd.R_reads' HO318.out).2.1); rintro e w' ⟨rfl, ⟨nd, rfl⟩⟩) | (go_at_call 38; (with_reducible refine (extent_Set_Bytes.calls _ _ l0 t320 _ ?side1 ?side2 A10.out).mono ?_); (case side1 => repeat (first | exact (Kd.C_below HR0.out (by repeat (first | (with_reducible first | exact HB.out | apply below_alloc | apply pw_below_drewN | apply below_drew1) | exact HB.out))) | (with_reducible refine Kd.C_alloc ?_ _) | (with_reducible refine Kd.C_drewN ?_ _) | (with_reducible refine Kd.C_drew ?_))); (case side2 => exact HC0.out); rintro e w20 ⟨rfl, hb⟩; have n0_ := Aside0.mk (Kd.R_below (by (with_reducible repeat (first | apply Kd.R_alloc | apply Kd.R_drewN | apply Kd.R_drew)); exact HO315.out) hb); have n1_ := Aside0.mk (Kd.R_below (by (with_reducible repeat (first | apply Kd.R_alloc | apply Kd.R_drewN | apply Kd.R_drew)); exact HO318.out) hb); have n2_ := Aside0.mk (below_step (by repeat (first | (with_reducible first | exact HB.out | apply below_alloc | apply pw_below_drewN | apply below_drew1) | exact HB.out)) hb); clear HO315; clear HO318; clear HB; have HO315 := n0_; have HO318 := n1_; have HB := n2_; clear n0_ n1_ n2_; (try clear hb); (try clear hb2); (try clear hk); (try clear hi)) | (go_at_call 39; (with_reducible refine (fettleref03_Bytes.calls k _ _ l0 t321 _ ?side1 ?side2 A11.out).mono ?_); (case side1 => repeat (first | exact (Kd.C_below HR0.out HB.out) | (with_reducible refine Kd.C_alloc ?_ _) | (with_reducible refine Kd.C_drewN ?_ _) | (with_reducible refine Kd.C_drew ?_))); (case side2 => exact HC0.out); rintro e w21 ⟨rfl, hb⟩; have n0_ := Aside0.mk (Kd.R_below (by (with_reducible repeat (first | apply Kd.R_alloc | apply Kd.R_drewN | apply Kd.R_drew)); exact HO315.out) hb); have n1_ := Aside0.mk (Kd.R_below (by (with_reducible repeat (first | apply Kd.R_alloc | apply Kd.R_drewN | apply Kd.R_drew)); exact HO318.out) hb); have n2_ := Aside0.mk (below_step (by repeat (first | (with_reducible first | exact HB.out | apply below_alloc | apply pw_below_drewN | apply below_drew1) | exact HB.out)) hb); clear HO315; clear HO318; clear HB; have HO315 := n0_; have HO318 := n1_; have HB := n2_; clear n0_ n1_ n2_; (try clear hb); (try clear hb2); (try clear hk); (try clear hi)) | (go_at_call 40; (with_reducible refine (extent_Apart.calls k _ _ l0 t322 _ ?side1 ?side2 A13.out).mono ?_); (case side1 => repeat (first | exact (Kd.C_below HR0.out HB.out) | (with_reducible refine Kd.C_alloc ?_ _) | (with_reducible refine Kd.C_drewN ?_ _) | (with_reducible refine Kd.C_drew ?_))); (case side2 => exact HC0.out); rintro e w22 ⟨rfl, hb⟩; have n0_ := Aside0.mk (Kd.R_below (by (with_reducible repeat (first | apply Kd.R_alloc | apply Kd.R_drewN | apply Kd.R_drew)); exact HO315.out) hb); have n1_ := Aside0.mk (Kd.R_below (by (with_reducible repeat (first | apply Kd.R_alloc | apply Kd.R_drewN | apply Kd.R_drew)); exact HO318.out) hb); have n2_ := Aside0.mk (below_step (by repeat (first | (with_reducible first | exact HB.out | apply below_alloc | apply pw_below_drewN | apply below_drew1) | exact HB.out)) hb); clear HO315; clear HO318; clear HB; have HO315 := n0_; have HO318 := n1_; have HB := n2_; clear n0_ n1_ n2_; (try clear hb); (try clear hb2); (try clear hk); (try clear hi)) | (go_at_call 41; (with_reducible refine (fettleref03_Apart.calls k _ _ l0 t323 _ ?side1 ?side2 A14.out).mono ?_); (case side1 => repeat (first | exact (Kd.C_below HR0.out HB.out) | (with_reducible refine Kd.C_alloc ?_ _) | (with_reducible refine Kd.C_drewN ?_ _) | (with_reducible refine Kd.C_drew ?_))); (case side2 => exact HC0.out); rintro e w23 ⟨rfl, hb⟩; have n0_ := Aside0.mk (Kd.R_below (by (with_reducible repeat (first | apply Kd.R_alloc | apply Kd.R_drewN | apply Kd.R_drew)); exact HO315.out) hb); have n1_ := Aside0.mk (Kd.R_below (by (with_reducible repeat (first | apply Kd.R_alloc | apply Kd.R_drewN | apply Kd.R_drew)); exact HO318.out) hb); have n2_ := Aside0.mk (below_step (by repeat (first | (with_reducible first | exact HB.out | apply below_alloc | apply pw_below_drewN | apply below_drew1) | exact HB.out)) hb); clear HO315; clear HO318; clear HB; have HO315 := n0_; have HO318 := n1_; have HB := n2_; clear n0_ n1_ n2_; (try clear hb); (try clear hb2); (try clear hk); (try clear hi)))
     go_ret
     exact ⟨by first | rfl | (simp [errW_none, errW_some] <;> rfl) | (simp [*, errW_none, errW_some] <;> rfl), by repeat (first | (with_reducible first | exact HB.out | apply below_alloc | apply pw_below_drewN | apply below_drew1) | exact HB.out)⟩
    ·rw [if_neg c12] at H
     exact absurd H (by simp)
   ·replace c9 := Bool.eq_false_iff.mpr c9
    subst c9
    have H1 : (none) = some r := by rw [if_neg (show ¬ (false = true) by decide)] at H; exact H
    clear H
    have H := H1
    clear H1
    exact absurd H (by simp)
  ·replace c5 := Bool.eq_false_iff.mpr c5
   subst c5
   have H1 : (none) = some r := by rw [if_neg (show ¬ (false = true) by decide)] at H; exact H
   clear H
   have H := H1
   clear H1
   exact absurd H (by simp)
 ·replace c3 := Bool.eq_false_iff.mpr c3
  subst c3
  have H1 : ((fettlelaw03_joined.f k).bind fun t311 => (some t311)) = some r := by rw [if_neg (show ¬ (false = true) by decide)] at H; exact H
  clear H
  have H := H1
  clear H1
  replace H := Option.bind_eq_some_iff.mp H
  obtain ⟨t311, A240, H⟩ := H
  replace H : (some t311) = some r := H
  have A24 := Aside0.mk A240
  clear A240
  obtain rfl := Option.some.inj H
  go_enter Try.func8, Try.ntmps8
  go_wp2_with (first | ((with_reducible refine gate_callee (f := 35) rfl ?_); refine goesL_ (some 4) rfl rfl Try.func35 (by kernel_rfl) rfl #[.slice A0 l0.length c0] rfl (by (try simp only [List.map_toArray, List.map_cons, List.map_nil]); first | done | rfl | (simp only [List.length_drop, List.length_take]; rfl)) ?_; (with_reducible refine (fettlelaw03_near.calls k _ _ l0 false _ ?side1 ?side2 A2.out).mono ?_); (case side1 => repeat (first | exact HR0.out | (with_reducible refine Kd.C_alloc ?_ _) | (with_reducible refine Kd.C_drewN ?_ _) | (with_reducible refine Kd.C_drew ?_))); (case side2 => exact HC0.out); rintro e w' ⟨rfl, ⟨nd, rfl⟩⟩; refine ⟨_, rfl, ?_⟩) | ((with_reducible refine gate_callee (f := 31) rfl ?_); refine goesL_ (some 6) rfl rfl Try.func31 (by kernel_rfl) rfl #[] rfl (by (try simp only [List.map_toArray, List.map_cons, List.map_nil]); first | done | rfl | (simp only [List.length_drop, List.length_take]; rfl)) ?_; (with_reducible refine (fettlelaw03_joined.calls k  t311 _ A24.out).mono ?_); rintro e w25 ⟨rfl, hb⟩; refine ⟨_, rfl, ?_⟩; have n0_ := Aside0.mk (below_step (by repeat (first | (with_reducible first | exact HB.out | apply below_alloc | apply pw_below_drewN | apply below_drew1) | exact HB.out)) hb); clear HB; have HB := n0_; clear n0_; (try clear hb); (try clear hb2); (try clear hk); (try clear hi)))
  go_ret
  exact ⟨by first | rfl | (simp [errW_none, errW_some] <;> rfl) | (simp [*, errW_none, errW_some] <;> rfl), by repeat (first | (with_reducible first | exact HB.out | apply below_alloc | apply pw_below_drewN | apply below_drew1) | exact HB.out)⟩
def fettlelaw03_ExtentNorms.Pure : Prop := ∀ (l0 : List (S65)), l0.length ≤ maxLen → (∀ y ∈ l0, (fun x => (fun x => (fun x => (Lit.int .i64 x).wf = true) x.1 ∧ (fun x => (Lit.int .i64 x).wf = true) x.2) (x.f0, x.f1)) y) → ∃ k, fettlelaw03_ExtentNorms.f k l0 = some true
end Go.Proofs.Ytpmhlomilobgaaa.PExt
