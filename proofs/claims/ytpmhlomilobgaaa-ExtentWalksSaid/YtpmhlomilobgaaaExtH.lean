/- ExtentWalks' own code: it returns true. -/
import Derived.Test.YtpmhlomilobgaaaExtT
import Derived.Test.YtpmhlomilobgaaaExtQ
import Derived.Test.YtpmhlomilobgaaaExtZ
set_option linter.unusedVariables false
set_option linter.unusedSimpArgs false
namespace Go.Proofs.Ytpmhlomilobgaaa.ExtA
open Go.RowKit Go.Shelf Go.Proofs.Ytpmhlomilobgaaa.PExt Go.Proofs.YtpmhlomilobgaaaW.PrintWords Go.Proofs.YtpmhlomilobgaaaW.PrintLast Go.Proofs.YtpmhlomilobgaaaW.PrintMore
open Go.Proofs.Ytpmhlomilobgaaa.ExtS (flat flat_length reps_flat flat_reps)
attribute [local go_sem] Oper.semAt_some

/-- What has come is the parts of L, in order. -/
def good (L : List S65) (pre : List (Nat × S65)) : Prop := pre = upto (part L) pre.length
theorem good_last {L : List S65} {pre : List (Nat × S65)} (h : good L pre) {x : Nat × S65} : (good L (pre ++ [x]) → x = part L pre.length) ∧ (x = part L pre.length → good L (pre ++ [x])) := by
  constructor
  · intro k
    unfold good at k
    rw [List.length_append, List.length_singleton, upto_succ] at k
    have := List.append_inj' k rfl
    simpa using this.2
  · rintro rfl
    unfold good
    rw [List.length_append, List.length_singleton, upto_succ, ← show pre = upto (part L) pre.length from h]

set_option maxRecDepth 100000 in
set_option maxHeartbeats 8000000 in
theorem walks_in (A : Option Addr) (c : Nat) (l : List S65) (a1 : Int) (hj : fettlelaw03_joined.f 10 = some true) (k1 : Nat) (b : Bool) (hb : fettlelaw03_light.f k1 l = some b) (k2 : Nat) (hL2 : b = true → fettleref03_Norm.f k2 l = some (ExtM.normL l) ∧ extent_Norm.f k2 l = some (ExtM.normL l) ∧ (ExtM.normL l).length ≤ 30)
    (w : World) (hr0 : Kd.C k65 w A l.length l) (hc0 : l.length ≤ c) :
    CallsIn Fence.wide 9 Try.prog 7 #[.slice A l.length c, .int .i64 a1] w fun e W' => e = .returned (.bool true) ∧ Below w.heap.size w W' := by
  have hr0 := Aside0.mk hr0
  have hmix : Try.prog.follows .mixedOrders = true := by kernel_rfl
  have hJ := Aside0.mk (fun W => fettlelaw03_joined.calls 10 true W hj)
  refine callsIn_of_wp_marks Try.func7 rfl trivial ?_ rfl
  simp only [Try.ntmps7, List.size_toArray, List.length_cons, List.length_nil, Nat.reduceAdd, Nat.reduceSub, Array.replicate_succ, Array.replicate_zero, List.push_toArray, List.append_toArray, List.nil_append, List.cons_append]
  have bS := (Boxed.new w 3 (.int .i64 a1)).alloc (.cells #[.bool false] 4)
  have bR := Boxed.new (w.alloc (.cells #[.int .i64 a1] 3)) 4 (.bool false)
  rw [World.size_alloc] at bR
  have hbA : Below w.heap.size w ((w.alloc (.cells #[.int .i64 a1] 3)).alloc (.cells #[.bool false] 4)) := ((Below.refl _ w).alloc (Nat.le_refl _) _).alloc (by simp) _
  have hszA : ((w.alloc (.cells #[.int .i64 a1] 3)).alloc (.cells #[.bool false] 4)).heap.size = w.heap.size + 2 := by simp
  have HA := Aside0.mk (And.intro hbA (And.intro bS (And.intro bR hszA)))
  clear hbA bS bR hszA
  cases b with
  | false =>
    gi_wp2_with (first
      | (refine ⟨trivial, ?_⟩; gi_at_call 31; refine (callsIn_wide.2 (hJ.out _)).mono ?_; rintro e w1 ⟨rfl, hb1⟩; obtain ⟨hB1, bR1⟩ : Below w.heap.size w w1 ∧ Boxed w1 (w.heap.size + 1) 4 (.bool false) := ⟨HA.out.1.trans (hb1.mono (by have := HA.out.2.2.2; omega)), (hb1.block _ (by have := HA.out.2.2.2; omega)).trans HA.out.2.2.1⟩; have HB1 := Aside0.mk (And.intro hB1 bR1); clear hb1 hB1 bR1)
      | (refine ⟨trivial, ?_⟩; gi_at_call 32; refine (callsIn_wide.2 (fettlelaw03_light.calls k1 A c l false _ (Kd.C_below hr0.out HB1.out.1) hc0 hb)).mono ?_; rintro e w2 ⟨rfl, hd2⟩; have HD2 := Aside0.mk hd2; clear hd2)
      | (refine ⟨trivial, ?_⟩; gi_at_call 31; refine (callsIn_wide.2 (hJ.out _)).mono ?_; rintro e w4 ⟨rfl, hb4⟩; have hs1 := HB1.out.1.size; have hs2 := HD2.out.below.size; have hs0 := HA.out.1.size; have hsA := HA.out.2.2.2; have bR4 : Boxed w4 (w.heap.size + 1) 4 (.bool false) := (hb4.block _ (by have := HB1.out.2.lt; omega)).trans ((HD2.out.below.block _ (HB1.out.2.lt)).trans HB1.out.2); have HB4 := Aside0.mk (And.intro (HB1.out.1.trans ((HD2.out.below.mono hs1).trans (hb4.mono (by omega)))) bR4); have c4 := bR4.cell; have f4 := bR4.frozen; clear bR4 hb4))
    have qs := HB4.out.2.set (.bool true)
    have hc5 := qs.cell
    refine ⟨.bool true, ?_, rfl, HB4.out.1.setCell (p := ⟨w.heap.size + 1, 0, none⟩) (by simp) _⟩
    simp [results, Try.f7, go_sem, hc5]
  | true =>
    obtain ⟨hLr, hLn, hLl⟩ := hL2 rfl
    obtain ⟨L, hLe⟩ : ∃ L, ExtM.normL l = L := ⟨_, rfl⟩
    rw [hLe] at hLr hLn hLl
    clear hLe hL2
    gi_wp2_with (first
      | (refine ⟨trivial, ?_⟩; gi_at_call 31; refine (callsIn_wide.2 (hJ.out _)).mono ?_; rintro e w1 ⟨rfl, hb1⟩; have HB1 := Aside0.mk (And.intro (HA.out.1.trans (hb1.mono (by have := HA.out.2.2.2; omega))) (And.intro (show Boxed w1 (w.heap.size + 1) 4 (.bool false) from (hb1.block _ (by have := HA.out.2.2.2; omega)).trans HA.out.2.2.1) (And.intro (show Boxed w1 w.heap.size 3 (.int .i64 a1) from (hb1.block _ (by have := HA.out.2.2.2; omega)).trans HA.out.2.1) (show w.heap.size + 2 ≤ w1.heap.size by have := HA.out.2.2.2; have := hb1.size; omega)))); clear hb1)
      | (refine ⟨trivial, ?_⟩; gi_at_call 32; refine (callsIn_wide.2 (fettlelaw03_light.calls k1 A c l true _ (Kd.C_below hr0.out HB1.out.1) hc0 hb)).mono ?_; rintro e w2 ⟨rfl, hd2⟩; have HD2 := Aside0.mk hd2; clear hd2)
      | (refine ⟨trivial, ?_⟩; gi_at_call 33; refine (callsIn_wide.2 (fettleref03_Norm.calls k2 (fun _ => True) A c l L _ (ExtZ.V_of_C (Kd.C_below hr0.out (HB1.out.1.trans (HD2.out.below.mono (by have := HB1.out.2.2.2; omega)))) hc0) hLr)).mono ?_; rintro e w3 ⟨vL, rfl, hRL, hb3⟩; have HB3 := Aside0.mk (And.intro hRL hb3); obtain ⟨AL, cL, rfl⟩ := Kd.R_slice hRL; have cS := (show Boxed w3 w.heap.size 3 (.int .i64 a1) from (hb3.block _ (by have := HB1.out.2.2.2; have := HD2.out.below.size; omega)).trans ((HD2.out.below.block _ (by have := HB1.out.2.2.2; omega)).trans HB1.out.2.2.1)).alloc (.cells #[.slice AL L.length cL] 56); have cS1 := cS.cell; have cS2 := cS.frozen; clear cS hRL hb3)
      | (refine ⟨trivial, ?_⟩; gi_at_call 34; refine (all_in _ A l.length c _).mono ?_; rintro e w' ⟨rfl, rfl⟩))
    rename_i K hK
    obtain ⟨hRL, hb3⟩ := HB3.out
    have hw1s := HB1.out.2.2.2
    have hw2s := HD2.out.below.size
    have hw3s := hb3.size
    have b1 := (Boxed.new w3 56 (.slice AL L.length cL))
    have b2 : Boxed w3 (w.heap.size + 1) 4 (.bool false) := (hb3.block _ (by omega)).trans ((HD2.out.below.block _ (by omega)).trans HB1.out.2.1)
    have b3 : Boxed w3 w.heap.size 3 (.int .i64 a1) := (hb3.block _ (by omega)).trans ((HD2.out.below.block _ (by omega)).trans HB1.out.2.2.1)
    have bWt := (((b1.other (B' := w.heap.size) (by omega) (.int .i64 (wrap64 ((IntKind.u64.wrap a1).tmod 8)))).alloc (.cells #[.slice A l.length c] 62)).alloc (.cells #[.int .i64 0] 3))
    have bRs := ((((b2.alloc (.cells #[.slice AL L.length cL] 56)).other (B' := w.heap.size) (by omega) (.int .i64 (wrap64 ((IntKind.u64.wrap a1).tmod 8)))).alloc (.cells #[.slice A l.length c] 62)).alloc (.cells #[.int .i64 0] 3))
    have bSt := ((((b3.alloc (.cells #[.slice AL L.length cL] 56)).set (.int .i64 (wrap64 ((IntKind.u64.wrap a1).tmod 8)))).alloc (.cells #[.slice A l.length c] 62)).alloc (.cells #[.int .i64 0] 3))
    have hs4 : ((w3.alloc (.cells #[.slice AL L.length cL] 56)).setCell ⟨w.heap.size, 0, none⟩ (.int .i64 (wrap64 ((IntKind.u64.wrap a1).tmod 8)))).heap.size = w3.heap.size + 1 := by simp [World.setCell]
    have bSl := (Boxed.new ((w3.alloc (.cells #[.slice AL L.length cL] 56)).setCell ⟨w.heap.size, 0, none⟩ (.int .i64 (wrap64 ((IntKind.u64.wrap a1).tmod 8)))) 62 (.slice A l.length c)).alloc (.cells #[.int .i64 0] 3)
    have bNn := Boxed.new (((w3.alloc (.cells #[.slice AL L.length cL] 56)).setCell ⟨w.heap.size, 0, none⟩ (.int .i64 (wrap64 ((IntKind.u64.wrap a1).tmod 8)))).alloc (.cells #[.slice A l.length c] 62)) 3 (.int .i64 0)
    simp only [World.size_alloc, hs4] at bSl bNn
    have hsz : ((((w3.alloc (.cells #[.slice AL L.length cL] 56)).setCell ⟨w.heap.size, 0, none⟩ (.int .i64 (wrap64 ((IntKind.u64.wrap a1).tmod 8)))).alloc (.cells #[.slice A l.length c] 62)).alloc (.cells #[.int .i64 0] 3)).heap.size = w3.heap.size + 3 := by simp [World.setCell]
    have hb4 : Below (w3.heap.size) w3 (w3.alloc (.cells #[.slice AL L.length cL] 56)) := (Below.refl _ w3).alloc (Nat.le_refl _) _
    have hbK : LK w.heap.size w3 ((((w3.alloc (.cells #[.slice AL L.length cL] 56)).setCell ⟨w.heap.size, 0, none⟩ (.int .i64 (wrap64 ((IntKind.u64.wrap a1).tmod 8)))).alloc (.cells #[.slice A l.length c] 62)).alloc (.cells #[.int .i64 0] 3)) := ((((LK.refl _ w3).below hb4).set _).below ((Below.refl _ _).alloc (Nat.le_refl _) _)).below ((Below.refl _ _).alloc (Nat.le_refl _) _)
    obtain ⟨W0, hW0⟩ : ∃ W0, (((w3.alloc (.cells #[.slice AL L.length cL] 56)).setCell ⟨w.heap.size, 0, none⟩ (.int .i64 (wrap64 ((IntKind.u64.wrap a1).tmod 8)))).alloc (.cells #[.slice A l.length c] 62)).alloc (.cells #[.int .i64 0] 3) = W0 := ⟨_, rfl⟩
    rw [hW0] at bWt bRs bSt bSl bNn hsz hbK ⊢
    obtain ⟨st, hst⟩ : ∃ st, wrap64 ((IntKind.u64.wrap a1).tmod 8) = st := ⟨_, rfl⟩
    obtain ⟨u2, hu2⟩ : ∃ u2, (IntKind.u64.wrap a1).tmod 8 = u2 := ⟨_, rfl⟩
    obtain ⟨u1, hu1⟩ : ∃ u1, IntKind.u64.wrap a1 = u1 := ⟨_, rfl⟩
    rw [hst] at bSt ⊢
    rw [hu2, hu1] at ⊢
    clear hW0 hst hu1 hu2 cS1 cS2 hs4 b1 b2 b3 hb4
    have hbW : Below w.heap.size w W0 := (HB1.out.1.trans ((HD2.out.below.mono (by omega)).trans (hb3.mono (by omega)))).trans (hbK.down (Nat.le_refl _) (by omega))
    have hC0 := Kd.C_below hr0.out hbW
    have hRA : Aside0 (Kd.R k65 65 W0 w2.heap.size (fun _ => True) (.slice AL L.length cL) L) := ⟨R_own65 (Kd.R_mono hRL (fun _ _ => trivial)) (fun g cc tt z hg_ hcell => by
      obtain ⟨_, inner, ho, _⟩ := hRL
      exact (hbK.block g (own_lt ho g hg_) (by have := own_base ho g hg_; omega)).trans hcell)⟩
    have hgn : Aside0 (∀ g, (Value.slice AL L.length cL).ownBlock = some g → g ≠ w3.heap.size + 1 + 1) := ⟨fun g hg_ => by
      obtain ⟨_, inner, ho, _⟩ := hRL
      have := own_lt ho g hg_
      omega⟩
    have hh0 : hold (w3.heap.size + 1 + 1) W0 = none := by rw [hold, bNn.cell]; rfl
    clear HB1 HD2 HB3 hRL hb3 HA
    have tail : ∀ (D : Nat) (W : World) (m : Int), W0.heap.size ≤ D → LK (w3.heap.size + 1 + 1) W0 W → Boxed W (w3.heap.size + 1 + 1) 3 (.int .i64 m) → W.heap[D]? = some (.deferred (some [])) → K { tmps := #[.slice A l.length c, .int .i64 a1, undef, .pointer (some ⟨w.heap.size, 0, none⟩), .pointer (some ⟨w.heap.size + 1, 0, none⟩), .pointer (some ⟨w3.heap.size, 0, none⟩), .func (.func 75) #[] #[.pointer (some ⟨w3.heap.size + 1, 0, none⟩)], .pointer (some ⟨w3.heap.size + 1 + 1, 0, none⟩), undef, undef, undef, undef, .bool true, .bool false, .bool false, .slice A l.length c, .bool true, .bool false, .bool false, undef, .slice A l.length c, .slice AL L.length cL, .int .i64 a1, .int .u64 u1, .int .u64 u2, .int .i64 st, .slice A l.length c, .func (.func 75) #[] #[.pointer (some ⟨w3.heap.size + 1, 0, none⟩)], .func (.func 75) #[] #[.pointer (some ⟨w3.heap.size + 1, 0, none⟩)], undef, undef, undef, undef, undef, undef, undef, undef, undef, undef, undef, undef, undef, undef, undef, undef, undef, undef, undef, undef, undef, undef, undef, undef, undef, undef, undef, undef, undef, undef, undef, undef, undef, undef, undef, undef, undef, undef, undef, undef, undef, undef, undef, undef, undef, undef, undef, undef, undef, undef, undef, undef, undef], defers := [{ target := .collected D, args := #[] }] } W := by
      intro D W m hD hlk hn hm
      refine hK _ _ ?_
      have hszW := hlk.size
      have hDlt : D < W.heap.size := (Array.getElem?_eq_some_iff.1 hm).1
      have hnA := Aside0.mk hn
      have cN := hn.cell
      have fN := hn.frozen
      have hlkA := Aside0.mk hlk
      have hmA := Aside0.mk hm
      clear hn hlk hm
      gi_wp2
      rename_i K2 hK2
      have bNn2 := hnA.out.set (.int .i64 0)
      have hlk0 := hlkA.out.set (.int .i64 0)
      have hmV : (W.setCell ⟨w3.heap.size + 1 + 1, 0, none⟩ (.int .i64 0)).heap[D]? = some (.deferred (some [])) := (Below.heap_setCell W ⟨w3.heap.size + 1 + 1, 0, none⟩ _ D (show D ≠ w3.heap.size + 1 + 1 by omega)).trans hmA.out
      have hszV : (W.setCell ⟨w3.heap.size + 1 + 1, 0, none⟩ (.int .i64 0)).heap.size = W.heap.size := by simp [World.setCell]
      clear cN fN hnA hlkA hmA
      generalize W.setCell ⟨w3.heap.size + 1 + 1, 0, none⟩ (.int .i64 0) = V0 at bNn2 hlk0 hmV hszV ⊢
      have bWt2 := (hlk0.block _ (by omega) (by omega)).trans bWt
      have bRs2 := (hlk0.block _ (by omega) (by omega)).trans bRs
      have bSt2 := (hlk0.block _ (by omega) (by omega)).trans bSt
      have bSl2 : Boxed V0 (w3.heap.size + 1) 62 (.slice A l.length c) := (hlk0.block _ (by omega) (by omega)).trans bSl
      have hbV : Below w.heap.size w V0 := hbW.trans (hlk0.down (by omega) (by omega))
      have hC2 := Kd.C_below hr0.out hbV
      have hRA2 : Aside0 (Kd.R k65 65 V0 w2.heap.size (fun _ => True) (.slice AL L.length cL) L) := ⟨R_own65 hRA.out (fun g cc tt z hg_ hcell => by
        obtain ⟨_, inner, ho, _⟩ := hRA.out
        exact (hlk0.block g (own_lt ho g hg_) (fun e => hgn.out g hg_ e)).trans hcell)⟩
      have hh2 : hold (w3.heap.size + 1 + 1) V0 = none := by rw [hold, bNn2.cell]; rfl
      refine wpIn_rangeFunc_ownH (α := Nat × S65) (w := V0) rfl (by omega) (gf := 75) (lb := #[.pointer (some ⟨w3.heap.size + 1, 0, none⟩)]) rfl trivial (enters_of Try.func75 (by kernel_rfl) rfl)
        (all1_in 8 (by omega) (w3.heap.size + 1 + 1) (w3.heap.size + 1) c k2 A l L V0 (by omega) (by omega) bSl2.cell hC2 hc0 hh2 hLn (by omega)) (fun h k => h.trans k) (kpO_b (by omega)) (Below.refl _ _) (fun _ => rfl)
        (fun pre W => good L pre ∧ LK (w3.heap.size + 1 + 1) V0 W ∧ Boxed W (w3.heap.size + 1 + 1) 3 (.int .i64 (pre.length : Int)))
        (fun cc pre W => cc = .ret ∧ ¬ good L pre)
        (OwnFrom.and (ownFrom_pure _ _) (OwnFrom.and ownFrom_LK (Own.from (boxed_own _ 3 (fun pre : List (Nat × S65) => Value.int .i64 (pre.length : Int))) _)))
        (fun _ _ _ _ _ hs _ _ => hs)
        ⟨rfl, LK.refl _ _, bNn2⟩
        (fun x a' W => ∃ Bx, w3.heap.size + 1 + 1 < Bx ∧ Box2 W Bx x.2 ∧ a' = { tmps := #[.slice A l.length c, .int .i64 a1, undef, .pointer (some ⟨w.heap.size, 0, none⟩), .pointer (some ⟨w.heap.size + 1, 0, none⟩), .pointer (some ⟨w3.heap.size, 0, none⟩), .func (.func 75) #[] #[.pointer (some ⟨w3.heap.size + 1, 0, none⟩)], .pointer (some ⟨w3.heap.size + 1 + 1, 0, none⟩), undef, undef, .int .i64 (x.1 : Int), .pointer (some ⟨Bx, 0, none⟩), .bool true, .bool false, .bool false, .slice A l.length c, .bool true, .bool false, .bool false, undef, .slice A l.length c, .slice AL L.length cL, .int .i64 a1, .int .u64 u1, .int .u64 u2, .int .i64 st, .slice A l.length c, .func (.func 75) #[] #[.pointer (some ⟨w3.heap.size + 1, 0, none⟩)], .func (.func 75) #[] #[.pointer (some ⟨w3.heap.size + 1, 0, none⟩)], undef, undef, undef, undef, undef, undef, undef, undef, undef, undef, undef, undef, undef, undef, undef, undef, undef, undef, undef, undef, undef, undef, undef, undef, .func (.func 75) #[] #[.pointer (some ⟨w3.heap.size + 1, 0, none⟩)], .int .i64 (x.1 : Int), .agg #[.int .i64 x.2.f0, .int .i64 x.2.f1], undef, undef, undef, undef, undef, undef, undef, undef, undef, undef, undef, undef, undef, undef, undef, undef, undef, undef, undef, undef, undef, undef, undef, undef, undef, undef], defers := [] })
        (fun x a' _ X Y row hs hg hr => by obtain ⟨Bx, h1, h2, h3⟩ := hs; exact ⟨Bx, h1, box2_own Bx x.2 () X Y row h2 hg (fun r e => (hr r e).2), h3⟩)
        ?assign2 ?body2 ?done2 ?stop2
      case assign2 =>
        rintro lp pre x W K ⟨hg, hlk, hn⟩ hK
        have hsW := hlk.size
        dsimp only [encX]
        gi_wp2
        exact hK _ _ ((KeepsOthers.alloc _ _).from _) (KpO.below (by omega) ((Below.refl _ W).alloc (Nat.le_refl _) _)) ⟨hg, hlk.below ((Below.refl _ W).alloc (Nat.le_refl _) _), hn.alloc _⟩ ⟨W.heap.size, by omega, Box2.new W x.2, rfl⟩
      case body2 =>
        clear hK2 K2 hK K
        rintro lp pre x a' W hl _ ⟨hg, hlk, hn⟩ ⟨Bx, hBx, bX, rfl⟩ hlt
        have hszW := hlk.size
        have bW : Boxed W w3.heap.size 56 (.slice AL L.length cL) := (hlk.block _ (by omega) (by omega)).trans bWt2
        have bT : Boxed W w.heap.size 3 (.int .i64 st) := (hlk.block _ (by omega) (by omega)).trans bSt2
        have bQ : Boxed W (w.heap.size + 1) 4 (.bool false) := (hlk.block _ (by omega) (by omega)).trans bRs2
        have hRW : Kd.R k65 65 W w2.heap.size (fun _ => True) (.slice AL L.length cL) L := R_own65 hRA2.out (fun g cc tt z hg_ hcell => by
          obtain ⟨_, inner, ho, _⟩ := hRA2.out
          exact (hlk.block g (by have := own_lt ho g hg_; omega) (fun e => hgn.out g hg_ e)).trans hcell)
        obtain ⟨ad, e1, hx0, hx1⟩ := at_T65 (Kd.R_reads' hRW).2.2 (pre.length : Int) (by omega) (by omega)
        subst e1
        simp only [Int.toNat_natCast] at hx0 hx1
        have hlen30 : pre.length < 30 := by omega
        have hko0 : KeepsOthers W W.drew := ⟨Nat.le_refl _, fun _ _ h _ => h⟩
        have hkp0 : KpO (w3.heap.size + 1 + 1) W W.drew := ⟨Nat.le_refl _, fun _ _ _ _ h _ _ => h, .inl rfl⟩
        have HF := Aside0.mk (And.intro hlk (And.intro hn (And.intro bQ (And.intro hko0 hkp0))))
        have HS := Aside0.mk (And.intro bX (And.intro hn (And.intro bW (And.intro hx0 hx1))))
        have hlkA := Aside0.mk hlk
        have hnA := Aside0.mk hn
        have cN := hn.cell
        have cT := bT.cell
        clear hRW hlk hko0 hkp0 bQ bX bW hx0 hx1
        by_cases hi : ¬ x.1 = pre.length
        · have hiN : ((x.1 : Int) != (pre.length : Int)) = true := bne_iff_ne.2 (by omega)
          have hbad : ¬ good L (pre ++ [x]) := fun h => hi (by rw [(good_last hg).1 h]; rfl)
          have hi := Aside0.mk hi
          gi_wp2
          clear cN cT
          refine startIn_ (m := 17) (S := fun w' => Box2 w' Bx x.2 ∧ Boxed w' (w3.heap.size + 1 + 1) 3 (.int .i64 (pre.length : Int)) ∧ Boxed w' w3.heap.size 56 (.slice (some ad) L.length cL) ∧ w'.cell? (ad.add (pre.length * 2)) = some (.int .i64 (rd_T65 L (pre.length : Int)).f0) ∧ w'.cell? ⟨(ad.add (pre.length * 2)).block, (ad.add (pre.length * 2)).off + 1, none⟩ = some (.int .i64 (rd_T65 L (pre.length : Int)).f1)) (ds := []) #[false, false, false, false, false, false, false, false, false, false, false, false, false, false, false, false, false] hmix (by kernel_rfl) (fun h_ => by obtain ⟨a_, w_, h_⟩ := h_; exact h_) rfl rfl HS.out (fun hHeld => ?_)
          have hn2 : Boxed W.drew (w3.heap.size + 1 + 1) 3 (.int .i64 (pre.length : Int)) := HF.out.2.1
          have bQ2 : Boxed W.drew (w.heap.size + 1) 4 (.bool false) := HF.out.2.2.1
          have hlk2 : LK (w3.heap.size + 1 + 1) V0 W.drew := ⟨HF.out.1.os, HF.out.1.tape, HF.out.1.output, HF.out.1.size, HF.out.1.block⟩
          have hko2 := HF.out.2.2.2.1
          have hkp2 := HF.out.2.2.2.2
          clear HF
          generalize W.drew = Wb at hn2 bQ2 hlk2 hko2 hkp2 hHeld ⊢
          refine pure_ (i := 0) (N := some 56) (v := ?_) (a' := ?_) #[true, false, false, false, false, false, false, false, false, false, false, false, false, false, false, false, false] rfl rfl (by kernel_rfl) (fun _ _ _ h => h) (Or.inl ⟨by rfl, ?_⟩) ?_ ?_
          rotate_left
          · intro w'
            go_simp
            with_reducible rfl
          rotate_left
          · simp only [Act.put, List.setIfInBounds_toArray, List.set_cons_zero, List.set_cons_succ, i64_w, i32_w, hiN]
            rfl
          refine take_ (i := 1) (N := some 57) (v := ?_) (a' := ?_) #[true, true, false, false, false, false, false, false, false, false, false, false, false, false, false, false, false] rfl rfl (by kernel_rfl) (fun _ _ _ h => h) (Or.inl ⟨by rfl, ?_⟩) hHeld ?_ ?_
          rotate_left
          · rintro w' ⟨s0, s1, s2, s3, s4⟩
            have c_ := s1.cell
            go_simp
            with_reducible rfl
          rotate_left
          · simp only [Act.put, List.setIfInBounds_toArray, List.set_cons_zero, List.set_cons_succ, i64_w, i32_w, hiN]
            rfl
          refine pure_ (i := 2) (N := some 58) (v := ?_) (a' := ?_) #[true, true, true, false, false, false, false, false, false, false, false, false, false, false, false, false, false] rfl rfl (by kernel_rfl) (fun _ _ _ h => h) (Or.inl ⟨by rfl, ?_⟩) ?_ ?_
          rotate_left
          · intro w'
            go_simp
            with_reducible rfl
          rotate_left
          · simp only [Act.put, List.setIfInBounds_toArray, List.set_cons_zero, List.set_cons_succ, i64_w, i32_w, hiN]
            rfl
          refine pure_ (i := 3) (N := some 59) (v := ?_) (a' := ?_) #[true, true, true, true, false, false, false, false, false, false, false, false, false, false, false, false, false] rfl rfl (by kernel_rfl) (fun _ _ _ h => h) (Or.inl ⟨by rfl, ?_⟩) ?_ ?_
          rotate_left
          · intro w'
            go_simp
            with_reducible rfl
          rotate_left
          · simp only [Act.put, List.setIfInBounds_toArray, List.set_cons_zero, List.set_cons_succ, i64_w, i32_w, hiN]
            rfl
          refine pure_ (i := 4) (N := some 60) (v := undef) (a' := ?_) #[true, true, true, true, true, false, false, false, false, false, false, false, false, false, false, false, false] rfl rfl (by kernel_rfl) (fun _ _ _ h => h) (Or.inr ⟨by rfl, rfl⟩) ?_ ?_
          rotate_left
          · simp only [Act.put, List.setIfInBounds_toArray, List.set_cons_zero, List.set_cons_succ, i64_w, i32_w, hiN]
            rfl
          refine pure_ (i := 5) (N := some 61) (v := undef) (a' := ?_) #[true, true, true, true, true, true, false, false, false, false, false, false, false, false, false, false, false] rfl rfl (by kernel_rfl) (fun _ _ _ h => h) (Or.inr ⟨by rfl, rfl⟩) ?_ ?_
          rotate_left
          · simp only [Act.put, List.setIfInBounds_toArray, List.set_cons_zero, List.set_cons_succ, i64_w, i32_w, hiN]
            rfl
          refine pure_ (i := 6) (N := some 62) (v := undef) (a' := ?_) #[true, true, true, true, true, true, true, false, false, false, false, false, false, false, false, false, false] rfl rfl (by kernel_rfl) (fun _ _ _ h => h) (Or.inr ⟨by rfl, rfl⟩) ?_ ?_
          rotate_left
          · simp only [Act.put, List.setIfInBounds_toArray, List.set_cons_zero, List.set_cons_succ, i64_w, i32_w, hiN]
            rfl
          refine pure_ (i := 7) (N := some 63) (v := undef) (a' := ?_) #[true, true, true, true, true, true, true, true, false, false, false, false, false, false, false, false, false] rfl rfl (by kernel_rfl) (fun _ _ _ h => h) (Or.inr ⟨by rfl, rfl⟩) ?_ ?_
          rotate_left
          · simp only [Act.put, List.setIfInBounds_toArray, List.set_cons_zero, List.set_cons_succ, i64_w, i32_w, hiN]
            rfl
          refine pure_ (i := 8) (N := some 64) (v := ?_) (a' := ?_) #[true, true, true, true, true, true, true, true, true, false, false, false, false, false, false, false, false] rfl rfl (by kernel_rfl) (fun _ _ _ h => h) (Or.inl ⟨by rfl, ?_⟩) ?_ ?_
          rotate_left
          · intro w'
            go_simp
            with_reducible rfl
          rotate_left
          · simp only [Act.put, List.setIfInBounds_toArray, List.set_cons_zero, List.set_cons_succ, i64_w, i32_w, hiN]
            rfl
          refine pure_ (i := 9) (N := some 65) (v := ?_) (a' := ?_) #[true, true, true, true, true, true, true, true, true, true, false, false, false, false, false, false, false] rfl rfl (by kernel_rfl) (fun _ _ _ h => h) (Or.inl ⟨by rfl, ?_⟩) ?_ ?_
          rotate_left
          · intro w'
            go_simp
            with_reducible rfl
          rotate_left
          · simp only [Act.put, List.setIfInBounds_toArray, List.set_cons_zero, List.set_cons_succ, i64_w, i32_w, hiN]
            rfl
          refine pure_ (i := 10) (N := some 66) (v := undef) (a' := ?_) #[true, true, true, true, true, true, true, true, true, true, true, false, false, false, false, false, false] rfl rfl (by kernel_rfl) (fun _ _ _ h => h) (Or.inr ⟨by rfl, rfl⟩) ?_ ?_
          rotate_left
          · simp only [Act.put, List.setIfInBounds_toArray, List.set_cons_zero, List.set_cons_succ, i64_w, i32_w, hiN]
            rfl
          refine pure_ (i := 11) (N := some 67) (v := undef) (a' := ?_) #[true, true, true, true, true, true, true, true, true, true, true, true, false, false, false, false, false] rfl rfl (by kernel_rfl) (fun _ _ _ h => h) (Or.inr ⟨by rfl, rfl⟩) ?_ ?_
          rotate_left
          · simp only [Act.put, List.setIfInBounds_toArray, List.set_cons_zero, List.set_cons_succ, i64_w, i32_w, hiN]
            rfl
          refine pure_ (i := 12) (N := some 68) (v := undef) (a' := ?_) #[true, true, true, true, true, true, true, true, true, true, true, true, true, false, false, false, false] rfl rfl (by kernel_rfl) (fun _ _ _ h => h) (Or.inr ⟨by rfl, rfl⟩) ?_ ?_
          rotate_left
          · simp only [Act.put, List.setIfInBounds_toArray, List.set_cons_zero, List.set_cons_succ, i64_w, i32_w, hiN]
            rfl
          refine pure_ (i := 13) (N := some 69) (v := undef) (a' := ?_) #[true, true, true, true, true, true, true, true, true, true, true, true, true, true, false, false, false] rfl rfl (by kernel_rfl) (fun _ _ _ h => h) (Or.inr ⟨by rfl, rfl⟩) ?_ ?_
          rotate_left
          · simp only [Act.put, List.setIfInBounds_toArray, List.set_cons_zero, List.set_cons_succ, i64_w, i32_w, hiN]
            rfl
          refine pure_ (i := 14) (N := some 70) (v := undef) (a' := ?_) #[true, true, true, true, true, true, true, true, true, true, true, true, true, true, true, false, false] rfl rfl (by kernel_rfl) (fun _ _ _ h => h) (Or.inr ⟨by rfl, rfl⟩) ?_ ?_
          rotate_left
          · simp only [Act.put, List.setIfInBounds_toArray, List.set_cons_zero, List.set_cons_succ, i64_w, i32_w, hiN]
            rfl
          refine pure_ (i := 15) (N := some 71) (v := undef) (a' := ?_) #[true, true, true, true, true, true, true, true, true, true, true, true, true, true, true, true, false] rfl rfl (by kernel_rfl) (fun _ _ _ h => h) (Or.inr ⟨by rfl, rfl⟩) ?_ ?_
          rotate_left
          · simp only [Act.put, List.setIfInBounds_toArray, List.set_cons_zero, List.set_cons_succ, i64_w, i32_w, hiN]
            rfl
          refine pure_ (i := 16) (N := some 72) (v := ?_) (a' := ?_) #[true, true, true, true, true, true, true, true, true, true, true, true, true, true, true, true, true] rfl rfl (by kernel_rfl) (fun _ _ _ h => h) (Or.inl ⟨by rfl, ?_⟩) ?_ ?_
          rotate_left
          · intro w'
            go_simp
            with_reducible rfl
          rotate_left
          · simp only [Act.put, List.setIfInBounds_toArray, List.set_cons_zero, List.set_cons_succ, i64_w, i32_w, hiN]
            rfl
          refine done_ (by kernel_rfl) ?_
          have cQ := bQ2.cell
          have fQ := bQ2.frozen
          gi_wp2
          exact ⟨(hko2.trans (KeepsOthers.setCell _ _ _)).from _, ⟨rfl, hbad⟩⟩
        replace hi := Decidable.not_not.1 hi
        obtain ⟨xi, xs⟩ := x
        simp only at hi
        subst hi
        have hge : decide ((L.length : Int) ≤ (pre.length : Int)) = false := decide_eq_false (by omega)
        have hge2 : decide (L.length ≤ pre.length) = false := decide_eq_false (by omega)
        have hlt2 : (((pre.length : Int) < (L.length : Int)) = True) := eq_true (by omega)
        by_cases hxs : xs = rd_T65 L (pre.length : Int)
        · subst hxs
          gi_wp2
          clear cN cT
          refine startIn_ (m := 17) (S := fun w' => Box2 w' Bx (rd_T65 L (pre.length : Int)) ∧ Boxed w' (w3.heap.size + 1 + 1) 3 (.int .i64 (pre.length : Int)) ∧ Boxed w' w3.heap.size 56 (.slice (some ad) L.length cL) ∧ w'.cell? (ad.add (pre.length * 2)) = some (.int .i64 (rd_T65 L (pre.length : Int)).f0) ∧ w'.cell? ⟨(ad.add (pre.length * 2)).block, (ad.add (pre.length * 2)).off + 1, none⟩ = some (.int .i64 (rd_T65 L (pre.length : Int)).f1)) (ds := []) #[false, false, false, false, false, false, false, false, false, false, false, false, false, false, false, false, false] hmix (by kernel_rfl) (fun h_ => by obtain ⟨a_, w_, h_⟩ := h_; exact h_) rfl rfl HS.out (fun hHeld => ?_)
          have hn2 : Boxed W.drew (w3.heap.size + 1 + 1) 3 (.int .i64 (pre.length : Int)) := HF.out.2.1
          have bQ2 : Boxed W.drew (w.heap.size + 1) 4 (.bool false) := HF.out.2.2.1
          have hlk2 : LK (w3.heap.size + 1 + 1) V0 W.drew := ⟨HF.out.1.os, HF.out.1.tape, HF.out.1.output, HF.out.1.size, HF.out.1.block⟩
          have hko2 := HF.out.2.2.2.1
          have hkp2 := HF.out.2.2.2.2
          clear HF
          generalize W.drew = Wb at hn2 bQ2 hlk2 hko2 hkp2 hHeld ⊢
          refine pure_ (i := 0) (N := some 56) (v := ?_) (a' := ?_) #[true, false, false, false, false, false, false, false, false, false, false, false, false, false, false, false, false] rfl rfl (by kernel_rfl) (fun _ _ _ h => h) (Or.inl ⟨by rfl, ?_⟩) ?_ ?_
          rotate_left
          · intro w'
            go_simp
            with_reducible rfl
          rotate_left
          · simp only [Act.put, List.setIfInBounds_toArray, List.set_cons_zero, List.set_cons_succ, i64_w, i32_w, hge, bne_self_eq_false]
            rfl
          refine take_ (i := 1) (N := some 57) (v := ?_) (a' := ?_) #[true, true, false, false, false, false, false, false, false, false, false, false, false, false, false, false, false] rfl rfl (by kernel_rfl) (fun _ _ _ h => h) (Or.inl ⟨by rfl, ?_⟩) hHeld ?_ ?_
          rotate_left
          · rintro w' ⟨s0, s1, s2, s3, s4⟩
            have c_ := s1.cell
            go_simp
            with_reducible rfl
          rotate_left
          · simp only [Act.put, List.setIfInBounds_toArray, List.set_cons_zero, List.set_cons_succ, i64_w, i32_w, hge, bne_self_eq_false]
            rfl
          refine pure_ (i := 2) (N := some 58) (v := ?_) (a' := ?_) #[true, true, true, false, false, false, false, false, false, false, false, false, false, false, false, false, false] rfl rfl (by kernel_rfl) (fun _ _ _ h => h) (Or.inl ⟨by rfl, ?_⟩) ?_ ?_
          rotate_left
          · intro w'
            go_simp
            with_reducible rfl
          rotate_left
          · simp only [Act.put, List.setIfInBounds_toArray, List.set_cons_zero, List.set_cons_succ, i64_w, i32_w, hge, bne_self_eq_false]
            rfl
          refine pure_ (i := 3) (N := some 59) (v := ?_) (a' := ?_) #[true, true, true, true, false, false, false, false, false, false, false, false, false, false, false, false, false] rfl rfl (by kernel_rfl) (fun _ _ _ h => h) (Or.inl ⟨by rfl, ?_⟩) ?_ ?_
          rotate_left
          · intro w'
            go_simp
            with_reducible rfl
          rotate_left
          · simp only [Act.put, List.setIfInBounds_toArray, List.set_cons_zero, List.set_cons_succ, i64_w, i32_w, hge, bne_self_eq_false]
            rfl
          refine take_ (i := 4) (N := some 60) (v := ?_) (a' := ?_) #[true, true, true, true, true, false, false, false, false, false, false, false, false, false, false, false, false] rfl rfl (by kernel_rfl) (fun _ _ _ h => h) (Or.inl ⟨by rfl, ?_⟩) hHeld ?_ ?_
          rotate_left
          · rintro w' ⟨s0, s1, s2, s3, s4⟩
            have c_ := s1.cell
            go_simp
            with_reducible rfl
          rotate_left
          · simp only [Act.put, List.setIfInBounds_toArray, List.set_cons_zero, List.set_cons_succ, i64_w, i32_w, hge, bne_self_eq_false]
            rfl
          refine take_ (i := 5) (N := some 61) (v := ?_) (a' := ?_) #[true, true, true, true, true, true, false, false, false, false, false, false, false, false, false, false, false] rfl rfl (by kernel_rfl) (fun _ _ _ h => h) (Or.inl ⟨by rfl, ?_⟩) hHeld ?_ ?_
          rotate_left
          · rintro w' ⟨s0, s1, s2, s3, s4⟩
            have c_ := s2.cell
            go_simp
            with_reducible rfl
          rotate_left
          · simp only [Act.put, List.setIfInBounds_toArray, List.set_cons_zero, List.set_cons_succ, i64_w, i32_w, hge, bne_self_eq_false]
            rfl
          refine pure_ (i := 6) (N := some 62) (v := ?_) (a' := ?_) #[true, true, true, true, true, true, true, false, false, false, false, false, false, false, false, false, false] rfl rfl (by kernel_rfl) (fun _ _ _ h => h) (Or.inl ⟨by rfl, ?_⟩) ?_ ?_
          rotate_left
          · intro w'
            go_simp
            with_reducible rfl
          rotate_left
          · simp only [Act.put, List.setIfInBounds_toArray, List.set_cons_zero, List.set_cons_succ, i64_w, i32_w, hge, bne_self_eq_false]
            rfl
          refine pure_ (i := 7) (N := some 63) (v := ?_) (a' := ?_) #[true, true, true, true, true, true, true, true, false, false, false, false, false, false, false, false, false] rfl rfl (by kernel_rfl) (fun _ _ _ h => h) (Or.inl ⟨by rfl, ?_⟩) ?_ ?_
          rotate_left
          · intro w'
            go_simp
            with_reducible rfl
          rotate_left
          · simp only [Act.put, List.setIfInBounds_toArray, List.set_cons_zero, List.set_cons_succ, i64_w, i32_w, hge, bne_self_eq_false]
            rfl
          refine pure_ (i := 8) (N := some 64) (v := ?_) (a' := ?_) #[true, true, true, true, true, true, true, true, true, false, false, false, false, false, false, false, false] rfl rfl (by kernel_rfl) (fun _ _ _ h => h) (Or.inl ⟨by rfl, ?_⟩) ?_ ?_
          rotate_left
          · intro w'
            go_simp
            with_reducible rfl
          rotate_left
          · simp only [Act.put, List.setIfInBounds_toArray, List.set_cons_zero, List.set_cons_succ, i64_w, i32_w, hge, bne_self_eq_false]
            rfl
          refine pure_ (i := 9) (N := some 65) (v := ?_) (a' := ?_) #[true, true, true, true, true, true, true, true, true, true, false, false, false, false, false, false, false] rfl rfl (by kernel_rfl) (fun _ _ _ h => h) (Or.inl ⟨by rfl, ?_⟩) ?_ ?_
          rotate_left
          · intro w'
            go_simp
            with_reducible rfl
          rotate_left
          · simp only [Act.put, List.setIfInBounds_toArray, List.set_cons_zero, List.set_cons_succ, i64_w, i32_w, hge, bne_self_eq_false]
            rfl
          refine take_ (i := 10) (N := some 66) (v := ?_) (a' := ?_) #[true, true, true, true, true, true, true, true, true, true, true, false, false, false, false, false, false] rfl rfl (by kernel_rfl) (fun _ _ _ h => h) (Or.inl ⟨by rfl, ?_⟩) hHeld ?_ ?_
          rotate_left
          · rintro w' ⟨s0, s1, s2, s3, s4⟩
            obtain ⟨c_, d_⟩ := s0.cells
            go_simp
            with_reducible rfl
          rotate_left
          · simp only [Act.put, List.setIfInBounds_toArray, List.set_cons_zero, List.set_cons_succ, i64_w, i32_w, hge, bne_self_eq_false]
            rfl
          refine take_ (i := 11) (N := some 67) (v := ?_) (a' := ?_) #[true, true, true, true, true, true, true, true, true, true, true, true, false, false, false, false, false] rfl rfl (by kernel_rfl) (fun _ _ _ h => h) (Or.inl ⟨by rfl, ?_⟩) hHeld ?_ ?_
          rotate_left
          · rintro w' ⟨s0, s1, s2, s3, s4⟩
            have c_ := s2.cell
            go_simp
            with_reducible rfl
          rotate_left
          · simp only [Act.put, List.setIfInBounds_toArray, List.set_cons_zero, List.set_cons_succ, i64_w, i32_w, hge, bne_self_eq_false]
            rfl
          refine take_ (i := 12) (N := some 68) (v := ?_) (a' := ?_) #[true, true, true, true, true, true, true, true, true, true, true, true, true, false, false, false, false] rfl rfl (by kernel_rfl) (fun _ _ _ h => h) (Or.inl ⟨by rfl, ?_⟩) hHeld ?_ ?_
          rotate_left
          · rintro w' ⟨s0, s1, s2, s3, s4⟩
            have c_ := s1.cell
            go_simp
            with_reducible rfl
          rotate_left
          · simp only [Act.put, List.setIfInBounds_toArray, List.set_cons_zero, List.set_cons_succ, i64_w, i32_w, hge, bne_self_eq_false]
            rfl
          refine pure_ (i := 13) (N := some 69) (v := ?_) (a' := ?_) #[true, true, true, true, true, true, true, true, true, true, true, true, true, true, false, false, false] rfl rfl (by kernel_rfl) (fun _ _ _ h => h) (Or.inl ⟨by rfl, ?_⟩) ?_ ?_
          rotate_left
          · intro w'
            go_simp
            with_reducible rfl
          rotate_left
          · simp only [Act.put, List.setIfInBounds_toArray, List.set_cons_zero, List.set_cons_succ, i64_w, i32_w, hge, bne_self_eq_false]
            rfl
          refine take_ (i := 14) (N := some 70) (v := ?_) (a' := ?_) #[true, true, true, true, true, true, true, true, true, true, true, true, true, true, true, false, false] rfl rfl (by kernel_rfl) (fun _ _ _ h => h) (Or.inl ⟨by rfl, ?_⟩) hHeld ?_ ?_
          rotate_left
          · rintro w' ⟨s0, s1, s2, s3, s4⟩
            have c_ := s3; have d_ := s4
            go_simp
            with_reducible rfl
          rotate_left
          · simp only [Act.put, List.setIfInBounds_toArray, List.set_cons_zero, List.set_cons_succ, i64_w, i32_w, hge, bne_self_eq_false]
            rfl
          refine pure_ (i := 15) (N := some 71) (v := ?_) (a' := ?_) #[true, true, true, true, true, true, true, true, true, true, true, true, true, true, true, true, false] rfl rfl (by kernel_rfl) (fun _ _ _ h => h) (Or.inl ⟨by rfl, ?_⟩) ?_ ?_
          rotate_left
          · intro w'
            go_simp
            with_reducible rfl
          rotate_left
          · simp only [Act.put, List.setIfInBounds_toArray, List.set_cons_zero, List.set_cons_succ, i64_w, i32_w, hge, bne_self_eq_false]
            rfl
          refine pure_ (i := 16) (N := some 72) (v := ?_) (a' := ?_) #[true, true, true, true, true, true, true, true, true, true, true, true, true, true, true, true, true] rfl rfl (by kernel_rfl) (fun _ _ _ h => h) (Or.inl ⟨by rfl, ?_⟩) ?_ ?_
          rotate_left
          · intro w'
            go_simp
            with_reducible rfl
          rotate_left
          · simp only [Act.put, List.setIfInBounds_toArray, List.set_cons_zero, List.set_cons_succ, i64_w, i32_w, hge, bne_self_eq_false]
            rfl
          refine done_ (by kernel_rfl) ?_
          have cN2 := hn2.cell
          have fN2 := hn2.frozen
          have hw1 : wrap64 ((pre.length : Int) + 1) = (pre.length : Int) + 1 := by unfold wrap64; omega
          have hn2A := Aside0.mk hn2
          clear hn2
          gi_wp2
          refine ⟨(hko2.trans (KeepsOthers.setCell _ _ _)).from _, hkp2.trans ⟨(KeepsWalks.setCell Wb _ _).size, fun k c t z hk hne _ => (Below.heap_setCell Wb ⟨w3.heap.size + 1 + 1, 0, none⟩ _ k hne).trans hk, .inl ?_⟩, (good_last hg).2 rfl, hlk2.set _, ?_⟩
          · rw [hold, hold, (hn2A.out.set _).cell, hn2A.out.cell]; rfl
          · rw [List.length_append, List.length_singleton, Int.natCast_add]
            exact hn2A.out.set _
        · have hbad : ¬ good L (pre ++ [(pre.length, xs)]) := fun h => hxs (by have := (good_last hg).1 h; exact congrArg Prod.snd this)
          have hxs := Aside0.mk hxs
          gi_wp2
          clear cN cT
          refine startIn_ (m := 17) (S := fun w' => Box2 w' Bx xs ∧ Boxed w' (w3.heap.size + 1 + 1) 3 (.int .i64 (pre.length : Int)) ∧ Boxed w' w3.heap.size 56 (.slice (some ad) L.length cL) ∧ w'.cell? (ad.add (pre.length * 2)) = some (.int .i64 (rd_T65 L (pre.length : Int)).f0) ∧ w'.cell? ⟨(ad.add (pre.length * 2)).block, (ad.add (pre.length * 2)).off + 1, none⟩ = some (.int .i64 (rd_T65 L (pre.length : Int)).f1)) (ds := []) #[false, false, false, false, false, false, false, false, false, false, false, false, false, false, false, false, false] hmix (by kernel_rfl) (fun h_ => by obtain ⟨a_, w_, h_⟩ := h_; exact h_) rfl rfl HS.out (fun hHeld => ?_)
          have hn2 : Boxed W.drew (w3.heap.size + 1 + 1) 3 (.int .i64 (pre.length : Int)) := HF.out.2.1
          have bQ2 : Boxed W.drew (w.heap.size + 1) 4 (.bool false) := HF.out.2.2.1
          have hlk2 : LK (w3.heap.size + 1 + 1) V0 W.drew := ⟨HF.out.1.os, HF.out.1.tape, HF.out.1.output, HF.out.1.size, HF.out.1.block⟩
          have hko2 := HF.out.2.2.2.1
          have hkp2 := HF.out.2.2.2.2
          clear HF
          generalize W.drew = Wb at hn2 bQ2 hlk2 hko2 hkp2 hHeld ⊢
          refine pure_ (i := 0) (N := some 56) (v := ?_) (a' := ?_) #[true, false, false, false, false, false, false, false, false, false, false, false, false, false, false, false, false] rfl rfl (by kernel_rfl) (fun _ _ _ h => h) (Or.inl ⟨by rfl, ?_⟩) ?_ ?_
          rotate_left
          · intro w'
            go_simp
            with_reducible rfl
          rotate_left
          · simp only [Act.put, List.setIfInBounds_toArray, List.set_cons_zero, List.set_cons_succ, i64_w, i32_w, hge, bne_self_eq_false]
            rfl
          refine take_ (i := 1) (N := some 57) (v := ?_) (a' := ?_) #[true, true, false, false, false, false, false, false, false, false, false, false, false, false, false, false, false] rfl rfl (by kernel_rfl) (fun _ _ _ h => h) (Or.inl ⟨by rfl, ?_⟩) hHeld ?_ ?_
          rotate_left
          · rintro w' ⟨s0, s1, s2, s3, s4⟩
            have c_ := s1.cell
            go_simp
            with_reducible rfl
          rotate_left
          · simp only [Act.put, List.setIfInBounds_toArray, List.set_cons_zero, List.set_cons_succ, i64_w, i32_w, hge, bne_self_eq_false]
            rfl
          refine pure_ (i := 2) (N := some 58) (v := ?_) (a' := ?_) #[true, true, true, false, false, false, false, false, false, false, false, false, false, false, false, false, false] rfl rfl (by kernel_rfl) (fun _ _ _ h => h) (Or.inl ⟨by rfl, ?_⟩) ?_ ?_
          rotate_left
          · intro w'
            go_simp
            with_reducible rfl
          rotate_left
          · simp only [Act.put, List.setIfInBounds_toArray, List.set_cons_zero, List.set_cons_succ, i64_w, i32_w, hge, bne_self_eq_false]
            rfl
          refine pure_ (i := 3) (N := some 59) (v := ?_) (a' := ?_) #[true, true, true, true, false, false, false, false, false, false, false, false, false, false, false, false, false] rfl rfl (by kernel_rfl) (fun _ _ _ h => h) (Or.inl ⟨by rfl, ?_⟩) ?_ ?_
          rotate_left
          · intro w'
            go_simp
            with_reducible rfl
          rotate_left
          · simp only [Act.put, List.setIfInBounds_toArray, List.set_cons_zero, List.set_cons_succ, i64_w, i32_w, hge, bne_self_eq_false]
            rfl
          refine take_ (i := 4) (N := some 60) (v := ?_) (a' := ?_) #[true, true, true, true, true, false, false, false, false, false, false, false, false, false, false, false, false] rfl rfl (by kernel_rfl) (fun _ _ _ h => h) (Or.inl ⟨by rfl, ?_⟩) hHeld ?_ ?_
          rotate_left
          · rintro w' ⟨s0, s1, s2, s3, s4⟩
            have c_ := s1.cell
            go_simp
            with_reducible rfl
          rotate_left
          · simp only [Act.put, List.setIfInBounds_toArray, List.set_cons_zero, List.set_cons_succ, i64_w, i32_w, hge, bne_self_eq_false]
            rfl
          refine take_ (i := 5) (N := some 61) (v := ?_) (a' := ?_) #[true, true, true, true, true, true, false, false, false, false, false, false, false, false, false, false, false] rfl rfl (by kernel_rfl) (fun _ _ _ h => h) (Or.inl ⟨by rfl, ?_⟩) hHeld ?_ ?_
          rotate_left
          · rintro w' ⟨s0, s1, s2, s3, s4⟩
            have c_ := s2.cell
            go_simp
            with_reducible rfl
          rotate_left
          · simp only [Act.put, List.setIfInBounds_toArray, List.set_cons_zero, List.set_cons_succ, i64_w, i32_w, hge, bne_self_eq_false]
            rfl
          refine pure_ (i := 6) (N := some 62) (v := ?_) (a' := ?_) #[true, true, true, true, true, true, true, false, false, false, false, false, false, false, false, false, false] rfl rfl (by kernel_rfl) (fun _ _ _ h => h) (Or.inl ⟨by rfl, ?_⟩) ?_ ?_
          rotate_left
          · intro w'
            go_simp
            with_reducible rfl
          rotate_left
          · simp only [Act.put, List.setIfInBounds_toArray, List.set_cons_zero, List.set_cons_succ, i64_w, i32_w, hge, bne_self_eq_false]
            rfl
          refine pure_ (i := 7) (N := some 63) (v := ?_) (a' := ?_) #[true, true, true, true, true, true, true, true, false, false, false, false, false, false, false, false, false] rfl rfl (by kernel_rfl) (fun _ _ _ h => h) (Or.inl ⟨by rfl, ?_⟩) ?_ ?_
          rotate_left
          · intro w'
            go_simp
            with_reducible rfl
          rotate_left
          · simp only [Act.put, List.setIfInBounds_toArray, List.set_cons_zero, List.set_cons_succ, i64_w, i32_w, hge, bne_self_eq_false]
            rfl
          refine pure_ (i := 8) (N := some 64) (v := ?_) (a' := ?_) #[true, true, true, true, true, true, true, true, true, false, false, false, false, false, false, false, false] rfl rfl (by kernel_rfl) (fun _ _ _ h => h) (Or.inl ⟨by rfl, ?_⟩) ?_ ?_
          rotate_left
          · intro w'
            go_simp
            with_reducible rfl
          rotate_left
          · simp only [Act.put, List.setIfInBounds_toArray, List.set_cons_zero, List.set_cons_succ, i64_w, i32_w, hge, bne_self_eq_false]
            rfl
          refine pure_ (i := 9) (N := some 65) (v := ?_) (a' := ?_) #[true, true, true, true, true, true, true, true, true, true, false, false, false, false, false, false, false] rfl rfl (by kernel_rfl) (fun _ _ _ h => h) (Or.inl ⟨by rfl, ?_⟩) ?_ ?_
          rotate_left
          · intro w'
            go_simp
            with_reducible rfl
          rotate_left
          · simp only [Act.put, List.setIfInBounds_toArray, List.set_cons_zero, List.set_cons_succ, i64_w, i32_w, hge, bne_self_eq_false]
            rfl
          refine take_ (i := 10) (N := some 66) (v := ?_) (a' := ?_) #[true, true, true, true, true, true, true, true, true, true, true, false, false, false, false, false, false] rfl rfl (by kernel_rfl) (fun _ _ _ h => h) (Or.inl ⟨by rfl, ?_⟩) hHeld ?_ ?_
          rotate_left
          · rintro w' ⟨s0, s1, s2, s3, s4⟩
            obtain ⟨c_, d_⟩ := s0.cells
            go_simp
            with_reducible rfl
          rotate_left
          · simp only [Act.put, List.setIfInBounds_toArray, List.set_cons_zero, List.set_cons_succ, i64_w, i32_w, hge, bne_self_eq_false]
            rfl
          refine take_ (i := 11) (N := some 67) (v := ?_) (a' := ?_) #[true, true, true, true, true, true, true, true, true, true, true, true, false, false, false, false, false] rfl rfl (by kernel_rfl) (fun _ _ _ h => h) (Or.inl ⟨by rfl, ?_⟩) hHeld ?_ ?_
          rotate_left
          · rintro w' ⟨s0, s1, s2, s3, s4⟩
            have c_ := s2.cell
            go_simp
            with_reducible rfl
          rotate_left
          · simp only [Act.put, List.setIfInBounds_toArray, List.set_cons_zero, List.set_cons_succ, i64_w, i32_w, hge, bne_self_eq_false]
            rfl
          refine take_ (i := 12) (N := some 68) (v := ?_) (a' := ?_) #[true, true, true, true, true, true, true, true, true, true, true, true, true, false, false, false, false] rfl rfl (by kernel_rfl) (fun _ _ _ h => h) (Or.inl ⟨by rfl, ?_⟩) hHeld ?_ ?_
          rotate_left
          · rintro w' ⟨s0, s1, s2, s3, s4⟩
            have c_ := s1.cell
            go_simp
            with_reducible rfl
          rotate_left
          · simp only [Act.put, List.setIfInBounds_toArray, List.set_cons_zero, List.set_cons_succ, i64_w, i32_w, hge, bne_self_eq_false]
            rfl
          refine pure_ (i := 13) (N := some 69) (v := ?_) (a' := ?_) #[true, true, true, true, true, true, true, true, true, true, true, true, true, true, false, false, false] rfl rfl (by kernel_rfl) (fun _ _ _ h => h) (Or.inl ⟨by rfl, ?_⟩) ?_ ?_
          rotate_left
          · intro w'
            go_simp
            with_reducible rfl
          rotate_left
          · simp only [Act.put, List.setIfInBounds_toArray, List.set_cons_zero, List.set_cons_succ, i64_w, i32_w, hge, bne_self_eq_false]
            rfl
          refine take_ (i := 14) (N := some 70) (v := ?_) (a' := ?_) #[true, true, true, true, true, true, true, true, true, true, true, true, true, true, true, false, false] rfl rfl (by kernel_rfl) (fun _ _ _ h => h) (Or.inl ⟨by rfl, ?_⟩) hHeld ?_ ?_
          rotate_left
          · rintro w' ⟨s0, s1, s2, s3, s4⟩
            have c_ := s3; have d_ := s4
            go_simp
            with_reducible rfl
          rotate_left
          · simp only [Act.put, List.setIfInBounds_toArray, List.set_cons_zero, List.set_cons_succ, i64_w, i32_w, hge, bne_self_eq_false]
            rfl
          refine pure_ (i := 15) (N := some 71) (v := .bool true) (a' := ?_) #[true, true, true, true, true, true, true, true, true, true, true, true, true, true, true, true, false] rfl rfl (by kernel_rfl) (fun _ _ _ h => h) (Or.inl ⟨by rfl, ?_⟩) ?_ ?_
          · intro w'
            go_simp
            exact fun h0 h1 => hxs.out (ExtM.S65.eq_ h0 h1)
          rotate_left
          · simp only [Act.put, List.setIfInBounds_toArray, List.set_cons_zero, List.set_cons_succ, i64_w, i32_w, hge, bne_self_eq_false]
            rfl
          refine pure_ (i := 16) (N := some 72) (v := ?_) (a' := ?_) #[true, true, true, true, true, true, true, true, true, true, true, true, true, true, true, true, true] rfl rfl (by kernel_rfl) (fun _ _ _ h => h) (Or.inl ⟨by rfl, ?_⟩) ?_ ?_
          rotate_left
          · intro w'
            go_simp
            with_reducible rfl
          rotate_left
          · simp only [Act.put, List.setIfInBounds_toArray, List.set_cons_zero, List.set_cons_succ, i64_w, i32_w, hge, bne_self_eq_false]
            rfl
          refine done_ (by kernel_rfl) ?_
          have cQ := bQ2.cell
          have fQ := bQ2.frozen
          gi_wp2
          exact ⟨(hko2.trans (KeepsOthers.setCell _ _ _)).from _, ⟨rfl, hbad⟩⟩
      case done2 =>
        rintro D2 xs V hD2 hxs ⟨hg, hlk2, hn2⟩ hm2
        refine hK2 _ _ ?_
        rw [hxs, upto_length] at hn2
        have hs2 := hlk2.size
        have hD2lt : D2 < V.heap.size := (Array.getElem?_eq_some_iff.1 hm2).1
        have hm1 : V.heap[D]? = some (.deferred (some [])) := (hlk2.block D (by omega) (by omega)).trans hmV
        have bW9 : Boxed V w3.heap.size 56 (.slice AL L.length cL) := (hlk2.block _ (by omega) (by omega)).trans bWt2
        have bQ9 : Boxed V (w.heap.size + 1) 4 (.bool false) := (hlk2.block _ (by omega) (by omega)).trans bRs2
        have hbV2 : Below w.heap.size w V := hbV.trans (hlk2.down (by omega) (by omega))
        have HV := Aside0.mk (And.intro hn2 (And.intro bW9 (And.intro bQ9 (And.intro hm1 (And.intro hm2 hbV2)))))
        clear hg hlk2 hn2 hm2 hm1 bW9 bQ9 hbV2 hRA2 hh2 hC2 bWt2 bRs2 bSt2 bSl2 bNn2 hlk0 hmV hbV
        gi_wp2_with (refine ⟨trivial, ?_⟩; gi_at_call 31; refine (callsIn_wide.2 (hJ.out _)).mono ?_; rintro e w9 ⟨rfl, hb9⟩; have n9 : Boxed w9 (w3.heap.size + 1 + 1) 3 (.int .i64 (L.length : Int)) := (hb9.block _ (by omega)).trans HV.out.1; have w9b : Boxed w9 w3.heap.size 56 (.slice AL L.length cL) := (hb9.block _ (by omega)).trans HV.out.2.1; have q9 : Boxed w9 (w.heap.size + 1) 4 (.bool false) := (hb9.block _ (by omega)).trans HV.out.2.2.1; have hs9 := hb9.size; have HB9 := Aside0.mk (And.intro hb9 q9); have c9 := n9.cell; have d9 := w9b.cell; have e9 := q9.cell; have f9 := q9.frozen; clear hb9 n9 w9b q9)
        clear c9 d9 e9 f9
        obtain ⟨hb9, q9⟩ := HB9.out
        obtain ⟨_, _, _, hm1, hm2, hbV2⟩ := HV.out
        have qs := q9.set (.bool true)
        have hm2' : (w9.setCell ⟨w.heap.size + 1, 0, none⟩ (.bool true)).heap[D2]? = some (.deferred (some [])) := (Below.heap_setCell w9 ⟨w.heap.size + 1, 0, none⟩ _ D2 (show D2 ≠ w.heap.size + 1 by omega)).trans ((hb9.block _ (by omega)).trans hm2)
        have hm1' : (w9.setCell ⟨w.heap.size + 1, 0, none⟩ (.bool true)).heap[D]? = some (.deferred (some [])) := (Below.heap_setCell w9 ⟨w.heap.size + 1, 0, none⟩ _ D (show D ≠ w.heap.size + 1 by omega)).trans ((hb9.block _ (by omega)).trans hm1)
        have hbE : Below w.heap.size w (w9.setCell ⟨w.heap.size + 1, 0, none⟩ (.bool true)) := (hbV2.trans (hb9.mono (by omega))).setCell (p := ⟨w.heap.size + 1, 0, none⟩) (by simp) _
        have hszE : (w9.setCell ⟨w.heap.size + 1, 0, none⟩ (.bool true)).heap.size = w9.heap.size := by simp [World.setCell]
        clear hm1 hm2 q9 hb9 hbV2
        generalize w9.setCell ⟨w.heap.size + 1, 0, none⟩ (.bool true) = WE at qs hm2' hm1' hbE hszE ⊢
        have g2 := grownBy_putObj' WE D2 (.deferred none)
        have hm1E : (WE.putObj D2 (.deferred none)).heap[D]? = some (.deferred (some [])) := (g2.block D (by omega) (by simp; omega)).trans hm1'
        have q2 : Boxed (WE.putObj D2 (.deferred none)) (w.heap.size + 1) 4 (.bool true) := (g2.block _ (by omega) (by simp; omega)).trans qs
        have hb2 : Below w.heap.size w (WE.putObj D2 (.deferred none)) := hbE.trans (belowK_b (w := w) (Nat.le_refl _) _ D2 _ _ (by omega) hm2' rfl rfl)
        have hsz2 := g2.size
        have g1 := grownBy_putObj' (WE.putObj D2 (.deferred none)) D (.deferred none)
        have q1 : Boxed ((WE.putObj D2 (.deferred none)).putObj D (.deferred none)) (w.heap.size + 1) 4 (.bool true) := (g1.block _ (by omega) (by simp; omega)).trans q2
        have hc5 := q1.cell
        refine ⟨by simp, .inl ⟨_, _, rfl, run_takeDeferred hm2', ⟨by simp, .inl ⟨_, _, rfl, run_takeDeferred hm1E, ?_⟩⟩⟩⟩
        refine ⟨.bool true, ?_, rfl, hb2.trans (belowK_b (w := w) (Nat.le_refl _) _ D _ _ (by omega) hm1E rfl rfl)⟩
        simp [results, Try.f7, go_sem, hc5]
      case stop2 =>
        rintro D2 cc pre V hD2 ⟨j, hj, rfl⟩ ⟨rfl, hbad⟩ hm2
        exact absurd (show good L (upto (part L) j) by unfold good; rw [upto_length]) hbad
    refine wpIn_rangeFunc_ownH (α := Nat × S65) (w := W0) rfl (by omega) (gf := 75) (lb := #[.pointer (some ⟨w3.heap.size + 1, 0, none⟩)]) rfl trivial (enters_of Try.func75 (by kernel_rfl) rfl)
      (all1_in 8 (by omega) (w3.heap.size + 1 + 1) (w3.heap.size + 1) c k2 A l L W0 (by omega) (by omega) bSl.cell hC0  hc0 hh0 hLn (by omega)) (fun h k => h.trans k) (kpO_b (by omega)) (Below.refl _ _) (fun _ => rfl)
      (fun pre W => good L pre ∧ LK (w3.heap.size + 1 + 1) W0 W ∧ Boxed W (w3.heap.size + 1 + 1) 3 (.int .i64 (pre.length : Int)))
      (fun cc pre W => (cc = .exit 0 ∧ LK (w3.heap.size + 1 + 1) W0 W ∧ ∃ m : Int, Boxed W (w3.heap.size + 1 + 1) 3 (.int .i64 m)) ∨ (cc = .ret ∧ ¬ good L pre))
      (OwnFrom.and (ownFrom_pure _ _) (OwnFrom.and ownFrom_LK (Own.from (boxed_own _ 3 (fun pre : List (Nat × S65) => Value.int .i64 (pre.length : Int))) _)))
      (fun cc s X Y row hs hg hr => by
        rcases hs with ⟨h1, h2, m, h3⟩ | h
        · exact .inl ⟨h1, ownFrom_LK s X Y row h2 hg hr, m, boxed_own _ 3 (fun (_ : Unit) => Value.int .i64 m) () X Y row h3 hg (fun r e => (hr r e).2)⟩
        · exact .inr h)
      ⟨rfl, LK.refl _ _, bNn⟩
      (fun x a' W => ∃ Bx, w3.heap.size + 1 + 1 < Bx ∧ Box2 W Bx x.2 ∧ a' = { tmps := #[.slice A l.length c, .int .i64 a1, undef, .pointer (some ⟨w.heap.size, 0, none⟩), .pointer (some ⟨w.heap.size + 1, 0, none⟩), .pointer (some ⟨w3.heap.size, 0, none⟩), .func (.func 75) #[] #[.pointer (some ⟨w3.heap.size + 1, 0, none⟩)], .pointer (some ⟨w3.heap.size + 1 + 1, 0, none⟩), .int .i64 (x.1 : Int), .pointer (some ⟨Bx, 0, none⟩), undef, undef, .bool true, .bool false, .bool false, .slice A l.length c, .bool true, .bool false, .bool false, undef, .slice A l.length c, .slice AL L.length cL, .int .i64 a1, .int .u64 u1, .int .u64 u2, .int .i64 st, .slice A l.length c, .func (.func 75) #[] #[.pointer (some ⟨w3.heap.size + 1, 0, none⟩)], .func (.func 75) #[] #[.pointer (some ⟨w3.heap.size + 1, 0, none⟩)], .int .i64 (x.1 : Int), .agg #[.int .i64 x.2.f0, .int .i64 x.2.f1], undef, undef, undef, undef, undef, undef, undef, undef, undef, undef, undef, undef, undef, undef, undef, undef, undef, undef, undef, undef, undef, undef, undef, undef, undef, undef, undef, undef, undef, undef, undef, undef, undef, undef, undef, undef, undef, undef, undef, undef, undef, undef, undef, undef, undef, undef, undef, undef, undef, undef, undef], defers := [] })
      (fun x a' _ X Y row hs hg hr => by obtain ⟨Bx, h1, h2, h3⟩ := hs; exact ⟨Bx, h1, box2_own Bx x.2 () X Y row h2 hg (fun r e => (hr r e).2), h3⟩)
      ?assign1 ?body1 ?done1 ?stop1
    case assign1 =>
      rintro lp pre x W K ⟨hg, hlk, hn⟩ hK
      have hsW := hlk.size
      dsimp only [encX]
      gi_wp2
      exact hK _ _ ((KeepsOthers.alloc _ _).from _) (KpO.below (by omega) ((Below.refl _ W).alloc (Nat.le_refl _) _)) ⟨hg, hlk.below ((Below.refl _ W).alloc (Nat.le_refl _) _), hn.alloc _⟩ ⟨W.heap.size, by omega, Box2.new W x.2, rfl⟩
    case body1 =>
      clear tail hK K
      rintro lp pre x a' W hl _ ⟨hg, hlk, hn⟩ ⟨Bx, hBx, bX, rfl⟩ hlt
      have hszW := hlk.size
      have bW : Boxed W w3.heap.size 56 (.slice AL L.length cL) := (hlk.block _ (by omega) (by omega)).trans bWt
      have bT : Boxed W w.heap.size 3 (.int .i64 st) := (hlk.block _ (by omega) (by omega)).trans bSt
      have bQ : Boxed W (w.heap.size + 1) 4 (.bool false) := (hlk.block _ (by omega) (by omega)).trans bRs
      have hRW : Kd.R k65 65 W w2.heap.size (fun _ => True) (.slice AL L.length cL) L := R_own65 hRA.out (fun g cc tt z hg_ hcell => by
        obtain ⟨_, inner, ho, _⟩ := hRA.out
        exact (hlk.block g (by have := own_lt ho g hg_; omega) (fun e => hgn.out g hg_ e)).trans hcell)
      obtain ⟨ad, e1, hx0, hx1⟩ := at_T65 (Kd.R_reads' hRW).2.2 (pre.length : Int) (by omega) (by omega)
      subst e1
      simp only [Int.toNat_natCast] at hx0 hx1
      have hlen30 : pre.length < 30 := by omega
      have hko0 : KeepsOthers W W.drew := ⟨Nat.le_refl _, fun _ _ h _ => h⟩
      have hkp0 : KpO (w3.heap.size + 1 + 1) W W.drew := ⟨Nat.le_refl _, fun _ _ _ _ h _ _ => h, .inl rfl⟩
      have HF := Aside0.mk (And.intro hlk (And.intro hn (And.intro bQ (And.intro hko0 hkp0))))
      have HS := Aside0.mk (And.intro bX (And.intro hn (And.intro bW (And.intro hx0 hx1))))
      have hlkA := Aside0.mk hlk
      have hnA := Aside0.mk hn
      have cN := hn.cell
      have cT := bT.cell
      clear hRW hlk hko0 hkp0 bQ bX bW hx0 hx1
      by_cases hq : st ≤ (pre.length : Int)
      · have hqd : decide (st ≤ (pre.length : Int)) = true := decide_eq_true hq
        gi_wp2
        exact ⟨KeepsFrom.refl _ _, .inl ⟨rfl, hlkA.out, _, hnA.out⟩⟩
      have hqd : decide (st ≤ (pre.length : Int)) = false := decide_eq_false hq
      clear hq
      by_cases hi : ¬ x.1 = pre.length
      · have hiN : ((x.1 : Int) != (pre.length : Int)) = true := bne_iff_ne.2 (by omega)
        have hbad : ¬ good L (pre ++ [x]) := fun h => hi (by rw [(good_last hg).1 h]; rfl)
        have hi := Aside0.mk hi
        gi_wp2
        clear cN cT
        refine startIn_ (m := 17) (S := fun w' => Box2 w' Bx x.2 ∧ Boxed w' (w3.heap.size + 1 + 1) 3 (.int .i64 (pre.length : Int)) ∧ Boxed w' w3.heap.size 56 (.slice (some ad) L.length cL) ∧ w'.cell? (ad.add (pre.length * 2)) = some (.int .i64 (rd_T65 L (pre.length : Int)).f0) ∧ w'.cell? ⟨(ad.add (pre.length * 2)).block, (ad.add (pre.length * 2)).off + 1, none⟩ = some (.int .i64 (rd_T65 L (pre.length : Int)).f1)) (ds := []) #[false, false, false, false, false, false, false, false, false, false, false, false, false, false, false, false, false] hmix (by kernel_rfl) (fun h_ => by obtain ⟨a_, w_, h_⟩ := h_; exact h_) rfl rfl HS.out (fun hHeld => ?_)
        have hn2 : Boxed W.drew (w3.heap.size + 1 + 1) 3 (.int .i64 (pre.length : Int)) := HF.out.2.1
        have bQ2 : Boxed W.drew (w.heap.size + 1) 4 (.bool false) := HF.out.2.2.1
        have hlk2 : LK (w3.heap.size + 1 + 1) W0 W.drew := ⟨HF.out.1.os, HF.out.1.tape, HF.out.1.output, HF.out.1.size, HF.out.1.block⟩
        have hko2 := HF.out.2.2.2.1
        have hkp2 := HF.out.2.2.2.2
        clear HF
        generalize W.drew = Wb at hn2 bQ2 hlk2 hko2 hkp2 hHeld ⊢
        refine pure_ (i := 0) (N := some 34) (v := ?_) (a' := ?_) #[true, false, false, false, false, false, false, false, false, false, false, false, false, false, false, false, false] rfl rfl (by kernel_rfl) (fun _ _ _ h => h) (Or.inl ⟨by rfl, ?_⟩) ?_ ?_
        rotate_left
        · intro w'
          go_simp
          with_reducible rfl
        rotate_left
        · simp only [Act.put, List.setIfInBounds_toArray, List.set_cons_zero, List.set_cons_succ, i64_w, i32_w, hiN]
          rfl
        refine take_ (i := 1) (N := some 35) (v := ?_) (a' := ?_) #[true, true, false, false, false, false, false, false, false, false, false, false, false, false, false, false, false] rfl rfl (by kernel_rfl) (fun _ _ _ h => h) (Or.inl ⟨by rfl, ?_⟩) hHeld ?_ ?_
        rotate_left
        · rintro w' ⟨s0, s1, s2, s3, s4⟩
          have c_ := s1.cell
          go_simp
          with_reducible rfl
        rotate_left
        · simp only [Act.put, List.setIfInBounds_toArray, List.set_cons_zero, List.set_cons_succ, i64_w, i32_w, hiN]
          rfl
        refine pure_ (i := 2) (N := some 36) (v := ?_) (a' := ?_) #[true, true, true, false, false, false, false, false, false, false, false, false, false, false, false, false, false] rfl rfl (by kernel_rfl) (fun _ _ _ h => h) (Or.inl ⟨by rfl, ?_⟩) ?_ ?_
        rotate_left
        · intro w'
          go_simp
          with_reducible rfl
        rotate_left
        · simp only [Act.put, List.setIfInBounds_toArray, List.set_cons_zero, List.set_cons_succ, i64_w, i32_w, hiN]
          rfl
        refine pure_ (i := 3) (N := some 37) (v := ?_) (a' := ?_) #[true, true, true, true, false, false, false, false, false, false, false, false, false, false, false, false, false] rfl rfl (by kernel_rfl) (fun _ _ _ h => h) (Or.inl ⟨by rfl, ?_⟩) ?_ ?_
        rotate_left
        · intro w'
          go_simp
          with_reducible rfl
        rotate_left
        · simp only [Act.put, List.setIfInBounds_toArray, List.set_cons_zero, List.set_cons_succ, i64_w, i32_w, hiN]
          rfl
        refine pure_ (i := 4) (N := some 38) (v := undef) (a' := ?_) #[true, true, true, true, true, false, false, false, false, false, false, false, false, false, false, false, false] rfl rfl (by kernel_rfl) (fun _ _ _ h => h) (Or.inr ⟨by rfl, rfl⟩) ?_ ?_
        rotate_left
        · simp only [Act.put, List.setIfInBounds_toArray, List.set_cons_zero, List.set_cons_succ, i64_w, i32_w, hiN]
          rfl
        refine pure_ (i := 5) (N := some 39) (v := undef) (a' := ?_) #[true, true, true, true, true, true, false, false, false, false, false, false, false, false, false, false, false] rfl rfl (by kernel_rfl) (fun _ _ _ h => h) (Or.inr ⟨by rfl, rfl⟩) ?_ ?_
        rotate_left
        · simp only [Act.put, List.setIfInBounds_toArray, List.set_cons_zero, List.set_cons_succ, i64_w, i32_w, hiN]
          rfl
        refine pure_ (i := 6) (N := some 40) (v := undef) (a' := ?_) #[true, true, true, true, true, true, true, false, false, false, false, false, false, false, false, false, false] rfl rfl (by kernel_rfl) (fun _ _ _ h => h) (Or.inr ⟨by rfl, rfl⟩) ?_ ?_
        rotate_left
        · simp only [Act.put, List.setIfInBounds_toArray, List.set_cons_zero, List.set_cons_succ, i64_w, i32_w, hiN]
          rfl
        refine pure_ (i := 7) (N := some 41) (v := undef) (a' := ?_) #[true, true, true, true, true, true, true, true, false, false, false, false, false, false, false, false, false] rfl rfl (by kernel_rfl) (fun _ _ _ h => h) (Or.inr ⟨by rfl, rfl⟩) ?_ ?_
        rotate_left
        · simp only [Act.put, List.setIfInBounds_toArray, List.set_cons_zero, List.set_cons_succ, i64_w, i32_w, hiN]
          rfl
        refine pure_ (i := 8) (N := some 42) (v := ?_) (a' := ?_) #[true, true, true, true, true, true, true, true, true, false, false, false, false, false, false, false, false] rfl rfl (by kernel_rfl) (fun _ _ _ h => h) (Or.inl ⟨by rfl, ?_⟩) ?_ ?_
        rotate_left
        · intro w'
          go_simp
          with_reducible rfl
        rotate_left
        · simp only [Act.put, List.setIfInBounds_toArray, List.set_cons_zero, List.set_cons_succ, i64_w, i32_w, hiN]
          rfl
        refine pure_ (i := 9) (N := some 43) (v := ?_) (a' := ?_) #[true, true, true, true, true, true, true, true, true, true, false, false, false, false, false, false, false] rfl rfl (by kernel_rfl) (fun _ _ _ h => h) (Or.inl ⟨by rfl, ?_⟩) ?_ ?_
        rotate_left
        · intro w'
          go_simp
          with_reducible rfl
        rotate_left
        · simp only [Act.put, List.setIfInBounds_toArray, List.set_cons_zero, List.set_cons_succ, i64_w, i32_w, hiN]
          rfl
        refine pure_ (i := 10) (N := some 44) (v := undef) (a' := ?_) #[true, true, true, true, true, true, true, true, true, true, true, false, false, false, false, false, false] rfl rfl (by kernel_rfl) (fun _ _ _ h => h) (Or.inr ⟨by rfl, rfl⟩) ?_ ?_
        rotate_left
        · simp only [Act.put, List.setIfInBounds_toArray, List.set_cons_zero, List.set_cons_succ, i64_w, i32_w, hiN]
          rfl
        refine pure_ (i := 11) (N := some 45) (v := undef) (a' := ?_) #[true, true, true, true, true, true, true, true, true, true, true, true, false, false, false, false, false] rfl rfl (by kernel_rfl) (fun _ _ _ h => h) (Or.inr ⟨by rfl, rfl⟩) ?_ ?_
        rotate_left
        · simp only [Act.put, List.setIfInBounds_toArray, List.set_cons_zero, List.set_cons_succ, i64_w, i32_w, hiN]
          rfl
        refine pure_ (i := 12) (N := some 46) (v := undef) (a' := ?_) #[true, true, true, true, true, true, true, true, true, true, true, true, true, false, false, false, false] rfl rfl (by kernel_rfl) (fun _ _ _ h => h) (Or.inr ⟨by rfl, rfl⟩) ?_ ?_
        rotate_left
        · simp only [Act.put, List.setIfInBounds_toArray, List.set_cons_zero, List.set_cons_succ, i64_w, i32_w, hiN]
          rfl
        refine pure_ (i := 13) (N := some 47) (v := undef) (a' := ?_) #[true, true, true, true, true, true, true, true, true, true, true, true, true, true, false, false, false] rfl rfl (by kernel_rfl) (fun _ _ _ h => h) (Or.inr ⟨by rfl, rfl⟩) ?_ ?_
        rotate_left
        · simp only [Act.put, List.setIfInBounds_toArray, List.set_cons_zero, List.set_cons_succ, i64_w, i32_w, hiN]
          rfl
        refine pure_ (i := 14) (N := some 48) (v := undef) (a' := ?_) #[true, true, true, true, true, true, true, true, true, true, true, true, true, true, true, false, false] rfl rfl (by kernel_rfl) (fun _ _ _ h => h) (Or.inr ⟨by rfl, rfl⟩) ?_ ?_
        rotate_left
        · simp only [Act.put, List.setIfInBounds_toArray, List.set_cons_zero, List.set_cons_succ, i64_w, i32_w, hiN]
          rfl
        refine pure_ (i := 15) (N := some 49) (v := undef) (a' := ?_) #[true, true, true, true, true, true, true, true, true, true, true, true, true, true, true, true, false] rfl rfl (by kernel_rfl) (fun _ _ _ h => h) (Or.inr ⟨by rfl, rfl⟩) ?_ ?_
        rotate_left
        · simp only [Act.put, List.setIfInBounds_toArray, List.set_cons_zero, List.set_cons_succ, i64_w, i32_w, hiN]
          rfl
        refine pure_ (i := 16) (N := some 50) (v := ?_) (a' := ?_) #[true, true, true, true, true, true, true, true, true, true, true, true, true, true, true, true, true] rfl rfl (by kernel_rfl) (fun _ _ _ h => h) (Or.inl ⟨by rfl, ?_⟩) ?_ ?_
        rotate_left
        · intro w'
          go_simp
          with_reducible rfl
        rotate_left
        · simp only [Act.put, List.setIfInBounds_toArray, List.set_cons_zero, List.set_cons_succ, i64_w, i32_w, hiN]
          rfl
        refine done_ (by kernel_rfl) ?_
        have cQ := bQ2.cell
        have fQ := bQ2.frozen
        gi_wp2
        exact ⟨(hko2.trans (KeepsOthers.setCell _ _ _)).from _, .inr ⟨rfl, hbad⟩⟩
      replace hi := Decidable.not_not.1 hi
      obtain ⟨xi, xs⟩ := x
      simp only at hi
      subst hi
      have hge : decide ((L.length : Int) ≤ (pre.length : Int)) = false := decide_eq_false (by omega)
      have hge2 : decide (L.length ≤ pre.length) = false := decide_eq_false (by omega)
      have hlt2 : (((pre.length : Int) < (L.length : Int)) = True) := eq_true (by omega)
      by_cases hxs : xs = rd_T65 L (pre.length : Int)
      · subst hxs
        gi_wp2
        clear cN cT
        refine startIn_ (m := 17) (S := fun w' => Box2 w' Bx (rd_T65 L (pre.length : Int)) ∧ Boxed w' (w3.heap.size + 1 + 1) 3 (.int .i64 (pre.length : Int)) ∧ Boxed w' w3.heap.size 56 (.slice (some ad) L.length cL) ∧ w'.cell? (ad.add (pre.length * 2)) = some (.int .i64 (rd_T65 L (pre.length : Int)).f0) ∧ w'.cell? ⟨(ad.add (pre.length * 2)).block, (ad.add (pre.length * 2)).off + 1, none⟩ = some (.int .i64 (rd_T65 L (pre.length : Int)).f1)) (ds := []) #[false, false, false, false, false, false, false, false, false, false, false, false, false, false, false, false, false] hmix (by kernel_rfl) (fun h_ => by obtain ⟨a_, w_, h_⟩ := h_; exact h_) rfl rfl HS.out (fun hHeld => ?_)
        have hn2 : Boxed W.drew (w3.heap.size + 1 + 1) 3 (.int .i64 (pre.length : Int)) := HF.out.2.1
        have bQ2 : Boxed W.drew (w.heap.size + 1) 4 (.bool false) := HF.out.2.2.1
        have hlk2 : LK (w3.heap.size + 1 + 1) W0 W.drew := ⟨HF.out.1.os, HF.out.1.tape, HF.out.1.output, HF.out.1.size, HF.out.1.block⟩
        have hko2 := HF.out.2.2.2.1
        have hkp2 := HF.out.2.2.2.2
        clear HF
        generalize W.drew = Wb at hn2 bQ2 hlk2 hko2 hkp2 hHeld ⊢
        refine pure_ (i := 0) (N := some 34) (v := ?_) (a' := ?_) #[true, false, false, false, false, false, false, false, false, false, false, false, false, false, false, false, false] rfl rfl (by kernel_rfl) (fun _ _ _ h => h) (Or.inl ⟨by rfl, ?_⟩) ?_ ?_
        rotate_left
        · intro w'
          go_simp
          with_reducible rfl
        rotate_left
        · simp only [Act.put, List.setIfInBounds_toArray, List.set_cons_zero, List.set_cons_succ, i64_w, i32_w, hge, bne_self_eq_false]
          rfl
        refine take_ (i := 1) (N := some 35) (v := ?_) (a' := ?_) #[true, true, false, false, false, false, false, false, false, false, false, false, false, false, false, false, false] rfl rfl (by kernel_rfl) (fun _ _ _ h => h) (Or.inl ⟨by rfl, ?_⟩) hHeld ?_ ?_
        rotate_left
        · rintro w' ⟨s0, s1, s2, s3, s4⟩
          have c_ := s1.cell
          go_simp
          with_reducible rfl
        rotate_left
        · simp only [Act.put, List.setIfInBounds_toArray, List.set_cons_zero, List.set_cons_succ, i64_w, i32_w, hge, bne_self_eq_false]
          rfl
        refine pure_ (i := 2) (N := some 36) (v := ?_) (a' := ?_) #[true, true, true, false, false, false, false, false, false, false, false, false, false, false, false, false, false] rfl rfl (by kernel_rfl) (fun _ _ _ h => h) (Or.inl ⟨by rfl, ?_⟩) ?_ ?_
        rotate_left
        · intro w'
          go_simp
          with_reducible rfl
        rotate_left
        · simp only [Act.put, List.setIfInBounds_toArray, List.set_cons_zero, List.set_cons_succ, i64_w, i32_w, hge, bne_self_eq_false]
          rfl
        refine pure_ (i := 3) (N := some 37) (v := ?_) (a' := ?_) #[true, true, true, true, false, false, false, false, false, false, false, false, false, false, false, false, false] rfl rfl (by kernel_rfl) (fun _ _ _ h => h) (Or.inl ⟨by rfl, ?_⟩) ?_ ?_
        rotate_left
        · intro w'
          go_simp
          with_reducible rfl
        rotate_left
        · simp only [Act.put, List.setIfInBounds_toArray, List.set_cons_zero, List.set_cons_succ, i64_w, i32_w, hge, bne_self_eq_false]
          rfl
        refine take_ (i := 4) (N := some 38) (v := ?_) (a' := ?_) #[true, true, true, true, true, false, false, false, false, false, false, false, false, false, false, false, false] rfl rfl (by kernel_rfl) (fun _ _ _ h => h) (Or.inl ⟨by rfl, ?_⟩) hHeld ?_ ?_
        rotate_left
        · rintro w' ⟨s0, s1, s2, s3, s4⟩
          have c_ := s1.cell
          go_simp
          with_reducible rfl
        rotate_left
        · simp only [Act.put, List.setIfInBounds_toArray, List.set_cons_zero, List.set_cons_succ, i64_w, i32_w, hge, bne_self_eq_false]
          rfl
        refine take_ (i := 5) (N := some 39) (v := ?_) (a' := ?_) #[true, true, true, true, true, true, false, false, false, false, false, false, false, false, false, false, false] rfl rfl (by kernel_rfl) (fun _ _ _ h => h) (Or.inl ⟨by rfl, ?_⟩) hHeld ?_ ?_
        rotate_left
        · rintro w' ⟨s0, s1, s2, s3, s4⟩
          have c_ := s2.cell
          go_simp
          with_reducible rfl
        rotate_left
        · simp only [Act.put, List.setIfInBounds_toArray, List.set_cons_zero, List.set_cons_succ, i64_w, i32_w, hge, bne_self_eq_false]
          rfl
        refine pure_ (i := 6) (N := some 40) (v := ?_) (a' := ?_) #[true, true, true, true, true, true, true, false, false, false, false, false, false, false, false, false, false] rfl rfl (by kernel_rfl) (fun _ _ _ h => h) (Or.inl ⟨by rfl, ?_⟩) ?_ ?_
        rotate_left
        · intro w'
          go_simp
          with_reducible rfl
        rotate_left
        · simp only [Act.put, List.setIfInBounds_toArray, List.set_cons_zero, List.set_cons_succ, i64_w, i32_w, hge, bne_self_eq_false]
          rfl
        refine pure_ (i := 7) (N := some 41) (v := ?_) (a' := ?_) #[true, true, true, true, true, true, true, true, false, false, false, false, false, false, false, false, false] rfl rfl (by kernel_rfl) (fun _ _ _ h => h) (Or.inl ⟨by rfl, ?_⟩) ?_ ?_
        rotate_left
        · intro w'
          go_simp
          with_reducible rfl
        rotate_left
        · simp only [Act.put, List.setIfInBounds_toArray, List.set_cons_zero, List.set_cons_succ, i64_w, i32_w, hge, bne_self_eq_false]
          rfl
        refine pure_ (i := 8) (N := some 42) (v := ?_) (a' := ?_) #[true, true, true, true, true, true, true, true, true, false, false, false, false, false, false, false, false] rfl rfl (by kernel_rfl) (fun _ _ _ h => h) (Or.inl ⟨by rfl, ?_⟩) ?_ ?_
        rotate_left
        · intro w'
          go_simp
          with_reducible rfl
        rotate_left
        · simp only [Act.put, List.setIfInBounds_toArray, List.set_cons_zero, List.set_cons_succ, i64_w, i32_w, hge, bne_self_eq_false]
          rfl
        refine pure_ (i := 9) (N := some 43) (v := ?_) (a' := ?_) #[true, true, true, true, true, true, true, true, true, true, false, false, false, false, false, false, false] rfl rfl (by kernel_rfl) (fun _ _ _ h => h) (Or.inl ⟨by rfl, ?_⟩) ?_ ?_
        rotate_left
        · intro w'
          go_simp
          with_reducible rfl
        rotate_left
        · simp only [Act.put, List.setIfInBounds_toArray, List.set_cons_zero, List.set_cons_succ, i64_w, i32_w, hge, bne_self_eq_false]
          rfl
        refine take_ (i := 10) (N := some 44) (v := ?_) (a' := ?_) #[true, true, true, true, true, true, true, true, true, true, true, false, false, false, false, false, false] rfl rfl (by kernel_rfl) (fun _ _ _ h => h) (Or.inl ⟨by rfl, ?_⟩) hHeld ?_ ?_
        rotate_left
        · rintro w' ⟨s0, s1, s2, s3, s4⟩
          obtain ⟨c_, d_⟩ := s0.cells
          go_simp
          with_reducible rfl
        rotate_left
        · simp only [Act.put, List.setIfInBounds_toArray, List.set_cons_zero, List.set_cons_succ, i64_w, i32_w, hge, bne_self_eq_false]
          rfl
        refine take_ (i := 11) (N := some 45) (v := ?_) (a' := ?_) #[true, true, true, true, true, true, true, true, true, true, true, true, false, false, false, false, false] rfl rfl (by kernel_rfl) (fun _ _ _ h => h) (Or.inl ⟨by rfl, ?_⟩) hHeld ?_ ?_
        rotate_left
        · rintro w' ⟨s0, s1, s2, s3, s4⟩
          have c_ := s2.cell
          go_simp
          with_reducible rfl
        rotate_left
        · simp only [Act.put, List.setIfInBounds_toArray, List.set_cons_zero, List.set_cons_succ, i64_w, i32_w, hge, bne_self_eq_false]
          rfl
        refine take_ (i := 12) (N := some 46) (v := ?_) (a' := ?_) #[true, true, true, true, true, true, true, true, true, true, true, true, true, false, false, false, false] rfl rfl (by kernel_rfl) (fun _ _ _ h => h) (Or.inl ⟨by rfl, ?_⟩) hHeld ?_ ?_
        rotate_left
        · rintro w' ⟨s0, s1, s2, s3, s4⟩
          have c_ := s1.cell
          go_simp
          with_reducible rfl
        rotate_left
        · simp only [Act.put, List.setIfInBounds_toArray, List.set_cons_zero, List.set_cons_succ, i64_w, i32_w, hge, bne_self_eq_false]
          rfl
        refine pure_ (i := 13) (N := some 47) (v := ?_) (a' := ?_) #[true, true, true, true, true, true, true, true, true, true, true, true, true, true, false, false, false] rfl rfl (by kernel_rfl) (fun _ _ _ h => h) (Or.inl ⟨by rfl, ?_⟩) ?_ ?_
        rotate_left
        · intro w'
          go_simp
          with_reducible rfl
        rotate_left
        · simp only [Act.put, List.setIfInBounds_toArray, List.set_cons_zero, List.set_cons_succ, i64_w, i32_w, hge, bne_self_eq_false]
          rfl
        refine take_ (i := 14) (N := some 48) (v := ?_) (a' := ?_) #[true, true, true, true, true, true, true, true, true, true, true, true, true, true, true, false, false] rfl rfl (by kernel_rfl) (fun _ _ _ h => h) (Or.inl ⟨by rfl, ?_⟩) hHeld ?_ ?_
        rotate_left
        · rintro w' ⟨s0, s1, s2, s3, s4⟩
          have c_ := s3; have d_ := s4
          go_simp
          with_reducible rfl
        rotate_left
        · simp only [Act.put, List.setIfInBounds_toArray, List.set_cons_zero, List.set_cons_succ, i64_w, i32_w, hge, bne_self_eq_false]
          rfl
        refine pure_ (i := 15) (N := some 49) (v := ?_) (a' := ?_) #[true, true, true, true, true, true, true, true, true, true, true, true, true, true, true, true, false] rfl rfl (by kernel_rfl) (fun _ _ _ h => h) (Or.inl ⟨by rfl, ?_⟩) ?_ ?_
        rotate_left
        · intro w'
          go_simp
          with_reducible rfl
        rotate_left
        · simp only [Act.put, List.setIfInBounds_toArray, List.set_cons_zero, List.set_cons_succ, i64_w, i32_w, hge, bne_self_eq_false]
          rfl
        refine pure_ (i := 16) (N := some 50) (v := ?_) (a' := ?_) #[true, true, true, true, true, true, true, true, true, true, true, true, true, true, true, true, true] rfl rfl (by kernel_rfl) (fun _ _ _ h => h) (Or.inl ⟨by rfl, ?_⟩) ?_ ?_
        rotate_left
        · intro w'
          go_simp
          with_reducible rfl
        rotate_left
        · simp only [Act.put, List.setIfInBounds_toArray, List.set_cons_zero, List.set_cons_succ, i64_w, i32_w, hge, bne_self_eq_false]
          rfl
        refine done_ (by kernel_rfl) ?_
        have cN2 := hn2.cell
        have fN2 := hn2.frozen
        have hw1 : wrap64 ((pre.length : Int) + 1) = (pre.length : Int) + 1 := by unfold wrap64; omega
        have hn2A := Aside0.mk hn2
        clear hn2
        gi_wp2
        refine ⟨(hko2.trans (KeepsOthers.setCell _ _ _)).from _, hkp2.trans ⟨(KeepsWalks.setCell Wb _ _).size, fun k c t z hk hne _ => (Below.heap_setCell Wb ⟨w3.heap.size + 1 + 1, 0, none⟩ _ k hne).trans hk, .inl ?_⟩, (good_last hg).2 rfl, hlk2.set _, ?_⟩
        · rw [hold, hold, (hn2A.out.set _).cell, hn2A.out.cell]; rfl
        · rw [List.length_append, List.length_singleton, Int.natCast_add]
          exact hn2A.out.set _
      · have hbad : ¬ good L (pre ++ [(pre.length, xs)]) := fun h => hxs (by have := (good_last hg).1 h; exact congrArg Prod.snd this)
        have hxs := Aside0.mk hxs
        gi_wp2
        clear cN cT
        refine startIn_ (m := 17) (S := fun w' => Box2 w' Bx xs ∧ Boxed w' (w3.heap.size + 1 + 1) 3 (.int .i64 (pre.length : Int)) ∧ Boxed w' w3.heap.size 56 (.slice (some ad) L.length cL) ∧ w'.cell? (ad.add (pre.length * 2)) = some (.int .i64 (rd_T65 L (pre.length : Int)).f0) ∧ w'.cell? ⟨(ad.add (pre.length * 2)).block, (ad.add (pre.length * 2)).off + 1, none⟩ = some (.int .i64 (rd_T65 L (pre.length : Int)).f1)) (ds := []) #[false, false, false, false, false, false, false, false, false, false, false, false, false, false, false, false, false] hmix (by kernel_rfl) (fun h_ => by obtain ⟨a_, w_, h_⟩ := h_; exact h_) rfl rfl HS.out (fun hHeld => ?_)
        have hn2 : Boxed W.drew (w3.heap.size + 1 + 1) 3 (.int .i64 (pre.length : Int)) := HF.out.2.1
        have bQ2 : Boxed W.drew (w.heap.size + 1) 4 (.bool false) := HF.out.2.2.1
        have hlk2 : LK (w3.heap.size + 1 + 1) W0 W.drew := ⟨HF.out.1.os, HF.out.1.tape, HF.out.1.output, HF.out.1.size, HF.out.1.block⟩
        have hko2 := HF.out.2.2.2.1
        have hkp2 := HF.out.2.2.2.2
        clear HF
        generalize W.drew = Wb at hn2 bQ2 hlk2 hko2 hkp2 hHeld ⊢
        refine pure_ (i := 0) (N := some 34) (v := ?_) (a' := ?_) #[true, false, false, false, false, false, false, false, false, false, false, false, false, false, false, false, false] rfl rfl (by kernel_rfl) (fun _ _ _ h => h) (Or.inl ⟨by rfl, ?_⟩) ?_ ?_
        rotate_left
        · intro w'
          go_simp
          with_reducible rfl
        rotate_left
        · simp only [Act.put, List.setIfInBounds_toArray, List.set_cons_zero, List.set_cons_succ, i64_w, i32_w, hge, bne_self_eq_false]
          rfl
        refine take_ (i := 1) (N := some 35) (v := ?_) (a' := ?_) #[true, true, false, false, false, false, false, false, false, false, false, false, false, false, false, false, false] rfl rfl (by kernel_rfl) (fun _ _ _ h => h) (Or.inl ⟨by rfl, ?_⟩) hHeld ?_ ?_
        rotate_left
        · rintro w' ⟨s0, s1, s2, s3, s4⟩
          have c_ := s1.cell
          go_simp
          with_reducible rfl
        rotate_left
        · simp only [Act.put, List.setIfInBounds_toArray, List.set_cons_zero, List.set_cons_succ, i64_w, i32_w, hge, bne_self_eq_false]
          rfl
        refine pure_ (i := 2) (N := some 36) (v := ?_) (a' := ?_) #[true, true, true, false, false, false, false, false, false, false, false, false, false, false, false, false, false] rfl rfl (by kernel_rfl) (fun _ _ _ h => h) (Or.inl ⟨by rfl, ?_⟩) ?_ ?_
        rotate_left
        · intro w'
          go_simp
          with_reducible rfl
        rotate_left
        · simp only [Act.put, List.setIfInBounds_toArray, List.set_cons_zero, List.set_cons_succ, i64_w, i32_w, hge, bne_self_eq_false]
          rfl
        refine pure_ (i := 3) (N := some 37) (v := ?_) (a' := ?_) #[true, true, true, true, false, false, false, false, false, false, false, false, false, false, false, false, false] rfl rfl (by kernel_rfl) (fun _ _ _ h => h) (Or.inl ⟨by rfl, ?_⟩) ?_ ?_
        rotate_left
        · intro w'
          go_simp
          with_reducible rfl
        rotate_left
        · simp only [Act.put, List.setIfInBounds_toArray, List.set_cons_zero, List.set_cons_succ, i64_w, i32_w, hge, bne_self_eq_false]
          rfl
        refine take_ (i := 4) (N := some 38) (v := ?_) (a' := ?_) #[true, true, true, true, true, false, false, false, false, false, false, false, false, false, false, false, false] rfl rfl (by kernel_rfl) (fun _ _ _ h => h) (Or.inl ⟨by rfl, ?_⟩) hHeld ?_ ?_
        rotate_left
        · rintro w' ⟨s0, s1, s2, s3, s4⟩
          have c_ := s1.cell
          go_simp
          with_reducible rfl
        rotate_left
        · simp only [Act.put, List.setIfInBounds_toArray, List.set_cons_zero, List.set_cons_succ, i64_w, i32_w, hge, bne_self_eq_false]
          rfl
        refine take_ (i := 5) (N := some 39) (v := ?_) (a' := ?_) #[true, true, true, true, true, true, false, false, false, false, false, false, false, false, false, false, false] rfl rfl (by kernel_rfl) (fun _ _ _ h => h) (Or.inl ⟨by rfl, ?_⟩) hHeld ?_ ?_
        rotate_left
        · rintro w' ⟨s0, s1, s2, s3, s4⟩
          have c_ := s2.cell
          go_simp
          with_reducible rfl
        rotate_left
        · simp only [Act.put, List.setIfInBounds_toArray, List.set_cons_zero, List.set_cons_succ, i64_w, i32_w, hge, bne_self_eq_false]
          rfl
        refine pure_ (i := 6) (N := some 40) (v := ?_) (a' := ?_) #[true, true, true, true, true, true, true, false, false, false, false, false, false, false, false, false, false] rfl rfl (by kernel_rfl) (fun _ _ _ h => h) (Or.inl ⟨by rfl, ?_⟩) ?_ ?_
        rotate_left
        · intro w'
          go_simp
          with_reducible rfl
        rotate_left
        · simp only [Act.put, List.setIfInBounds_toArray, List.set_cons_zero, List.set_cons_succ, i64_w, i32_w, hge, bne_self_eq_false]
          rfl
        refine pure_ (i := 7) (N := some 41) (v := ?_) (a' := ?_) #[true, true, true, true, true, true, true, true, false, false, false, false, false, false, false, false, false] rfl rfl (by kernel_rfl) (fun _ _ _ h => h) (Or.inl ⟨by rfl, ?_⟩) ?_ ?_
        rotate_left
        · intro w'
          go_simp
          with_reducible rfl
        rotate_left
        · simp only [Act.put, List.setIfInBounds_toArray, List.set_cons_zero, List.set_cons_succ, i64_w, i32_w, hge, bne_self_eq_false]
          rfl
        refine pure_ (i := 8) (N := some 42) (v := ?_) (a' := ?_) #[true, true, true, true, true, true, true, true, true, false, false, false, false, false, false, false, false] rfl rfl (by kernel_rfl) (fun _ _ _ h => h) (Or.inl ⟨by rfl, ?_⟩) ?_ ?_
        rotate_left
        · intro w'
          go_simp
          with_reducible rfl
        rotate_left
        · simp only [Act.put, List.setIfInBounds_toArray, List.set_cons_zero, List.set_cons_succ, i64_w, i32_w, hge, bne_self_eq_false]
          rfl
        refine pure_ (i := 9) (N := some 43) (v := ?_) (a' := ?_) #[true, true, true, true, true, true, true, true, true, true, false, false, false, false, false, false, false] rfl rfl (by kernel_rfl) (fun _ _ _ h => h) (Or.inl ⟨by rfl, ?_⟩) ?_ ?_
        rotate_left
        · intro w'
          go_simp
          with_reducible rfl
        rotate_left
        · simp only [Act.put, List.setIfInBounds_toArray, List.set_cons_zero, List.set_cons_succ, i64_w, i32_w, hge, bne_self_eq_false]
          rfl
        refine take_ (i := 10) (N := some 44) (v := ?_) (a' := ?_) #[true, true, true, true, true, true, true, true, true, true, true, false, false, false, false, false, false] rfl rfl (by kernel_rfl) (fun _ _ _ h => h) (Or.inl ⟨by rfl, ?_⟩) hHeld ?_ ?_
        rotate_left
        · rintro w' ⟨s0, s1, s2, s3, s4⟩
          obtain ⟨c_, d_⟩ := s0.cells
          go_simp
          with_reducible rfl
        rotate_left
        · simp only [Act.put, List.setIfInBounds_toArray, List.set_cons_zero, List.set_cons_succ, i64_w, i32_w, hge, bne_self_eq_false]
          rfl
        refine take_ (i := 11) (N := some 45) (v := ?_) (a' := ?_) #[true, true, true, true, true, true, true, true, true, true, true, true, false, false, false, false, false] rfl rfl (by kernel_rfl) (fun _ _ _ h => h) (Or.inl ⟨by rfl, ?_⟩) hHeld ?_ ?_
        rotate_left
        · rintro w' ⟨s0, s1, s2, s3, s4⟩
          have c_ := s2.cell
          go_simp
          with_reducible rfl
        rotate_left
        · simp only [Act.put, List.setIfInBounds_toArray, List.set_cons_zero, List.set_cons_succ, i64_w, i32_w, hge, bne_self_eq_false]
          rfl
        refine take_ (i := 12) (N := some 46) (v := ?_) (a' := ?_) #[true, true, true, true, true, true, true, true, true, true, true, true, true, false, false, false, false] rfl rfl (by kernel_rfl) (fun _ _ _ h => h) (Or.inl ⟨by rfl, ?_⟩) hHeld ?_ ?_
        rotate_left
        · rintro w' ⟨s0, s1, s2, s3, s4⟩
          have c_ := s1.cell
          go_simp
          with_reducible rfl
        rotate_left
        · simp only [Act.put, List.setIfInBounds_toArray, List.set_cons_zero, List.set_cons_succ, i64_w, i32_w, hge, bne_self_eq_false]
          rfl
        refine pure_ (i := 13) (N := some 47) (v := ?_) (a' := ?_) #[true, true, true, true, true, true, true, true, true, true, true, true, true, true, false, false, false] rfl rfl (by kernel_rfl) (fun _ _ _ h => h) (Or.inl ⟨by rfl, ?_⟩) ?_ ?_
        rotate_left
        · intro w'
          go_simp
          with_reducible rfl
        rotate_left
        · simp only [Act.put, List.setIfInBounds_toArray, List.set_cons_zero, List.set_cons_succ, i64_w, i32_w, hge, bne_self_eq_false]
          rfl
        refine take_ (i := 14) (N := some 48) (v := ?_) (a' := ?_) #[true, true, true, true, true, true, true, true, true, true, true, true, true, true, true, false, false] rfl rfl (by kernel_rfl) (fun _ _ _ h => h) (Or.inl ⟨by rfl, ?_⟩) hHeld ?_ ?_
        rotate_left
        · rintro w' ⟨s0, s1, s2, s3, s4⟩
          have c_ := s3; have d_ := s4
          go_simp
          with_reducible rfl
        rotate_left
        · simp only [Act.put, List.setIfInBounds_toArray, List.set_cons_zero, List.set_cons_succ, i64_w, i32_w, hge, bne_self_eq_false]
          rfl
        refine pure_ (i := 15) (N := some 49) (v := .bool true) (a' := ?_) #[true, true, true, true, true, true, true, true, true, true, true, true, true, true, true, true, false] rfl rfl (by kernel_rfl) (fun _ _ _ h => h) (Or.inl ⟨by rfl, ?_⟩) ?_ ?_
        · intro w'
          go_simp
          exact fun h0 h1 => hxs.out (ExtM.S65.eq_ h0 h1)
        rotate_left
        · simp only [Act.put, List.setIfInBounds_toArray, List.set_cons_zero, List.set_cons_succ, i64_w, i32_w, hge, bne_self_eq_false]
          rfl
        refine pure_ (i := 16) (N := some 50) (v := ?_) (a' := ?_) #[true, true, true, true, true, true, true, true, true, true, true, true, true, true, true, true, true] rfl rfl (by kernel_rfl) (fun _ _ _ h => h) (Or.inl ⟨by rfl, ?_⟩) ?_ ?_
        rotate_left
        · intro w'
          go_simp
          with_reducible rfl
        rotate_left
        · simp only [Act.put, List.setIfInBounds_toArray, List.set_cons_zero, List.set_cons_succ, i64_w, i32_w, hge, bne_self_eq_false]
          rfl
        refine done_ (by kernel_rfl) ?_
        have cQ := bQ2.cell
        have fQ := bQ2.frozen
        gi_wp2
        exact ⟨(hko2.trans (KeepsOthers.setCell _ _ _)).from _, .inr ⟨rfl, hbad⟩⟩
    case done1 =>
      rintro D xs W hD hxs ⟨hg, hlk, hn⟩ hm
      exact tail D W _ hD hlk hn hm
    case stop1 =>
      rintro D cc pre W hD ⟨j, hj, rfl⟩ h hm
      rcases h with ⟨rfl, hlk, m, hn⟩ | ⟨rfl, hbad⟩
      · exact wpIn_exit (tail D W m hD hlk hn hm)
      · exact absurd (show good L (upto (part L) j) by unfold good; rw [upto_length]) hbad
end Go.Proofs.Ytpmhlomilobgaaa.ExtA
