/- extent.Set.Minus: what it comes to. -/
import Derived.Test.YtpmhlomilobgaaaExtE
set_option linter.unusedVariables false
set_option linter.unusedSimpArgs false
namespace Go.Proofs.Ytpmhlomilobgaaa.ExtA
open Go.RowKit Go.Shelf Go.Proofs.Ytpmhlomilobgaaa.PExt Go.Proofs.YtpmhlomilobgaaaW.PrintWords Go.Proofs.YtpmhlomilobgaaaW.PrintLast Go.Proofs.YtpmhlomilobgaaaW.PrintMore
open Go.Proofs.Ytpmhlomilobgaaa.ExtS (flat flat_length reps_flat flat_reps)
attribute [local go_sem] Oper.semAt_some

def mgStep (x1 : Int) (s : Int × List S65) (y : S65) : Int × List S65 := if y.f1 ≤ s.1 then s else if y.f0 ≥ x1 then s else (y.f1, s.2 ++ [⟨s.1, y.f0⟩])
theorem minusGo_fold (x1 : Int) : ∀ (l : List S65) (a : Int) (o : List S65), ExtM.minusGo x1 a o l = l.foldl (mgStep x1) (a, o)
  | [], _, _ => rfl
  | y :: l, a, o => by
    simp only [ExtM.minusGo, List.foldl_cons, mgStep]
    split
    · exact minusGo_fold x1 l a o
    · split
      · exact minusGo_fold x1 l a o
      · exact minusGo_fold x1 l _ _
/-- Where the inner loop stands when j parts are over. -/
def mg (x : S65) (b : List S65) (j : Nat) : Int × List S65 := ExtM.minusGo x.f1 x.f0 [] (b.take j)
theorem mg_succ (x : S65) (b : List S65) (j : Nat) (h : j < b.length) : mg x b (j + 1) = mgStep x.f1 (mg x b j) b[j] := by
  simp only [mg, minusGo_fold]
  rw [List.take_add_one, List.getElem?_eq_getElem h, List.foldl_append]
  rfl
theorem mg_length (x : S65) (b : List S65) : ∀ j, j ≤ b.length → (mg x b j).2.length ≤ j
  | 0, _ => by simp [mg, ExtM.minusGo]
  | j + 1, h => by
    have := mg_length x b j (by omega)
    rw [mg_succ x b j (by omega)]
    unfold mgStep
    split
    · omega
    · split
      · omega
      · simp; omega
theorem minusL_snoc (a b : List S65) (x : S65) : ExtM.minusL (a ++ [x]) b = ExtM.minusL a b ++ (mg x b b.length).2 ++ [⟨(mg x b b.length).1, x.f1⟩] := by
  simp [ExtM.minusL, ExtM.minusX, mg]
theorem minusX_length (x : S65) (b : List S65) : (ExtM.minusX x b).length ≤ b.length + 1 := by
  have := mg_length x b b.length (Nat.le_refl _)
  simp only [mg, List.take_length] at this
  simp [ExtM.minusX]
  exact this
theorem minusL_length : ∀ (a b : List S65), (ExtM.minusL a b).length ≤ a.length * (b.length + 1)
  | [], b => by simp [ExtM.minusL]
  | x :: a, b => by
    have := minusL_length a b
    have h2 := minusX_length x b
    have e : ExtM.minusL (x :: a) b = ExtM.minusX x b ++ ExtM.minusL a b := by simp [ExtM.minusL]
    rw [e, List.length_append, List.length_cons, Nat.add_mul, Nat.one_mul]
    omega

set_option maxRecDepth 100000 in
set_option maxHeartbeats 8000000 in
theorem minus_in (A A1 : Option Addr) (c c1 k k1 : Nat) (l L l1 L1 r : List S65) (w : World) (hr0 : Kd.C k65 w A l.length l) (hc0 : l.length ≤ c) (hr1 : Kd.C k65 w A1 l1.length l1) (hc1 : l1.length ≤ c1) (hn : extent_Norm.f k l = some L) (hn1 : extent_Norm.f k1 l1 = some L1)
    (hL : L.length ≤ 1000000) (hL1 : L1.length ≤ 1000000) (k2 : Nat) (hn2 : extent_Norm.f k2 (ExtM.minusL L L1) = some r) :
    CallsIn Fence.wide 9 Try.prog 48 #[.slice A l.length c, .slice A1 l1.length c1] w fun e W' => ∃ v, e = .returned v ∧ Kd.R k65 65 W' w.heap.size (fun _ => True) v r ∧ Below w.heap.size w W' := by
  have hr0 := Aside0.mk hr0
  have hr1 := Aside0.mk hr1
  refine callsIn_of_wp_marks Try.func48 rfl trivial ?_ rfl
  simp only [Try.ntmps48, List.size_toArray, List.length_cons, List.length_nil, Nat.reduceAdd, Nat.reduceSub, Array.replicate_succ, Array.replicate_zero, List.push_toArray, List.append_toArray, List.nil_append, List.cons_append]
  have hbA : Below w.heap.size w (w.alloc (.cells #[.slice none 0 0] 56)) := (Below.refl _ w).alloc (Nat.le_refl _) _
  gi_wp2_with (first | (refine ⟨trivial, ?_⟩; gi_at_call 37; refine (callsIn_wide.2 (extent_Norm.calls k1 A1 c1 l1 L1 _ (Kd.C_below hr1.out hbA) hc1 hn1)).mono ?_; rintro e w1 ⟨vb, rfl, hRb, hbN⟩; obtain ⟨Ab, cb, rfl⟩ := Kd.R_slice hRb) | (refine ⟨trivial, ?_⟩; gi_at_call 34; refine (all_in _ A l.length c _).mono ?_; rintro e w' ⟨rfl, rfl⟩))
  have hs1 : w.heap.size + 1 ≤ w1.heap.size := by have := hbN.size; simpa using this
  have hsz : ((w1.alloc (.cells #[.slice Ab L1.length cb] 62)).alloc (.cells #[.slice A l.length c] 62)).heap.size = w1.heap.size + 2 := by simp
  have hB2 : Below w1.heap.size w1 ((w1.alloc (.cells #[.slice Ab L1.length cb] 62)).alloc (.cells #[.slice A l.length c] 62)) := ((Below.refl _ w1).alloc (Nat.le_refl _) _).alloc (by simp) _
  have bB := (Boxed.new w1 62 (.slice Ab L1.length cb)).alloc (.cells #[.slice A l.length c] 62)
  have bN := Boxed.new (w1.alloc (.cells #[.slice Ab L1.length cb] 62)) 62 (.slice A l.length c)
  rw [World.size_alloc] at bN
  obtain ⟨W0, hW0⟩ : ∃ W0, (w1.alloc (.cells #[.slice Ab L1.length cb] 62)).alloc (.cells #[.slice A l.length c] 62) = W0 := ⟨_, rfl⟩
  rw [hW0] at bB bN hsz hB2 ⊢
  clear hW0
  have hbW : Below w.heap.size w W0 := (hbA.trans (hbN.mono (by simp))).trans (hB2.mono (by omega))
  have bO : Boxed W0 w.heap.size 56 (.slice none 0 0) := (hB2.block _ (by omega)).trans ((hbN.block _ (by simp)).trans (Boxed.new w 56 (.slice none 0 0)))
  have hR0 : Kd.R k65 65 W0 (w.heap.size + 1) (fun _ => True) (.slice Ab L1.length cb) L1 := R_own65 (by simpa using hRb) (fun g cc tt z hg hcell => (hB2.block g (Array.getElem?_eq_some_iff.1 hcell).1).trans hcell)
  have hRbA := Aside0.mk hR0
  have hr2 := Kd.C_below hr0.out hbW
  clear hr0 hr1 hRb hR0 hbN hB2 hbA
  have hh0 : hold w.heap.size W0 = none := by rw [hold, bO.cell]; rfl
  obtain ⟨i0, hi, hz0, hz1, hz2⟩ := info_parts info65
  refine wpIn_rangeFunc_ownH (α := Nat × S65) (w := W0) rfl (by omega) (gf := 75) (lb := #[.pointer (some ⟨w1.heap.size + 1, 0, none⟩)]) rfl trivial (enters_of Try.func75 (by kernel_rfl) rfl)
    (all1_in 8 (by omega) w.heap.size (w1.heap.size + 1) c k A l L W0 (by omega) (by omega) bN.cell hr2 hc0 hh0 hn (by omega)) (fun h k => h.trans k) (kpO_b (by omega)) (Below.refl _ _) (fun _ => rfl)
    (fun pre W => OutB w.heap.size W0.heap.size (ExtM.minusL (pre.map Prod.snd) L1) W ∧ LK w.heap.size W0 W)
    (fun _ _ _ => False)
    (OwnFrom.and (Own.from (outB_own _ _ (fun pre : List (Nat × S65) => ExtM.minusL (pre.map Prod.snd) L1)) _) ownFrom_LK)
    (fun _ _ _ _ _ hs _ _ => hs)
    ⟨⟨_, bO, own_nil65 _ _⟩, LK.refl _ _⟩
    (fun x a' W => ∃ Bx, w.heap.size < Bx ∧ Box2 W Bx x.2 ∧ (∃ v, Boxed W w.heap.size 56 v ∧ v.ownBlock ≠ some Bx) ∧ a' = { tmps := #[.slice A l.length c, .slice A1 l1.length c1, undef, undef, .slice none 0 0, .pointer (some ⟨w.heap.size, 0, none⟩), .pointer (some ⟨w1.heap.size, 0, none⟩), undef, .pointer (some ⟨Bx, 0, none⟩), undef, undef, undef, .slice A1 l1.length c1, .slice Ab L1.length cb, .slice A l.length c, .func (.func 75) #[] #[.pointer (some ⟨w1.heap.size + 1, 0, none⟩)], .int .i64 (x.1 : Int), .agg #[.int .i64 x.2.f0, .int .i64 x.2.f1], undef, undef, undef, undef, undef, undef, undef, undef, undef, undef, undef, undef, undef, undef, undef, undef, undef, undef, undef, undef, undef, undef, undef, undef, undef, undef, undef, undef, undef, undef, undef, undef, undef, undef, undef, undef, undef, undef], defers := [] })
    (fun x a' _ X Y row hs hg hr => by obtain ⟨Bx, h1, h2, h3, h4⟩ := hs; exact ⟨Bx, h1, box2_own Bx x.2 () X Y row h2 hg (fun r e => (hr r e).2), hold_own () X Y row h3 hg (fun r e => (hr r e).2), h4⟩)
    ?assign ?body ?done ?stop
  case assign =>
    rintro lp pre x W K ⟨hb, hlk⟩ hK
    have hsW := hlk.size
    dsimp only [encX]
    gi_wp2
    refine hK _ _ ((KeepsOthers.alloc _ _).from _) (KpO.below (by omega) ((Below.refl _ W).alloc (Nat.le_refl _) _)) ⟨hb.alloc _, hlk.below ((Below.refl _ W).alloc (Nat.le_refl _) _)⟩ ⟨W.heap.size, by omega, Box2.new W x.2, ?_, rfl⟩
    obtain ⟨v, h1, h2⟩ := hb
    exact ⟨v, h1.alloc _, fun e => by have := own_lt h2 _ e; omega⟩
  case body =>
    rintro lp pre x a' W hl _ ⟨hb, hlk⟩ ⟨Bx, hBx, bX, hhx, rfl⟩ hlt
    have hhX : hold w.heap.size W ≠ some Bx := by
      obtain ⟨v, h1, h2⟩ := hhx
      rw [hold, h1.cell]
      exact h2
    clear hhx
    have hbb : Boxed W w1.heap.size 62 (.slice Ab L1.length cb) := (hlk.block (w1.heap.size) (by omega) (by omega)).trans bB
    have hcb := hbb.cell
    have hlen0 : (ExtM.minusL (pre.map Prod.snd) L1).length + L1.length + 1 ≤ 2000000000000 := by
      have h0 := minusL_length (pre.map Prod.snd) L1
      rw [List.length_map] at h0
      have h1 : (pre.length + 1) * (L1.length + 1) ≤ 1000000 * 1000001 := Nat.mul_le_mul (by omega) (by omega)
      rw [Nat.add_mul, Nat.one_mul] at h1
      omega
    have hlenA := Aside0.mk hlen0
    clear hlen0
    have hlkA := Aside0.mk hlk
    have hbA := Aside0.mk hb
    have bXA := Aside0.mk bX
    have hhA := Aside0.mk hhX
    obtain ⟨hxx0, hxx1⟩ := bX.cells
    clear hlk hb bX hhX
    gi_wp2
    clear hxx0 hxx1
    gi_loopw [9, 22] (fun a i wr => ∃ j : Nat, j ≤ L1.length ∧ i = .int .i64 j ∧ a = .int .i64 (mg x.2 L1 j).1 ∧ Aside0 (OutB w.heap.size W0.heap.size (ExtM.minusL (pre.map Prod.snd) L1 ++ (mg x.2 L1 j).2) wr) ∧ Aside0 (LK w.heap.size W0 wr) ∧ Aside0 (KpO w.heap.size W wr) ∧ Aside0 (KeepsOthers W wr) ∧ Aside0 (Box2 wr Bx x.2) ∧ Aside0 (hold w.heap.size wr ≠ some Bx))
      (fun _ i _ => L1.length - (intOf i).toNat)
    case atStart => exact ⟨0, Nat.zero_le _, rfl, by simp [mg, ExtM.minusGo], ⟨by simpa [mg, ExtM.minusGo] using hbA.out⟩, hlkA, ⟨KpO.refl _ _⟩, ⟨KeepsOthers.refl _⟩, bXA, hhA⟩
    case round =>
      obtain ⟨j, hj, rfl, rfl, hbj, hlkj, hkpj, hkoj, bxj, hhj⟩ := hrel
      have hgl := mg_length x.2 L1 j hj
      have hlenJ : (ExtM.minusL (pre.map Prod.snd) L1 ++ (mg x.2 L1 j).2).length ≤ 2000000000000 := by
        have := hlenA.out
        rw [List.length_append]
        omega
      have hbj0 := hbj.out
      obtain ⟨v, hv, hrow⟩ := hbj0
      have hszj := hlkj.out.size
      by_cases hjl : j < L1.length
      · have hRj : Kd.R k65 65 wr (w.heap.size + 1) (fun _ => True) (.slice Ab L1.length cb) L1 := R_own65 hRbA.out (fun g cc tt z hg hcell => by
          obtain ⟨_, inner, ho, _⟩ := hRbA.out
          have h1 := own_base ho g hg
          have h2 := own_lt ho g hg
          exact (hlkj.out.block g h2 (by omega)).trans hcell)
        obtain ⟨ad, e1, hx0, hx1⟩ := at_T65 (Kd.R_reads' hRj).2.2 (j : Int) (by omega) (by omega)
        subst e1
        simp only [Int.toNat_natCast] at hx0 hx1
        clear hRj
        have hyj : rd_T65 L1 (j : Int) = L1[j] := by simp [rd_T65, hjl]
        rw [hyj] at hx0 hx1
        have hms := mg_succ x.2 L1 j hjl
        obtain ⟨y0, hy0⟩ : ∃ y0, L1[j].f0 = y0 := ⟨_, rfl⟩
        obtain ⟨y1, hy1⟩ : ∃ y1, L1[j].f1 = y1 := ⟨_, rfl⟩
        obtain ⟨a, ha⟩ : ∃ a, (mg x.2 L1 j).1 = a := ⟨_, rfl⟩
        rw [hy0] at hx0
        rw [hy1] at hx1
        rw [mgStep, hy0, hy1, ha] at hms
        rw [ha]
        have haA := Aside0.mk ha
        clear hyj hy0 hy1 ha
        have hv1 := hv.alloc (.cells #[.int .i64 y0, .int .i64 y1] 65)
        have hrow1 := hrow.alloc (.cells #[.int .i64 y0, .int .i64 y1] 65)
        have hcO := hv1.cell
        have hX1 := (KpO.below (B := w.heap.size) (by omega) ((Below.refl _ wr).alloc (Nat.le_refl _) (.cells #[.int .i64 y0, .int .i64 y1] 65))).box bxj.out (by omega) hhj.out
        obtain ⟨hq0, hq1⟩ := hX1.1.cells
        have hY := Box2.new wr ⟨y0, y1⟩
        obtain ⟨hz_0, hz_1⟩ := hY.cells
        have hX1A := Aside0.mk hX1
        have hYA := Aside0.mk hY
        have hYh : Aside0 (hold w.heap.size (wr.alloc (.cells #[.int .i64 y0, .int .i64 y1] 65)) ≠ some wr.heap.size) := ⟨by rw [hbj.out.hold_alloc]; exact hbj.out.far⟩
        clear hX1 hY
        have hk1 := Aside0.mk (hkpj.out.alloc (by omega) (.cells #[.int .i64 y0, .int .i64 y1] 65))
        have hl1 := Aside0.mk (hlkj.out.below ((Below.refl _ wr).alloc (Nat.le_refl _) (.cells #[.int .i64 y0, .int .i64 y1] 65)))
        have ho1 := Aside0.mk (hkoj.out.trans (KeepsOthers.alloc wr (.cells #[.int .i64 y0, .int .i64 y1] 65)))
        have hbj1 := Aside0.mk (hbj.out.alloc (.cells #[.int .i64 y0, .int .i64 y1] 65))
        clear hbj
        by_cases hc1 : y1 ≤ a
        · rw [if_pos hc1] at hms
          have hmsA := Aside0.mk hms
          clear hms
          gi_wp2
          go_roundw
          case rel => exact ⟨j + 1, by omega, by simp, by rw [hmsA.out, haA.out], ⟨by rw [hmsA.out]; exact hbj1.out⟩, hl1, hk1, ho1, ⟨hX1A.out.1⟩, ⟨hX1A.out.2⟩⟩
          case measure => simp [intOf]; omega
        · rw [if_neg hc1] at hms
          have hd1 : decide (y1 ≤ a) = false := decide_eq_false hc1
          by_cases hc2 : x.2.f1 ≤ y0
          · rw [if_pos hc2] at hms
            have hmsA := Aside0.mk hms
            clear hms
            have hd2 : decide (x.2.f1 ≤ y0) = true := decide_eq_true hc2
            gi_wp2
            go_roundw
            case rel => exact ⟨j + 1, by omega, by simp, by rw [hmsA.out, haA.out], ⟨by rw [hmsA.out]; exact hbj1.out⟩, hl1, hk1, ho1, ⟨hX1A.out.1⟩, ⟨hX1A.out.2⟩⟩
            case measure => simp [intOf]; omega
          · rw [if_neg (by omega)] at hms
            have hd2 : decide (x.2.f1 ≤ y0) = false := decide_eq_false hc2
            have hms2 : ExtM.minusL (pre.map Prod.snd) L1 ++ (mg x.2 L1 (j + 1)).2 = (ExtM.minusL (pre.map Prod.snd) L1 ++ (mg x.2 L1 j).2) ++ [⟨a, y0⟩] := by rw [hms, List.append_assoc]
            have hms1 : (mg x.2 L1 (j + 1)).1 = y1 := by rw [hms]
            obtain ⟨X, hXX⟩ : ∃ X, ExtM.minusL (pre.map Prod.snd) L1 ++ (mg x.2 L1 j).2 = X := ⟨_, rfl⟩
            rw [hXX] at hlenJ hrow hrow1 hms2
            have hmsA := Aside0.mk hms2
            have hmsB := Aside0.mk hms1
            have hrowA := Aside0.mk hrow1
            have hlenB := Aside0.mk hlenJ
            clear hms hms1 hms2 hXX hrow hrow1 hlenJ hgl
            gi_wp2_with (gi_at_builtin; refine wpListIn_append_at _ rfl _ _ 56 rfl W0.heap.size 65 i0 (.agg #[(.int .i64 0), (.int .i64 0)]) 2 16 Try.underlying56 hi hz0 hz1 hz2 rfl (by decide) v _ _ rfl (hrowA.out.alloc _) ⟨wr.heap.size + 1, 0, none⟩ 1 1 [_, _] rfl rfl (by have h_ := cell_two_new (wr.alloc (.cells #[.int .i64 y0, .int .i64 y1] 65)); simp only [World.size_alloc] at h_; exact h_ _ _ _) (by simp [Value.oneCell']) (by have := hlenB.out; simp only [maxLen]; omega) (by have := hlenB.out; omega) (by simp; omega) ?_; intro v' w5 hown' hgrow hat; obtain ⟨g', cap', rfl⟩ := ownsRow_succ hown'; obtain ⟨hb5, hout5, hkp5, hko5, hlk5⟩ := appended65 (x := ⟨a, y0⟩) hv1 hrowA.out (by omega) hown' hgrow hat; obtain ⟨hyz0, hyz1⟩ := (hkp5.box hYA.out (by omega) hYh.out).1.cells; have hc5 := hb5.cell; have hf5 := hb5.frozen)
            go_roundw
            case rel =>
              refine ⟨j + 1, by omega, by simp, by rw [hmsB.out], ⟨by rw [hmsA.out]; exact hout5⟩, ⟨hlk5 W0 rfl hl1.out⟩, ⟨hk1.out.trans hkp5⟩, ⟨ho1.out.trans hko5⟩, ⟨(hkp5.box hX1A.out.1 (by omega) hX1A.out.2).1⟩, ⟨(hkp5.box hX1A.out.1 (by omega) hX1A.out.2).2⟩⟩
            case measure => simp [intOf]; omega
      · obtain rfl : j = L1.length := by omega
        obtain ⟨hq0, hq1⟩ := bxj.out.cells
        obtain ⟨a, ha⟩ : ∃ a, (mg x.2 L1 L1.length).1 = a := ⟨_, rfl⟩
        have hms2 := minusL_snoc (pre.map Prod.snd) L1 x.2
        rw [ha] at hms2 ⊢
        obtain ⟨X, hXX⟩ : ∃ X, ExtM.minusL (pre.map Prod.snd) L1 ++ (mg x.2 L1 L1.length).2 = X := ⟨_, rfl⟩
        rw [hXX] at hlenJ hrow hms2
        have hmsA := Aside0.mk hms2
        have hrowA := Aside0.mk hrow
        have hlenB := Aside0.mk hlenJ
        have hcO := hv.cell
        clear hms2 ha hXX hrow hlenJ hgl
        gi_wp2_with (gi_at_builtin; refine wpListIn_append_at _ rfl _ _ 56 rfl W0.heap.size 65 i0 (.agg #[(.int .i64 0), (.int .i64 0)]) 2 16 Try.underlying56 hi hz0 hz1 hz2 rfl (by decide) v _ _ rfl (hrowA.out.alloc _) ⟨wr.heap.size, 0, none⟩ 1 1 [_, _] rfl rfl (cell_two_new _ _ _ _) (by simp [Value.oneCell']) (by have := hlenB.out; simp only [maxLen]; omega) (by have := hlenB.out; omega) (by simp; omega) ?_; intro v' w5 hown' hgrow hat; obtain ⟨g', cap', rfl⟩ := ownsRow_succ hown'; obtain ⟨hb5, hout5, hkp5, hko5, hlk5⟩ := appended65 (x := ⟨a, x.2.f1⟩) hv hrowA.out (by omega) hown' hgrow hat; have hc5 := hb5.cell; have hf5 := hb5.frozen)
        refine ⟨(hkoj.out.trans hko5).from _, hkpj.out.trans hkp5, ?_, hlk5 W0 rfl hlkj.out⟩
        rw [List.map_append, List.map_cons, List.map_nil, hmsA.out]
        exact hout5
  case done =>
    rintro D ys W hD rfl ⟨hb, hlk⟩ hK
    rw [part_map L _ (Nat.le_refl _), List.take_length] at hb
    obtain ⟨v, h1, h2⟩ := hb
    have hRv := own_R h2
    obtain ⟨Av, cv, rfl⟩ := Kd.R_slice hRv
    have hc := h1.cell
    have hRvA := Aside0.mk (Kd.R_reads' hRv)
    clear hRv h2
    have hDl := (Array.getElem?_eq_some_iff.1 hK).1
    gi_wp2_with (refine ⟨trivial, ?_⟩; gi_at_call 37; refine (callsIn_wide.2 (extent_Norm.calls k2 Av cv (ExtM.minusL L L1) r _ hRvA.out.2.2 hRvA.out.2.1 hn2)).mono ?_; rintro e w5 ⟨vr, rfl, hRr, hbr⟩)
    have hK5 := (hbr.block D hDl).trans hK
    refine ⟨by simp, .inl ⟨_, _, rfl, run_takeDeferred hK5, ?_⟩⟩
    refine ⟨_, results_tmp rfl _ _ _, vr, rfl, ?_, ((hbW.trans (hlk.down (Nat.le_refl _) (by omega))).trans (hbr.mono (by have := hlk.size; omega))).trans (below_putD (by omega) hK5)⟩
    refine R_own65 (Kd.R_lower hRr (by have := hlk.size; omega)) (fun g cc tt z hg hcell => ?_)
    exact ((grownBy_putObj' w5 D _).block g (Array.getElem?_eq_some_iff.1 hcell).1 (fun e => by injection e with e; subst e; rw [hK5] at hcell; cases hcell)).trans hcell
  case stop =>
    rintro D c pre W _ _ h _
    exact h.elim
end Go.Proofs.Ytpmhlomilobgaaa.ExtA
