/- extent.Set.Inward: what it comes to. -/
import Derived.Test.YtpmhlomilobgaaaExtT
set_option linter.unusedVariables false
set_option linter.unusedSimpArgs false
namespace Go.Proofs.Ytpmhlomilobgaaa.ExtA
open Go.RowKit Go.Shelf Go.Proofs.Ytpmhlomilobgaaa.PExt Go.Proofs.YtpmhlomilobgaaaW.PrintWords Go.Proofs.YtpmhlomilobgaaaW.PrintLast Go.Proofs.YtpmhlomilobgaaaW.PrintMore
open Go.Proofs.Ytpmhlomilobgaaa.ExtS (flat flat_length reps_flat flat_reps)
attribute [local go_sem] Oper.semAt_some
theorem down_eq {n u : Int} (hu : u ≠ 0) : extent_down.f n u = some (ExtM.downZ n u) := by
  unfold extent_down.f ExtM.downZ
  rw [if_neg hu]
  split <;> rfl
def inM (u : Int) (pre : List (Nat × S65)) : List S65 := pre.map fun x => ExtM.inX u x.2

set_option maxRecDepth 100000 in
set_option maxHeartbeats 8000000 in
theorem inward_in (A : Option Addr) (c k : Nat) (l L r : List S65) (u : Int) (hu : 1 ≤ u) (w : World) (hr0 : Kd.C k65 w A l.length l) (hc0 : l.length ≤ c) (hn : extent_Norm.f k l = some L)
    (hL : L.length ≤ 1000000) (k2 : Nat) (hn2 : extent_Norm.f k2 (L.map (ExtM.inX u)) = some r) :
    CallsIn Fence.wide 9 Try.prog 72 #[.slice A l.length c, .int .i64 u] w fun e W' => ∃ v, e = .returned (.tuple #[v, .int .i64 0]) ∧ Kd.R k65 65 W' w.heap.size (fun _ => True) v r ∧ Below w.heap.size w W' := by
  have hr0 := Aside0.mk hr0
  have hmix : Try.prog.follows .mixedOrders = true := by kernel_rfl
  have hu1 : decide (u < 1) = false := by simp; omega
  have hdn := Aside0.mk (fun n W => extent_down.calls n u _ W (down_eq (n := n) (by omega)))
  refine callsIn_of_wp_marks Try.func72 rfl trivial ?_ rfl
  simp only [Try.ntmps72, List.size_toArray, List.length_cons, List.length_nil, Nat.reduceAdd, Nat.reduceSub, Array.replicate_succ, Array.replicate_zero, List.push_toArray, List.append_toArray, List.nil_append, List.cons_append]
  gi_wp2_with (refine ⟨trivial, ?_⟩; gi_at_call 34; refine (all_in _ A l.length c _).mono ?_; rintro e w' ⟨rfl, rfl⟩)
  have hsz : (((w.alloc (.cells #[.int .i64 u] 2)).alloc (.cells #[.slice none 0 0] 56)).alloc (.cells #[.slice A l.length c] 62)).heap.size = w.heap.size + 3 := by simp
  have hbW : Below w.heap.size w (((w.alloc (.cells #[.int .i64 u] 2)).alloc (.cells #[.slice none 0 0] 56)).alloc (.cells #[.slice A l.length c] 62)) := (((Below.refl _ w).alloc (Nat.le_refl _) _).alloc (by simp) _).alloc (by simp; omega) _
  have bU := ((Boxed.new w 2 (.int .i64 u)).alloc (.cells #[.slice none 0 0] 56)).alloc (.cells #[.slice A l.length c] 62)
  have bO := (Boxed.new (w.alloc (.cells #[.int .i64 u] 2)) 56 (.slice none 0 0)).alloc (.cells #[.slice A l.length c] 62)
  have bN := Boxed.new ((w.alloc (.cells #[.int .i64 u] 2)).alloc (.cells #[.slice none 0 0] 56)) 62 (.slice A l.length c)
  simp only [World.size_alloc] at bO bN
  obtain ⟨W0, hW0⟩ : ∃ W0, ((w.alloc (.cells #[.int .i64 u] 2)).alloc (.cells #[.slice none 0 0] 56)).alloc (.cells #[.slice A l.length c] 62) = W0 := ⟨_, rfl⟩
  rw [hW0] at bU bO bN hsz hbW ⊢
  clear hW0
  have hr2 := Kd.C_below hr0.out hbW
  clear hr0
  have hh0 : hold (w.heap.size + 1) W0 = none := by rw [hold, bO.cell]; rfl
  obtain ⟨i0, hi, hz0, hz1, hz2⟩ := info_parts info65
  refine wpIn_rangeFunc_ownH (α := Nat × S65) (w := W0) rfl (by omega) (gf := 75) (lb := #[.pointer (some ⟨w.heap.size + 1 + 1, 0, none⟩)]) rfl trivial (enters_of Try.func75 (by kernel_rfl) rfl)
    (all1_in 8 (by omega) (w.heap.size + 1) (w.heap.size + 1 + 1) c k A l L W0 (by omega) (by omega) bN.cell hr2 hc0 hh0 hn (by omega)) (fun h k => h.trans k) (kpO_b (by omega)) (Below.refl _ _) (fun _ => rfl)
    (fun pre W => OutB (w.heap.size + 1) W0.heap.size (inM u pre) W ∧ LK (w.heap.size + 1) W0 W)
    (fun _ _ _ => False)
    (OwnFrom.and (Own.from (outB_own _ _ (inM u)) _) ownFrom_LK)
    (fun _ _ _ _ _ hs _ _ => hs)
    ⟨⟨_, bO, own_nil65 _ _⟩, LK.refl _ _⟩
    (fun x a' W => ∃ Bx, w.heap.size + 1 < Bx ∧ Box2 W Bx x.2 ∧ a' = { tmps := #[.slice A l.length c, .int .i64 u, undef, .pointer (some ⟨w.heap.size, 0, none⟩), .slice none 0 0, .int .i64 0, .pointer (some ⟨w.heap.size + 1, 0, none⟩), undef, .pointer (some ⟨Bx, 0, none⟩), undef, .int .i64 u, .bool false, .slice A l.length c, .func (.func 75) #[] #[.pointer (some ⟨w.heap.size + 1 + 1, 0, none⟩)], .int .i64 (x.1 : Int), .agg #[.int .i64 x.2.f0, .int .i64 x.2.f1], undef, undef, undef, undef, undef, undef, undef, undef, undef, undef, undef, undef, undef, undef, undef, undef, undef, undef, undef, undef, undef, undef], defers := [] })
    (fun x a' _ X Y row hs hg hr => by obtain ⟨Bx, h1, h2, h4⟩ := hs; exact ⟨Bx, h1, box2_own Bx x.2 () X Y row h2 hg (fun r e => (hr r e).2), h4⟩)
    ?assign ?body ?done ?stop
  case assign =>
    rintro lp pre x W K ⟨hb, hlk⟩ hK
    have hsW := hlk.size
    dsimp only [encX]
    gi_wp2
    exact hK _ _ ((KeepsOthers.alloc _ _).from _) (KpO.below (by omega) ((Below.refl _ W).alloc (Nat.le_refl _) _)) ⟨hb.alloc _, hlk.below ((Below.refl _ W).alloc (Nat.le_refl _) _)⟩ ⟨W.heap.size, by omega, Box2.new W x.2, rfl⟩
  case body =>
    rintro lp pre x a' W hl _ ⟨hb, hlk⟩ ⟨Bx, hBx, bX, rfl⟩ hlt
    have hbb : Boxed W w.heap.size 2 (.int .i64 u) := (hlk.block (w.heap.size) (by omega) (by omega)).trans bU
    have hcb := hbb.cell
    obtain ⟨hxx0, hxx1⟩ := bX.cells
    have hlkA := Aside0.mk hlk
    obtain ⟨v, hv, hrow⟩ := hb
    have hcO := hv.cell
    have hrowA := Aside0.mk hrow
    have hd0 := hdn.out x.2.f0
    have hd1 := hdn.out x.2.f1
    obtain ⟨d0, hd0e⟩ : ∃ d, ExtM.downZ x.2.f0 u = d := ⟨_, rfl⟩
    obtain ⟨d1, hd1e⟩ : ∃ d, ExtM.downZ x.2.f1 u = d := ⟨_, rfl⟩
    rw [hd0e] at hd0
    rw [hd1e] at hd1
    have hdA := Aside0.mk (And.intro hd0e hd1e)
    have hlenA : Aside0 ((inM u pre).length ≤ 1000000) := ⟨by simp only [inM, List.length_map]; omega⟩
    clear hlk hrow hd0e hd1e
    have hd0A := Aside0.mk hd0
    have hd1A := Aside0.mk hd1
    clear hd0 hd1 hdn
    gi_wp2_with (refine ⟨trivial, ?_⟩; gi_at_call 90; refine (CallsIn.inRound lp (callsIn_wide.2 (hd0A.out _))).mono ?_; clear hd0A; rintro e w' ⟨rfl, ⟨nq, rfl⟩⟩)
    · skip
      have hB1 : w.heap.size + 1 < (W.drewN nq).heap.size := hv.lt
      have hvq : Boxed (W.drewN nq) (w.heap.size + 1) 56 v := hv
      have hrowq : (W.drewN nq).ownsRow W0.heap.size 65 2 v (inM u pre).length (flat (inM u pre)) := hrowA.out
      have bXq : Box2 (W.drewN nq) Bx x.2 := bX
      have hbbq : Boxed (W.drewN nq) w.heap.size 2 (.int .i64 u) := hbb
      have hlkq : LK (w.heap.size + 1) W0 (W.drewN nq) := ⟨hlkA.out.os, hlkA.out.tape, hlkA.out.output, hlkA.out.size, hlkA.out.block⟩
      have hkpq : KpO (w.heap.size + 1) W (W.drewN nq) := ⟨Nat.le_refl _, fun _ _ _ _ h _ _ => h, .inl rfl⟩
      have hkoq : KeepsOthers W (W.drewN nq) := ⟨Nat.le_refl _, fun _ _ h _ => h⟩
      obtain ⟨Wa, hWa⟩ : ∃ Wa, W.drewN nq = Wa := ⟨_, rfl⟩
      rw [hWa] at hB1 hvq hrowq bXq hbbq hlkq hkpq hkoq ⊢
      clear hWa hv hrowA bX hbb hlkA hcb hxx0 hxx1 hcO
      refine startIn_ (m := 10) (S := fun w' => Box2 w' Bx x.2 ∧ Boxed w' w.heap.size 2 (.int .i64 u) ∧ Boxed w' (w.heap.size + 1) 56 v) (ds := [8, 9]) #[false, false, false, false, false, false, false, false, false, false] hmix (by kernel_rfl) (fun h_ => by obtain ⟨a_, w_, h_⟩ := h_; exact h_) rfl rfl ⟨bXq, hbbq, hvq⟩ (fun hHeld => ?_)
      have hB1 : w.heap.size + 1 < Wa.drew.heap.size := hB1
      have hvq : Boxed Wa.drew (w.heap.size + 1) 56 v := hvq
      have hrowq : Wa.drew.ownsRow W0.heap.size 65 2 v (inM u pre).length (flat (inM u pre)) := hrowq
      have hlkq : LK (w.heap.size + 1) W0 Wa.drew := ⟨hlkq.os, hlkq.tape, hlkq.output, hlkq.size, hlkq.block⟩
      have hkpq : KpO (w.heap.size + 1) W Wa.drew := ⟨hkpq.size, hkpq.keep, hkpq.held⟩
      have hkoq : KeepsOthers W Wa.drew := ⟨hkoq.size, hkoq.same⟩
      generalize Wa.drew = Wb at hB1 hvq hrowq hlkq hkpq hkoq hHeld ⊢
      refine pure_ (i := 1) (N := some 28) (v := ?_) (a' := ?_) #[false, true, false, false, false, false, false, false, false, false] rfl rfl (by kernel_rfl) (fun _ _ _ h => h) (Or.inl ⟨by rfl, ?_⟩) ?_ ?_
      rotate_left
      · intro w'
        go_simp
        with_reducible rfl
      rotate_left
      · simp only [Act.put, List.setIfInBounds_toArray, List.set_cons_zero, List.set_cons_succ, i64_w, i32_w]
        rfl
      refine pure_ (i := 2) (N := some 29) (v := ?_) (a' := ?_) #[false, true, true, false, false, false, false, false, false, false] rfl rfl (by kernel_rfl) (fun _ _ _ h => h) (Or.inl ⟨by rfl, ?_⟩) ?_ ?_
      rotate_left
      · intro w'
        go_simp
        with_reducible rfl
      rotate_left
      · simp only [Act.put, List.setIfInBounds_toArray, List.set_cons_zero, List.set_cons_succ, i64_w, i32_w]
        rfl
      refine take_ (i := 0) (N := some 27) (v := ?_) (a' := ?_) #[true, true, true, false, false, false, false, false, false, false] rfl rfl (by kernel_rfl) (fun _ _ _ h => h) (Or.inl ⟨by rfl, ?_⟩) hHeld ?_ ?_
      rotate_left
      · rintro w' ⟨s0, s1, s2⟩
        have c_ := s2.cell
        go_simp
        with_reducible rfl
      rotate_left
      · simp only [Act.put, List.setIfInBounds_toArray, List.set_cons_zero, List.set_cons_succ, i64_w, i32_w]
        rfl
      refine take_ (i := 3) (N := some 30) (v := ?_) (a' := ?_) #[true, true, true, true, false, false, false, false, false, false] rfl rfl (by kernel_rfl) (fun _ _ _ h => h) (Or.inl ⟨by rfl, ?_⟩) hHeld ?_ ?_
      rotate_left
      · rintro w' ⟨s0, s1, s2⟩
        have c_ := s0.cells.2
        go_simp
        with_reducible rfl
      rotate_left
      · simp only [Act.put, List.setIfInBounds_toArray, List.set_cons_zero, List.set_cons_succ, i64_w, i32_w]
        rfl
      refine take_ (i := 4) (N := some 31) (v := ?_) (a' := ?_) #[true, true, true, true, true, false, false, false, false, false] rfl rfl (by kernel_rfl) (fun _ _ _ h => h) (Or.inl ⟨by rfl, ?_⟩) hHeld ?_ ?_
      rotate_left
      · rintro w' ⟨s0, s1, s2⟩
        have c_ := s1.cell
        go_simp
        with_reducible rfl
      rotate_left
      · simp only [Act.put, List.setIfInBounds_toArray, List.set_cons_zero, List.set_cons_succ, i64_w, i32_w]
        rfl
      refine one_ (i := 5) (N := some 32) #[true, true, true, true, true, true, false, false, false, false] rfl rfl (by kernel_rfl) (by decide) (fun K hK => ?_)
      refine goes_ Try.func90 (by kernel_rfl) rfl #[.int .i64 x.2.f1, .int .i64 u] (by rfl) rfl rfl (by (try simp only [List.map_toArray, List.map_cons, List.map_nil]); first | done | rfl) ?_
      refine (hd1A.out Wb).mono ?_
      rintro e w24 ⟨rfl, ⟨nq2, rfl⟩⟩
      refine ⟨_, rfl, ?_⟩
      have hB1 : w.heap.size + 1 < (Wb.drewN nq2).heap.size := hB1
      have hvq : Boxed (Wb.drewN nq2) (w.heap.size + 1) 56 v := hvq
      have hrowq : (Wb.drewN nq2).ownsRow W0.heap.size 65 2 v (inM u pre).length (flat (inM u pre)) := hrowq
      have hlkq : LK (w.heap.size + 1) W0 (Wb.drewN nq2) := ⟨hlkq.os, hlkq.tape, hlkq.output, hlkq.size, hlkq.block⟩
      have hkpq : KpO (w.heap.size + 1) W (Wb.drewN nq2) := ⟨hkpq.size, hkpq.keep, hkpq.held⟩
      have hkoq : KeepsOthers W (Wb.drewN nq2) := ⟨hkoq.size, hkoq.same⟩
      refine hK.out _ _ hHeld (fun hHeld => ?_)
      clear hK K
      generalize Wb.drewN nq2 = Wc at hB1 hvq hrowq hlkq hkpq hkoq hHeld ⊢
      refine norm_ (a' := ?_) ?_ ?_
      rotate_left
      · show Act.put _ (some 32) _ = _
        simp only [Act.put, List.setIfInBounds_toArray, List.set_cons_zero, List.set_cons_succ, i64_w, i32_w]
        rfl
      refine pure_ (i := 6) (N := some 33) (v := ?_) (a' := ?_) #[true, true, true, true, true, true, true, false, false, false] rfl rfl (by kernel_rfl) (fun _ _ _ h => h) (Or.inl ⟨by rfl, ?_⟩) ?_ ?_
      rotate_left
      · intro w'
        go_simp
        with_reducible rfl
      rotate_left
      · simp only [Act.put, List.setIfInBounds_toArray, List.set_cons_zero, List.set_cons_succ, i64_w, i32_w]
        rfl
      refine one_ (i := 7) (N := some 34) #[true, true, true, true, true, true, true, true, false, false] rfl rfl (by kernel_rfl) (by decide) (fun K hK => ?_)
      refine value_ (w1 := ?_) (v := ?_) (by rfl) rfl ?_ ?_
      rotate_left 2
      · go_simp
        constructor
        · rfl
        · rfl
      refine hK.out _ _ ⟨(hHeld.1 : Box2 _ _ _).alloc _, hHeld.2.1.alloc _, hHeld.2.2.alloc _⟩ (fun hHeld => ?_)
      clear hK K
      refine norm_ (a' := ?_) ?_ ?_
      rotate_left
      · show Act.put _ (some 34) _ = _
        simp only [Act.put, List.setIfInBounds_toArray, List.set_cons_zero, List.set_cons_succ, i64_w, i32_w]
        rfl
      refine last_ (i := 8) (N := some 35) #[true, true, true, true, true, true, true, true, true, false] rfl rfl (by kernel_rfl) (by decide) (fun K hK => ?_)
      rw [if_pos (by rfl)]
      refine wp_append_lies _ (.tmp 27) (.tmp 34) 56 (by rfl) W0.heap.size 65 i0 (.agg #[(.int .i64 0), (.int .i64 0)]) 2 16 Try.underlying56 hi hz0 hz1 hz2 rfl (by decide) v _ _ rfl (hrowq.alloc _) ⟨Wc.heap.size, 0, none⟩ 1 1 [_, _] rfl rfl (cell_two_new _ _ _ _) (by simp [Value.oneCell']) (by decide) (by have := hlenA.out; simp only [maxLen]; omega) (by have := hlenA.out; omega) (by have := hlkq.size; simp; omega) _ rfl ?_
      intro g' cap' w5 hown' hgrow hat hglt
      obtain ⟨hb5, hout5, hkp5, hko5, hlk5⟩ := appended65 (x := ⟨wrap64 (d0 + u), d1⟩) hvq hrowq (by omega) hown' hgrow (hat.elim (fun h => .inl h.symm) (fun h => .inr (by rw [h]; rfl)))
      refine hK.out _ _ ?_
      clear hK K
      refine norm_ (a' := ?_) ?_ ?_
      rotate_left
      · show Act.put _ (some 35) _ = _
        simp only [Act.put, List.setIfInBounds_toArray, List.set_cons_zero, List.set_cons_succ, i64_w, i32_w]
        rfl
      refine last_ (i := 9) (N := none) #[true, true, true, true, true, true, true, true, true, true] rfl rfl (by kernel_rfl) (by decide) (fun K hK => ?_)
      have hc5 := hb5.cell
      have hf5 := hb5.frozen
      refine skip_ (w1 := ?_) (by rfl) rfl ?_ ?_
      rotate_left
      · go_simp
        rfl
      refine hK.out _ _ ?_
      clear hK K
      refine done_ (by kernel_rfl) ?_
      refine ⟨(hkoq.trans hko5).from _, hkpq.trans hkp5, ?_, hlk5 W0 rfl hlkq⟩
      rw [inM, List.map_append, List.map_cons, List.map_nil]
      have hxe : ExtM.inX u x.2 = ⟨wrap64 (d0 + u), d1⟩ := by
        rw [ExtM.inX, hdA.out.1, hdA.out.2]
        rw [if_pos (by assumption)]
      rw [hxe]
      exact hout5
    · skip
      have hB1 : w.heap.size + 1 < (W.drewN nq).heap.size := hv.lt
      have hvq : Boxed (W.drewN nq) (w.heap.size + 1) 56 v := hv
      have hrowq : (W.drewN nq).ownsRow W0.heap.size 65 2 v (inM u pre).length (flat (inM u pre)) := hrowA.out
      have bXq : Box2 (W.drewN nq) Bx x.2 := bX
      have hbbq : Boxed (W.drewN nq) w.heap.size 2 (.int .i64 u) := hbb
      have hlkq : LK (w.heap.size + 1) W0 (W.drewN nq) := ⟨hlkA.out.os, hlkA.out.tape, hlkA.out.output, hlkA.out.size, hlkA.out.block⟩
      have hkpq : KpO (w.heap.size + 1) W (W.drewN nq) := ⟨Nat.le_refl _, fun _ _ _ _ h _ _ => h, .inl rfl⟩
      have hkoq : KeepsOthers W (W.drewN nq) := ⟨Nat.le_refl _, fun _ _ h _ => h⟩
      obtain ⟨Wa, hWa⟩ : ∃ Wa, W.drewN nq = Wa := ⟨_, rfl⟩
      rw [hWa] at hB1 hvq hrowq bXq hbbq hlkq hkpq hkoq ⊢
      clear hWa hv hrowA bX hbb hlkA hcb hxx0 hxx1 hcO
      refine startIn_ (m := 10) (S := fun w' => Box2 w' Bx x.2 ∧ Boxed w' w.heap.size 2 (.int .i64 u) ∧ Boxed w' (w.heap.size + 1) 56 v) (ds := [8, 9]) #[false, false, false, false, false, false, false, false, false, false] hmix (by kernel_rfl) (fun h_ => by obtain ⟨a_, w_, h_⟩ := h_; exact h_) rfl rfl ⟨bXq, hbbq, hvq⟩ (fun hHeld => ?_)
      have hB1 : w.heap.size + 1 < Wa.drew.heap.size := hB1
      have hvq : Boxed Wa.drew (w.heap.size + 1) 56 v := hvq
      have hrowq : Wa.drew.ownsRow W0.heap.size 65 2 v (inM u pre).length (flat (inM u pre)) := hrowq
      have hlkq : LK (w.heap.size + 1) W0 Wa.drew := ⟨hlkq.os, hlkq.tape, hlkq.output, hlkq.size, hlkq.block⟩
      have hkpq : KpO (w.heap.size + 1) W Wa.drew := ⟨hkpq.size, hkpq.keep, hkpq.held⟩
      have hkoq : KeepsOthers W Wa.drew := ⟨hkoq.size, hkoq.same⟩
      generalize Wa.drew = Wb at hB1 hvq hrowq hlkq hkpq hkoq hHeld ⊢
      refine pure_ (i := 1) (N := some 28) (v := ?_) (a' := ?_) #[false, true, false, false, false, false, false, false, false, false] rfl rfl (by kernel_rfl) (fun _ _ _ h => h) (Or.inl ⟨by rfl, ?_⟩) ?_ ?_
      rotate_left
      · intro w'
        go_simp
        with_reducible rfl
      rotate_left
      · simp only [Act.put, List.setIfInBounds_toArray, List.set_cons_zero, List.set_cons_succ, i64_w, i32_w]
        rfl
      refine pure_ (i := 2) (N := some 29) (v := ?_) (a' := ?_) #[false, true, true, false, false, false, false, false, false, false] rfl rfl (by kernel_rfl) (fun _ _ _ h => h) (Or.inl ⟨by rfl, ?_⟩) ?_ ?_
      rotate_left
      · intro w'
        go_simp
        with_reducible rfl
      rotate_left
      · simp only [Act.put, List.setIfInBounds_toArray, List.set_cons_zero, List.set_cons_succ, i64_w, i32_w]
        rfl
      refine take_ (i := 0) (N := some 27) (v := ?_) (a' := ?_) #[true, true, true, false, false, false, false, false, false, false] rfl rfl (by kernel_rfl) (fun _ _ _ h => h) (Or.inl ⟨by rfl, ?_⟩) hHeld ?_ ?_
      rotate_left
      · rintro w' ⟨s0, s1, s2⟩
        have c_ := s2.cell
        go_simp
        with_reducible rfl
      rotate_left
      · simp only [Act.put, List.setIfInBounds_toArray, List.set_cons_zero, List.set_cons_succ, i64_w, i32_w]
        rfl
      refine take_ (i := 3) (N := some 30) (v := ?_) (a' := ?_) #[true, true, true, true, false, false, false, false, false, false] rfl rfl (by kernel_rfl) (fun _ _ _ h => h) (Or.inl ⟨by rfl, ?_⟩) hHeld ?_ ?_
      rotate_left
      · rintro w' ⟨s0, s1, s2⟩
        have c_ := s0.cells.2
        go_simp
        with_reducible rfl
      rotate_left
      · simp only [Act.put, List.setIfInBounds_toArray, List.set_cons_zero, List.set_cons_succ, i64_w, i32_w]
        rfl
      refine take_ (i := 4) (N := some 31) (v := ?_) (a' := ?_) #[true, true, true, true, true, false, false, false, false, false] rfl rfl (by kernel_rfl) (fun _ _ _ h => h) (Or.inl ⟨by rfl, ?_⟩) hHeld ?_ ?_
      rotate_left
      · rintro w' ⟨s0, s1, s2⟩
        have c_ := s1.cell
        go_simp
        with_reducible rfl
      rotate_left
      · simp only [Act.put, List.setIfInBounds_toArray, List.set_cons_zero, List.set_cons_succ, i64_w, i32_w]
        rfl
      refine one_ (i := 5) (N := some 32) #[true, true, true, true, true, true, false, false, false, false] rfl rfl (by kernel_rfl) (by decide) (fun K hK => ?_)
      refine goes_ Try.func90 (by kernel_rfl) rfl #[.int .i64 x.2.f1, .int .i64 u] (by rfl) rfl rfl (by (try simp only [List.map_toArray, List.map_cons, List.map_nil]); first | done | rfl) ?_
      refine (hd1A.out Wb).mono ?_
      rintro e w24 ⟨rfl, ⟨nq2, rfl⟩⟩
      refine ⟨_, rfl, ?_⟩
      have hB1 : w.heap.size + 1 < (Wb.drewN nq2).heap.size := hB1
      have hvq : Boxed (Wb.drewN nq2) (w.heap.size + 1) 56 v := hvq
      have hrowq : (Wb.drewN nq2).ownsRow W0.heap.size 65 2 v (inM u pre).length (flat (inM u pre)) := hrowq
      have hlkq : LK (w.heap.size + 1) W0 (Wb.drewN nq2) := ⟨hlkq.os, hlkq.tape, hlkq.output, hlkq.size, hlkq.block⟩
      have hkpq : KpO (w.heap.size + 1) W (Wb.drewN nq2) := ⟨hkpq.size, hkpq.keep, hkpq.held⟩
      have hkoq : KeepsOthers W (Wb.drewN nq2) := ⟨hkoq.size, hkoq.same⟩
      refine hK.out _ _ hHeld (fun hHeld => ?_)
      clear hK K
      generalize Wb.drewN nq2 = Wc at hB1 hvq hrowq hlkq hkpq hkoq hHeld ⊢
      refine norm_ (a' := ?_) ?_ ?_
      rotate_left
      · show Act.put _ (some 32) _ = _
        simp only [Act.put, List.setIfInBounds_toArray, List.set_cons_zero, List.set_cons_succ, i64_w, i32_w]
        rfl
      refine pure_ (i := 6) (N := some 33) (v := ?_) (a' := ?_) #[true, true, true, true, true, true, true, false, false, false] rfl rfl (by kernel_rfl) (fun _ _ _ h => h) (Or.inl ⟨by rfl, ?_⟩) ?_ ?_
      rotate_left
      · intro w'
        go_simp
        with_reducible rfl
      rotate_left
      · simp only [Act.put, List.setIfInBounds_toArray, List.set_cons_zero, List.set_cons_succ, i64_w, i32_w]
        rfl
      refine one_ (i := 7) (N := some 34) #[true, true, true, true, true, true, true, true, false, false] rfl rfl (by kernel_rfl) (by decide) (fun K hK => ?_)
      refine value_ (w1 := ?_) (v := ?_) (by rfl) rfl ?_ ?_
      rotate_left 2
      · go_simp
        constructor
        · rfl
        · rfl
      refine hK.out _ _ ⟨(hHeld.1 : Box2 _ _ _).alloc _, hHeld.2.1.alloc _, hHeld.2.2.alloc _⟩ (fun hHeld => ?_)
      clear hK K
      refine norm_ (a' := ?_) ?_ ?_
      rotate_left
      · show Act.put _ (some 34) _ = _
        simp only [Act.put, List.setIfInBounds_toArray, List.set_cons_zero, List.set_cons_succ, i64_w, i32_w]
        rfl
      refine last_ (i := 8) (N := some 35) #[true, true, true, true, true, true, true, true, true, false] rfl rfl (by kernel_rfl) (by decide) (fun K hK => ?_)
      rw [if_pos (by rfl)]
      refine wp_append_lies _ (.tmp 27) (.tmp 34) 56 (by rfl) W0.heap.size 65 i0 (.agg #[(.int .i64 0), (.int .i64 0)]) 2 16 Try.underlying56 hi hz0 hz1 hz2 rfl (by decide) v _ _ rfl (hrowq.alloc _) ⟨Wc.heap.size, 0, none⟩ 1 1 [_, _] rfl rfl (cell_two_new _ _ _ _) (by simp [Value.oneCell']) (by decide) (by have := hlenA.out; simp only [maxLen]; omega) (by have := hlenA.out; omega) (by have := hlkq.size; simp; omega) _ rfl ?_
      intro g' cap' w5 hown' hgrow hat hglt
      obtain ⟨hb5, hout5, hkp5, hko5, hlk5⟩ := appended65 (x := ⟨d0, d1⟩) hvq hrowq (by omega) hown' hgrow (hat.elim (fun h => .inl h.symm) (fun h => .inr (by rw [h]; rfl)))
      refine hK.out _ _ ?_
      clear hK K
      refine norm_ (a' := ?_) ?_ ?_
      rotate_left
      · show Act.put _ (some 35) _ = _
        simp only [Act.put, List.setIfInBounds_toArray, List.set_cons_zero, List.set_cons_succ, i64_w, i32_w]
        rfl
      refine last_ (i := 9) (N := none) #[true, true, true, true, true, true, true, true, true, true] rfl rfl (by kernel_rfl) (by decide) (fun K hK => ?_)
      have hc5 := hb5.cell
      have hf5 := hb5.frozen
      refine skip_ (w1 := ?_) (by rfl) rfl ?_ ?_
      rotate_left
      · go_simp
        rfl
      refine hK.out _ _ ?_
      clear hK K
      refine done_ (by kernel_rfl) ?_
      refine ⟨(hkoq.trans hko5).from _, hkpq.trans hkp5, ?_, hlk5 W0 rfl hlkq⟩
      rw [inM, List.map_append, List.map_cons, List.map_nil]
      have hxe : ExtM.inX u x.2 = ⟨d0, d1⟩ := by
        rw [ExtM.inX, hdA.out.1, hdA.out.2]
        rw [if_neg (by omega)]
      rw [hxe]
      exact hout5
  case done =>
    rintro D ys W hD rfl ⟨hb, hlk⟩ hK
    have hmm : inM u (upto (part L) L.length) = L.map (ExtM.inX u) := by
      rw [inM]
      rw [show (fun x : Nat × S65 => ExtM.inX u x.2) = ExtM.inX u ∘ Prod.snd from rfl, ← List.map_map, part_map L _ (Nat.le_refl _), List.take_length]
    rw [hmm] at hb
    obtain ⟨X, hX⟩ : ∃ X, L.map (ExtM.inX u) = X := ⟨_, rfl⟩
    rw [hX] at hb hn2
    clear hX hmm
    obtain ⟨v, h1, h2⟩ := hb
    have hRv := own_R h2
    obtain ⟨Av, cv, rfl⟩ := Kd.R_slice hRv
    have hc := h1.cell
    have hRvA := Aside0.mk (Kd.R_reads' hRv)
    clear hRv h2
    have hDl := (Array.getElem?_eq_some_iff.1 hK).1
    gi_wp2_with (refine ⟨trivial, ?_⟩; gi_at_call 37; refine (callsIn_wide.2 (extent_Norm.calls k2 Av cv X r _ hRvA.out.2.2 hRvA.out.2.1 hn2)).mono ?_; rintro e w5 ⟨vr, rfl, hRr, hbr⟩)
    have hK5 := (hbr.block D hDl).trans hK
    refine ⟨by simp, .inl ⟨_, _, rfl, run_takeDeferred hK5, ?_⟩⟩
    refine ⟨.tuple #[vr, .int .i64 0], by simp [results, Try.f72, go_sem], vr, rfl, ?_, ((hbW.trans (hlk.down (n := w.heap.size) (by omega) (by omega))).trans (hbr.mono (by have := hlk.size; omega))).trans (below_putD (by omega) hK5)⟩
    refine R_own65 (Kd.R_lower hRr (by have := hlk.size; omega)) (fun g cc tt z hg hcell => ?_)
    exact ((grownBy_putObj' w5 D _).block g (Array.getElem?_eq_some_iff.1 hcell).1 (fun e => by injection e with e; subst e; rw [hK5] at hcell; cases hcell)).trans hcell
  case stop =>
    rintro D c pre W _ _ h _
    exact h.elim
end Go.Proofs.Ytpmhlomilobgaaa.ExtA
