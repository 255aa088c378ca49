/- extent.Set.Bytes: what it comes to. And what the loops over All have in common. -/
import Derived.Test.YtpmhlomilobgaaaExtA
set_option linter.unusedVariables false
set_option linter.unusedSimpArgs false
namespace Go.Proofs.Ytpmhlomilobgaaa.ExtA
open Go.RowKit Go.Shelf Go.Proofs.Ytpmhlomilobgaaa.PExt Go.Proofs.YtpmhlomilobgaaaW.PrintWords Go.Proofs.YtpmhlomilobgaaaW.PrintLast Go.Proofs.YtpmhlomilobgaaaW.PrintMore
attribute [local go_sem] Oper.semAt_some

/-- What lay ahead of the loop, but for the box B. -/
structure LK (B : Nat) (W0 W : World) : Prop where
  os : W.os = W0.os
  tape : W.tape = W0.tape
  output : W.output = W0.output
  size : W0.heap.size ≤ W.heap.size
  block : ∀ k, k < W0.heap.size → k ≠ B → W.heap[k]? = W0.heap[k]?
theorem LK.refl (B : Nat) (W : World) : LK B W W := ⟨rfl, rfl, rfl, Nat.le_refl _, fun _ _ _ => rfl⟩
theorem LK.below {B : Nat} {W0 W W' : World} (h : LK B W0 W) (k : Below W.heap.size W W') : LK B W0 W' :=
  ⟨k.os.trans h.os, k.tape.trans h.tape, k.output.trans h.output, Nat.le_trans h.size k.size, fun i hi hB => (k.block i (by have := h.size; omega)).trans (h.block i hi hB)⟩
theorem LK.grown {B : Nat} {W0 W W' : World} {row : Option Nat} (h : LK B W0 W) (k : W.grownBy W' row) (hr : ∀ r, row = some r → W0.heap.size ≤ r) : LK B W0 W' :=
  ⟨k.os.trans h.os, k.tape.trans h.tape, k.output.trans h.output, Nat.le_trans h.size k.size, fun i hi hB => (k.block i (by have := h.size; omega) (fun e => by have := hr i e.symm; omega)).trans (h.block i hi hB)⟩
theorem LK.set {B : Nat} {W0 W : World} (h : LK B W0 W) (v : Value) : LK B W0 (W.setCell ⟨B, 0, none⟩ v) :=
  ⟨h.os, h.tape, h.output, Nat.le_trans h.size (KeepsWalks.setCell W _ v).size, fun i hi hB => (Below.heap_setCell W ⟨B, 0, none⟩ v i hB).trans (h.block i hi hB)⟩
theorem LK.down {B n : Nat} {W0 W : World} (h : LK B W0 W) (hB : n ≤ B) (hn : n ≤ W0.heap.size) : Below n W0 W := ⟨h.os, h.tape, h.output, h.size, fun k hk => h.block k (by omega) (by omega)⟩
theorem ownFrom_LK {β : Type} {B : Nat} {W0 : World} : OwnFrom W0.heap.size (fun (_ : β) W => LK B W0 W) :=
  fun _ X Y row hs hg hr => hs.grown hg (fun r e => (hr r e).1)
/-- The box of a part. -/
def Box2 (W : World) (B : Nat) (x : S65) : Prop := W.heap[B]? = some (.cells #[.int .i64 x.f0, .int .i64 x.f1] 65 (0, 0))
theorem Box2.cells {W : World} {B : Nat} {x : S65} (h : Box2 W B x) : W.cell? ⟨B, 0, none⟩ = some (.int .i64 x.f0) ∧ W.cell? ⟨B, 1, none⟩ = some (.int .i64 x.f1) := by
  constructor <;> simp [World.cell?, show W.heap[B]? = _ from h]
theorem Box2.lt {W : World} {B : Nat} {x : S65} (h : Box2 W B x) : B < W.heap.size := (Array.getElem?_eq_some_iff.1 h).1
theorem Box2.new (W : World) (x : S65) : Box2 (W.alloc (.cells #[.int .i64 x.f0, .int .i64 x.f1] 65)) W.heap.size x := World.alloc_heap_new W _
theorem Box2.alloc {W : World} {B : Nat} {x : S65} (h : Box2 W B x) (o : Obj) : Box2 (W.alloc o) B x := (Below.heap_alloc W o B h.lt).trans h
theorem box2_own (B : Nat) (x : S65) : Own (fun (_ : Unit) W => Box2 W B x) := fun s X Y row hs hg hrow => by
  refine (hg.block B hs.lt (fun e => ?_)).trans hs
  obtain ⟨o, ho, hc⟩ := hrow B e.symm
  rw [show X.heap[B]? = _ from hs] at ho
  cases ho
  cases hc
theorem below_putD {n : Nat} {W : World} {D : Nat} {o o' : Obj} (hn : n ≤ D) (h : W.heap[D]? = some o) : Below n W (W.putObj D o') :=
  ⟨rfl, rfl, rfl, (grownBy_putObj' W D o').size, fun k hk => (grownBy_putObj' W D o').block k (by have := (Array.getElem?_eq_some_iff.1 h).1; omega) (fun e => by injection e with e; omega)⟩

theorem foldl_snoc (L : List S65) (f : Int → S65 → Int) (a : Int) (pre : List (Nat × S65)) (x : Nat × S65) : ((pre ++ [x]).map Prod.snd).foldl f a = f ((pre.map Prod.snd).foldl f a) x.2 := by simp

set_option maxRecDepth 100000 in
set_option maxHeartbeats 4000000 in
theorem bytes_in (A : Option Addr) (c k : Nat) (l L : List S65) (w : World) (hr0 : Kd.C k65 w A l.length l) (hc0 : l.length ≤ c) (hn : extent_Norm.f k l = some L) (hL : L.length < 4611686018427387904) :
    CallsIn Fence.wide 9 Try.prog 38 #[.slice A l.length c] w fun e W' => e = .returned (.int .i64 (ExtM.bytesL L)) ∧ Below w.heap.size w W' := by
  have hr0 := Aside0.mk hr0
  refine callsIn_of_wp_marks Try.func38 rfl trivial ?_ rfl
  simp only [Try.ntmps38, List.size_toArray, List.length_cons, List.length_nil, Nat.reduceAdd, Nat.reduceSub, Array.replicate_succ, Array.replicate_zero, List.push_toArray, List.append_toArray, List.nil_append, List.cons_append]
  gi_wp2_with (refine ⟨trivial, ?_⟩; gi_at_call 34; refine (all_in _ A l.length c _).mono ?_; rintro e w' ⟨rfl, rfl⟩)
  have bS := (Boxed.new w 2 (.int .i64 0)).alloc (.cells #[.slice A l.length c] 62)
  have bN := Boxed.new (w.alloc (.cells #[.int .i64 0] 2)) 62 (.slice A l.length c)
  rw [World.size_alloc] at bN
  have hB0 : Below w.heap.size w ((w.alloc (.cells #[.int .i64 0] 2)).alloc (.cells #[.slice A l.length c] 62)) := ((Below.refl _ w).alloc (Nat.le_refl _) _).alloc (by simp) _
  have hsz : ((w.alloc (.cells #[.int .i64 0] 2)).alloc (.cells #[.slice A l.length c] 62)).heap.size = w.heap.size + 2 := by simp
  obtain ⟨W0, hW0⟩ : ∃ W0, (w.alloc (.cells #[.int .i64 0] 2)).alloc (.cells #[.slice A l.length c] 62) = W0 := ⟨_, rfl⟩
  rw [hW0] at bS bN hB0 hsz ⊢
  clear hW0
  have hr1 := Kd.C_below hr0.out hB0
  clear hr0
  have hh0 : hold w.heap.size W0 = none := by rw [hold, bS.cell]; rfl
  refine wpIn_rangeFunc_ownH (α := Nat × S65) (w := W0) rfl (by omega) (gf := 75) (lb := #[.pointer (some ⟨w.heap.size + 1, 0, none⟩)]) rfl trivial (enters_of Try.func75 (by kernel_rfl) rfl)
    (all1_in 8 (by omega) w.heap.size (w.heap.size + 1) c k A l L W0 (by omega) (by omega) bN.cell hr1 hc0 hh0 hn hL) (fun h k => h.trans k) (kpO_b (by omega)) (Below.refl _ _) (fun _ => rfl)
    (fun pre W => Boxed W w.heap.size 2 (.int .i64 ((pre.map Prod.snd).foldl ExtM.bytesStep 0)) ∧ LK w.heap.size W0 W)
    (fun _ _ _ => False)
    (OwnFrom.and (Own.from (boxed_own _ _ _) _) ownFrom_LK)
    (fun _ _ _ _ _ hs _ _ => hs)
    ⟨bS, LK.refl _ _⟩
    (fun x a' W => ∃ Bx, w.heap.size < Bx ∧ Box2 W Bx x.2 ∧ a' = { tmps := #[.slice A l.length c, undef, .int .i64 0, .pointer (some ⟨w.heap.size, 0, none⟩), undef, .pointer (some ⟨Bx, 0, none⟩), .slice A l.length c, .func (.func 75) #[] #[.pointer (some ⟨w.heap.size + 1, 0, none⟩)], .int .i64 (x.1 : Int), .agg #[.int .i64 x.2.f0, .int .i64 x.2.f1], undef, undef, undef, undef, undef, undef, undef, undef], defers := [] })
    (fun x a' _ X Y row hs hg hr => by obtain ⟨Bx, h1, h2, h3⟩ := hs; exact ⟨Bx, h1, box2_own Bx x.2 () X Y row h2 hg (fun r e => (hr r e).2), h3⟩)
    ?assign ?body ?done ?stop
  case assign =>
    rintro lp pre x W K ⟨hb, hlk⟩ hK
    have hsW := hlk.size
    dsimp only [encX]
    gi_wp2
    exact hK _ _ ((KeepsOthers.alloc _ _).from _) (KpO.below (by omega) ((Below.refl _ W).alloc (Nat.le_refl _) _)) ⟨hb.alloc _, hlk.below ((Below.refl _ W).alloc (Nat.le_refl _) _)⟩ ⟨W.heap.size, by omega, Box2.new W x.2, rfl⟩
  case body =>
    rintro lp pre x a' W hl _ ⟨hb, hlk⟩ ⟨Bx, hBx, bX, rfl⟩ hlt
    have hc := hb.cell
    have hf := hb.frozen
    obtain ⟨hx0, hx1⟩ := bX.cells
    gi_wp2
    refine ⟨(KeepsOthers.setCell _ _ _).from _, ⟨(KeepsWalks.setCell W _ _).size, fun k c t z hk hne _ => (Below.heap_setCell W ⟨w.heap.size, 0, none⟩ _ k hne).trans hk, .inl ?_⟩, ?_, hlk.set _⟩
    · rw [hold, hold, (hb.set _).cell, hc]; rfl
    · rw [foldl_snoc L]
      exact hb.set _
  case done =>
    rintro D ys W hD rfl ⟨hb, hlk⟩ hK
    have hc := hb.cell
    gi_wp2
    refine ⟨by simp, .inl ⟨_, _, rfl, run_takeDeferred hK, ?_⟩⟩
    refine ⟨_, results_tmp rfl _ _ _, ?_, (hB0.trans (hlk.down (Nat.le_refl _) (by omega))).trans (below_putD (by omega) hK)⟩
    rw [part_map L _ (Nat.le_refl _), List.take_length]
    rfl
  case stop =>
    rintro D c pre W _ _ h _
    exact h.elim
end Go.Proofs.Ytpmhlomilobgaaa.ExtA
