/- extent.Set.All's function is an iterator: it goes through the one form's parts, numbered; what a loop body must keep is named. -/
import Derived.RangeFuncNested
import Derived.RangeFuncBound
import Derived.RangeFuncCalls
import Derived.RangeFuncLeaves
import Derived.Shelf.Abstract
import Derived.Shelf.RegionOpen
import Derived.WalkKit
import Derived.OwnWalkIn
import Derived.TacticsInMore
import Derived.LoopNIn
import Derived.LoopIn
import Derived.Maps.AppendAt
import Derived.Test.YtpmhlomilobgaaaExtN
set_option linter.unusedVariables false
set_option linter.unusedSimpArgs false
namespace Go.Proofs.Ytpmhlomilobgaaa.ExtA
open Go.RowKit Go.Shelf Go.Proofs.Ytpmhlomilobgaaa.PExt Go.Proofs.YtpmhlomilobgaaaW.PrintWords Go.Proofs.YtpmhlomilobgaaaW.PrintLast Go.Proofs.YtpmhlomilobgaaaW.PrintMore
attribute [local go_sem] Oper.semAt_some

/-! ### what has come -/
def upto {α : Type} (f : Nat → α) (k : Nat) : List α := (List.range k).map f
theorem upto_succ {α : Type} (f : Nat → α) (k : Nat) : upto f (k + 1) = upto f k ++ [f k] := by simp [upto, List.range_succ]
theorem upto_length {α : Type} (f : Nat → α) (k : Nat) : (upto f k).length = k := by simp [upto]
def part (L : List S65) (j : Nat) : Nat × S65 := (j, rd_T65 L (j : Int))
theorem part_map (L : List S65) (k : Nat) (h : k ≤ L.length) : (upto (part L) k).map Prod.snd = L.take k := by
  apply List.ext_getElem
  · simp [upto, h]
  · intro i h1 h2
    have : i < L.length := by simp at h2; omega
    simp [upto, part, rd_T65, this]

/-! ### what a loop body keeps: B is the box of what it collects -/
def hold (B : Nat) (W : World) : Option Nat := (W.cell? ⟨B, 0, none⟩).bind Value.ownBlock
structure KpO (B : Nat) (W W' : World) : Prop where
  size : W.heap.size ≤ W'.heap.size
  keep : ∀ k c t z, W.heap[k]? = some (.cells c t z) → k ≠ B → hold B W ≠ some k → W'.heap[k]? = some (.cells c t z)
  held : hold B W' = hold B W ∨ ∃ k, hold B W' = some k ∧ W.heap.size ≤ k
theorem KpO.refl (B : Nat) (W : World) : KpO B W W := ⟨Nat.le_refl _, fun _ _ _ _ h _ _ => h, .inl rfl⟩
theorem KpO.trans {B : Nat} {X Y Z : World} (h : KpO B X Y) (k : KpO B Y Z) : KpO B X Z :=
  ⟨Nat.le_trans h.size k.size, fun i c t z hi hB hh => k.keep i c t z (h.keep i c t z hi hB hh) hB (fun e => by
    rcases h.held with q | ⟨j, q, hj⟩
    · exact hh (q ▸ e)
    · rw [q] at e
      injection e with e
      have := (Array.getElem?_eq_some_iff.1 hi).1
      omega), by
    rcases k.held with q | ⟨j, q, hj⟩
    · rw [q]
      exact h.held
    · exact .inr ⟨j, q, by have := h.size; omega⟩⟩
theorem hold_of {B : Nat} {W W' : World} (h : W'.heap[B]? = W.heap[B]?) : hold B W' = hold B W := by simp [hold, World.cell?, h]
theorem KpO.below {B : Nat} {W W' : World} (hB : B < W.heap.size) (h : Below W.heap.size W W') : KpO B W W' :=
  ⟨h.size, fun k c t z hk _ _ => (h.block k (Array.getElem?_eq_some_iff.1 hk).1).trans hk, .inl (hold_of (h.block B hB))⟩
theorem kpO_b {B : Nat} {w : World} (hB : B < w.heap.size) (W : World) (l : Nat) (o o' : Obj) (hl : w.heap.size ≤ l) (h : W.heap[l]? = some o) (hc : o.isCells = false) (_ : o.isWalk = false) : KpO B W (W.putObj l o') :=
  ⟨(grownBy_putObj' W l o').size, fun k c t z hk _ _ => ((grownBy_putObj' W l o').block k (Array.getElem?_eq_some_iff.1 hk).1 (fun e => by
    injection e with e
    subst e
    rw [hk] at h
    injection h with h
    subst h
    exact absurd hc (by simp [Obj.isCells]))).trans hk, .inl (by
    by_cases hlt : B < W.heap.size
    · exact hold_of ((grownBy_putObj' W l o').block B hlt (fun e => by injection e with e; omega))
    · have := (Array.getElem?_eq_some_iff.1 h).1
      omega)⟩
/-- A row of the call's own lives on where its block does. -/
theorem R_own65 {w w1 : World} {base : Nat} {ok : Nat → Prop} {v : Value} {l : List S65} (h : Kd.R k65 65 w base ok v l) (hm : ∀ g c t z, v.ownBlock = some g → w.heap[g]? = some (.cells c t z) → w1.heap[g]? = some (.cells c t z)) : Kd.R k65 65 w1 base ok v l := by
  obtain ⟨h0, inner, ho, hr⟩ := h
  refine ⟨h0, inner, own_move ho (fun k hk => ?_), hr.imp_ (fun p c hp => ?_)⟩
  · obtain ⟨cells, hc⟩ := own_typed ho k hk
    rw [hc]
    exact hm k _ _ _ hk hc
  · rw [k65_openM hp]
    exact k65_mkM _ _ _ _

set_option maxHeartbeats 1000000 in
/-- s.All(): the set is boxed; the function value captures the box. -/
theorem all_in (n : Nat) (A : Option Addr) (m c : Nat) (w : World) :
    CallsIn Fence.wide n Try.prog 34 #[.slice A m c] w fun e w' => e = .returned (.func (.func 75) #[] #[.pointer (some ⟨w.heap.size, 0, none⟩)]) ∧ w' = w.alloc (.cells #[.slice A m c] 62) := by
  refine callsIn_of_wp Try.func34 rfl trivial ?_ rfl
  simp only [Try.ntmps34, List.size_toArray, List.length_cons, List.length_nil, Nat.reduceAdd, Nat.reduceSub, Array.replicate_succ, Array.replicate_zero, List.push_toArray, List.append_toArray, List.nil_append, List.cons_append]
  gi_wp2
  go_ret
  exact ⟨rfl, rfl⟩

def encX (x : Nat × S65) : Array Value := #[.int .i64 (x.1 : Int), .agg #[.int .i64 x.2.f0, .int .i64 x.2.f1]]

set_option maxRecDepth 100000 in
set_option maxHeartbeats 4000000 in
theorem all1_in (n : Nat) (hn1 : 1 ≤ n) (B Bs c k : Nat) (A : Option Addr) (l L : List S65) (w : World) (hBl : B < w.heap.size) (hBsl : Bs < w.heap.size) (hBs : w.cell? ⟨Bs, 0, none⟩ = some (.slice A l.length c)) (hr0 : Kd.C k65 w A l.length l) (hc0 : l.length ≤ c)
    (hh : hold B w = none) (hn : extent_Norm.f k l = some L) (hL : L.length < 4611686018427387904) :
    SeqStopsK Fence.wide n Try.prog 75 #[.pointer (some ⟨Bs, 0, none⟩)] encX (KpO B) (fun ys => ys = upto (part L) L.length) (fun pre => ∃ j, j ≤ L.length ∧ pre = upto (part L) j) L.length w := by
  intro lp J Jx W hW hJ hJx hY h0
  have hBs' := (hW.cell (p := ⟨Bs, 0, none⟩) hBsl).trans hBs
  have hr1 := Aside0.mk (Kd.C_below hr0 hW)
  have hhW : hold B W = none := (hold_of (hW.block B hBl)).trans hh
  have hBW : B < W.heap.size := by have := hW.size; omega
  clear hBs hr0 hh
  refine callsIn_of_wp Try.func75 rfl trivial ?_ rfl
  simp only [Try.ntmps75, List.size_toArray, List.length_cons, List.length_nil, Nat.reduceAdd, Nat.reduceSub, Array.replicate_succ, Array.replicate_zero, List.push_toArray, List.append_toArray, List.nil_append, List.cons_append]
  gi_wp2_with (refine ⟨trivial, ?_⟩; gi_at_call 37; refine (callsIn_wide.2 (extent_Norm.calls k A c l L _ hr1.out hc0 hn)).mono ?_; rintro e w3 ⟨v, rfl, hR, hb⟩; obtain ⟨Av, cv, rfl⟩ := Kd.R_slice hR)
  have hg0 : W.grownBy w3 none := grown_of_below hb none
  have hhv : ∀ g, (Value.slice Av L.length cv).ownBlock = some g → hold B w3 ≠ some g := fun g _ e => by
    rw [hold_of (hb.block B hBW), hhW] at e
    cases e
  have hHV := Aside0.mk hhv
  have hRa := Aside0.mk hR
  have hJ0 := hJ _ _ _ none h0 hg0 (fun r e => by cases e)
  have hsz0 := hb.size
  clear hhv hR h0 hBs' hr1
  gi_loopw [8] (fun i wr => ∃ j : Nat, j ≤ L.length ∧ i = .int .i64 j ∧ J (upto (part L) j) wr ∧ Aside0 (Kd.R k65 65 wr W.heap.size (fun _ => True) (.slice Av L.length cv) L) ∧ Aside0 (∀ g, (Value.slice Av L.length cv).ownBlock = some g → hold B wr ≠ some g) ∧ W.heap.size ≤ wr.heap.size)
    (fun i _ => L.length - (intOf i).toNat)
  case atStart => exact ⟨0, Nat.zero_le _, rfl, hJ0, hRa, hHV, hsz0⟩
  case round =>
    obtain ⟨j, hj, rfl, hJs, hRr, hHr, hsz⟩ := hrel
    by_cases hlt : j < L.length
    · obtain ⟨ad, e1, hx0, hx1⟩ := at_T65 (Kd.R_reads' hRr.out).2.2 (j : Int) (by omega) (by omega)
      subst e1
      simp only [Int.toNat_natCast] at hx0 hx1
      have hgA := World.grownBy_alloc wr (.cells #[.int .i64 (rd_T65 L (j : Int)).f0, .int .i64 (rd_T65 L (j : Int)).f1] 65) none
      obtain ⟨W2, hW2⟩ : ∃ W2, W2 = wr.alloc (.cells #[.int .i64 (rd_T65 L (j : Int)).f0, .int .i64 (rd_T65 L (j : Int)).f1] 65) := ⟨_, rfl⟩
      rw [← hW2] at hgA
      have hJ2 := hJ _ _ _ none hJs hgA (fun r e => by cases e)
      obtain ⟨fn, tmps, assign, body, hy, hY1⟩ := hY _ (j, rd_T65 L (j : Int)) W2 hJ2 (by rw [upto_length]; exact hlt)
      dsimp only [encX] at hy
      have hHr2 : Aside0 (∀ g, (Value.slice (some ad) L.length cv).ownBlock = some g → hold B W2 ≠ some g) := ⟨fun g hg => by
        rw [hold_of (hgA.block B (by omega) (by simp))]
        exact hHr.out g hg⟩
      have hRr2 := Aside0.mk (R_own65 (w1 := W2) hRr.out (fun g c t z hg hcell => (hgA.block g (Array.getElem?_eq_some_iff.1 hcell).1 (by simp)).trans hcell))
      have hsz2 := hgA.size
      rw [hW2] at hy
      clear hJ2 hJs hgA hHr hRr hRa hHV
      gi_wp2
      rw [← hW2]
      refine hY1.mono ?_
      rintro e W3 (⟨rfl, hJ3, hk3⟩ | ⟨rfl, hJx3⟩)
      · -- the round goes on
        have hk3a := Aside0.mk hk3
        clear hk3 hW2
        gi_wp2
        go_roundw
        case rel =>
          refine ⟨j + 1, by omega, by simp, by rw [upto_succ]; exact hJ3, ⟨R_own65 hRr2.out fun g c t z hg hcell => hk3a.out.keep g c t z hcell (fun e => ?_) (hHr2.out g hg)⟩, ⟨fun g hg e => ?_⟩, by have := hk3a.out.size; omega⟩
          · obtain ⟨_, inner, ho, _⟩ := hRr2.out
            have := own_base ho g hg
            omega
          · rcases hk3a.out.held with q | ⟨i, q, hi⟩
            · exact hHr2.out g hg (q ▸ e)
            · rw [q] at e
              injection e with e
              obtain ⟨_, inner, ho, _⟩ := hRr2.out
              have := own_lt ho g hg
              omega
        case measure => simp [intOf]; omega
      · clear hW2
        gi_wp2
        refine bodyPost_ret (results_none rfl _ _ _) rfl ?_
        exact ⟨⟨_, rfl⟩, .inr ⟨_, ⟨j + 1, by omega, (upto_succ _ _).symm⟩, hJx3⟩⟩
    · obtain rfl : j = L.length := by omega
      gi_wp2
      go_end0
      exact ⟨⟨_, rfl⟩, .inl ⟨_, rfl, hJs⟩⟩
end Go.Proofs.Ytpmhlomilobgaaa.ExtA
