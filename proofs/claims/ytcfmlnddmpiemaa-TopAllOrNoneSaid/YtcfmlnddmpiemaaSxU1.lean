import Derived.Test.YtcfmlnddmpiemaaSxEc
import Derived.Sort.Row
import Derived.Sort.Grow
import Derived.Test.YtcfmlnddmpiemaaSxT
import Derived.Shelf.SortG.Plain
import Derived.Shelf.SortG.SortNone
import Derived.Ground.SlgnProg
import Derived.Test.YtcfmlnddmpiemaaSxDisk
import Derived.Laws.BitsLemmas
set_option linter.unusedVariables false
set_option linter.unusedSimpArgs false
set_option maxRecDepth 10000
namespace Go.Proofs.Ytcfmlnddmpiemaa.Sx
open Go.RowKit
/-! ### slices.Sort of an owned row of numbers, as a contract -/
def sortC (T : TypeId) : Con := Con.of (List Int × Nat) (List Int) (fun x => [.s 0 0 1 x.1.length x.2]) (fun x => [.blk T (.ints .i64 x.1) x.2]) (fun x => x.1.length < 4611686018427387904) (fun x r => r = x.1.mergeSort (fun a b => decide (a ≤ b))) (fun _ _ => .tup []) (fun x r => [.blk T (.ints .i64 r) x.2])
theorem sort_conOk {P : Program} {f : FuncId} (T : TypeId) (hr : Real P f)
    (hS : ∀ (blk cap : Nat) (zs : List Int) (w : World), Go.Sort.Holds (Value.int .i64) w blk 0 zs.toArray → blk < w.heap.size → zs.length < 4611686018427387904 → Calls P f #[.slice (some ⟨blk, 0, none⟩) zs.length cap] w fun e w' => e = .returned (.tuple #[]) ∧ ∃ n os, w' = Go.Sort.grow (Go.Sort.putRow (Value.int .i64) (Go.Sort.ahead w n) blk 0 (zs.mergeSort fun x y => decide (x ≤ y)).toArray) os)
    (hN : ∀ (p : Option Addr) (cap : Nat) (w : World), Calls P f #[.slice p 0 cap] w fun e w' => e = .returned (.tuple #[]) ∧ w' = w) : ConOk P f (sortC T) := by
  refine ⟨hr, ?_, ?_, ?_⟩
  · intro x k hok hk r hrel
    refine ⟨hk r hrel, trivial, fun c hc => ?_, Nat.le_refl _⟩
    simp at hc; subst hc; exact .blk trivial
  · intro x hok c hc
    simp [sortC, Con.of] at hc; subst hc; trivial
  · rintro ⟨l, c⟩ k w0 M J0 J ρ φ w vs hok hk hs ha
    have hk : k (.tup []) [.blk T (.ints .i64 (l.mergeSort (fun a b => decide (a ≤ b)))) c] := hk _ rfl
    have hok : l.length < 4611686018427387904 := hok
    obtain ⟨v, rfl, hv⟩ : ∃ v, vs = [v] ∧ Rep ρ J w (.s 0 0 1 l.length c) v := by
      cases ha with
      | cons h hs => cases hs; exact ⟨_, rfl, h⟩
    have h0 := hs.hold 0 _ rfl
    by_cases hl : l = []
    · subst hl
      cases hv with
      | s h h0' h1 h2 =>
        have hk : k (.tup []) [.blk T (.ints .i64 []) c] := by simpa using hk
        refine (hN _ _ w).mono ?_
        rintro e w' ⟨rfl, rfl⟩
        exact ⟨_, _, _, ρ, φ, J, rfl, hk, hs, .tup .nil⟩
    · have hll : l.length ≠ 0 := fun e => hl (List.eq_nil_of_length_eq_zero e)
      generalize hb0 : ρ 0 = b0 at h0
      cases hv with
      | @s i e sz n c' b a h ha0 h1 h2 =>
        have hbb : b0 = some b := hb0.symm.trans h
        subst hbb
        have hc0 : c ≠ 0 := by omega
        obtain rfl := ha0 hc0
        cases h0 with
        | @blk _ _ _ _ _ _ cs gs hc hb hz h1' hp =>
          cases hc
          have hz : (l.map (Value.int .i64) ++ gs).length = c := hz
          have hlt : b < w.heap.size := (Array.getElem?_eq_some_iff.1 hb).1
          refine (hS b c l w ?_ hlt hok).mono ?_
          · intro j hj
            have hj : j < l.length := by simpa using hj
            have hjv : (l.toArray)[j]! = l[j] := by simp [hj]
            have hcell : (l.map (Value.int IntKind.i64) ++ gs).toArray[0 + j]? = some (Value.int .i64 (l[j])) := by
              rw [Nat.zero_add, List.getElem?_toArray, List.getElem?_append_left (by simpa using hj), List.getElem?_map, List.getElem?_eq_getElem hj]; rfl
            constructor
            · rw [hjv]
              simp only [World.cell?, hb]
              exact hcell
            · simp only [World.frozen?, hb]
              simp
          · rintro e w' ⟨rfl, n, os, rfl⟩
            obtain ⟨r, hr⟩ : ∃ r, r = l.mergeSort (fun a b => decide (a ≤ b)) := ⟨_, rfl⟩
            rw [← hr] at hk ⊢
            have hrl : r.length = l.length := by rw [hr]; exact List.length_mergeSort ..
            obtain ⟨w1, hw1⟩ : ∃ w1, w1 = Go.Sort.putRow (Value.int .i64) (Go.Sort.ahead w n) b 0 r.toArray := ⟨_, rfl⟩
            rw [← hw1]
            have hsz : w1.heap.size = w.heap.size := by rw [hw1, Go.Sort.size_putRow]; rfl
            have hoth : ∀ q, q ≠ b → w1.heap[q]? = w.heap[q]? := by
              intro q hq
              rw [hw1]
              simp only [Go.Sort.putRow, Go.Sort.mapBlock, Go.Sort.ahead, Array.getElem?_modify]
              rw [if_neg (fun e => hq e.symm)]
            have hblk : w1.heap[b]? = some (.cells (r.map (Value.int .i64) ++ gs).toArray T (0, 0)) := by
              rw [hw1]
              simp only [Go.Sort.putRow, Go.Sort.mapBlock, Go.Sort.ahead, Array.getElem?_modify, if_true, hb, Option.map_some, Go.Sort.onCells]
              congr 2
              apply Array.ext_getElem?
              intro q
              simp only [Go.Sort.putCells, Array.getElem?_mapIdx, List.getElem?_toArray, List.size_toArray, Nat.sub_zero]
              by_cases hq : q < l.length
              · have hq2 : q < r.length := by omega
                rw [List.getElem?_append_left (by simpa using hq), List.getElem?_append_left (by simpa using hq2), List.getElem?_map, List.getElem?_map, List.getElem?_eq_getElem hq, List.getElem?_eq_getElem hq2]
                simp [hq2]
              · rw [List.getElem?_append_right (by simpa using Nat.le_of_not_lt hq), List.getElem?_append_right (by rw [List.length_map]; omega), List.length_map, List.length_map, hrl]
                cases gs[q - l.length]? with
                | none => rfl
                | some u => simp only [Option.map_some]; rw [if_neg (by omega)]
            have P1 := hs.put (w' := w1) (i := 0) (c := .blk T (.ints .i64 r) c) (p' := φ 0) (fun q h => .inl h) (fun q h => by rw [hsz]; exact hs.lt _ _ h) (fun q h1 h2 => hoth q (fun e => h2 ((hp q).2 e))) (by rw [hsz]; exact Nat.le_refl _) (by rw [hw1]; rfl) (by rw [hw1]; rfl) (by rw [hw1]; rfl) Nat.one_pos ?_
            rotate_left
            · rw [hb0]
              exact .blk .ints hblk (by rw [← hz]; simp [hrl]) (by simp [Value.oneCell']) hp
            have P2 := P1.1.below (w' := Go.Sort.grow w1 os) ⟨rfl, rfl, rfl, by simp [Go.Sort.grow], fun q h => by simp only [Go.Sort.grow]; rw [Array.getElem?_append_left h]⟩
            exact ⟨_, _, _, ρ, _, J, rfl, hk, P2.1, .tup .nil⟩
        | none hc hp => exact absurd rfl hc0
end Go.Proofs.Ytcfmlnddmpiemaa.Sx


set_option maxRecDepth 10000
namespace Go.Proofs.Ytcfmlnddmpiemaa.Sx
open Go.Shelf
def sortI64_ren : Go.Shelf.Ren := ⟨fun | 53 => 93 | 64 => 100 | 63 => 107 | 78 => 116 | 79 => 117 | 70 => 118 | 71 => 119 | 72 => 120 | 73 => 121 | 74 => 122 | 75 => 123 | 59 => 124 | 76 => 125 | 77 => 126 | 88 => 132 | 89 => 128 | 90 => 129 | 91 => 133 | 92 => 134 | 68 => 101 | 96 => 136 | n => n, fun | 22 => 22 | 23 => 2 | 3 => 3 | 51 => 169 | 0 => 0 | 67 => 99 | 69 => 96 | 4 => 4 | 61 => 187 | 60 => 186 | 44 => 191 | 5 => 5 | 9 => 9 | 75 => 200 | 79 => 204 | 83 => 208 | 84 => 209 | n => n, fun | n => n⟩
theorem sortI64 : Go.Proofs.SlLaysN.n53 Try.prog sortI64_ren := {
  mixed := by kernel_rfl
  f53 := ⟨Try.f93.name, by decide, Try.func93.trans (congrArg some (by kernel_rfl))⟩
  f59 := ⟨Try.f124.name, by decide, Try.func124.trans (congrArg some (by kernel_rfl))⟩
  f63 := ⟨Try.f107.name, by decide, Try.func107.trans (congrArg some (by kernel_rfl))⟩
  f64 := Try.func100.trans (congrArg some (by kernel_rfl))
  f68 := ⟨Try.f101.name, by decide, Try.func101.trans (congrArg some (by kernel_rfl))⟩
  f70 := ⟨Try.f118.name, by decide, Try.func118.trans (congrArg some (by kernel_rfl))⟩
  f71 := ⟨Try.f119.name, by decide, Try.func119.trans (congrArg some (by kernel_rfl))⟩
  f72 := ⟨Try.f120.name, by decide, Try.func120.trans (congrArg some (by kernel_rfl))⟩
  f73 := ⟨Try.f121.name, by decide, Try.func121.trans (congrArg some (by kernel_rfl))⟩
  f74 := ⟨Try.f122.name, by decide, Try.func122.trans (congrArg some (by kernel_rfl))⟩
  f75 := ⟨Try.f123.name, by decide, Try.func123.trans (congrArg some (by kernel_rfl))⟩
  f76 := ⟨Try.f125.name, by decide, Try.func125.trans (congrArg some (by kernel_rfl))⟩
  f77 := ⟨Try.f126.name, by decide, Try.func126.trans (congrArg some (by kernel_rfl))⟩
  f78 := Try.func116.trans (congrArg some (by kernel_rfl))
  f79 := Try.func117.trans (congrArg some (by kernel_rfl))
  f88 := ⟨Try.f132.name, by decide, Try.func132.trans (congrArg some (by kernel_rfl))⟩
  f89 := Try.func128.trans (congrArg some (by kernel_rfl))
  f90 := Try.func129.trans (congrArg some (by kernel_rfl))
  f91 := ⟨Try.f133.name, by decide, Try.func133.trans (congrArg some (by kernel_rfl))⟩
  f92 := ⟨Try.f134.name, by decide, Try.func134.trans (congrArg some (by kernel_rfl))⟩
  f96 := ⟨Try.f136.name, by decide, Try.func136.trans (congrArg some (by kernel_rfl))⟩
  t0 := Try.underlying0
  a0 := Try.isAgg0
  z0 := Try.sizeOf0
  v0 := Try.zeroValue0
  t3 := Try.underlying3
  a3 := Try.isAgg3
  z3 := Try.sizeOf3
  v3 := Try.zeroValue3
  t4 := Try.underlying4
  a4 := Try.isAgg4
  z4 := Try.sizeOf4
  v4 := Try.zeroValue4
  t5 := Try.underlying5
  a5 := Try.isAgg5
  z5 := Try.sizeOf5
  v5 := Try.zeroValue5
  t9 := Try.underlying9
  a9 := Try.isAgg9
  z9 := Try.sizeOf9
  v9 := Try.zeroValue9
  t22 := Try.underlying22
  a22 := Try.isAgg22
  z22 := Try.sizeOf22
  v22 := Try.zeroValue22
  t23 := Try.underlying2
  a23 := Try.isAgg2
  z23 := Try.sizeOf2
  v23 := Try.zeroValue2
  t44 := Try.underlying191
  a44 := Try.isAgg191
  z44 := Try.sizeOf191
  v44 := Try.zeroValue191
  t51 := Try.underlying169
  a51 := Try.isAgg169
  z51 := Try.sizeOf169
  v51 := Try.zeroValue169
  t60 := Try.underlying186
  a60 := Try.isAgg186
  z60 := Try.sizeOf186
  v60 := Try.zeroValue186
  t61 := Try.underlying187
  a61 := Try.isAgg187
  z61 := Try.sizeOf187
  v61 := Try.zeroValue187
  t67 := Try.underlying99
  a67 := Try.isAgg99
  z67 := Try.sizeOf99
  v67 := Try.zeroValue99
  t69 := Try.underlying96
  a69 := Try.isAgg96
  z69 := Try.sizeOf96
  v69 := Try.zeroValue96
  t75 := Try.underlying200
  a75 := Try.isAgg200
  z75 := Try.sizeOf200
  v75 := Try.zeroValue200
  t79 := Try.underlying204
  a79 := Try.isAgg204
  z79 := Try.sizeOf204
  v79 := Try.zeroValue204
  t83 := Try.underlying208
  a83 := Try.isAgg208
  z83 := Try.sizeOf208
  v83 := Try.zeroValue208
  t84 := Try.underlying209
  a84 := Try.isAgg209
  z84 := Try.sizeOf209
  v84 := Try.zeroValue209 }
end Go.Proofs.Ytcfmlnddmpiemaa.Sx


set_option maxRecDepth 10000
namespace Go.Proofs.Ytcfmlnddmpiemaa.Sx
open Go.RowKit Go.Proofs.Ytcfmlnddmpiemaa.Sx.Tb
theorem Fin.bool {b : Bool} {H : List Chunk} {k : K} (h : b = true) (hk : k (.v (.bool true)) []) : Fin 0 (.v (.bool b)) H k := by
  subst h
  exact Fin.ren [] [] (.v (.bool true)) [] rfl rfl trivial trivial (VC.mk rfl) hk
/-- An operation of a law. -/
structure OpR where
  kind : Int
  pos : Int
  n : Int
  b : List Int
def OpR.z : OpR := ⟨0, 0, 0, []⟩
def OpR.light (o : OpR) : Prop := o.b.length ≤ 1500 ∧ ¬ (6000 < o.pos ∧ o.pos ≤ 4194304) ∧ ¬ (6000 < o.n ∧ o.n ≤ 4194304 ∧ o.kind = 3)
end Go.Proofs.Ytcfmlnddmpiemaa.Sx


set_option maxRecDepth 10000
namespace Go.Proofs.Ytcfmlnddmpiemaa.Sx
open Go.RowKit Go.Proofs.Ytcfmlnddmpiemaa.Sx.Tb
theorem crashL_nil : ∀ (b : List Int) (its : List (Bool × Int × List Int)), crashL b its [] = b
  | b, [] => by simp [crashL]
  | b, it :: r => by simp [crashL, crashL_nil b r]
/-- Whether the n-th is kept. -/
theorem crashL_append : ∀ (its : List (Bool × Int × List Int)) (b : List Int) (it : Bool × Int × List Int) (ks : List Bool),
    crashL b (its ++ [it]) ks = if ks.getD its.length false = true then layL (crashL b its ks) it.1 it.2.1 it.2.2 else crashL b its ks
  | [], b, it, ks => by
    cases ks with
    | nil => simp [crashL]
    | cons k ks => cases k <;> simp [crashL]
  | x :: r, b, it, ks => by
    cases ks with
    | nil => simp [crashL_nil]
    | cons k ks =>
      cases k
      · simp only [List.cons_append, crashL, List.length_cons, List.getD_cons_succ]
        exact crashL_append r b it ks
      · simp only [List.cons_append, crashL, List.length_cons, List.getD_cons_succ]
        exact crashL_append r _ it ks
/-- A byte of what a write makes. -/
theorem layL_get (b : List Int) (at_ : Int) (xs : List Int) (j : Nat) (h : 0 ≤ at_) (h1 : at_ + xs.length ≤ b.length) :
    (layL b false at_ xs).getD j 0 = if at_.toNat ≤ j ∧ j < at_.toNat + xs.length then xs.getD (j - at_.toNat) 0 else b.getD j 0 := by
  have e : layL b false at_ xs = b.take at_.toNat ++ xs ++ b.drop (at_.toNat + xs.length) := by
    unfold layL
    rw [layP_id _ _ (by omega)]
    rfl
  rw [e, List.getD_eq_getElem?_getD, List.getD_eq_getElem?_getD, List.getD_eq_getElem?_getD]
  by_cases h2 : j < at_.toNat
  · rw [if_neg (by omega), List.append_assoc, List.getElem?_append_left (by rw [List.length_take]; omega), List.getElem?_take, if_pos h2]
  · by_cases h3 : j < at_.toNat + xs.length
    · rw [if_pos ⟨by omega, h3⟩, List.append_assoc, List.getElem?_append_right (by rw [List.length_take]; omega), List.getElem?_append_left (by rw [List.length_take]; omega), List.length_take, show min at_.toNat b.length = at_.toNat by omega]
    · rw [if_neg (by omega), List.getElem?_append_right (by rw [List.length_append, List.length_take]; omega), List.getElem?_drop, List.length_append, List.length_take, show at_.toNat + xs.length + (j - (min at_.toNat b.length + xs.length)) = j by omega]
/-- A write within a sector. -/
theorem wrote1_one (s : DF) (at_ : Int) (xs : List Int) (h : 0 ≤ at_) (h1 : at_ / 512 = (at_ + xs.length) / 512) :
    s.wrote1 at_ xs = (if xs = [] then { s with ops := s.ops + 1, wrote := s.wrote + 1 } else { s with ops := s.ops + 1, wrote := s.wrote + 1, now := layL s.now false at_ xs, items := s.items ++ [(false, at_, xs)] }) := by
  unfold DF.wrote1
  cases xs with
  | nil => rw [if_pos rfl]; rfl
  | cons x r =>
    rw [if_neg (by simp)]
    rw [List.length_cons, wrN, if_neg (by simp)]
    have hs : secN at_ (r.length + 1) = (x :: r).length := by
      rw [List.length_cons] at h1 ⊢
      unfold secN
      omega
    rw [List.length_cons, hs, List.take_length, List.drop_length]
    cases r.length with
    | zero => rfl
    | succ m => rw [wrN, if_pos rfl]
/-- What is known of the file and the states so far. -/
structure Sec (b : List Int) (i : Nat) (s : DF) (sts : List (List Int)) : Prop where
  safe : s.safe = b
  ops : s.ops = s.wrote ∧ 0 ≤ s.ops ∧ s.ops ≤ i
  live : s.fail = 0 ∧ s.stop = 0
  len : s.now.length = b.length
  its : s.items.length ≤ i
  all : ∀ it ∈ s.items, it.1 = false ∧ 0 ≤ it.2.1 ∧ it.2.1 + it.2.2.length ≤ b.length
  lens : ∀ st ∈ sts, st.length = b.length
  cl : ∀ ks, (crashL s.safe s.items ks).length = b.length
  cov : ∀ ks j, j < b.length → ∃ st ∈ sts, (crashL s.safe s.items ks).getD j 0 = st.getD j 0
theorem Sec.zero (b : List Int) : Sec b 0 (DF.mk0 b) [b] := by
  refine ⟨rfl, ⟨rfl, Int.le_refl _, Int.le_refl _⟩, ⟨rfl, rfl⟩, rfl, Nat.le_refl _, fun it h => (by cases h), fun st h => (by simp at h; rw [h]), fun ks => (by simp [DF.mk0, crashL]), fun ks j hj => ⟨b, by simp, by simp [DF.mk0, crashL]⟩⟩
theorem Sec.mono {b : List Int} {i : Nat} {s : DF} {sts : List (List Int)} (h : Sec b i s sts) : Sec b (i + 1) s sts :=
  ⟨h.safe, ⟨h.ops.1, h.ops.2.1, by have := h.ops.2.2; omega⟩, h.live, h.len, Nat.le_succ_of_le h.its, h.all, h.lens, h.cl, h.cov⟩
theorem Sec.step {b : List Int} {i : Nat} {s : DF} {sts : List (List Int)} (h : Sec b i s sts) (hnow : s.now ∈ sts) {at_ : Int} {xs : List Int} (h0 : 0 ≤ at_) (h1 : at_ + xs.length ≤ b.length) (h2 : at_ / 512 = (at_ + xs.length) / 512) :
    Sec b (i + 1) (s.wrote1 at_ xs) (sts ++ [(s.wrote1 at_ xs).now]) ∧ (s.wrote1 at_ xs).now ∈ sts ++ [(s.wrote1 at_ xs).now] := by
  refine ⟨?_, by simp⟩
  rw [wrote1_one s at_ xs h0 h2]
  by_cases hx : xs = []
  · rw [if_pos hx]
    refine ⟨h.safe, ⟨?_, ?_, ?_⟩, h.live, h.len, Nat.le_succ_of_le h.its, h.all, fun st hst => ?_, h.cl, fun ks j hj => ?_⟩
    · have := h.ops.1; show s.ops + 1 = s.wrote + 1; omega
    · have := h.ops.2.1; show 0 ≤ s.ops + 1; omega
    · have := h.ops.2.2; show s.ops + 1 ≤ _; omega
    · rcases List.mem_append.1 hst with hst | hst
      · exact h.lens st hst
      · simp at hst; rw [hst]; exact h.len
    · obtain ⟨st, h3, h4⟩ := h.cov ks j hj
      exact ⟨st, List.mem_append_left _ h3, h4⟩
  · rw [if_neg hx]
    have hll : (layL s.now false at_ xs).length = b.length := by rw [layL_len _ _ _ h0, h.len]; omega
    refine ⟨h.safe, ⟨?_, ?_, ?_⟩, h.live, hll, ?_, fun it hit => ?_, fun st hst => ?_, fun ks => ?_, fun ks j hj => ?_⟩
    · have := h.ops.1; show s.ops + 1 = s.wrote + 1; omega
    · have := h.ops.2.1; show 0 ≤ s.ops + 1; omega
    · have := h.ops.2.2; show s.ops + 1 ≤ _; omega
    · have := h.its; show (s.items ++ [_]).length ≤ i + 1; rw [List.length_append]; simp; omega
    · rcases List.mem_append.1 hit with hit | hit
      · exact h.all it hit
      · simp at hit; subst hit; exact ⟨rfl, h0, h1⟩
    · rcases List.mem_append.1 hst with hst | hst
      · exact h.lens st hst
      · simp at hst; rw [hst]; exact hll
    · show (crashL s.safe (s.items ++ [(false, at_, xs)]) ks).length = b.length
      rw [crashL_append]
      split
      · simp only
        rw [layL_len _ _ _ h0, h.cl]; omega
      · exact h.cl ks
    · show ∃ st ∈ _, (crashL s.safe (s.items ++ [(false, at_, xs)]) ks).getD j 0 = _
      rw [crashL_append]
      obtain ⟨st, h3, h4⟩ := h.cov ks j hj
      split
      · simp only
        rw [layL_get _ _ _ _ h0 (by rw [h.cl]; exact h1)]
        by_cases hin : at_.toNat ≤ j ∧ j < at_.toNat + xs.length
        · rw [if_pos hin]
          refine ⟨layL s.now false at_ xs, by simp, ?_⟩
          rw [layL_get _ _ _ _ h0 (by rw [h.len]; exact h1), if_pos hin]
        · rw [if_neg hin]
          exact ⟨st, List.mem_append_left _ h3, h4⟩
      · exact ⟨st, List.mem_append_left _ h3, h4⟩
end Go.Proofs.Ytcfmlnddmpiemaa.Sx


set_option maxRecDepth 10000
namespace Go.Proofs.Ytcfmlnddmpiemaa.Sx
open Go.RowKit Go.Proofs.Ytcfmlnddmpiemaa.Sx.Tb
theorem Fin.frz {i n c cap : Nat} {T : TypeId} {L : List Int} {kd : IntKind} {H : List Chunk} {k : K} (hi : nth H i = some (.blk T (.ints kd L) cap)) (hn : n = L.length) (hk : k (.im true 1 L.length (.ints kd L)) []) : Fin 0 (.s i 0 1 n c) H k := by
  subst hn
  refine Fin.ren [] [i] (.im true 1 L.length (.ints kd L)) [] rfl rfl ⟨by rw [hi]; trivial, trivial⟩ trivial ?_ hk
  have hm : memN i [i] = true := memN_iff.2 (by simp)
  unfold AV.le
  simp only [hm, cond_true, hi, Cont.ext]
  constructor <;> apply VC.mk <;> simp
end Go.Proofs.Ytcfmlnddmpiemaa.Sx


set_option maxRecDepth 10000
namespace Go.Proofs.Ytcfmlnddmpiemaa.Sx
open Go.RowKit Go.Proofs.Ytcfmlnddmpiemaa.Sx.Tb
end Go.Proofs.Ytcfmlnddmpiemaa.Sx


set_option maxRecDepth 10000
namespace Go.Proofs.Ytcfmlnddmpiemaa.Sx
open Go.RowKit Go.Proofs.Ytcfmlnddmpiemaa.Sx.Tb
/-- What an operation makes of a file. -/
def DF.Did (s : DF) (o : OpR) (s' : DF) : Prop :=
  (o.kind = 1 ∧ s' = s.asked) ∨
  (o.kind = 2 ∧ (s.refused ∧ s' = s.asked ∨ ¬ s.refused ∧ o.pos < 0 ∧ s' = s.asked ∨ ¬ s.refused ∧ 0 ≤ o.pos ∧ 4194304 - o.pos < o.b.length ∧ s' = s.asked ∨ ¬ s.refused ∧ 0 ≤ o.pos ∧ o.b.length ≤ 4194304 - o.pos ∧ s' = s.wrote1 o.pos o.b)) ∨
  (o.kind = 3 ∧ (s.refused ∧ s' = s.asked ∨ ¬ s.refused ∧ ¬ (0 ≤ o.n ∧ o.n ≤ 4194304) ∧ s' = s.asked ∨ ¬ s.refused ∧ 0 ≤ o.n ∧ o.n ≤ 4194304 ∧ s' = s.cutTo o.n)) ∨
  (o.kind = 4 ∧ (s.refused ∧ s' = s.asked ∨ ¬ s.refused ∧ s' = s.flushed)) ∨
  (¬ (1 ≤ o.kind ∧ o.kind ≤ 4) ∧ s' = s)
end Go.Proofs.Ytcfmlnddmpiemaa.Sx


set_option maxRecDepth 10000
namespace Go.Proofs.Ytcfmlnddmpiemaa.Sx
open Go.RowKit Go.Proofs.Ytcfmlnddmpiemaa.Sx.Tb
/-- All that was written, seen. -/
def allL (b : List Int) (its : List (Bool × Int × List Int)) : List Int := its.foldl (fun b it => layL b it.1 it.2.1 it.2.2) b
theorem allL_append (b : List Int) (its : List (Bool × Int × List Int)) (it : Bool × Int × List Int) : allL b (its ++ [it]) = layL (allL b its) it.1 it.2.1 it.2.2 := by simp [allL]
/-- A file as laws have it: within limits, never refused. -/
structure DF.Ok (s : DF) (n : Int) : Prop where
  safe : s.safe.length ≤ 4194304
  now : s.now.length ≤ 4194304
  its : ∀ it ∈ s.items, 0 ≤ it.2.1 ∧ it.2.1 + it.2.2.length ≤ 4194304
  len : s.items.length ≤ n
  ops : 0 ≤ s.ops ∧ s.ops ≤ n
  wrote : 0 ≤ s.wrote ∧ s.wrote ≤ n
  all : s.now = allL s.safe s.items
theorem wrN_ok : ∀ (k : Nat) (s : DF) (at_ : Int) (xs : List Int), s.now.length ≤ 4194304 → (∀ it ∈ s.items, 0 ≤ it.2.1 ∧ it.2.1 + it.2.2.length ≤ 4194304) → s.now = allL s.safe s.items → 0 ≤ at_ → at_ + xs.length ≤ 4194304 →
    (wrN k s at_ xs).now.length ≤ 4194304 ∧ (∀ it ∈ (wrN k s at_ xs).items, 0 ≤ it.2.1 ∧ it.2.1 + it.2.2.length ≤ 4194304) ∧ (wrN k s at_ xs).now = allL (wrN k s at_ xs).safe (wrN k s at_ xs).items ∧ (wrN k s at_ xs).items.length ≤ s.items.length + xs.length ∧
    (wrN k s at_ xs).safe = s.safe ∧ (wrN k s at_ xs).ops = s.ops ∧ (wrN k s at_ xs).wrote = s.wrote ∧ (wrN k s at_ xs).fail = s.fail ∧ (wrN k s at_ xs).stop = s.stop
  | 0, s, at_, xs, h1, h2, h3, _, _ => by rw [wrN]; exact ⟨h1, h2, h3, by omega, rfl, rfl, rfl, rfl, rfl⟩
  | k + 1, s, at_, xs, h1, h2, h3, h4, h5 => by
    rw [wrN]
    by_cases hx : xs = []
    · rw [if_pos hx]; exact ⟨h1, h2, h3, by omega, rfl, rfl, rfl, rfl, rfl⟩
    · rw [if_neg hx]
      have hl : 0 < xs.length := List.length_pos_iff.2 hx
      have hs1 : 0 < secN at_ xs.length := by unfold secN; omega
      have hs2 : secN at_ xs.length ≤ xs.length := by unfold secN; omega
      have hlt : (xs.take (secN at_ xs.length)).length = secN at_ xs.length := by rw [List.length_take]; omega
      obtain ⟨a1, a2, a3, a4, a5, a6, a7, a8, a9⟩ := wrN_ok k { s with now := layL s.now false at_ (xs.take (secN at_ xs.length)), items := s.items ++ [(false, at_, xs.take (secN at_ xs.length))] } (at_ + secN at_ xs.length) (xs.drop (secN at_ xs.length))
        (show (layL s.now false at_ (xs.take (secN at_ xs.length))).length ≤ 4194304 by rw [layL_len _ _ _ h4, hlt]; omega)
        (fun it hit => by
          rcases List.mem_append.1 hit with hit | hit
          · exact h2 it hit
          · simp only [List.mem_singleton] at hit; subst hit; simp only [hlt]; omega)
        (show layL s.now false at_ (xs.take (secN at_ xs.length)) = allL s.safe (s.items ++ [(false, at_, xs.take (secN at_ xs.length))]) by rw [allL_append, ← h3]) (by omega) (by rw [List.length_drop]; omega)
      refine ⟨a1, a2, a3, ?_, a5, a6, a7, a8, a9⟩
      have e : (s.items ++ [(false, at_, xs.take (secN at_ xs.length))]).length = s.items.length + 1 := by simp
      have a4' : (wrN k { s with now := layL s.now false at_ (xs.take (secN at_ xs.length)), items := s.items ++ [(false, at_, xs.take (secN at_ xs.length))] } (at_ + secN at_ xs.length) (xs.drop (secN at_ xs.length))).items.length ≤ (s.items ++ [(false, at_, xs.take (secN at_ xs.length))]).length + (xs.drop (secN at_ xs.length)).length := a4
      rw [e, List.length_drop] at a4'
      omega
theorem DF.Ok.ask {s : DF} {n : Int} (h : s.Ok n) : s.asked.Ok (n + 1) :=
  ⟨h.safe, h.now, h.its, by have := h.len; show (s.items.length : Int) ≤ _; omega, by have := h.ops; show 0 ≤ s.ops + 1 ∧ s.ops + 1 ≤ _; omega, by have := h.wrote; show 0 ≤ s.wrote ∧ s.wrote ≤ _; omega, h.all⟩
theorem DF.Ok.mono {s : DF} {n m : Int} (h : s.Ok n) (hm : n ≤ m) : s.Ok m :=
  ⟨h.safe, h.now, h.its, by have := h.len; omega, by have := h.ops; omega, by have := h.wrote; omega, h.all⟩
theorem DF.Ok.write {s : DF} {n : Int} (h : s.Ok n) {at_ : Int} {xs : List Int} (h0 : 0 ≤ at_) (h1 : xs.length ≤ 4194304 - at_) : (s.wrote1 at_ xs).Ok (n + 1 + xs.length) ∧ (s.wrote1 at_ xs).safe = s.safe ∧ (s.wrote1 at_ xs).ops = s.ops + 1 ∧ (s.wrote1 at_ xs).wrote = s.wrote + 1 ∧ (s.wrote1 at_ xs).fail = s.fail ∧ (s.wrote1 at_ xs).stop = s.stop := by
  obtain ⟨a1, a2, a3, a4, a5, a6, a7, a8, a9⟩ := wrN_ok xs.length { s with ops := s.ops + 1, wrote := s.wrote + 1 } at_ xs h.now h.its h.all h0 (by omega)
  refine ⟨⟨by rw [DF.wrote1, a5]; exact h.safe, a1, a2, ?_, ?_, ?_, a3⟩, a5, a6, a7, a8, a9⟩
  · have := h.len
    have a4' : (s.wrote1 at_ xs).items.length ≤ s.items.length + xs.length := a4
    omega
  · have := h.ops
    have a6' : (s.wrote1 at_ xs).ops = s.ops + 1 := a6
    omega
  · have := h.wrote
    have a7' : (s.wrote1 at_ xs).wrote = s.wrote + 1 := a7
    omega
theorem layL_cut_len (b : List Int) (n : Int) (h : 0 ≤ n) : (layL b true n []).length ≤ n.toNat := by
  unfold layL
  simp
  omega
theorem DF.Ok.cut {s : DF} {n : Int} (h : s.Ok n) {m : Int} (h0 : 0 ≤ m) (h1 : m ≤ 4194304) : (s.cutTo m).Ok (n + 1) := by
  refine ⟨h.safe, ?_, fun it hit => ?_, ?_, ?_, ?_, ?_⟩
  · have := layL_cut_len s.now m h0; show (layL s.now true m []).length ≤ _; omega
  · rcases List.mem_append.1 hit with hit | hit
    · exact h.its it hit
    · simp only [List.mem_singleton] at hit; subst hit; simp only [List.length_nil]; omega
  · have := h.len; show ((s.items ++ [_]).length : Int) ≤ _; rw [List.length_append, List.length_singleton]; omega
  · have := h.ops; show 0 ≤ s.ops + 1 ∧ s.ops + 1 ≤ _; omega
  · have := h.wrote; show 0 ≤ s.wrote + 1 ∧ s.wrote + 1 ≤ _; omega
  · show layL s.now true m [] = allL s.safe (s.items ++ [(true, m, [])]); rw [allL_append, ← h.all]
theorem DF.Ok.flush {s : DF} {n : Int} (h : s.Ok n) : s.flushed.Ok (n + 1) :=
  ⟨h.now, h.now, fun it hit => absurd hit (by simp [DF.flushed]), by have := h.len; show ((0 : Nat) : Int) ≤ _; omega, by have := h.ops; show 0 ≤ s.ops + 1 ∧ s.ops + 1 ≤ _; omega, by have := h.wrote; show 0 ≤ s.wrote ∧ s.wrote ≤ _; omega, rfl⟩
def DF.live (s : DF) : Prop := s.fail = 0 ∧ s.stop = 0
theorem DF.live.not {s : DF} (h : s.live) : ¬ s.refused := by unfold DF.refused; rw [h.1, h.2]; omega
theorem DF.Did.ok {s s' : DF} {n : Int} {o : OpR} (h : s.Ok n) (hl : s.live) (hd : s.Did o s') : s'.Ok (n + 1 + o.b.length) ∧ s'.live ∧ (o.kind < 4 → s'.safe = s.safe) := by
  have ha : s.asked.Ok (n + 1 + o.b.length) ∧ s.asked.live ∧ (o.kind < 4 → s.asked.safe = s.safe) := ⟨h.ask.mono (by omega), hl, fun _ => rfl⟩
  rcases hd with ⟨_, rfl⟩ | ⟨_, h1⟩ | ⟨_, h1⟩ | ⟨h4, h1⟩ | ⟨_, rfl⟩
  · exact ha
  · rcases h1 with ⟨_, rfl⟩ | ⟨_, _, rfl⟩ | ⟨_, _, _, rfl⟩ | ⟨_, h2, h3, rfl⟩
    · exact ha
    · exact ha
    · exact ha
    · obtain ⟨b1, b2, b3, b4, b5, b6⟩ := h.write h2 h3
      exact ⟨b1, ⟨by rw [b5]; exact hl.1, by rw [b6]; exact hl.2⟩, fun _ => b2⟩
  · rcases h1 with ⟨_, rfl⟩ | ⟨_, _, rfl⟩ | ⟨_, h2, h3, rfl⟩
    · exact ha
    · exact ha
    · exact ⟨(h.cut h2 h3).mono (by omega), hl, fun _ => rfl⟩
  · rcases h1 with ⟨_, rfl⟩ | ⟨_, rfl⟩
    · exact ha
    · exact ⟨h.flush.mono (by omega), hl, fun h => by omega⟩
  · exact ⟨h.mono (by omega), hl, fun _ => rfl⟩
theorem DF.Ok.zero {b : List Int} (h : b.length ≤ 4194304) : (DF.mk0 b).Ok 0 :=
  ⟨h, h, fun it hit => absurd hit (by simp [DF.mk0]), Int.le_refl _, ⟨Int.le_refl _, Int.le_refl _⟩, ⟨Int.le_refl _, Int.le_refl _⟩, rfl⟩
end Go.Proofs.Ytcfmlnddmpiemaa.Sx


set_option maxRecDepth 10000
namespace Go.Proofs.Ytcfmlnddmpiemaa.Sx
open Go.RowKit Go.Proofs.Ytcfmlnddmpiemaa.Sx.Tb
def B8 (l : List Int) : Prop := ∀ x ∈ l, 0 ≤ x ∧ x < 256
theorem B8.nil : B8 [] := fun x hx => by cases hx
theorem B8.append {l m : List Int} (h : B8 l) (g : B8 m) : B8 (l ++ m) := fun x hx => by
  rcases List.mem_append.1 hx with hx | hx
  · exact h x hx
  · exact g x hx
theorem B8.take {l : List Int} (h : B8 l) (n : Nat) : B8 (l.take n) := fun x hx => h x (List.mem_of_mem_take hx)
theorem B8.drop {l : List Int} (h : B8 l) (n : Nat) : B8 (l.drop n) := fun x hx => h x (List.mem_of_mem_drop hx)
theorem B8.replicate (n : Nat) : B8 (List.replicate n 0) := fun x hx => by
  have := List.eq_of_mem_replicate hx
  omega
theorem B8.getD {l : List Int} (h : B8 l) (i : Nat) : 0 ≤ l.getD i 0 ∧ l.getD i 0 < 256 := by
  rw [List.getD_eq_getElem?_getD]
  cases hi : l[i]? with
  | none => simp
  | some x => exact h x (List.mem_of_getElem? hi)
theorem wu8 (x : Int) : IntKind.u8.wrap x = x % 256 := by simp [IntKind.wrap, IntKind.bits, IntKind.signed]
theorem wu32 (x : Int) : IntKind.u32.wrap x = x % 4294967296 := by simp [IntKind.wrap, IntKind.bits, IntKind.signed]
theorem wu64 (x : Int) : IntKind.u64.wrap x = x % 18446744073709551616 := by simp [IntKind.wrap, IntKind.bits, IntKind.signed]
theorem wraps_u32 (n : Int) (h₀ : 0 ≤ n) (h₁ : n < 2 ^ 32) : IntKind.u32.wrap n = n := by rw [wu32]; omega
theorem wraps_u64 (n : Int) (h₀ : 0 ≤ n) (h₁ : n < 2 ^ 64) : IntKind.u64.wrap n = n := by rw [wu64]; omega
theorem or32 (v b : Int) (h0 : 0 ≤ v) (h1 : v < 16777216) (b0 : 0 ≤ b) (b1 : b < 256) : Go.bits .or .u32 (IntKind.u32.wrap (v * 256)) b = v * 256 + b := by
  rw [wraps_u32 _ (by omega) (by omega)]
  exact bits_join .u32 32 (by decide) wraps_u32 8 _ _ (by omega) (by omega) (by omega) b0 (by omega) (by omega)
theorem or64 (v b : Int) (h0 : 0 ≤ v) (h1 : v < 72057594037927936) (b0 : 0 ≤ b) (b1 : b < 256) : Go.bits .or .u64 (IntKind.u64.wrap (v * 256)) b = v * 256 + b := by
  rw [wraps_u64 _ (by omega) (by omega)]
  exact bits_join .u64 64 (by decide) wraps_u64 8 _ _ (by omega) (by omega) (by omega) b0 (by omega) (by omega)
/-- A number out of bytes, the lowest first. -/
def leV : List Int → Int
  | [] => 0
  | x :: r => x + 256 * leV r
/-- A number's bytes. -/
def leB : Nat → Int → List Int
  | 0, _ => []
  | n + 1, v => v % 256 :: leB n (v / 256)
def putB : List Int → Nat → Nat → Int → List Int
  | l, _, 0, _ => l
  | l, at_, n + 1, v => putB (l.set at_ (v % 256)) (at_ + 1) n (v / 256)
theorem leB_length : ∀ (n : Nat) (v : Int), (leB n v).length = n
  | 0, _ => rfl
  | n + 1, v => by simp [leB, leB_length n]
theorem leB_B8 : ∀ (n : Nat) (v : Int), B8 (leB n v)
  | 0, _ => B8.nil
  | n + 1, v => fun x hx => by
    rcases List.mem_cons.1 hx with rfl | hx
    · omega
    · exact leB_B8 n _ x hx
theorem leV_leB : ∀ (n : Nat) (v : Int), 0 ≤ v → v < 256 ^ n → leV (leB n v) = v
  | 0, v, h0, h1 => by simp at h1; simp [leB, leV]; omega
  | n + 1, v, h0, h1 => by
    rw [Int.pow_succ] at h1
    rw [leB, leV, leV_leB n (v / 256) (by omega) (by omega)]
    omega
theorem leV_nonneg : ∀ {l : List Int}, B8 l → 0 ≤ leV l
  | [], _ => Int.le_refl _
  | x :: r, h => by
    have h1 := h x (by simp)
    have h2 := leV_nonneg (l := r) (fun y hy => h y (by simp [hy]))
    rw [leV]; omega
theorem leV_lt : ∀ {l : List Int}, B8 l → leV l < 256 ^ l.length
  | [], _ => by simp [leV]
  | x :: r, h => by
    have h1 := h x (by simp)
    have h2 := leV_lt (l := r) (fun y hy => h y (by simp [hy]))
    rw [leV, List.length_cons, Int.pow_succ]; omega
theorem putB_eq : ∀ (n : Nat) (l : List Int) (at_ : Nat) (v : Int), at_ + n ≤ l.length → putB l at_ n v = l.take at_ ++ leB n v ++ l.drop (at_ + n)
  | 0, l, at_, v, h => by simp [putB, leB]
  | n + 1, l, at_, v, h => by
    rw [putB, putB_eq n _ _ _ (by rw [List.length_set]; omega), leB]
    have e1 : (l.set at_ (v % 256)).take (at_ + 1) = l.take at_ ++ [v % 256] := by
      apply List.ext_getElem?
      intro i
      rw [List.getElem?_take, List.getElem?_set, List.getElem?_append, List.getElem?_take, List.length_take]
      by_cases h1 : i < at_
      · rw [if_pos (by omega), if_neg (by omega), if_pos (by omega), if_pos h1]
      · by_cases h2 : i = at_
        · subst h2
          rw [if_pos (by omega), if_pos rfl, if_pos (by omega), if_neg (by omega), show i - min i l.length = 0 by omega]; rfl
        · rw [if_neg (by omega), if_neg (by omega)]
          symm
          apply List.getElem?_eq_none
          simp; omega
    have e2 : (l.set at_ (v % 256)).drop (at_ + 1 + n) = l.drop (at_ + (n + 1)) := by
      apply List.ext_getElem?
      intro i
      rw [List.getElem?_drop, List.getElem?_drop, List.getElem?_set, if_neg (by omega), show at_ + 1 + n + i = at_ + (n + 1) + i by omega]
    rw [e1, e2]
    simp
theorem putB_length : ∀ (n : Nat) (l : List Int) (at_ : Nat) (v : Int), (putB l at_ n v).length = l.length
  | 0, l, at_, v => rfl
  | n + 1, l, at_, v => by rw [putB, putB_length n, List.length_set]
theorem pow256_le {a b : Nat} (h : a ≤ b) : (256 : Int) ^ a ≤ 256 ^ b := by
  have := Nat.pow_le_pow_right (n := 256) (by decide) h
  have e : ∀ n : Nat, ((256 ^ n : Nat) : Int) = (256 : Int) ^ n := fun n => by simp
  rw [← e, ← e]
  exact Int.ofNat_le.2 this
theorem oin_c (l : List Int) (p n : Int) (k : K) (h0 : l.length ≤ 1099511627776) (hk : ∀ r : Bool, (r = true ↔ 0 ≤ p ∧ 0 ≤ n ∧ p + n ≤ l.length) → k (.v (.bool r)) []) : evFunc tab [] [] Go.Proofs.Try.f86 [.im false 1 l.length (.ints .u8 l), .v (.int .i64 p), .v (.int .i64 n)] [] k := by
  repeat' (first
    | (with_reducible first | exact True.intro | apply And.intro | apply If_true | apply If_false | apply If_not)
    | ((with_reducible apply VC.mk); exact vt)
    | ((with_reducible apply If_dec) <;> intro hc <;> (try (exfalso; omega)))
    | ((with_reducible apply If_any) <;> intro hc)
    | ((with_reducible first | apply PF.mk | apply DrawP.mk); (focus kernel_rfl))
    | ((with_reducible apply Same.mk); (focus rfl); (first | exact trivial | exact rfl))
    | (intro cap hcap)
    | ((fail_if_success (with_reducible apply st)); conv => whnf))
  all_goals exact Fin.same (hk _ (by simp; omega))
theorem oin_K : ConOk Go.Proofs.Try.prog 86 (Con.of (List Int × Int × Int) Bool (fun (l, p, n) => [.im false 1 l.length (.ints .u8 l), .v (.int .i64 p), .v (.int .i64 n)]) (fun _ => []) (fun (l, _, _) => l.length ≤ 1099511627776) (fun (l, p, n) r => (r = true ↔ 0 ≤ p ∧ 0 ≤ n ∧ p + n ≤ l.length)) (fun _ r => .v (.bool r)) (fun _ _ => [])) :=
  conOk_rel (T := tab) mix Go.Proofs.Try.func86 (by decide +kernel) (by kernel_rfl) [] [] (fun n => by rw [Go.Proofs.Try.ntmps86]; exact Nat.le_of_ble_eq_true rfl) (fun n z _ _ => ⟨trivial, (fun c hc => by cases hc), Nat.le_refl _⟩) (fun n _ c hc => by cases hc) (fun (l, p, n) k h0 hk => oin_c l p n k h0 (fun r hr => hk r hr))
theorem oin_at {avs : List AV} {H : List Chunk} {k : K} (l : List Int) (p n : Int) (h0 : l.length ≤ 1099511627776) (ha : argsM H [] [.im false 1 l.length (.ints .u8 l), .v (.int .i64 p), .v (.int .i64 n)] avs) (h : ∀ r : Bool, (r = true ↔ 0 ≤ p ∧ 0 ≤ n ∧ p + n ≤ l.length) → k (.v (.bool r)) H) : CallP Go.Proofs.Try.prog 86 avs H k :=
  CallP.mk ⟨_, oin_K.real, Con.spec oin_K, (l, p, n), [], ⟨h0, rfl, trivial, ha⟩, fun r hr => (numK_eq H.length (fun N => k (AV.ren (fren [] N) (.v (.bool r))) (putAll H [] []))).mpr (by simpa [putAll, AV.ren] using h r hr)⟩
set_option maxHeartbeats 4000000 in
theorem put64_c (l : List Int) (c : Nat) (at_ n v : Int) (k : K) (h0 : 0 ≤ at_ ∧ 0 ≤ n ∧ at_ + n ≤ l.length ∧ l.length ≤ 1099511627776) (hk : k (.v (.bool true)) [.blk 5 (.ints .u8 (putB l at_.toNat n.toNat v)) c]) :
    evFunc tab [24] [] Go.Proofs.Try.f92 [.s 0 0 1 l.length c, .v (.int .i64 at_), .v (.int .i64 n), .v (.int .u64 v)] [.blk 5 (.ints .u8 l) c] k := by
  repeat' (first
    | (with_reducible first | exact True.intro | apply And.intro | apply If_true | apply If_false | apply If_not)
    | ((with_reducible apply VC.mk); exact vt)
    | ((with_reducible apply If_dec) <;> intro hc <;> (try (exfalso; omega)))
    | ((with_reducible apply If_any) <;> intro hc)
    | ((with_reducible first | apply PF.mk | apply DrawP.mk); (focus kernel_rfl))
    | ((with_reducible apply Same.mk); (focus rfl); (first | exact trivial | exact rfl))
    | (intro cap hcap)
    | ((fail_if_success (with_reducible apply st)); conv => whnf))
  refine oin_at l at_ n h0.2.2.2 ⟨⟨by omega, rfl, rfl, by show Cont.ints _ _ = Cont.ints _ _; rw [List.drop_zero, List.take_length], rfl, Nat.one_pos⟩, rfl, rfl, trivial⟩ ?_
  intro r hr
  have hr : r = true := hr.2 (by omega)
  subst hr
  repeat' (first
    | (with_reducible first | exact True.intro | apply And.intro | apply If_true | apply If_false | apply If_not)
    | ((with_reducible apply VC.mk); exact vt)
    | ((with_reducible apply If_dec) <;> intro hc <;> (try (exfalso; omega)))
    | ((with_reducible apply If_any) <;> intro hc)
    | ((with_reducible first | apply PF.mk | apply DrawP.mk); (focus kernel_rfl))
    | ((with_reducible apply Same.mk); (focus rfl); (first | exact trivial | exact rfl))
    | (intro cap hcap)
    | ((fail_if_success (with_reducible apply st)); conv => whnf))
  refine LoopP.mk ⟨Nat × List Int × Int, fun y => y.1 ≤ n.toNat ∧ y.2.1.length = l.length ∧ putB y.2.1 (at_.toNat + y.1) (n.toNat - y.1) y.2.2 = putB l at_.toNat n.toNat v, fun y => ([(0, .s 0 0 1 l.length c), (1, .v (.int .i64 at_)), (3, .v (.int .u64 y.2.2)), (15, .v (.int .i64 n)), (16, .v (.int .i64 y.1))], [.blk 5 (.ints .u8 y.2.1) c]), fun y => n.toNat - y.1, (0, l, v), ⟨Nat.zero_le _, rfl, rfl⟩, Fit.ren [0] [] rfl rfl trivial ?_ ?_, ?_⟩
  · repeat' (first
    | (with_reducible first | exact True.intro | apply And.intro | apply If_true | apply If_false | apply If_not)
    | ((with_reducible apply VC.mk); exact vt)
    | ((with_reducible apply If_dec) <;> intro hc <;> (try (exfalso; omega)))
    | ((with_reducible apply If_any) <;> intro hc)
    | ((with_reducible first | apply PF.mk | apply DrawP.mk); (focus kernel_rfl))
    | ((with_reducible apply Same.mk); (focus rfl); (first | exact trivial | exact rfl))
    | (intro cap hcap)
    | ((fail_if_success (with_reducible apply st)); conv => whnf))
  · repeat' (first
    | (with_reducible first | exact True.intro | apply And.intro | apply If_true | apply If_false | apply If_not)
    | ((with_reducible apply VC.mk); exact vt)
    | ((with_reducible apply If_dec) <;> intro hc <;> (try (exfalso; omega)))
    | ((with_reducible apply If_any) <;> intro hc)
    | ((with_reducible first | apply PF.mk | apply DrawP.mk); (focus kernel_rfl))
    | ((with_reducible apply Same.mk); (focus rfl); (first | exact trivial | exact rfl))
    | (intro cap hcap)
    | ((fail_if_success (with_reducible apply st)); conv => whnf))
  · intro y hy
    obtain ⟨g1, g2, g3⟩ := hy
    repeat' (first
    | (with_reducible first | exact True.intro | apply And.intro | apply If_true | apply If_false | apply If_not)
    | ((with_reducible apply VC.mk); exact vt)
    | ((with_reducible apply If_dec) <;> intro hc <;> (try (exfalso; omega)))
    | ((with_reducible apply If_any) <;> intro hc)
    | ((with_reducible first | apply PF.mk | apply DrawP.mk); (focus kernel_rfl))
    | ((with_reducible apply Same.mk); (focus rfl); (first | exact trivial | exact rfl))
    | (intro cap hcap)
    | ((fail_if_success (with_reducible apply st)); conv => whnf))
    · refine Round.mk ⟨(y.1 + 1, y.2.1.set (at_.toNat + y.1) (y.2.2 % 256), y.2.2 / 256), ⟨by show y.1 + 1 ≤ _; omega, by show (y.2.1.set _ _).length = _; rw [List.length_set, g2], ?_⟩, by show n.toNat - (y.1 + 1) < n.toNat - y.1; omega, Fit.ren [0] [] rfl rfl trivial ?_ ?_⟩
      · rw [← g3, show n.toNat - y.1 = (n.toNat - (y.1 + 1)) + 1 by omega]
        rfl
      · refine ⟨⟨VC.mk ⟨rfl, rfl⟩, VC.mk ⟨rfl, ?_⟩⟩, trivial⟩
        rw [wu8, show 0 + (at_ + (y.1 : Int)).toNat = at_.toNat + y.1 by omega]
        exact List.prefix_rfl
      · repeat' (first
    | (with_reducible first | exact True.intro | apply And.intro | apply If_true | apply If_false | apply If_not)
    | ((with_reducible apply VC.mk); exact vt)
    | ((with_reducible apply If_dec) <;> intro hc <;> (try (exfalso; omega)))
    | ((with_reducible apply If_any) <;> intro hc)
    | ((with_reducible first | apply PF.mk | apply DrawP.mk); (focus kernel_rfl))
    | ((with_reducible apply Same.mk); (focus rfl); (first | exact trivial | exact rfl))
    | (intro cap hcap)
    | ((fail_if_success (with_reducible apply st)); conv => whnf))
    · have e : n.toNat - y.1 = 0 := by omega
      rw [e] at g3
      have g3 : y.2.1 = putB l at_.toNat n.toNat v := g3
      rw [← g3] at hk
      exact Fin.same hk
theorem put64_K : ConOk Go.Proofs.Try.prog 92 (Con.fn (List Int × Nat × Int × Int × Int) (fun (l, c, at_, n, v) => [.s 0 0 1 l.length c, .v (.int .i64 at_), .v (.int .i64 n), .v (.int .u64 v)]) (fun (l, c, _, _, _) => [.blk 5 (.ints .u8 l) c]) (fun (l, c, at_, n, v) => 0 ≤ at_ ∧ 0 ≤ n ∧ at_ + n ≤ l.length ∧ l.length ≤ 1099511627776) (fun _ => .v (.bool true)) (fun (l, c, at_, n, v) => [.blk 5 (.ints .u8 (putB l at_.toNat n.toNat v)) c])) :=
  conOk_fn (T := tab) mix Go.Proofs.Try.func92 (by decide +kernel) (by kernel_rfl) [24] [] (fun n => by rw [Go.Proofs.Try.ntmps92]; exact Nat.le_of_ble_eq_true rfl) (fun (l, c, at_, n, v) _ => ⟨trivial, (fun x hx => by simp at hx; subst hx; exact .blk trivial), Nat.le_refl _⟩) (fun (l, c, at_, n, v) _ x hx => by simp at hx; subst hx; trivial) (fun (l, c, at_, n, v) k h0 hk => put64_c l c at_ n v k h0 hk)
theorem put64_at {avs : List AV} {H : List Chunk} {k : K} (l : List Int) (c : Nat) (at_ n v : Int) (i : Nat) (h0 : 0 ≤ at_ ∧ 0 ≤ n ∧ at_ + n ≤ l.length ∧ l.length ≤ 1099511627776) (hc : nth H i = some (.blk 5 (.ints .u8 l) c)) (ha : argsM H [i] [.s 0 0 1 l.length c, .v (.int .i64 at_), .v (.int .i64 n), .v (.int .u64 v)] avs)
    (h : k (.v (.bool true)) (H.set i (.blk 5 (.ints .u8 (putB l at_.toNat n.toNat v)) c))) : CallP Go.Proofs.Try.prog 92 avs H k :=
  CallP.mk ⟨_, put64_K.real, Con.spec put64_K, (l, c, at_, n, v), [i], ⟨h0, rfl, ⟨hc, trivial⟩, ha⟩, (numK_eq H.length (fun N => k (AV.ren (fren [i] N) (.v (.bool true))) (putAll H [i] [Chunk.ren (fren [i] N) (.blk 5 (.ints .u8 (putB l at_.toNat n.toNat v)) c)]))).mpr (by simpa [putAll, AV.ren, Chunk.ren, Cont.ren] using h)⟩
theorem Put64_c (l : List Int) (c : Nat) (at_ v : Int) (k : K) (h0 : 0 ≤ at_ ∧ at_ + 8 ≤ l.length ∧ l.length ≤ 1099511627776) (hk : k (.v (.bool true)) [.blk 5 (.ints .u8 (putB l at_.toNat 8 v)) c]) :
    evFunc tab [] [] Go.Proofs.Try.f65 [.s 0 0 1 l.length c, .v (.int .i64 at_), .v (.int .u64 v)] [.blk 5 (.ints .u8 l) c] k := by
  repeat' (first
    | (with_reducible first | exact True.intro | apply And.intro | apply If_true | apply If_false | apply If_not)
    | ((with_reducible apply VC.mk); exact vt)
    | ((with_reducible apply If_dec) <;> intro hc <;> (try (exfalso; omega)))
    | ((with_reducible apply If_any) <;> intro hc)
    | ((with_reducible first | apply PF.mk | apply DrawP.mk); (focus kernel_rfl))
    | ((with_reducible apply Same.mk); (focus rfl); (first | exact trivial | exact rfl))
    | (intro cap hcap)
    | ((fail_if_success (with_reducible apply st)); conv => whnf))
  refine put64_at l c at_ 8 v 0 (by omega) rfl ⟨rfl, rfl, rfl, rfl, trivial⟩ ?_
  repeat' (first
    | (with_reducible first | exact True.intro | apply And.intro | apply If_true | apply If_false | apply If_not)
    | ((with_reducible apply VC.mk); exact vt)
    | ((with_reducible apply If_dec) <;> intro hc <;> (try (exfalso; omega)))
    | ((with_reducible apply If_any) <;> intro hc)
    | ((with_reducible first | apply PF.mk | apply DrawP.mk); (focus kernel_rfl))
    | ((with_reducible apply Same.mk); (focus rfl); (first | exact trivial | exact rfl))
    | (intro cap hcap)
    | ((fail_if_success (with_reducible apply st)); conv => whnf))
  exact Fin.same hk
theorem Put64_K : ConOk Go.Proofs.Try.prog 65 (Con.fn (List Int × Nat × Int × Int) (fun (l, c, at_, v) => [.s 0 0 1 l.length c, .v (.int .i64 at_), .v (.int .u64 v)]) (fun (l, c, _, _) => [.blk 5 (.ints .u8 l) c]) (fun (l, c, at_, v) => 0 ≤ at_ ∧ at_ + 8 ≤ l.length ∧ l.length ≤ 1099511627776) (fun _ => .v (.bool true)) (fun (l, c, at_, v) => [.blk 5 (.ints .u8 (putB l at_.toNat 8 v)) c])) :=
  conOk_fn (T := tab) mix Go.Proofs.Try.func65 (by decide +kernel) (by kernel_rfl) [] [] (fun n => by rw [Go.Proofs.Try.ntmps65]; exact Nat.le_of_ble_eq_true rfl) (fun (l, c, at_, v) _ => ⟨trivial, (fun x hx => by simp at hx; subst hx; exact .blk trivial), Nat.le_refl _⟩) (fun (l, c, at_, v) _ x hx => by simp at hx; subst hx; trivial) (fun (l, c, at_, v) k h0 hk => Put64_c l c at_ v k h0 hk)
theorem Put64_at {avs : List AV} {H : List Chunk} {k : K} (l : List Int) (c : Nat) (at_ v : Int) (i : Nat) (h0 : 0 ≤ at_ ∧ at_ + 8 ≤ l.length ∧ l.length ≤ 1099511627776) (hc : nth H i = some (.blk 5 (.ints .u8 l) c)) (ha : argsM H [i] [.s 0 0 1 l.length c, .v (.int .i64 at_), .v (.int .u64 v)] avs)
    (h : k (.v (.bool true)) (H.set i (.blk 5 (.ints .u8 (putB l at_.toNat 8 v)) c))) : CallP Go.Proofs.Try.prog 65 avs H k :=
  CallP.mk ⟨_, Put64_K.real, Con.spec Put64_K, (l, c, at_, v), [i], ⟨h0, rfl, ⟨hc, trivial⟩, ha⟩, (numK_eq H.length (fun N => k (AV.ren (fren [i] N) (.v (.bool true))) (putAll H [i] [Chunk.ren (fren [i] N) (.blk 5 (.ints .u8 (putB l at_.toNat 8 v)) c)]))).mpr (by simpa [putAll, AV.ren, Chunk.ren, Cont.ren] using h)⟩
/-- What is read: a number, or none. -/
def got64 (l : List Int) (at_ : Int) (v : Int) (b : Bool) : Prop := (0 ≤ at_ ∧ at_ + 8 ≤ l.length ∧ b = true ∧ v = leV ((l.drop at_.toNat).take 8)) ∨ (¬ (0 ≤ at_ ∧ at_ + 8 ≤ l.length) ∧ b = false ∧ v = 0)
set_option maxHeartbeats 4000000 in
theorem little64_c (l : List Int) (at_ : Int) (k : K) (h0 : l.length ≤ 1099511627776 ∧ B8 l ∧ at_ ≤ 1099511627776) (hk : ∀ v b, got64 l at_ v b → k (.tup [.v (.int .u64 v), .v (.bool b)]) []) :
    evFunc tab [] [] Go.Proofs.Try.f89 [.im false 1 l.length (.ints .u8 l), .v (.int .i64 at_), .v (.int .i64 8)] [] k := by
  repeat' (first
    | (with_reducible first | exact True.intro | apply And.intro | apply If_true | apply If_false | apply If_not)
    | ((with_reducible apply VC.mk); exact vt)
    | ((with_reducible apply If_dec) <;> intro hc <;> (try (exfalso; omega)))
    | ((with_reducible apply If_any) <;> intro hc)
    | ((with_reducible first | apply PF.mk | apply DrawP.mk); (focus kernel_rfl))
    | ((with_reducible apply Same.mk); (focus rfl); (first | exact trivial | exact rfl))
    | (intro cap hcap)
    | ((fail_if_success (with_reducible apply st)); conv => whnf))
  refine oin_at l at_ 8 h0.1 ⟨⟨rfl, rfl, rfl⟩, rfl, rfl, trivial⟩ ?_
  intro r hr
  by_cases hin : 0 ≤ at_ ∧ at_ + 8 ≤ l.length
  case neg =>
    have hr : r = false := by
      cases r
      · rfl
      · exact absurd (hr.1 rfl) (by omega)
    subst hr
    repeat' (first
    | (with_reducible first | exact True.intro | apply And.intro | apply If_true | apply If_false | apply If_not)
    | ((with_reducible apply VC.mk); exact vt)
    | ((with_reducible apply If_dec) <;> intro hc <;> (try (exfalso; omega)))
    | ((with_reducible apply If_any) <;> intro hc)
    | ((with_reducible first | apply PF.mk | apply DrawP.mk); (focus kernel_rfl))
    | ((with_reducible apply Same.mk); (focus rfl); (first | exact trivial | exact rfl))
    | (intro cap hcap)
    | ((fail_if_success (with_reducible apply st)); conv => whnf))
    exact Fin.same (hk 0 false (.inr ⟨hin, rfl, rfl⟩))
  have hr : r = true := hr.2 (by omega)
  subst hr
  repeat' (first
    | (with_reducible first | exact True.intro | apply And.intro | apply If_true | apply If_false | apply If_not)
    | ((with_reducible apply VC.mk); exact vt)
    | ((with_reducible apply If_dec) <;> intro hc <;> (try (exfalso; omega)))
    | ((with_reducible apply If_any) <;> intro hc)
    | ((with_reducible first | apply PF.mk | apply DrawP.mk); (focus kernel_rfl))
    | ((with_reducible apply Same.mk); (focus rfl); (first | exact trivial | exact rfl))
    | (intro cap hcap)
    | ((fail_if_success (with_reducible apply st)); conv => whnf))
  refine LoopP.mk ⟨Nat × Int, fun y => y.1 ≤ 8 ∧ y.2 = leV ((l.drop (at_.toNat + (8 - y.1))).take y.1), fun y => ([(0, .im false 1 l.length (.ints .u8 l)), (1, .v (.int .i64 at_)), (8, .v (.int .u64 y.2)), (9, .v (.int .i64 (8 - 1 - (y.1 : Int))))], []), fun y => 8 - y.1, (0, 0), ⟨Nat.zero_le _, by simp [leV]⟩, Fit.ren [] [] rfl rfl trivial trivial ?_, ?_⟩
  · repeat' (first
    | (with_reducible first | exact True.intro | apply And.intro | apply If_true | apply If_false | apply If_not)
    | ((with_reducible apply VC.mk); exact vt)
    | ((with_reducible apply If_dec) <;> intro hc <;> (try (exfalso; omega)))
    | ((with_reducible apply If_any) <;> intro hc)
    | ((with_reducible first | apply PF.mk | apply DrawP.mk); (focus kernel_rfl))
    | ((with_reducible apply Same.mk); (focus rfl); (first | exact trivial | exact rfl))
    | (intro cap hcap)
    | ((fail_if_success (with_reducible apply st)); conv => whnf))
  · intro y hy
    obtain ⟨g1, g2⟩ := hy
    have hb := h0.2.1.getD (at_.toNat + (8 - (y.1 + 1)))
    have hs : B8 ((l.drop (at_.toNat + (8 - y.1))).take y.1) := (h0.2.1.drop _).take _
    have hl1 := leV_nonneg hs
    have hl2 := leV_lt hs
    have hll : ((l.drop (at_.toNat + (8 - y.1))).take y.1).length = y.1 := by rw [List.length_take, List.length_drop]; omega
    rw [hll] at hl2
    rw [← g2] at hl1 hl2
    have e0 : (at_ + (8 - 1 - (y.1 : Int))).toNat = 0 + (at_.toNat + (8 - (y.1 + 1))) ∨ ¬ (0 ≤ (8 : Int) - 1 - (y.1 : Int)) := by omega
    repeat' (first
    | (with_reducible first | exact True.intro | apply And.intro | apply If_true | apply If_false | apply If_not)
    | ((with_reducible apply VC.mk); exact vt)
    | ((with_reducible apply If_dec) <;> intro hc <;> (try (exfalso; omega)))
    | ((with_reducible apply If_any) <;> intro hc)
    | ((with_reducible first | apply PF.mk | apply DrawP.mk); (focus kernel_rfl))
    | ((with_reducible apply Same.mk); (focus rfl); (first | exact trivial | exact rfl))
    | (intro cap hcap)
    | ((fail_if_success (with_reducible apply st)); conv => whnf))
    · rcases e0 with e0 | e0
      · rw [e0, Nat.zero_add]; exact VC.mk (by simp only [inR]; omega)
      · exact absurd hc e0
    · rcases e0 with e0 | e0
      case inr => exact absurd hc e0
      rw [Nat.zero_add] at e0
      generalize hbb : l.getD (at_.toNat + (8 - (y.1 + 1))) 0 = bb at *
      have hp : (256 : Int) ^ y.1 ≤ 256 ^ (8 - 1) := pow256_le (by omega)
      have hp2 : (256 : Int) ^ (8 - 1) = 72057594037927936 := by decide
      have hor := or64 y.2 bb hl1 (by omega) hb.1 hb.2
      refine Round.mk ⟨(y.1 + 1, y.2 * 256 + bb), ⟨by show y.1 + 1 ≤ _; omega, ?_⟩, by show 8 - (y.1 + 1) < 8 - y.1; omega, Fit.ren [] [] rfl rfl trivial trivial ?_⟩
      · have hlt : at_.toNat + (8 - (y.1 + 1)) < l.length := by omega
        rw [List.drop_eq_getElem_cons hlt, List.take_succ_cons, leV, show at_.toNat + (8 - (y.1 + 1)) + 1 = at_.toNat + (8 - y.1) by omega, ← g2, ← hbb, List.getD_eq_getElem?_getD, List.getElem?_eq_getElem hlt]
        show y.2 * 256 + l[at_.toNat + (8 - (y.1 + 1))] = l[at_.toNat + (8 - (y.1 + 1))] + 256 * y.2
        omega
      · repeat' (first
    | (with_reducible first | exact True.intro | apply And.intro | apply If_true | apply If_false | apply If_not)
    | ((with_reducible apply VC.mk); exact vt)
    | ((with_reducible apply If_dec) <;> intro hc <;> (try (exfalso; omega)))
    | ((with_reducible apply If_any) <;> intro hc)
    | ((with_reducible first | apply PF.mk | apply DrawP.mk); (focus kernel_rfl))
    | ((with_reducible apply Same.mk); (focus rfl); (first | exact trivial | exact rfl))
    | (intro cap hcap)
    | ((fail_if_success (with_reducible apply st)); conv => whnf))
        · refine VC.mk ?_
          rw [e0, hbb]
          exact congrArg (Value.int .u64) hor
        all_goals (refine VC.mk ?_; exact congrArg (Value.int .i64) (by omega))
    · refine Fin.same (hk _ _ (.inl ⟨hin.1, hin.2, rfl, ?_⟩))
      rw [g2, show y.1 = 8 by omega]
      simp
theorem little64_K : ConOk Go.Proofs.Try.prog 89 (Con.of (List Int × Int) (Int × Bool) (fun (l, at_) => [.im false 1 l.length (.ints .u8 l), .v (.int .i64 at_), .v (.int .i64 8)]) (fun _ => []) (fun (l, at_) => l.length ≤ 1099511627776 ∧ B8 l ∧ at_ ≤ 1099511627776) (fun (l, at_) (v, b) => got64 l at_ v b) (fun _ (v, b) => .tup [.v (.int .u64 v), .v (.bool b)]) (fun _ _ => [])) :=
  conOk_rel (T := tab) mix Go.Proofs.Try.func89 (by decide +kernel) (by kernel_rfl) [] [] (fun n => by rw [Go.Proofs.Try.ntmps89]; exact Nat.le_of_ble_eq_true rfl) (fun n z _ _ => ⟨⟨trivial, trivial, trivial⟩, (fun c hc => by cases hc), Nat.le_refl _⟩) (fun n _ c hc => by cases hc) (fun (l, at_) k h0 hk => little64_c l at_ k h0 (fun v b hr => hk (v, b) hr))
theorem little64_at {avs : List AV} {H : List Chunk} {k : K} (l : List Int) (at_ : Int) (h0 : l.length ≤ 1099511627776 ∧ B8 l ∧ at_ ≤ 1099511627776) (ha : argsM H [] [.im false 1 l.length (.ints .u8 l), .v (.int .i64 at_), .v (.int .i64 8)] avs) (h : ∀ v b, got64 l at_ v b → k (.tup [.v (.int .u64 v), .v (.bool b)]) H) : CallP Go.Proofs.Try.prog 89 avs H k :=
  CallP.mk ⟨_, little64_K.real, Con.spec little64_K, (l, at_), [], ⟨h0, rfl, trivial, ha⟩, fun (v, b) hr => (numK_eq H.length (fun N => k (AV.ren (fren [] N) (.tup [.v (.int .u64 v), .v (.bool b)])) (putAll H [] []))).mpr (by simpa [putAll, AV.ren, rens] using h v b hr)⟩
theorem U64_c (l : List Int) (at_ : Int) (k : K) (h0 : l.length ≤ 1099511627776 ∧ B8 l ∧ at_ ≤ 1099511627776) (hk : ∀ v b, got64 l at_ v b → k (.tup [.v (.int .u64 v), .v (.bool b)]) []) :
    evFunc tab [] [] Go.Proofs.Try.f61 [.im false 1 l.length (.ints .u8 l), .v (.int .i64 at_)] [] k := by
  repeat' (first
    | (with_reducible first | exact True.intro | apply And.intro | apply If_true | apply If_false | apply If_not)
    | ((with_reducible apply VC.mk); exact vt)
    | ((with_reducible apply If_dec) <;> intro hc <;> (try (exfalso; omega)))
    | ((with_reducible apply If_any) <;> intro hc)
    | ((with_reducible first | apply PF.mk | apply DrawP.mk); (focus kernel_rfl))
    | ((with_reducible apply Same.mk); (focus rfl); (first | exact trivial | exact rfl))
    | (intro cap hcap)
    | ((fail_if_success (with_reducible apply st)); conv => whnf))
  refine little64_at l at_ h0 ⟨⟨rfl, rfl, rfl⟩, rfl, rfl, trivial⟩ ?_
  intro v b hr
  repeat' (first
    | (with_reducible first | exact True.intro | apply And.intro | apply If_true | apply If_false | apply If_not)
    | ((with_reducible apply VC.mk); exact vt)
    | ((with_reducible apply If_dec) <;> intro hc <;> (try (exfalso; omega)))
    | ((with_reducible apply If_any) <;> intro hc)
    | ((with_reducible first | apply PF.mk | apply DrawP.mk); (focus kernel_rfl))
    | ((with_reducible apply Same.mk); (focus rfl); (first | exact trivial | exact rfl))
    | (intro cap hcap)
    | ((fail_if_success (with_reducible apply st)); conv => whnf))
  exact Fin.same (hk v b hr)
theorem U64_K : ConOk Go.Proofs.Try.prog 61 (Con.of (List Int × Int) (Int × Bool) (fun (l, at_) => [.im false 1 l.length (.ints .u8 l), .v (.int .i64 at_)]) (fun _ => []) (fun (l, at_) => l.length ≤ 1099511627776 ∧ B8 l ∧ at_ ≤ 1099511627776) (fun (l, at_) (v, b) => got64 l at_ v b) (fun _ (v, b) => .tup [.v (.int .u64 v), .v (.bool b)]) (fun _ _ => [])) :=
  conOk_rel (T := tab) mix Go.Proofs.Try.func61 (by decide +kernel) (by kernel_rfl) [] [] (fun n => by rw [Go.Proofs.Try.ntmps61]; exact Nat.le_of_ble_eq_true rfl) (fun n z _ _ => ⟨⟨trivial, trivial, trivial⟩, (fun c hc => by cases hc), Nat.le_refl _⟩) (fun n _ c hc => by cases hc) (fun (l, at_) k h0 hk => U64_c l at_ k h0 (fun v b hr => hk (v, b) hr))
theorem U64_at {avs : List AV} {H : List Chunk} {k : K} (l : List Int) (at_ : Int) (h0 : l.length ≤ 1099511627776 ∧ B8 l ∧ at_ ≤ 1099511627776) (ha : argsM H [] [.im false 1 l.length (.ints .u8 l), .v (.int .i64 at_)] avs) (h : ∀ v b, got64 l at_ v b → k (.tup [.v (.int .u64 v), .v (.bool b)]) H) : CallP Go.Proofs.Try.prog 61 avs H k :=
  CallP.mk ⟨_, U64_K.real, Con.spec U64_K, (l, at_), [], ⟨h0, rfl, trivial, ha⟩, fun (v, b) hr => (numK_eq H.length (fun N => k (AV.ren (fren [] N) (.tup [.v (.int .u64 v), .v (.bool b)])) (putAll H [] []))).mpr (by simpa [putAll, AV.ren, rens] using h v b hr)⟩
set_option maxHeartbeats 4000000 in
theorem put32_c (l : List Int) (c : Nat) (at_ n v : Int) (k : K) (h0 : 0 ≤ at_ ∧ 0 ≤ n ∧ at_ + n ≤ l.length ∧ l.length ≤ 1099511627776) (hk : k (.v (.bool true)) [.blk 5 (.ints .u8 (putB l at_.toNat n.toNat v)) c]) :
    evFunc tab [24] [] Go.Proofs.Try.f84 [.s 0 0 1 l.length c, .v (.int .i64 at_), .v (.int .i64 n), .v (.int .u32 v)] [.blk 5 (.ints .u8 l) c] k := by
  repeat' (first
    | (with_reducible first | exact True.intro | apply And.intro | apply If_true | apply If_false | apply If_not)
    | ((with_reducible apply VC.mk); exact vt)
    | ((with_reducible apply If_dec) <;> intro hc <;> (try (exfalso; omega)))
    | ((with_reducible apply If_any) <;> intro hc)
    | ((with_reducible first | apply PF.mk | apply DrawP.mk); (focus kernel_rfl))
    | ((with_reducible apply Same.mk); (focus rfl); (first | exact trivial | exact rfl))
    | (intro cap hcap)
    | ((fail_if_success (with_reducible apply st)); conv => whnf))
  refine oin_at l at_ n h0.2.2.2 ⟨⟨by omega, rfl, rfl, by show Cont.ints _ _ = Cont.ints _ _; rw [List.drop_zero, List.take_length], rfl, Nat.one_pos⟩, rfl, rfl, trivial⟩ ?_
  intro r hr
  have hr : r = true := hr.2 (by omega)
  subst hr
  repeat' (first
    | (with_reducible first | exact True.intro | apply And.intro | apply If_true | apply If_false | apply If_not)
    | ((with_reducible apply VC.mk); exact vt)
    | ((with_reducible apply If_dec) <;> intro hc <;> (try (exfalso; omega)))
    | ((with_reducible apply If_any) <;> intro hc)
    | ((with_reducible first | apply PF.mk | apply DrawP.mk); (focus kernel_rfl))
    | ((with_reducible apply Same.mk); (focus rfl); (first | exact trivial | exact rfl))
    | (intro cap hcap)
    | ((fail_if_success (with_reducible apply st)); conv => whnf))
  refine LoopP.mk ⟨Nat × List Int × Int, fun y => y.1 ≤ n.toNat ∧ y.2.1.length = l.length ∧ putB y.2.1 (at_.toNat + y.1) (n.toNat - y.1) y.2.2 = putB l at_.toNat n.toNat v, fun y => ([(0, .s 0 0 1 l.length c), (1, .v (.int .i64 at_)), (3, .v (.int .u32 y.2.2)), (15, .v (.int .i64 n)), (16, .v (.int .i64 y.1))], [.blk 5 (.ints .u8 y.2.1) c]), fun y => n.toNat - y.1, (0, l, v), ⟨Nat.zero_le _, rfl, rfl⟩, Fit.ren [0] [] rfl rfl trivial ?_ ?_, ?_⟩
  · repeat' (first
    | (with_reducible first | exact True.intro | apply And.intro | apply If_true | apply If_false | apply If_not)
    | ((with_reducible apply VC.mk); exact vt)
    | ((with_reducible apply If_dec) <;> intro hc <;> (try (exfalso; omega)))
    | ((with_reducible apply If_any) <;> intro hc)
    | ((with_reducible first | apply PF.mk | apply DrawP.mk); (focus kernel_rfl))
    | ((with_reducible apply Same.mk); (focus rfl); (first | exact trivial | exact rfl))
    | (intro cap hcap)
    | ((fail_if_success (with_reducible apply st)); conv => whnf))
  · repeat' (first
    | (with_reducible first | exact True.intro | apply And.intro | apply If_true | apply If_false | apply If_not)
    | ((with_reducible apply VC.mk); exact vt)
    | ((with_reducible apply If_dec) <;> intro hc <;> (try (exfalso; omega)))
    | ((with_reducible apply If_any) <;> intro hc)
    | ((with_reducible first | apply PF.mk | apply DrawP.mk); (focus kernel_rfl))
    | ((with_reducible apply Same.mk); (focus rfl); (first | exact trivial | exact rfl))
    | (intro cap hcap)
    | ((fail_if_success (with_reducible apply st)); conv => whnf))
  · intro y hy
    obtain ⟨g1, g2, g3⟩ := hy
    repeat' (first
    | (with_reducible first | exact True.intro | apply And.intro | apply If_true | apply If_false | apply If_not)
    | ((with_reducible apply VC.mk); exact vt)
    | ((with_reducible apply If_dec) <;> intro hc <;> (try (exfalso; omega)))
    | ((with_reducible apply If_any) <;> intro hc)
    | ((with_reducible first | apply PF.mk | apply DrawP.mk); (focus kernel_rfl))
    | ((with_reducible apply Same.mk); (focus rfl); (first | exact trivial | exact rfl))
    | (intro cap hcap)
    | ((fail_if_success (with_reducible apply st)); conv => whnf))
    · refine Round.mk ⟨(y.1 + 1, y.2.1.set (at_.toNat + y.1) (y.2.2 % 256), y.2.2 / 256), ⟨by show y.1 + 1 ≤ _; omega, by show (y.2.1.set _ _).length = _; rw [List.length_set, g2], ?_⟩, by show n.toNat - (y.1 + 1) < n.toNat - y.1; omega, Fit.ren [0] [] rfl rfl trivial ?_ ?_⟩
      · rw [← g3, show n.toNat - y.1 = (n.toNat - (y.1 + 1)) + 1 by omega]
        rfl
      · refine ⟨⟨VC.mk ⟨rfl, rfl⟩, VC.mk ⟨rfl, ?_⟩⟩, trivial⟩
        rw [wu8, show 0 + (at_ + (y.1 : Int)).toNat = at_.toNat + y.1 by omega]
        exact List.prefix_rfl
      · repeat' (first
    | (with_reducible first | exact True.intro | apply And.intro | apply If_true | apply If_false | apply If_not)
    | ((with_reducible apply VC.mk); exact vt)
    | ((with_reducible apply If_dec) <;> intro hc <;> (try (exfalso; omega)))
    | ((with_reducible apply If_any) <;> intro hc)
    | ((with_reducible first | apply PF.mk | apply DrawP.mk); (focus kernel_rfl))
    | ((with_reducible apply Same.mk); (focus rfl); (first | exact trivial | exact rfl))
    | (intro cap hcap)
    | ((fail_if_success (with_reducible apply st)); conv => whnf))
    · have e : n.toNat - y.1 = 0 := by omega
      rw [e] at g3
      have g3 : y.2.1 = putB l at_.toNat n.toNat v := g3
      rw [← g3] at hk
      exact Fin.same hk
theorem put32_K : ConOk Go.Proofs.Try.prog 84 (Con.fn (List Int × Nat × Int × Int × Int) (fun (l, c, at_, n, v) => [.s 0 0 1 l.length c, .v (.int .i64 at_), .v (.int .i64 n), .v (.int .u32 v)]) (fun (l, c, _, _, _) => [.blk 5 (.ints .u8 l) c]) (fun (l, c, at_, n, v) => 0 ≤ at_ ∧ 0 ≤ n ∧ at_ + n ≤ l.length ∧ l.length ≤ 1099511627776) (fun _ => .v (.bool true)) (fun (l, c, at_, n, v) => [.blk 5 (.ints .u8 (putB l at_.toNat n.toNat v)) c])) :=
  conOk_fn (T := tab) mix Go.Proofs.Try.func84 (by decide +kernel) (by kernel_rfl) [24] [] (fun n => by rw [Go.Proofs.Try.ntmps84]; exact Nat.le_of_ble_eq_true rfl) (fun (l, c, at_, n, v) _ => ⟨trivial, (fun x hx => by simp at hx; subst hx; exact .blk trivial), Nat.le_refl _⟩) (fun (l, c, at_, n, v) _ x hx => by simp at hx; subst hx; trivial) (fun (l, c, at_, n, v) k h0 hk => put32_c l c at_ n v k h0 hk)
theorem put32_at {avs : List AV} {H : List Chunk} {k : K} (l : List Int) (c : Nat) (at_ n v : Int) (i : Nat) (h0 : 0 ≤ at_ ∧ 0 ≤ n ∧ at_ + n ≤ l.length ∧ l.length ≤ 1099511627776) (hc : nth H i = some (.blk 5 (.ints .u8 l) c)) (ha : argsM H [i] [.s 0 0 1 l.length c, .v (.int .i64 at_), .v (.int .i64 n), .v (.int .u32 v)] avs)
    (h : k (.v (.bool true)) (H.set i (.blk 5 (.ints .u8 (putB l at_.toNat n.toNat v)) c))) : CallP Go.Proofs.Try.prog 84 avs H k :=
  CallP.mk ⟨_, put32_K.real, Con.spec put32_K, (l, c, at_, n, v), [i], ⟨h0, rfl, ⟨hc, trivial⟩, ha⟩, (numK_eq H.length (fun N => k (AV.ren (fren [i] N) (.v (.bool true))) (putAll H [i] [Chunk.ren (fren [i] N) (.blk 5 (.ints .u8 (putB l at_.toNat n.toNat v)) c)]))).mpr (by simpa [putAll, AV.ren, Chunk.ren, Cont.ren] using h)⟩
theorem Put32_c (l : List Int) (c : Nat) (at_ v : Int) (k : K) (h0 : 0 ≤ at_ ∧ at_ + 4 ≤ l.length ∧ l.length ≤ 1099511627776) (hk : k (.v (.bool true)) [.blk 5 (.ints .u8 (putB l at_.toNat 4 v)) c]) :
    evFunc tab [] [] Go.Proofs.Try.f46 [.s 0 0 1 l.length c, .v (.int .i64 at_), .v (.int .u32 v)] [.blk 5 (.ints .u8 l) c] k := by
  repeat' (first
    | (with_reducible first | exact True.intro | apply And.intro | apply If_true | apply If_false | apply If_not)
    | ((with_reducible apply VC.mk); exact vt)
    | ((with_reducible apply If_dec) <;> intro hc <;> (try (exfalso; omega)))
    | ((with_reducible apply If_any) <;> intro hc)
    | ((with_reducible first | apply PF.mk | apply DrawP.mk); (focus kernel_rfl))
    | ((with_reducible apply Same.mk); (focus rfl); (first | exact trivial | exact rfl))
    | (intro cap hcap)
    | ((fail_if_success (with_reducible apply st)); conv => whnf))
  refine put32_at l c at_ 4 v 0 (by omega) rfl ⟨rfl, rfl, rfl, rfl, trivial⟩ ?_
  repeat' (first
    | (with_reducible first | exact True.intro | apply And.intro | apply If_true | apply If_false | apply If_not)
    | ((with_reducible apply VC.mk); exact vt)
    | ((with_reducible apply If_dec) <;> intro hc <;> (try (exfalso; omega)))
    | ((with_reducible apply If_any) <;> intro hc)
    | ((with_reducible first | apply PF.mk | apply DrawP.mk); (focus kernel_rfl))
    | ((with_reducible apply Same.mk); (focus rfl); (first | exact trivial | exact rfl))
    | (intro cap hcap)
    | ((fail_if_success (with_reducible apply st)); conv => whnf))
  exact Fin.same hk
theorem Put32_K : ConOk Go.Proofs.Try.prog 46 (Con.fn (List Int × Nat × Int × Int) (fun (l, c, at_, v) => [.s 0 0 1 l.length c, .v (.int .i64 at_), .v (.int .u32 v)]) (fun (l, c, _, _) => [.blk 5 (.ints .u8 l) c]) (fun (l, c, at_, v) => 0 ≤ at_ ∧ at_ + 4 ≤ l.length ∧ l.length ≤ 1099511627776) (fun _ => .v (.bool true)) (fun (l, c, at_, v) => [.blk 5 (.ints .u8 (putB l at_.toNat 4 v)) c])) :=
  conOk_fn (T := tab) mix Go.Proofs.Try.func46 (by decide +kernel) (by kernel_rfl) [] [] (fun n => by rw [Go.Proofs.Try.ntmps46]; exact Nat.le_of_ble_eq_true rfl) (fun (l, c, at_, v) _ => ⟨trivial, (fun x hx => by simp at hx; subst hx; exact .blk trivial), Nat.le_refl _⟩) (fun (l, c, at_, v) _ x hx => by simp at hx; subst hx; trivial) (fun (l, c, at_, v) k h0 hk => Put32_c l c at_ v k h0 hk)
theorem Put32_at {avs : List AV} {H : List Chunk} {k : K} (l : List Int) (c : Nat) (at_ v : Int) (i : Nat) (h0 : 0 ≤ at_ ∧ at_ + 4 ≤ l.length ∧ l.length ≤ 1099511627776) (hc : nth H i = some (.blk 5 (.ints .u8 l) c)) (ha : argsM H [i] [.s 0 0 1 l.length c, .v (.int .i64 at_), .v (.int .u32 v)] avs)
    (h : k (.v (.bool true)) (H.set i (.blk 5 (.ints .u8 (putB l at_.toNat 4 v)) c))) : CallP Go.Proofs.Try.prog 46 avs H k :=
  CallP.mk ⟨_, Put32_K.real, Con.spec Put32_K, (l, c, at_, v), [i], ⟨h0, rfl, ⟨hc, trivial⟩, ha⟩, (numK_eq H.length (fun N => k (AV.ren (fren [i] N) (.v (.bool true))) (putAll H [i] [Chunk.ren (fren [i] N) (.blk 5 (.ints .u8 (putB l at_.toNat 4 v)) c)]))).mpr (by simpa [putAll, AV.ren, Chunk.ren, Cont.ren] using h)⟩
/-- What is read: a number, or none. -/
def got32 (l : List Int) (at_ : Int) (v : Int) (b : Bool) : Prop := (0 ≤ at_ ∧ at_ + 4 ≤ l.length ∧ b = true ∧ v = leV ((l.drop at_.toNat).take 4)) ∨ (¬ (0 ≤ at_ ∧ at_ + 4 ≤ l.length) ∧ b = false ∧ v = 0)
set_option maxHeartbeats 4000000 in
theorem little32_c (l : List Int) (at_ : Int) (k : K) (h0 : l.length ≤ 1099511627776 ∧ B8 l ∧ at_ ≤ 1099511627776) (hk : ∀ v b, got32 l at_ v b → k (.tup [.v (.int .u32 v), .v (.bool b)]) []) :
    evFunc tab [] [] Go.Proofs.Try.f85 [.im false 1 l.length (.ints .u8 l), .v (.int .i64 at_), .v (.int .i64 4)] [] k := by
  repeat' (first
    | (with_reducible first | exact True.intro | apply And.intro | apply If_true | apply If_false | apply If_not)
    | ((with_reducible apply VC.mk); exact vt)
    | ((with_reducible apply If_dec) <;> intro hc <;> (try (exfalso; omega)))
    | ((with_reducible apply If_any) <;> intro hc)
    | ((with_reducible first | apply PF.mk | apply DrawP.mk); (focus kernel_rfl))
    | ((with_reducible apply Same.mk); (focus rfl); (first | exact trivial | exact rfl))
    | (intro cap hcap)
    | ((fail_if_success (with_reducible apply st)); conv => whnf))
  refine oin_at l at_ 4 h0.1 ⟨⟨rfl, rfl, rfl⟩, rfl, rfl, trivial⟩ ?_
  intro r hr
  by_cases hin : 0 ≤ at_ ∧ at_ + 4 ≤ l.length
  case neg =>
    have hr : r = false := by
      cases r
      · rfl
      · exact absurd (hr.1 rfl) (by omega)
    subst hr
    repeat' (first
    | (with_reducible first | exact True.intro | apply And.intro | apply If_true | apply If_false | apply If_not)
    | ((with_reducible apply VC.mk); exact vt)
    | ((with_reducible apply If_dec) <;> intro hc <;> (try (exfalso; omega)))
    | ((with_reducible apply If_any) <;> intro hc)
    | ((with_reducible first | apply PF.mk | apply DrawP.mk); (focus kernel_rfl))
    | ((with_reducible apply Same.mk); (focus rfl); (first | exact trivial | exact rfl))
    | (intro cap hcap)
    | ((fail_if_success (with_reducible apply st)); conv => whnf))
    exact Fin.same (hk 0 false (.inr ⟨hin, rfl, rfl⟩))
  have hr : r = true := hr.2 (by omega)
  subst hr
  repeat' (first
    | (with_reducible first | exact True.intro | apply And.intro | apply If_true | apply If_false | apply If_not)
    | ((with_reducible apply VC.mk); exact vt)
    | ((with_reducible apply If_dec) <;> intro hc <;> (try (exfalso; omega)))
    | ((with_reducible apply If_any) <;> intro hc)
    | ((with_reducible first | apply PF.mk | apply DrawP.mk); (focus kernel_rfl))
    | ((with_reducible apply Same.mk); (focus rfl); (first | exact trivial | exact rfl))
    | (intro cap hcap)
    | ((fail_if_success (with_reducible apply st)); conv => whnf))
  refine LoopP.mk ⟨Nat × Int, fun y => y.1 ≤ 4 ∧ y.2 = leV ((l.drop (at_.toNat + (4 - y.1))).take y.1), fun y => ([(0, .im false 1 l.length (.ints .u8 l)), (1, .v (.int .i64 at_)), (8, .v (.int .u32 y.2)), (9, .v (.int .i64 (4 - 1 - (y.1 : Int))))], []), fun y => 4 - y.1, (0, 0), ⟨Nat.zero_le _, by simp [leV]⟩, Fit.ren [] [] rfl rfl trivial trivial ?_, ?_⟩
  · repeat' (first
    | (with_reducible first | exact True.intro | apply And.intro | apply If_true | apply If_false | apply If_not)
    | ((with_reducible apply VC.mk); exact vt)
    | ((with_reducible apply If_dec) <;> intro hc <;> (try (exfalso; omega)))
    | ((with_reducible apply If_any) <;> intro hc)
    | ((with_reducible first | apply PF.mk | apply DrawP.mk); (focus kernel_rfl))
    | ((with_reducible apply Same.mk); (focus rfl); (first | exact trivial | exact rfl))
    | (intro cap hcap)
    | ((fail_if_success (with_reducible apply st)); conv => whnf))
  · intro y hy
    obtain ⟨g1, g2⟩ := hy
    have hb := h0.2.1.getD (at_.toNat + (4 - (y.1 + 1)))
    have hs : B8 ((l.drop (at_.toNat + (4 - y.1))).take y.1) := (h0.2.1.drop _).take _
    have hl1 := leV_nonneg hs
    have hl2 := leV_lt hs
    have hll : ((l.drop (at_.toNat + (4 - y.1))).take y.1).length = y.1 := by rw [List.length_take, List.length_drop]; omega
    rw [hll] at hl2
    rw [← g2] at hl1 hl2
    have e0 : (at_ + (4 - 1 - (y.1 : Int))).toNat = 0 + (at_.toNat + (4 - (y.1 + 1))) ∨ ¬ (0 ≤ (4 : Int) - 1 - (y.1 : Int)) := by omega
    repeat' (first
    | (with_reducible first | exact True.intro | apply And.intro | apply If_true | apply If_false | apply If_not)
    | ((with_reducible apply VC.mk); exact vt)
    | ((with_reducible apply If_dec) <;> intro hc <;> (try (exfalso; omega)))
    | ((with_reducible apply If_any) <;> intro hc)
    | ((with_reducible first | apply PF.mk | apply DrawP.mk); (focus kernel_rfl))
    | ((with_reducible apply Same.mk); (focus rfl); (first | exact trivial | exact rfl))
    | (intro cap hcap)
    | ((fail_if_success (with_reducible apply st)); conv => whnf))
    · rcases e0 with e0 | e0
      · rw [e0, Nat.zero_add]; exact VC.mk (by simp only [inR]; omega)
      · exact absurd hc e0
    · rcases e0 with e0 | e0
      case inr => exact absurd hc e0
      rw [Nat.zero_add] at e0
      generalize hbb : l.getD (at_.toNat + (4 - (y.1 + 1))) 0 = bb at *
      have hp : (256 : Int) ^ y.1 ≤ 256 ^ (4 - 1) := pow256_le (by omega)
      have hp2 : (256 : Int) ^ (4 - 1) = 16777216 := by decide
      have hor := or32 y.2 bb hl1 (by omega) hb.1 hb.2
      refine Round.mk ⟨(y.1 + 1, y.2 * 256 + bb), ⟨by show y.1 + 1 ≤ _; omega, ?_⟩, by show 4 - (y.1 + 1) < 4 - y.1; omega, Fit.ren [] [] rfl rfl trivial trivial ?_⟩
      · have hlt : at_.toNat + (4 - (y.1 + 1)) < l.length := by omega
        rw [List.drop_eq_getElem_cons hlt, List.take_succ_cons, leV, show at_.toNat + (4 - (y.1 + 1)) + 1 = at_.toNat + (4 - y.1) by omega, ← g2, ← hbb, List.getD_eq_getElem?_getD, List.getElem?_eq_getElem hlt]
        show y.2 * 256 + l[at_.toNat + (4 - (y.1 + 1))] = l[at_.toNat + (4 - (y.1 + 1))] + 256 * y.2
        omega
      · repeat' (first
    | (with_reducible first | exact True.intro | apply And.intro | apply If_true | apply If_false | apply If_not)
    | ((with_reducible apply VC.mk); exact vt)
    | ((with_reducible apply If_dec) <;> intro hc <;> (try (exfalso; omega)))
    | ((with_reducible apply If_any) <;> intro hc)
    | ((with_reducible first | apply PF.mk | apply DrawP.mk); (focus kernel_rfl))
    | ((with_reducible apply Same.mk); (focus rfl); (first | exact trivial | exact rfl))
    | (intro cap hcap)
    | ((fail_if_success (with_reducible apply st)); conv => whnf))
        · refine VC.mk ?_
          rw [e0, hbb]
          exact congrArg (Value.int .u32) hor
        all_goals (refine VC.mk ?_; exact congrArg (Value.int .i64) (by omega))
    · refine Fin.same (hk _ _ (.inl ⟨hin.1, hin.2, rfl, ?_⟩))
      rw [g2, show y.1 = 4 by omega]
      simp
theorem little32_K : ConOk Go.Proofs.Try.prog 85 (Con.of (List Int × Int) (Int × Bool) (fun (l, at_) => [.im false 1 l.length (.ints .u8 l), .v (.int .i64 at_), .v (.int .i64 4)]) (fun _ => []) (fun (l, at_) => l.length ≤ 1099511627776 ∧ B8 l ∧ at_ ≤ 1099511627776) (fun (l, at_) (v, b) => got32 l at_ v b) (fun _ (v, b) => .tup [.v (.int .u32 v), .v (.bool b)]) (fun _ _ => [])) :=
  conOk_rel (T := tab) mix Go.Proofs.Try.func85 (by decide +kernel) (by kernel_rfl) [] [] (fun n => by rw [Go.Proofs.Try.ntmps85]; exact Nat.le_of_ble_eq_true rfl) (fun n z _ _ => ⟨⟨trivial, trivial, trivial⟩, (fun c hc => by cases hc), Nat.le_refl _⟩) (fun n _ c hc => by cases hc) (fun (l, at_) k h0 hk => little32_c l at_ k h0 (fun v b hr => hk (v, b) hr))
theorem little32_at {avs : List AV} {H : List Chunk} {k : K} (l : List Int) (at_ : Int) (h0 : l.length ≤ 1099511627776 ∧ B8 l ∧ at_ ≤ 1099511627776) (ha : argsM H [] [.im false 1 l.length (.ints .u8 l), .v (.int .i64 at_), .v (.int .i64 4)] avs) (h : ∀ v b, got32 l at_ v b → k (.tup [.v (.int .u32 v), .v (.bool b)]) H) : CallP Go.Proofs.Try.prog 85 avs H k :=
  CallP.mk ⟨_, little32_K.real, Con.spec little32_K, (l, at_), [], ⟨h0, rfl, trivial, ha⟩, fun (v, b) hr => (numK_eq H.length (fun N => k (AV.ren (fren [] N) (.tup [.v (.int .u32 v), .v (.bool b)])) (putAll H [] []))).mpr (by simpa [putAll, AV.ren, rens] using h v b hr)⟩
theorem U32_c (l : List Int) (at_ : Int) (k : K) (h0 : l.length ≤ 1099511627776 ∧ B8 l ∧ at_ ≤ 1099511627776) (hk : ∀ v b, got32 l at_ v b → k (.tup [.v (.int .u32 v), .v (.bool b)]) []) :
    evFunc tab [] [] Go.Proofs.Try.f48 [.im false 1 l.length (.ints .u8 l), .v (.int .i64 at_)] [] k := by
  repeat' (first
    | (with_reducible first | exact True.intro | apply And.intro | apply If_true | apply If_false | apply If_not)
    | ((with_reducible apply VC.mk); exact vt)
    | ((with_reducible apply If_dec) <;> intro hc <;> (try (exfalso; omega)))
    | ((with_reducible apply If_any) <;> intro hc)
    | ((with_reducible first | apply PF.mk | apply DrawP.mk); (focus kernel_rfl))
    | ((with_reducible apply Same.mk); (focus rfl); (first | exact trivial | exact rfl))
    | (intro cap hcap)
    | ((fail_if_success (with_reducible apply st)); conv => whnf))
  refine little32_at l at_ h0 ⟨⟨rfl, rfl, rfl⟩, rfl, rfl, trivial⟩ ?_
  intro v b hr
  repeat' (first
    | (with_reducible first | exact True.intro | apply And.intro | apply If_true | apply If_false | apply If_not)
    | ((with_reducible apply VC.mk); exact vt)
    | ((with_reducible apply If_dec) <;> intro hc <;> (try (exfalso; omega)))
    | ((with_reducible apply If_any) <;> intro hc)
    | ((with_reducible first | apply PF.mk | apply DrawP.mk); (focus kernel_rfl))
    | ((with_reducible apply Same.mk); (focus rfl); (first | exact trivial | exact rfl))
    | (intro cap hcap)
    | ((fail_if_success (with_reducible apply st)); conv => whnf))
  exact Fin.same (hk v b hr)
theorem U32_K : ConOk Go.Proofs.Try.prog 48 (Con.of (List Int × Int) (Int × Bool) (fun (l, at_) => [.im false 1 l.length (.ints .u8 l), .v (.int .i64 at_)]) (fun _ => []) (fun (l, at_) => l.length ≤ 1099511627776 ∧ B8 l ∧ at_ ≤ 1099511627776) (fun (l, at_) (v, b) => got32 l at_ v b) (fun _ (v, b) => .tup [.v (.int .u32 v), .v (.bool b)]) (fun _ _ => [])) :=
  conOk_rel (T := tab) mix Go.Proofs.Try.func48 (by decide +kernel) (by kernel_rfl) [] [] (fun n => by rw [Go.Proofs.Try.ntmps48]; exact Nat.le_of_ble_eq_true rfl) (fun n z _ _ => ⟨⟨trivial, trivial, trivial⟩, (fun c hc => by cases hc), Nat.le_refl _⟩) (fun n _ c hc => by cases hc) (fun (l, at_) k h0 hk => U32_c l at_ k h0 (fun v b hr => hk (v, b) hr))
theorem U32_at {avs : List AV} {H : List Chunk} {k : K} (l : List Int) (at_ : Int) (h0 : l.length ≤ 1099511627776 ∧ B8 l ∧ at_ ≤ 1099511627776) (ha : argsM H [] [.im false 1 l.length (.ints .u8 l), .v (.int .i64 at_)] avs) (h : ∀ v b, got32 l at_ v b → k (.tup [.v (.int .u32 v), .v (.bool b)]) H) : CallP Go.Proofs.Try.prog 48 avs H k :=
  CallP.mk ⟨_, U32_K.real, Con.spec U32_K, (l, at_), [], ⟨h0, rfl, trivial, ha⟩, fun (v, b) hr => (numK_eq H.length (fun N => k (AV.ren (fren [] N) (.tup [.v (.int .u32 v), .v (.bool b)])) (putAll H [] []))).mpr (by simpa [putAll, AV.ren, rens] using h v b hr)⟩
end Go.Proofs.Ytcfmlnddmpiemaa.Sx

