import Derived.Test.YtcfmlnddmpiemaaSxEc
import Derived.Test.YtcfmlnddmpiemaaSxDisk
import Derived.Laws.BitsLemmas
import Derived.Sort.Row
import Derived.Sort.Grow
import Derived.Test.YtcfmlnddmpiemaaSxT
import Derived.Shelf.SortG.Plain
import Derived.Shelf.SortG.SortNone
import Derived.Ground.SlgnProg
set_option linter.unusedVariables false
set_option linter.unusedSimpArgs false
set_option maxRecDepth 10000
namespace Go.Proofs.Ytcfmlnddmpiemaa.Sx
open Go.RowKit Go.Proofs.Ytcfmlnddmpiemaa.Sx.Tb
theorem Fin.bool {b : Bool} {H : List Chunk} {k : K} (h : b = true) (hk : k (.v (.bool true)) []) : Fin 0 (.v (.bool b)) H k := by
  subst h
  exact Fin.ren [] [] (.v (.bool true)) [] rfl rfl trivial trivial (VC.mk rfl) hk
/-- An operation of a law. -/
structure OpR where
  kind : Int
  pos : Int
  n : Int
  b : List Int
def OpR.z : OpR := ⟨0, 0, 0, []⟩
def OpR.light (o : OpR) : Prop := o.b.length ≤ 1500 ∧ ¬ (6000 < o.pos ∧ o.pos ≤ 4194304) ∧ ¬ (6000 < o.n ∧ o.n ≤ 4194304 ∧ o.kind = 3)
end Go.Proofs.Ytcfmlnddmpiemaa.Sx


set_option maxRecDepth 10000
namespace Go.Proofs.Ytcfmlnddmpiemaa.Sx
open Go.RowKit Go.Proofs.Ytcfmlnddmpiemaa.Sx.Tb
theorem crashL_nil : ∀ (b : List Int) (its : List (Bool × Int × List Int)), crashL b its [] = b
  | b, [] => by simp [crashL]
  | b, it :: r => by simp [crashL, crashL_nil b r]
/-- Whether the n-th is kept. -/
theorem crashL_append : ∀ (its : List (Bool × Int × List Int)) (b : List Int) (it : Bool × Int × List Int) (ks : List Bool),
    crashL b (its ++ [it]) ks = if ks.getD its.length false = true then layL (crashL b its ks) it.1 it.2.1 it.2.2 else crashL b its ks
  | [], b, it, ks => by
    cases ks with
    | nil => simp [crashL]
    | cons k ks => cases k <;> simp [crashL]
  | x :: r, b, it, ks => by
    cases ks with
    | nil => simp [crashL_nil]
    | cons k ks =>
      cases k
      · simp only [List.cons_append, crashL, List.length_cons, List.getD_cons_succ]
        exact crashL_append r b it ks
      · simp only [List.cons_append, crashL, List.length_cons, List.getD_cons_succ]
        exact crashL_append r _ it ks
/-- A byte of what a write makes. -/
theorem layL_get (b : List Int) (at_ : Int) (xs : List Int) (j : Nat) (h : 0 ≤ at_) (h1 : at_ + xs.length ≤ b.length) :
    (layL b false at_ xs).getD j 0 = if at_.toNat ≤ j ∧ j < at_.toNat + xs.length then xs.getD (j - at_.toNat) 0 else b.getD j 0 := by
  have e : layL b false at_ xs = b.take at_.toNat ++ xs ++ b.drop (at_.toNat + xs.length) := by
    unfold layL
    rw [layP_id _ _ (by omega)]
    rfl
  rw [e, List.getD_eq_getElem?_getD, List.getD_eq_getElem?_getD, List.getD_eq_getElem?_getD]
  by_cases h2 : j < at_.toNat
  · rw [if_neg (by omega), List.append_assoc, List.getElem?_append_left (by rw [List.length_take]; omega), List.getElem?_take, if_pos h2]
  · by_cases h3 : j < at_.toNat + xs.length
    · rw [if_pos ⟨by omega, h3⟩, List.append_assoc, List.getElem?_append_right (by rw [List.length_take]; omega), List.getElem?_append_left (by rw [List.length_take]; omega), List.length_take, show min at_.toNat b.length = at_.toNat by omega]
    · rw [if_neg (by omega), List.getElem?_append_right (by rw [List.length_append, List.length_take]; omega), List.getElem?_drop, List.length_append, List.length_take, show at_.toNat + xs.length + (j - (min at_.toNat b.length + xs.length)) = j by omega]
/-- A write within a sector. -/
theorem wrote1_one (s : DF) (at_ : Int) (xs : List Int) (h : 0 ≤ at_) (h1 : at_ / 512 = (at_ + xs.length) / 512) :
    s.wrote1 at_ xs = (if xs = [] then { s with ops := s.ops + 1, wrote := s.wrote + 1 } else { s with ops := s.ops + 1, wrote := s.wrote + 1, now := layL s.now false at_ xs, items := s.items ++ [(false, at_, xs)] }) := by
  unfold DF.wrote1
  cases xs with
  | nil => rw [if_pos rfl]; rfl
  | cons x r =>
    rw [if_neg (by simp)]
    rw [List.length_cons, wrN, if_neg (by simp)]
    have hs : secN at_ (r.length + 1) = (x :: r).length := by
      rw [List.length_cons] at h1 ⊢
      unfold secN
      omega
    rw [List.length_cons, hs, List.take_length, List.drop_length]
    cases r.length with
    | zero => rfl
    | succ m => rw [wrN, if_pos rfl]
/-- What is known of the file and the states so far. -/
structure Sec (b : List Int) (i : Nat) (s : DF) (sts : List (List Int)) : Prop where
  safe : s.safe = b
  ops : s.ops = s.wrote ∧ 0 ≤ s.ops ∧ s.ops ≤ i
  live : s.fail = 0 ∧ s.stop = 0
  len : s.now.length = b.length
  its : s.items.length ≤ i
  all : ∀ it ∈ s.items, it.1 = false ∧ 0 ≤ it.2.1 ∧ it.2.1 + it.2.2.length ≤ b.length
  lens : ∀ st ∈ sts, st.length = b.length
  cl : ∀ ks, (crashL s.safe s.items ks).length = b.length
  cov : ∀ ks j, j < b.length → ∃ st ∈ sts, (crashL s.safe s.items ks).getD j 0 = st.getD j 0
theorem Sec.zero (b : List Int) : Sec b 0 (DF.mk0 b) [b] := by
  refine ⟨rfl, ⟨rfl, Int.le_refl _, Int.le_refl _⟩, ⟨rfl, rfl⟩, rfl, Nat.le_refl _, fun it h => (by cases h), fun st h => (by simp at h; rw [h]), fun ks => (by simp [DF.mk0, crashL]), fun ks j hj => ⟨b, by simp, by simp [DF.mk0, crashL]⟩⟩
theorem Sec.mono {b : List Int} {i : Nat} {s : DF} {sts : List (List Int)} (h : Sec b i s sts) : Sec b (i + 1) s sts :=
  ⟨h.safe, ⟨h.ops.1, h.ops.2.1, by have := h.ops.2.2; omega⟩, h.live, h.len, Nat.le_succ_of_le h.its, h.all, h.lens, h.cl, h.cov⟩
theorem Sec.step {b : List Int} {i : Nat} {s : DF} {sts : List (List Int)} (h : Sec b i s sts) (hnow : s.now ∈ sts) {at_ : Int} {xs : List Int} (h0 : 0 ≤ at_) (h1 : at_ + xs.length ≤ b.length) (h2 : at_ / 512 = (at_ + xs.length) / 512) :
    Sec b (i + 1) (s.wrote1 at_ xs) (sts ++ [(s.wrote1 at_ xs).now]) ∧ (s.wrote1 at_ xs).now ∈ sts ++ [(s.wrote1 at_ xs).now] := by
  refine ⟨?_, by simp⟩
  rw [wrote1_one s at_ xs h0 h2]
  by_cases hx : xs = []
  · rw [if_pos hx]
    refine ⟨h.safe, ⟨?_, ?_, ?_⟩, h.live, h.len, Nat.le_succ_of_le h.its, h.all, fun st hst => ?_, h.cl, fun ks j hj => ?_⟩
    · have := h.ops.1; show s.ops + 1 = s.wrote + 1; omega
    · have := h.ops.2.1; show 0 ≤ s.ops + 1; omega
    · have := h.ops.2.2; show s.ops + 1 ≤ _; omega
    · rcases List.mem_append.1 hst with hst | hst
      · exact h.lens st hst
      · simp at hst; rw [hst]; exact h.len
    · obtain ⟨st, h3, h4⟩ := h.cov ks j hj
      exact ⟨st, List.mem_append_left _ h3, h4⟩
  · rw [if_neg hx]
    have hll : (layL s.now false at_ xs).length = b.length := by rw [layL_len _ _ _ h0, h.len]; omega
    refine ⟨h.safe, ⟨?_, ?_, ?_⟩, h.live, hll, ?_, fun it hit => ?_, fun st hst => ?_, fun ks => ?_, fun ks j hj => ?_⟩
    · have := h.ops.1; show s.ops + 1 = s.wrote + 1; omega
    · have := h.ops.2.1; show 0 ≤ s.ops + 1; omega
    · have := h.ops.2.2; show s.ops + 1 ≤ _; omega
    · have := h.its; show (s.items ++ [_]).length ≤ i + 1; rw [List.length_append]; simp; omega
    · rcases List.mem_append.1 hit with hit | hit
      · exact h.all it hit
      · simp at hit; subst hit; exact ⟨rfl, h0, h1⟩
    · rcases List.mem_append.1 hst with hst | hst
      · exact h.lens st hst
      · simp at hst; rw [hst]; exact hll
    · show (crashL s.safe (s.items ++ [(false, at_, xs)]) ks).length = b.length
      rw [crashL_append]
      split
      · simp only
        rw [layL_len _ _ _ h0, h.cl]; omega
      · exact h.cl ks
    · show ∃ st ∈ _, (crashL s.safe (s.items ++ [(false, at_, xs)]) ks).getD j 0 = _
      rw [crashL_append]
      obtain ⟨st, h3, h4⟩ := h.cov ks j hj
      split
      · simp only
        rw [layL_get _ _ _ _ h0 (by rw [h.cl]; exact h1)]
        by_cases hin : at_.toNat ≤ j ∧ j < at_.toNat + xs.length
        · rw [if_pos hin]
          refine ⟨layL s.now false at_ xs, by simp, ?_⟩
          rw [layL_get _ _ _ _ h0 (by rw [h.len]; exact h1), if_pos hin]
        · rw [if_neg hin]
          exact ⟨st, List.mem_append_left _ h3, h4⟩
      · exact ⟨st, List.mem_append_left _ h3, h4⟩
end Go.Proofs.Ytcfmlnddmpiemaa.Sx


set_option maxRecDepth 10000
namespace Go.Proofs.Ytcfmlnddmpiemaa.Sx
open Go.RowKit Go.Proofs.Ytcfmlnddmpiemaa.Sx.Tb
theorem Fin.frz {i n c cap : Nat} {T : TypeId} {L : List Int} {kd : IntKind} {H : List Chunk} {k : K} (hi : nth H i = some (.blk T (.ints kd L) cap)) (hn : n = L.length) (hk : k (.im true 1 L.length (.ints kd L)) []) : Fin 0 (.s i 0 1 n c) H k := by
  subst hn
  refine Fin.ren [] [i] (.im true 1 L.length (.ints kd L)) [] rfl rfl ⟨by rw [hi]; trivial, trivial⟩ trivial ?_ hk
  have hm : memN i [i] = true := memN_iff.2 (by simp)
  unfold AV.le
  simp only [hm, cond_true, hi, Cont.ext]
  constructor <;> apply VC.mk <;> simp
end Go.Proofs.Ytcfmlnddmpiemaa.Sx


set_option maxRecDepth 10000
namespace Go.Proofs.Ytcfmlnddmpiemaa.Sx
open Go.RowKit Go.Proofs.Ytcfmlnddmpiemaa.Sx.Tb
end Go.Proofs.Ytcfmlnddmpiemaa.Sx


set_option maxRecDepth 10000
namespace Go.Proofs.Ytcfmlnddmpiemaa.Sx
open Go.RowKit Go.Proofs.Ytcfmlnddmpiemaa.Sx.Tb
/-- What an operation makes of a file. -/
def DF.Did (s : DF) (o : OpR) (s' : DF) : Prop :=
  (o.kind = 1 ∧ s' = s.asked) ∨
  (o.kind = 2 ∧ (s.refused ∧ s' = s.asked ∨ ¬ s.refused ∧ o.pos < 0 ∧ s' = s.asked ∨ ¬ s.refused ∧ 0 ≤ o.pos ∧ 4194304 - o.pos < o.b.length ∧ s' = s.asked ∨ ¬ s.refused ∧ 0 ≤ o.pos ∧ o.b.length ≤ 4194304 - o.pos ∧ s' = s.wrote1 o.pos o.b)) ∨
  (o.kind = 3 ∧ (s.refused ∧ s' = s.asked ∨ ¬ s.refused ∧ ¬ (0 ≤ o.n ∧ o.n ≤ 4194304) ∧ s' = s.asked ∨ ¬ s.refused ∧ 0 ≤ o.n ∧ o.n ≤ 4194304 ∧ s' = s.cutTo o.n)) ∨
  (o.kind = 4 ∧ (s.refused ∧ s' = s.asked ∨ ¬ s.refused ∧ s' = s.flushed)) ∨
  (¬ (1 ≤ o.kind ∧ o.kind ≤ 4) ∧ s' = s)
end Go.Proofs.Ytcfmlnddmpiemaa.Sx


set_option maxRecDepth 10000
namespace Go.Proofs.Ytcfmlnddmpiemaa.Sx
open Go.RowKit Go.Proofs.Ytcfmlnddmpiemaa.Sx.Tb
/-- All that was written, seen. -/
def allL (b : List Int) (its : List (Bool × Int × List Int)) : List Int := its.foldl (fun b it => layL b it.1 it.2.1 it.2.2) b
theorem allL_append (b : List Int) (its : List (Bool × Int × List Int)) (it : Bool × Int × List Int) : allL b (its ++ [it]) = layL (allL b its) it.1 it.2.1 it.2.2 := by simp [allL]
/-- A file as laws have it: within limits, never refused. -/
structure DF.Ok (s : DF) (n : Int) : Prop where
  safe : s.safe.length ≤ 4194304
  now : s.now.length ≤ 4194304
  its : ∀ it ∈ s.items, 0 ≤ it.2.1 ∧ it.2.1 + it.2.2.length ≤ 4194304
  len : s.items.length ≤ n
  ops : 0 ≤ s.ops ∧ s.ops ≤ n
  wrote : 0 ≤ s.wrote ∧ s.wrote ≤ n
  all : s.now = allL s.safe s.items
theorem wrN_ok : ∀ (k : Nat) (s : DF) (at_ : Int) (xs : List Int), s.now.length ≤ 4194304 → (∀ it ∈ s.items, 0 ≤ it.2.1 ∧ it.2.1 + it.2.2.length ≤ 4194304) → s.now = allL s.safe s.items → 0 ≤ at_ → at_ + xs.length ≤ 4194304 →
    (wrN k s at_ xs).now.length ≤ 4194304 ∧ (∀ it ∈ (wrN k s at_ xs).items, 0 ≤ it.2.1 ∧ it.2.1 + it.2.2.length ≤ 4194304) ∧ (wrN k s at_ xs).now = allL (wrN k s at_ xs).safe (wrN k s at_ xs).items ∧ (wrN k s at_ xs).items.length ≤ s.items.length + xs.length ∧
    (wrN k s at_ xs).safe = s.safe ∧ (wrN k s at_ xs).ops = s.ops ∧ (wrN k s at_ xs).wrote = s.wrote ∧ (wrN k s at_ xs).fail = s.fail ∧ (wrN k s at_ xs).stop = s.stop
  | 0, s, at_, xs, h1, h2, h3, _, _ => by rw [wrN]; exact ⟨h1, h2, h3, by omega, rfl, rfl, rfl, rfl, rfl⟩
  | k + 1, s, at_, xs, h1, h2, h3, h4, h5 => by
    rw [wrN]
    by_cases hx : xs = []
    · rw [if_pos hx]; exact ⟨h1, h2, h3, by omega, rfl, rfl, rfl, rfl, rfl⟩
    · rw [if_neg hx]
      have hl : 0 < xs.length := List.length_pos_iff.2 hx
      have hs1 : 0 < secN at_ xs.length := by unfold secN; omega
      have hs2 : secN at_ xs.length ≤ xs.length := by unfold secN; omega
      have hlt : (xs.take (secN at_ xs.length)).length = secN at_ xs.length := by rw [List.length_take]; omega
      obtain ⟨a1, a2, a3, a4, a5, a6, a7, a8, a9⟩ := wrN_ok k { s with now := layL s.now false at_ (xs.take (secN at_ xs.length)), items := s.items ++ [(false, at_, xs.take (secN at_ xs.length))] } (at_ + secN at_ xs.length) (xs.drop (secN at_ xs.length))
        (show (layL s.now false at_ (xs.take (secN at_ xs.length))).length ≤ 4194304 by rw [layL_len _ _ _ h4, hlt]; omega)
        (fun it hit => by
          rcases List.mem_append.1 hit with hit | hit
          · exact h2 it hit
          · simp only [List.mem_singleton] at hit; subst hit; simp only [hlt]; omega)
        (show layL s.now false at_ (xs.take (secN at_ xs.length)) = allL s.safe (s.items ++ [(false, at_, xs.take (secN at_ xs.length))]) by rw [allL_append, ← h3]) (by omega) (by rw [List.length_drop]; omega)
      refine ⟨a1, a2, a3, ?_, a5, a6, a7, a8, a9⟩
      have e : (s.items ++ [(false, at_, xs.take (secN at_ xs.length))]).length = s.items.length + 1 := by simp
      have a4' : (wrN k { s with now := layL s.now false at_ (xs.take (secN at_ xs.length)), items := s.items ++ [(false, at_, xs.take (secN at_ xs.length))] } (at_ + secN at_ xs.length) (xs.drop (secN at_ xs.length))).items.length ≤ (s.items ++ [(false, at_, xs.take (secN at_ xs.length))]).length + (xs.drop (secN at_ xs.length)).length := a4
      rw [e, List.length_drop] at a4'
      omega
theorem DF.Ok.ask {s : DF} {n : Int} (h : s.Ok n) : s.asked.Ok (n + 1) :=
  ⟨h.safe, h.now, h.its, by have := h.len; show (s.items.length : Int) ≤ _; omega, by have := h.ops; show 0 ≤ s.ops + 1 ∧ s.ops + 1 ≤ _; omega, by have := h.wrote; show 0 ≤ s.wrote ∧ s.wrote ≤ _; omega, h.all⟩
theorem DF.Ok.mono {s : DF} {n m : Int} (h : s.Ok n) (hm : n ≤ m) : s.Ok m :=
  ⟨h.safe, h.now, h.its, by have := h.len; omega, by have := h.ops; omega, by have := h.wrote; omega, h.all⟩
theorem DF.Ok.write {s : DF} {n : Int} (h : s.Ok n) {at_ : Int} {xs : List Int} (h0 : 0 ≤ at_) (h1 : xs.length ≤ 4194304 - at_) : (s.wrote1 at_ xs).Ok (n + 1 + xs.length) ∧ (s.wrote1 at_ xs).safe = s.safe ∧ (s.wrote1 at_ xs).ops = s.ops + 1 ∧ (s.wrote1 at_ xs).wrote = s.wrote + 1 ∧ (s.wrote1 at_ xs).fail = s.fail ∧ (s.wrote1 at_ xs).stop = s.stop := by
  obtain ⟨a1, a2, a3, a4, a5, a6, a7, a8, a9⟩ := wrN_ok xs.length { s with ops := s.ops + 1, wrote := s.wrote + 1 } at_ xs h.now h.its h.all h0 (by omega)
  refine ⟨⟨by rw [DF.wrote1, a5]; exact h.safe, a1, a2, ?_, ?_, ?_, a3⟩, a5, a6, a7, a8, a9⟩
  · have := h.len
    have a4' : (s.wrote1 at_ xs).items.length ≤ s.items.length + xs.length := a4
    omega
  · have := h.ops
    have a6' : (s.wrote1 at_ xs).ops = s.ops + 1 := a6
    omega
  · have := h.wrote
    have a7' : (s.wrote1 at_ xs).wrote = s.wrote + 1 := a7
    omega
theorem layL_cut_len (b : List Int) (n : Int) (h : 0 ≤ n) : (layL b true n []).length ≤ n.toNat := by
  unfold layL
  simp
  omega
theorem DF.Ok.cut {s : DF} {n : Int} (h : s.Ok n) {m : Int} (h0 : 0 ≤ m) (h1 : m ≤ 4194304) : (s.cutTo m).Ok (n + 1) := by
  refine ⟨h.safe, ?_, fun it hit => ?_, ?_, ?_, ?_, ?_⟩
  · have := layL_cut_len s.now m h0; show (layL s.now true m []).length ≤ _; omega
  · rcases List.mem_append.1 hit with hit | hit
    · exact h.its it hit
    · simp only [List.mem_singleton] at hit; subst hit; simp only [List.length_nil]; omega
  · have := h.len; show ((s.items ++ [_]).length : Int) ≤ _; rw [List.length_append, List.length_singleton]; omega
  · have := h.ops; show 0 ≤ s.ops + 1 ∧ s.ops + 1 ≤ _; omega
  · have := h.wrote; show 0 ≤ s.wrote + 1 ∧ s.wrote + 1 ≤ _; omega
  · show layL s.now true m [] = allL s.safe (s.items ++ [(true, m, [])]); rw [allL_append, ← h.all]
theorem DF.Ok.flush {s : DF} {n : Int} (h : s.Ok n) : s.flushed.Ok (n + 1) :=
  ⟨h.now, h.now, fun it hit => absurd hit (by simp [DF.flushed]), by have := h.len; show ((0 : Nat) : Int) ≤ _; omega, by have := h.ops; show 0 ≤ s.ops + 1 ∧ s.ops + 1 ≤ _; omega, by have := h.wrote; show 0 ≤ s.wrote ∧ s.wrote ≤ _; omega, rfl⟩
def DF.live (s : DF) : Prop := s.fail = 0 ∧ s.stop = 0
theorem DF.live.not {s : DF} (h : s.live) : ¬ s.refused := by unfold DF.refused; rw [h.1, h.2]; omega
theorem DF.Did.ok {s s' : DF} {n : Int} {o : OpR} (h : s.Ok n) (hl : s.live) (hd : s.Did o s') : s'.Ok (n + 1 + o.b.length) ∧ s'.live ∧ (o.kind < 4 → s'.safe = s.safe) := by
  have ha : s.asked.Ok (n + 1 + o.b.length) ∧ s.asked.live ∧ (o.kind < 4 → s.asked.safe = s.safe) := ⟨h.ask.mono (by omega), hl, fun _ => rfl⟩
  rcases hd with ⟨_, rfl⟩ | ⟨_, h1⟩ | ⟨_, h1⟩ | ⟨h4, h1⟩ | ⟨_, rfl⟩
  · exact ha
  · rcases h1 with ⟨_, rfl⟩ | ⟨_, _, rfl⟩ | ⟨_, _, _, rfl⟩ | ⟨_, h2, h3, rfl⟩
    · exact ha
    · exact ha
    · exact ha
    · obtain ⟨b1, b2, b3, b4, b5, b6⟩ := h.write h2 h3
      exact ⟨b1, ⟨by rw [b5]; exact hl.1, by rw [b6]; exact hl.2⟩, fun _ => b2⟩
  · rcases h1 with ⟨_, rfl⟩ | ⟨_, _, rfl⟩ | ⟨_, h2, h3, rfl⟩
    · exact ha
    · exact ha
    · exact ⟨(h.cut h2 h3).mono (by omega), hl, fun _ => rfl⟩
  · rcases h1 with ⟨_, rfl⟩ | ⟨_, rfl⟩
    · exact ha
    · exact ⟨h.flush.mono (by omega), hl, fun h => by omega⟩
  · exact ⟨h.mono (by omega), hl, fun _ => rfl⟩
theorem DF.Ok.zero {b : List Int} (h : b.length ≤ 4194304) : (DF.mk0 b).Ok 0 :=
  ⟨h, h, fun it hit => absurd hit (by simp [DF.mk0]), Int.le_refl _, ⟨Int.le_refl _, Int.le_refl _⟩, ⟨Int.le_refl _, Int.le_refl _⟩, rfl⟩
end Go.Proofs.Ytcfmlnddmpiemaa.Sx


set_option maxRecDepth 10000
namespace Go.Proofs.Ytcfmlnddmpiemaa.Sx
open Go.RowKit Go.Proofs.Ytcfmlnddmpiemaa.Sx.Tb
def B8 (l : List Int) : Prop := ∀ x ∈ l, 0 ≤ x ∧ x < 256
theorem B8.nil : B8 [] := fun x hx => by cases hx
theorem B8.append {l m : List Int} (h : B8 l) (g : B8 m) : B8 (l ++ m) := fun x hx => by
  rcases List.mem_append.1 hx with hx | hx
  · exact h x hx
  · exact g x hx
theorem B8.take {l : List Int} (h : B8 l) (n : Nat) : B8 (l.take n) := fun x hx => h x (List.mem_of_mem_take hx)
theorem B8.drop {l : List Int} (h : B8 l) (n : Nat) : B8 (l.drop n) := fun x hx => h x (List.mem_of_mem_drop hx)
theorem B8.replicate (n : Nat) : B8 (List.replicate n 0) := fun x hx => by
  have := List.eq_of_mem_replicate hx
  omega
theorem B8.getD {l : List Int} (h : B8 l) (i : Nat) : 0 ≤ l.getD i 0 ∧ l.getD i 0 < 256 := by
  rw [List.getD_eq_getElem?_getD]
  cases hi : l[i]? with
  | none => simp
  | some x => exact h x (List.mem_of_getElem? hi)
theorem wu8 (x : Int) : IntKind.u8.wrap x = x % 256 := by simp [IntKind.wrap, IntKind.bits, IntKind.signed]
theorem wu32 (x : Int) : IntKind.u32.wrap x = x % 4294967296 := by simp [IntKind.wrap, IntKind.bits, IntKind.signed]
theorem wraps_u32 (n : Int) (h₀ : 0 ≤ n) (h₁ : n < 2 ^ 32) : IntKind.u32.wrap n = n := by rw [wu32]; omega
theorem or32 (v b : Int) (h0 : 0 ≤ v) (h1 : v < 16777216) (b0 : 0 ≤ b) (b1 : b < 256) : Go.bits .or .u32 (IntKind.u32.wrap (v * 256)) b = v * 256 + b := by
  rw [wraps_u32 _ (by omega) (by omega)]
  exact bits_join .u32 32 (by decide) wraps_u32 8 _ _ (by omega) (by omega) (by omega) b0 (by omega) (by omega)
/-- A number out of bytes, the lowest first. -/
def leV : List Int → Int
  | [] => 0
  | x :: r => x + 256 * leV r
/-- A number's bytes. -/
def leB : Nat → Int → List Int
  | 0, _ => []
  | n + 1, v => v % 256 :: leB n (v / 256)
def putB : List Int → Nat → Nat → Int → List Int
  | l, _, 0, _ => l
  | l, at_, n + 1, v => putB (l.set at_ (v % 256)) (at_ + 1) n (v / 256)
theorem leB_length : ∀ (n : Nat) (v : Int), (leB n v).length = n
  | 0, _ => rfl
  | n + 1, v => by simp [leB, leB_length n]
theorem leB_B8 : ∀ (n : Nat) (v : Int), B8 (leB n v)
  | 0, _ => B8.nil
  | n + 1, v => fun x hx => by
    rcases List.mem_cons.1 hx with rfl | hx
    · omega
    · exact leB_B8 n _ x hx
theorem leV_leB : ∀ (n : Nat) (v : Int), 0 ≤ v → v < 256 ^ n → leV (leB n v) = v
  | 0, v, h0, h1 => by simp at h1; simp [leB, leV]; omega
  | n + 1, v, h0, h1 => by
    rw [Int.pow_succ] at h1
    rw [leB, leV, leV_leB n (v / 256) (by omega) (by omega)]
    omega
theorem leV_nonneg : ∀ {l : List Int}, B8 l → 0 ≤ leV l
  | [], _ => Int.le_refl _
  | x :: r, h => by
    have h1 := h x (by simp)
    have h2 := leV_nonneg (l := r) (fun y hy => h y (by simp [hy]))
    rw [leV]; omega
theorem leV_lt : ∀ {l : List Int}, B8 l → leV l < 256 ^ l.length
  | [], _ => by simp [leV]
  | x :: r, h => by
    have h1 := h x (by simp)
    have h2 := leV_lt (l := r) (fun y hy => h y (by simp [hy]))
    rw [leV, List.length_cons, Int.pow_succ]; omega
theorem putB_eq : ∀ (n : Nat) (l : List Int) (at_ : Nat) (v : Int), at_ + n ≤ l.length → putB l at_ n v = l.take at_ ++ leB n v ++ l.drop (at_ + n)
  | 0, l, at_, v, h => by simp [putB, leB]
  | n + 1, l, at_, v, h => by
    rw [putB, putB_eq n _ _ _ (by rw [List.length_set]; omega), leB]
    have e1 : (l.set at_ (v % 256)).take (at_ + 1) = l.take at_ ++ [v % 256] := by
      apply List.ext_getElem?
      intro i
      rw [List.getElem?_take, List.getElem?_set, List.getElem?_append, List.getElem?_take, List.length_take]
      by_cases h1 : i < at_
      · rw [if_pos (by omega), if_neg (by omega), if_pos (by omega), if_pos h1]
      · by_cases h2 : i = at_
        · subst h2
          rw [if_pos (by omega), if_pos rfl, if_pos (by omega), if_neg (by omega), show i - min i l.length = 0 by omega]; rfl
        · rw [if_neg (by omega), if_neg (by omega)]
          symm
          apply List.getElem?_eq_none
          simp; omega
    have e2 : (l.set at_ (v % 256)).drop (at_ + 1 + n) = l.drop (at_ + (n + 1)) := by
      apply List.ext_getElem?
      intro i
      rw [List.getElem?_drop, List.getElem?_drop, List.getElem?_set, if_neg (by omega), show at_ + 1 + n + i = at_ + (n + 1) + i by omega]
    rw [e1, e2]
    simp
theorem putB_length : ∀ (n : Nat) (l : List Int) (at_ : Nat) (v : Int), (putB l at_ n v).length = l.length
  | 0, l, at_, v => rfl
  | n + 1, l, at_, v => by rw [putB, putB_length n, List.length_set]
theorem pow256_le {a b : Nat} (h : a ≤ b) : (256 : Int) ^ a ≤ 256 ^ b := by
  have := Nat.pow_le_pow_right (n := 256) (by decide) h
  have e : ∀ n : Nat, ((256 ^ n : Nat) : Int) = (256 : Int) ^ n := fun n => by simp
  rw [← e, ← e]
  exact Int.ofNat_le.2 this
theorem oin_c (l : List Int) (p n : Int) (k : K) (h0 : l.length ≤ 1099511627776) (hk : ∀ r : Bool, (r = true ↔ 0 ≤ p ∧ 0 ≤ n ∧ p + n ≤ l.length) → k (.v (.bool r)) []) : evFunc tab [] [] Go.Proofs.Try.f86 [.im false 1 l.length (.ints .u8 l), .v (.int .i64 p), .v (.int .i64 n)] [] k := by
  repeat' (first
    | (with_reducible first | exact True.intro | apply And.intro | apply If_true | apply If_false | apply If_not)
    | ((with_reducible apply VC.mk); exact vt)
    | ((with_reducible apply If_dec) <;> intro hc <;> (try (exfalso; omega)))
    | ((with_reducible apply If_any) <;> intro hc)
    | ((with_reducible first | apply PF.mk | apply DrawP.mk); (focus kernel_rfl))
    | ((with_reducible apply Same.mk); (focus rfl); (first | exact trivial | exact rfl))
    | (intro cap hcap)
    | ((fail_if_success (with_reducible apply st)); conv => whnf))
  all_goals exact Fin.same (hk _ (by simp; omega))
theorem oin_K : ConOk Go.Proofs.Try.prog 86 (Con.of (List Int × Int × Int) Bool (fun (l, p, n) => [.im false 1 l.length (.ints .u8 l), .v (.int .i64 p), .v (.int .i64 n)]) (fun _ => []) (fun (l, _, _) => l.length ≤ 1099511627776) (fun (l, p, n) r => (r = true ↔ 0 ≤ p ∧ 0 ≤ n ∧ p + n ≤ l.length)) (fun _ r => .v (.bool r)) (fun _ _ => [])) :=
  conOk_rel (T := tab) mix Go.Proofs.Try.func86 (by decide +kernel) (by kernel_rfl) [] [] (fun n => by rw [Go.Proofs.Try.ntmps86]; exact Nat.le_of_ble_eq_true rfl) (fun n z _ _ => ⟨trivial, (fun c hc => by cases hc), Nat.le_refl _⟩) (fun n _ c hc => by cases hc) (fun (l, p, n) k h0 hk => oin_c l p n k h0 (fun r hr => hk r hr))
theorem oin_at {avs : List AV} {H : List Chunk} {k : K} (l : List Int) (p n : Int) (h0 : l.length ≤ 1099511627776) (ha : argsM H [] [.im false 1 l.length (.ints .u8 l), .v (.int .i64 p), .v (.int .i64 n)] avs) (h : ∀ r : Bool, (r = true ↔ 0 ≤ p ∧ 0 ≤ n ∧ p + n ≤ l.length) → k (.v (.bool r)) H) : CallP Go.Proofs.Try.prog 86 avs H k :=
  CallP.mk ⟨_, oin_K.real, Con.spec oin_K, (l, p, n), [], ⟨h0, rfl, trivial, ha⟩, fun r hr => (numK_eq H.length (fun N => k (AV.ren (fren [] N) (.v (.bool r))) (putAll H [] []))).mpr (by simpa [putAll, AV.ren] using h r hr)⟩
set_option maxHeartbeats 4000000 in
theorem put32_c (l : List Int) (c : Nat) (at_ n v : Int) (k : K) (h0 : 0 ≤ at_ ∧ 0 ≤ n ∧ at_ + n ≤ l.length ∧ l.length ≤ 1099511627776) (hk : k (.v (.bool true)) [.blk 5 (.ints .u8 (putB l at_.toNat n.toNat v)) c]) :
    evFunc tab [24] [] Go.Proofs.Try.f84 [.s 0 0 1 l.length c, .v (.int .i64 at_), .v (.int .i64 n), .v (.int .u32 v)] [.blk 5 (.ints .u8 l) c] k := by
  repeat' (first
    | (with_reducible first | exact True.intro | apply And.intro | apply If_true | apply If_false | apply If_not)
    | ((with_reducible apply VC.mk); exact vt)
    | ((with_reducible apply If_dec) <;> intro hc <;> (try (exfalso; omega)))
    | ((with_reducible apply If_any) <;> intro hc)
    | ((with_reducible first | apply PF.mk | apply DrawP.mk); (focus kernel_rfl))
    | ((with_reducible apply Same.mk); (focus rfl); (first | exact trivial | exact rfl))
    | (intro cap hcap)
    | ((fail_if_success (with_reducible apply st)); conv => whnf))
  refine oin_at l at_ n h0.2.2.2 ⟨⟨by omega, rfl, rfl, by show Cont.ints _ _ = Cont.ints _ _; rw [List.drop_zero, List.take_length], rfl, Nat.one_pos⟩, rfl, rfl, trivial⟩ ?_
  intro r hr
  have hr : r = true := hr.2 (by omega)
  subst hr
  repeat' (first
    | (with_reducible first | exact True.intro | apply And.intro | apply If_true | apply If_false | apply If_not)
    | ((with_reducible apply VC.mk); exact vt)
    | ((with_reducible apply If_dec) <;> intro hc <;> (try (exfalso; omega)))
    | ((with_reducible apply If_any) <;> intro hc)
    | ((with_reducible first | apply PF.mk | apply DrawP.mk); (focus kernel_rfl))
    | ((with_reducible apply Same.mk); (focus rfl); (first | exact trivial | exact rfl))
    | (intro cap hcap)
    | ((fail_if_success (with_reducible apply st)); conv => whnf))
  refine LoopP.mk ⟨Nat × List Int × Int, fun y => y.1 ≤ n.toNat ∧ y.2.1.length = l.length ∧ putB y.2.1 (at_.toNat + y.1) (n.toNat - y.1) y.2.2 = putB l at_.toNat n.toNat v, fun y => ([(0, .s 0 0 1 l.length c), (1, .v (.int .i64 at_)), (3, .v (.int .u32 y.2.2)), (15, .v (.int .i64 n)), (16, .v (.int .i64 y.1))], [.blk 5 (.ints .u8 y.2.1) c]), fun y => n.toNat - y.1, (0, l, v), ⟨Nat.zero_le _, rfl, rfl⟩, Fit.ren [0] [] rfl rfl trivial ?_ ?_, ?_⟩
  · repeat' (first
    | (with_reducible first | exact True.intro | apply And.intro | apply If_true | apply If_false | apply If_not)
    | ((with_reducible apply VC.mk); exact vt)
    | ((with_reducible apply If_dec) <;> intro hc <;> (try (exfalso; omega)))
    | ((with_reducible apply If_any) <;> intro hc)
    | ((with_reducible first | apply PF.mk | apply DrawP.mk); (focus kernel_rfl))
    | ((with_reducible apply Same.mk); (focus rfl); (first | exact trivial | exact rfl))
    | (intro cap hcap)
    | ((fail_if_success (with_reducible apply st)); conv => whnf))
  · repeat' (first
    | (with_reducible first | exact True.intro | apply And.intro | apply If_true | apply If_false | apply If_not)
    | ((with_reducible apply VC.mk); exact vt)
    | ((with_reducible apply If_dec) <;> intro hc <;> (try (exfalso; omega)))
    | ((with_reducible apply If_any) <;> intro hc)
    | ((with_reducible first | apply PF.mk | apply DrawP.mk); (focus kernel_rfl))
    | ((with_reducible apply Same.mk); (focus rfl); (first | exact trivial | exact rfl))
    | (intro cap hcap)
    | ((fail_if_success (with_reducible apply st)); conv => whnf))
  · intro y hy
    obtain ⟨g1, g2, g3⟩ := hy
    repeat' (first
    | (with_reducible first | exact True.intro | apply And.intro | apply If_true | apply If_false | apply If_not)
    | ((with_reducible apply VC.mk); exact vt)
    | ((with_reducible apply If_dec) <;> intro hc <;> (try (exfalso; omega)))
    | ((with_reducible apply If_any) <;> intro hc)
    | ((with_reducible first | apply PF.mk | apply DrawP.mk); (focus kernel_rfl))
    | ((with_reducible apply Same.mk); (focus rfl); (first | exact trivial | exact rfl))
    | (intro cap hcap)
    | ((fail_if_success (with_reducible apply st)); conv => whnf))
    · refine Round.mk ⟨(y.1 + 1, y.2.1.set (at_.toNat + y.1) (y.2.2 % 256), y.2.2 / 256), ⟨by show y.1 + 1 ≤ _; omega, by show (y.2.1.set _ _).length = _; rw [List.length_set, g2], ?_⟩, by show n.toNat - (y.1 + 1) < n.toNat - y.1; omega, Fit.ren [0] [] rfl rfl trivial ?_ ?_⟩
      · rw [← g3, show n.toNat - y.1 = (n.toNat - (y.1 + 1)) + 1 by omega]
        rfl
      · refine ⟨⟨VC.mk ⟨rfl, rfl⟩, VC.mk ⟨rfl, ?_⟩⟩, trivial⟩
        rw [wu8, show 0 + (at_ + (y.1 : Int)).toNat = at_.toNat + y.1 by omega]
        exact List.prefix_rfl
      · repeat' (first
    | (with_reducible first | exact True.intro | apply And.intro | apply If_true | apply If_false | apply If_not)
    | ((with_reducible apply VC.mk); exact vt)
    | ((with_reducible apply If_dec) <;> intro hc <;> (try (exfalso; omega)))
    | ((with_reducible apply If_any) <;> intro hc)
    | ((with_reducible first | apply PF.mk | apply DrawP.mk); (focus kernel_rfl))
    | ((with_reducible apply Same.mk); (focus rfl); (first | exact trivial | exact rfl))
    | (intro cap hcap)
    | ((fail_if_success (with_reducible apply st)); conv => whnf))
    · have e : n.toNat - y.1 = 0 := by omega
      rw [e] at g3
      have g3 : y.2.1 = putB l at_.toNat n.toNat v := g3
      rw [← g3] at hk
      exact Fin.same hk
theorem put32_K : ConOk Go.Proofs.Try.prog 84 (Con.fn (List Int × Nat × Int × Int × Int) (fun (l, c, at_, n, v) => [.s 0 0 1 l.length c, .v (.int .i64 at_), .v (.int .i64 n), .v (.int .u32 v)]) (fun (l, c, _, _, _) => [.blk 5 (.ints .u8 l) c]) (fun (l, c, at_, n, v) => 0 ≤ at_ ∧ 0 ≤ n ∧ at_ + n ≤ l.length ∧ l.length ≤ 1099511627776) (fun _ => .v (.bool true)) (fun (l, c, at_, n, v) => [.blk 5 (.ints .u8 (putB l at_.toNat n.toNat v)) c])) :=
  conOk_fn (T := tab) mix Go.Proofs.Try.func84 (by decide +kernel) (by kernel_rfl) [24] [] (fun n => by rw [Go.Proofs.Try.ntmps84]; exact Nat.le_of_ble_eq_true rfl) (fun (l, c, at_, n, v) _ => ⟨trivial, (fun x hx => by simp at hx; subst hx; exact .blk trivial), Nat.le_refl _⟩) (fun (l, c, at_, n, v) _ x hx => by simp at hx; subst hx; trivial) (fun (l, c, at_, n, v) k h0 hk => put32_c l c at_ n v k h0 hk)
theorem put32_at {avs : List AV} {H : List Chunk} {k : K} (l : List Int) (c : Nat) (at_ n v : Int) (i : Nat) (h0 : 0 ≤ at_ ∧ 0 ≤ n ∧ at_ + n ≤ l.length ∧ l.length ≤ 1099511627776) (hc : nth H i = some (.blk 5 (.ints .u8 l) c)) (ha : argsM H [i] [.s 0 0 1 l.length c, .v (.int .i64 at_), .v (.int .i64 n), .v (.int .u32 v)] avs)
    (h : k (.v (.bool true)) (H.set i (.blk 5 (.ints .u8 (putB l at_.toNat n.toNat v)) c))) : CallP Go.Proofs.Try.prog 84 avs H k :=
  CallP.mk ⟨_, put32_K.real, Con.spec put32_K, (l, c, at_, n, v), [i], ⟨h0, rfl, ⟨hc, trivial⟩, ha⟩, (numK_eq H.length (fun N => k (AV.ren (fren [i] N) (.v (.bool true))) (putAll H [i] [Chunk.ren (fren [i] N) (.blk 5 (.ints .u8 (putB l at_.toNat n.toNat v)) c)]))).mpr (by simpa [putAll, AV.ren, Chunk.ren, Cont.ren] using h)⟩
theorem Put32_c (l : List Int) (c : Nat) (at_ v : Int) (k : K) (h0 : 0 ≤ at_ ∧ at_ + 4 ≤ l.length ∧ l.length ≤ 1099511627776) (hk : k (.v (.bool true)) [.blk 5 (.ints .u8 (putB l at_.toNat 4 v)) c]) :
    evFunc tab [] [] Go.Proofs.Try.f46 [.s 0 0 1 l.length c, .v (.int .i64 at_), .v (.int .u32 v)] [.blk 5 (.ints .u8 l) c] k := by
  repeat' (first
    | (with_reducible first | exact True.intro | apply And.intro | apply If_true | apply If_false | apply If_not)
    | ((with_reducible apply VC.mk); exact vt)
    | ((with_reducible apply If_dec) <;> intro hc <;> (try (exfalso; omega)))
    | ((with_reducible apply If_any) <;> intro hc)
    | ((with_reducible first | apply PF.mk | apply DrawP.mk); (focus kernel_rfl))
    | ((with_reducible apply Same.mk); (focus rfl); (first | exact trivial | exact rfl))
    | (intro cap hcap)
    | ((fail_if_success (with_reducible apply st)); conv => whnf))
  refine put32_at l c at_ 4 v 0 (by omega) rfl ⟨rfl, rfl, rfl, rfl, trivial⟩ ?_
  repeat' (first
    | (with_reducible first | exact True.intro | apply And.intro | apply If_true | apply If_false | apply If_not)
    | ((with_reducible apply VC.mk); exact vt)
    | ((with_reducible apply If_dec) <;> intro hc <;> (try (exfalso; omega)))
    | ((with_reducible apply If_any) <;> intro hc)
    | ((with_reducible first | apply PF.mk | apply DrawP.mk); (focus kernel_rfl))
    | ((with_reducible apply Same.mk); (focus rfl); (first | exact trivial | exact rfl))
    | (intro cap hcap)
    | ((fail_if_success (with_reducible apply st)); conv => whnf))
  exact Fin.same hk
theorem Put32_K : ConOk Go.Proofs.Try.prog 46 (Con.fn (List Int × Nat × Int × Int) (fun (l, c, at_, v) => [.s 0 0 1 l.length c, .v (.int .i64 at_), .v (.int .u32 v)]) (fun (l, c, _, _) => [.blk 5 (.ints .u8 l) c]) (fun (l, c, at_, v) => 0 ≤ at_ ∧ at_ + 4 ≤ l.length ∧ l.length ≤ 1099511627776) (fun _ => .v (.bool true)) (fun (l, c, at_, v) => [.blk 5 (.ints .u8 (putB l at_.toNat 4 v)) c])) :=
  conOk_fn (T := tab) mix Go.Proofs.Try.func46 (by decide +kernel) (by kernel_rfl) [] [] (fun n => by rw [Go.Proofs.Try.ntmps46]; exact Nat.le_of_ble_eq_true rfl) (fun (l, c, at_, v) _ => ⟨trivial, (fun x hx => by simp at hx; subst hx; exact .blk trivial), Nat.le_refl _⟩) (fun (l, c, at_, v) _ x hx => by simp at hx; subst hx; trivial) (fun (l, c, at_, v) k h0 hk => Put32_c l c at_ v k h0 hk)
theorem Put32_at {avs : List AV} {H : List Chunk} {k : K} (l : List Int) (c : Nat) (at_ v : Int) (i : Nat) (h0 : 0 ≤ at_ ∧ at_ + 4 ≤ l.length ∧ l.length ≤ 1099511627776) (hc : nth H i = some (.blk 5 (.ints .u8 l) c)) (ha : argsM H [i] [.s 0 0 1 l.length c, .v (.int .i64 at_), .v (.int .u32 v)] avs)
    (h : k (.v (.bool true)) (H.set i (.blk 5 (.ints .u8 (putB l at_.toNat 4 v)) c))) : CallP Go.Proofs.Try.prog 46 avs H k :=
  CallP.mk ⟨_, Put32_K.real, Con.spec Put32_K, (l, c, at_, v), [i], ⟨h0, rfl, ⟨hc, trivial⟩, ha⟩, (numK_eq H.length (fun N => k (AV.ren (fren [i] N) (.v (.bool true))) (putAll H [i] [Chunk.ren (fren [i] N) (.blk 5 (.ints .u8 (putB l at_.toNat 4 v)) c)]))).mpr (by simpa [putAll, AV.ren, Chunk.ren, Cont.ren] using h)⟩
/-- What is read: a number, or none. -/
def got32 (l : List Int) (at_ : Int) (v : Int) (b : Bool) : Prop := (0 ≤ at_ ∧ at_ + 4 ≤ l.length ∧ b = true ∧ v = leV ((l.drop at_.toNat).take 4)) ∨ (¬ (0 ≤ at_ ∧ at_ + 4 ≤ l.length) ∧ b = false ∧ v = 0)
set_option maxHeartbeats 4000000 in
theorem little32_c (l : List Int) (at_ : Int) (k : K) (h0 : l.length ≤ 1099511627776 ∧ B8 l ∧ at_ ≤ 1099511627776) (hk : ∀ v b, got32 l at_ v b → k (.tup [.v (.int .u32 v), .v (.bool b)]) []) :
    evFunc tab [] [] Go.Proofs.Try.f85 [.im false 1 l.length (.ints .u8 l), .v (.int .i64 at_), .v (.int .i64 4)] [] k := by
  repeat' (first
    | (with_reducible first | exact True.intro | apply And.intro | apply If_true | apply If_false | apply If_not)
    | ((with_reducible apply VC.mk); exact vt)
    | ((with_reducible apply If_dec) <;> intro hc <;> (try (exfalso; omega)))
    | ((with_reducible apply If_any) <;> intro hc)
    | ((with_reducible first | apply PF.mk | apply DrawP.mk); (focus kernel_rfl))
    | ((with_reducible apply Same.mk); (focus rfl); (first | exact trivial | exact rfl))
    | (intro cap hcap)
    | ((fail_if_success (with_reducible apply st)); conv => whnf))
  refine oin_at l at_ 4 h0.1 ⟨⟨rfl, rfl, rfl⟩, rfl, rfl, trivial⟩ ?_
  intro r hr
  by_cases hin : 0 ≤ at_ ∧ at_ + 4 ≤ l.length
  case neg =>
    have hr : r = false := by
      cases r
      · rfl
      · exact absurd (hr.1 rfl) (by omega)
    subst hr
    repeat' (first
    | (with_reducible first | exact True.intro | apply And.intro | apply If_true | apply If_false | apply If_not)
    | ((with_reducible apply VC.mk); exact vt)
    | ((with_reducible apply If_dec) <;> intro hc <;> (try (exfalso; omega)))
    | ((with_reducible apply If_any) <;> intro hc)
    | ((with_reducible first | apply PF.mk | apply DrawP.mk); (focus kernel_rfl))
    | ((with_reducible apply Same.mk); (focus rfl); (first | exact trivial | exact rfl))
    | (intro cap hcap)
    | ((fail_if_success (with_reducible apply st)); conv => whnf))
    exact Fin.same (hk 0 false (.inr ⟨hin, rfl, rfl⟩))
  have hr : r = true := hr.2 (by omega)
  subst hr
  repeat' (first
    | (with_reducible first | exact True.intro | apply And.intro | apply If_true | apply If_false | apply If_not)
    | ((with_reducible apply VC.mk); exact vt)
    | ((with_reducible apply If_dec) <;> intro hc <;> (try (exfalso; omega)))
    | ((with_reducible apply If_any) <;> intro hc)
    | ((with_reducible first | apply PF.mk | apply DrawP.mk); (focus kernel_rfl))
    | ((with_reducible apply Same.mk); (focus rfl); (first | exact trivial | exact rfl))
    | (intro cap hcap)
    | ((fail_if_success (with_reducible apply st)); conv => whnf))
  refine LoopP.mk ⟨Nat × Int, fun y => y.1 ≤ 4 ∧ y.2 = leV ((l.drop (at_.toNat + (4 - y.1))).take y.1), fun y => ([(0, .im false 1 l.length (.ints .u8 l)), (1, .v (.int .i64 at_)), (8, .v (.int .u32 y.2)), (9, .v (.int .i64 (4 - 1 - (y.1 : Int))))], []), fun y => 4 - y.1, (0, 0), ⟨Nat.zero_le _, by simp [leV]⟩, Fit.ren [] [] rfl rfl trivial trivial ?_, ?_⟩
  · repeat' (first
    | (with_reducible first | exact True.intro | apply And.intro | apply If_true | apply If_false | apply If_not)
    | ((with_reducible apply VC.mk); exact vt)
    | ((with_reducible apply If_dec) <;> intro hc <;> (try (exfalso; omega)))
    | ((with_reducible apply If_any) <;> intro hc)
    | ((with_reducible first | apply PF.mk | apply DrawP.mk); (focus kernel_rfl))
    | ((with_reducible apply Same.mk); (focus rfl); (first | exact trivial | exact rfl))
    | (intro cap hcap)
    | ((fail_if_success (with_reducible apply st)); conv => whnf))
  · intro y hy
    obtain ⟨g1, g2⟩ := hy
    have hb := h0.2.1.getD (at_.toNat + (4 - (y.1 + 1)))
    have hs : B8 ((l.drop (at_.toNat + (4 - y.1))).take y.1) := (h0.2.1.drop _).take _
    have hl1 := leV_nonneg hs
    have hl2 := leV_lt hs
    have hll : ((l.drop (at_.toNat + (4 - y.1))).take y.1).length = y.1 := by rw [List.length_take, List.length_drop]; omega
    rw [hll] at hl2
    rw [← g2] at hl1 hl2
    have e0 : (at_ + (4 - 1 - (y.1 : Int))).toNat = 0 + (at_.toNat + (4 - (y.1 + 1))) ∨ ¬ (0 ≤ (4 : Int) - 1 - (y.1 : Int)) := by omega
    repeat' (first
    | (with_reducible first | exact True.intro | apply And.intro | apply If_true | apply If_false | apply If_not)
    | ((with_reducible apply VC.mk); exact vt)
    | ((with_reducible apply If_dec) <;> intro hc <;> (try (exfalso; omega)))
    | ((with_reducible apply If_any) <;> intro hc)
    | ((with_reducible first | apply PF.mk | apply DrawP.mk); (focus kernel_rfl))
    | ((with_reducible apply Same.mk); (focus rfl); (first | exact trivial | exact rfl))
    | (intro cap hcap)
    | ((fail_if_success (with_reducible apply st)); conv => whnf))
    · rcases e0 with e0 | e0
      · rw [e0, Nat.zero_add]; exact VC.mk (by simp only [inR]; omega)
      · exact absurd hc e0
    · rcases e0 with e0 | e0
      case inr => exact absurd hc e0
      rw [Nat.zero_add] at e0
      generalize hbb : l.getD (at_.toNat + (4 - (y.1 + 1))) 0 = bb at *
      have hp : (256 : Int) ^ y.1 ≤ 256 ^ (4 - 1) := pow256_le (by omega)
      have hp2 : (256 : Int) ^ (4 - 1) = 16777216 := by decide
      have hor := or32 y.2 bb hl1 (by omega) hb.1 hb.2
      refine Round.mk ⟨(y.1 + 1, y.2 * 256 + bb), ⟨by show y.1 + 1 ≤ _; omega, ?_⟩, by show 4 - (y.1 + 1) < 4 - y.1; omega, Fit.ren [] [] rfl rfl trivial trivial ?_⟩
      · have hlt : at_.toNat + (4 - (y.1 + 1)) < l.length := by omega
        rw [List.drop_eq_getElem_cons hlt, List.take_succ_cons, leV, show at_.toNat + (4 - (y.1 + 1)) + 1 = at_.toNat + (4 - y.1) by omega, ← g2, ← hbb, List.getD_eq_getElem?_getD, List.getElem?_eq_getElem hlt]
        show y.2 * 256 + l[at_.toNat + (4 - (y.1 + 1))] = l[at_.toNat + (4 - (y.1 + 1))] + 256 * y.2
        omega
      · repeat' (first
    | (with_reducible first | exact True.intro | apply And.intro | apply If_true | apply If_false | apply If_not)
    | ((with_reducible apply VC.mk); exact vt)
    | ((with_reducible apply If_dec) <;> intro hc <;> (try (exfalso; omega)))
    | ((with_reducible apply If_any) <;> intro hc)
    | ((with_reducible first | apply PF.mk | apply DrawP.mk); (focus kernel_rfl))
    | ((with_reducible apply Same.mk); (focus rfl); (first | exact trivial | exact rfl))
    | (intro cap hcap)
    | ((fail_if_success (with_reducible apply st)); conv => whnf))
        · refine VC.mk ?_
          rw [e0, hbb]
          exact congrArg (Value.int .u32) hor
        all_goals (refine VC.mk ?_; exact congrArg (Value.int .i64) (by omega))
    · refine Fin.same (hk _ _ (.inl ⟨hin.1, hin.2, rfl, ?_⟩))
      rw [g2, show y.1 = 4 by omega]
      simp
theorem little32_K : ConOk Go.Proofs.Try.prog 85 (Con.of (List Int × Int) (Int × Bool) (fun (l, at_) => [.im false 1 l.length (.ints .u8 l), .v (.int .i64 at_), .v (.int .i64 4)]) (fun _ => []) (fun (l, at_) => l.length ≤ 1099511627776 ∧ B8 l ∧ at_ ≤ 1099511627776) (fun (l, at_) (v, b) => got32 l at_ v b) (fun _ (v, b) => .tup [.v (.int .u32 v), .v (.bool b)]) (fun _ _ => [])) :=
  conOk_rel (T := tab) mix Go.Proofs.Try.func85 (by decide +kernel) (by kernel_rfl) [] [] (fun n => by rw [Go.Proofs.Try.ntmps85]; exact Nat.le_of_ble_eq_true rfl) (fun n z _ _ => ⟨⟨trivial, trivial, trivial⟩, (fun c hc => by cases hc), Nat.le_refl _⟩) (fun n _ c hc => by cases hc) (fun (l, at_) k h0 hk => little32_c l at_ k h0 (fun v b hr => hk (v, b) hr))
theorem little32_at {avs : List AV} {H : List Chunk} {k : K} (l : List Int) (at_ : Int) (h0 : l.length ≤ 1099511627776 ∧ B8 l ∧ at_ ≤ 1099511627776) (ha : argsM H [] [.im false 1 l.length (.ints .u8 l), .v (.int .i64 at_), .v (.int .i64 4)] avs) (h : ∀ v b, got32 l at_ v b → k (.tup [.v (.int .u32 v), .v (.bool b)]) H) : CallP Go.Proofs.Try.prog 85 avs H k :=
  CallP.mk ⟨_, little32_K.real, Con.spec little32_K, (l, at_), [], ⟨h0, rfl, trivial, ha⟩, fun (v, b) hr => (numK_eq H.length (fun N => k (AV.ren (fren [] N) (.tup [.v (.int .u32 v), .v (.bool b)])) (putAll H [] []))).mpr (by simpa [putAll, AV.ren, rens] using h v b hr)⟩
theorem U32_c (l : List Int) (at_ : Int) (k : K) (h0 : l.length ≤ 1099511627776 ∧ B8 l ∧ at_ ≤ 1099511627776) (hk : ∀ v b, got32 l at_ v b → k (.tup [.v (.int .u32 v), .v (.bool b)]) []) :
    evFunc tab [] [] Go.Proofs.Try.f48 [.im false 1 l.length (.ints .u8 l), .v (.int .i64 at_)] [] k := by
  repeat' (first
    | (with_reducible first | exact True.intro | apply And.intro | apply If_true | apply If_false | apply If_not)
    | ((with_reducible apply VC.mk); exact vt)
    | ((with_reducible apply If_dec) <;> intro hc <;> (try (exfalso; omega)))
    | ((with_reducible apply If_any) <;> intro hc)
    | ((with_reducible first | apply PF.mk | apply DrawP.mk); (focus kernel_rfl))
    | ((with_reducible apply Same.mk); (focus rfl); (first | exact trivial | exact rfl))
    | (intro cap hcap)
    | ((fail_if_success (with_reducible apply st)); conv => whnf))
  refine little32_at l at_ h0 ⟨⟨rfl, rfl, rfl⟩, rfl, rfl, trivial⟩ ?_
  intro v b hr
  repeat' (first
    | (with_reducible first | exact True.intro | apply And.intro | apply If_true | apply If_false | apply If_not)
    | ((with_reducible apply VC.mk); exact vt)
    | ((with_reducible apply If_dec) <;> intro hc <;> (try (exfalso; omega)))
    | ((with_reducible apply If_any) <;> intro hc)
    | ((with_reducible first | apply PF.mk | apply DrawP.mk); (focus kernel_rfl))
    | ((with_reducible apply Same.mk); (focus rfl); (first | exact trivial | exact rfl))
    | (intro cap hcap)
    | ((fail_if_success (with_reducible apply st)); conv => whnf))
  exact Fin.same (hk v b hr)
theorem U32_K : ConOk Go.Proofs.Try.prog 48 (Con.of (List Int × Int) (Int × Bool) (fun (l, at_) => [.im false 1 l.length (.ints .u8 l), .v (.int .i64 at_)]) (fun _ => []) (fun (l, at_) => l.length ≤ 1099511627776 ∧ B8 l ∧ at_ ≤ 1099511627776) (fun (l, at_) (v, b) => got32 l at_ v b) (fun _ (v, b) => .tup [.v (.int .u32 v), .v (.bool b)]) (fun _ _ => [])) :=
  conOk_rel (T := tab) mix Go.Proofs.Try.func48 (by decide +kernel) (by kernel_rfl) [] [] (fun n => by rw [Go.Proofs.Try.ntmps48]; exact Nat.le_of_ble_eq_true rfl) (fun n z _ _ => ⟨⟨trivial, trivial, trivial⟩, (fun c hc => by cases hc), Nat.le_refl _⟩) (fun n _ c hc => by cases hc) (fun (l, at_) k h0 hk => U32_c l at_ k h0 (fun v b hr => hk (v, b) hr))
theorem U32_at {avs : List AV} {H : List Chunk} {k : K} (l : List Int) (at_ : Int) (h0 : l.length ≤ 1099511627776 ∧ B8 l ∧ at_ ≤ 1099511627776) (ha : argsM H [] [.im false 1 l.length (.ints .u8 l), .v (.int .i64 at_)] avs) (h : ∀ v b, got32 l at_ v b → k (.tup [.v (.int .u32 v), .v (.bool b)]) H) : CallP Go.Proofs.Try.prog 48 avs H k :=
  CallP.mk ⟨_, U32_K.real, Con.spec U32_K, (l, at_), [], ⟨h0, rfl, trivial, ha⟩, fun (v, b) hr => (numK_eq H.length (fun N => k (AV.ren (fren [] N) (.tup [.v (.int .u32 v), .v (.bool b)])) (putAll H [] []))).mpr (by simpa [putAll, AV.ren, rens] using h v b hr)⟩
end Go.Proofs.Ytcfmlnddmpiemaa.Sx


set_option maxRecDepth 10000
namespace Go.Proofs.Ytcfmlnddmpiemaa.Sx
open Go.RowKit Go.Proofs.Ytcfmlnddmpiemaa.Sx.Tb
/-! ### Bytes: a part, noughts, sums -/
/-- The sum's step. -/
def crc1 (s : Int) : Int := if Go.bits .and .u32 s 1 = 1 then Go.bits .xor .u32 (s / 2) 3988292384 else s / 2
def crcN : Nat → Int → Int
  | 0, s => s
  | n + 1, s => crcN n (crc1 s)
def crcStep (s c : Int) : Int := crcN 8 (Go.bits .xor .u32 s c)
def R32 (x : Int) : Prop := 0 ≤ x ∧ x < 4294967296
theorem bits32 (op : BinOp) (a b : Int) : R32 (Go.bits op .u32 a b) := by
  unfold Go.bits R32
  simp only
  rw [wu32]
  omega
theorem crc1_R {s : Int} (h : R32 s) : R32 (crc1 s) := by
  unfold crc1
  split
  · exact bits32 _ _ _
  · unfold R32 at *; omega
theorem crcN_R : ∀ (n : Nat) {s : Int}, R32 s → R32 (crcN n s)
  | 0, s, h => h
  | n + 1, s, h => crcN_R n (crc1_R h)
theorem crcStep_R (s c : Int) : R32 (crcStep s c) := crcN_R 8 (bits32 _ _ _)
set_option maxHeartbeats 4000000 in
theorem step_c (s c : Int) (k : K) (h0 : R32 s ∧ 0 ≤ c ∧ c < 256) (hk : k (.v (.int .u32 (crcStep s c))) []) : evFunc tab [] [] Go.Proofs.Try.f105 [.v (.int .u32 s), .v (.int .u8 c)] [] k := by
  repeat' (first
    | (with_reducible first | exact True.intro | apply And.intro | apply If_true | apply If_false | apply If_not)
    | ((with_reducible apply VC.mk); exact vt)
    | ((with_reducible apply If_dec) <;> intro hc <;> (try (exfalso; omega)))
    | ((with_reducible apply If_any) <;> intro hc)
    | ((with_reducible first | apply PF.mk | apply DrawP.mk); (focus kernel_rfl))
    | ((with_reducible apply Same.mk); (focus rfl); (first | exact trivial | exact rfl))
    | (intro cap hcap)
    | ((fail_if_success (with_reducible apply st)); conv => whnf))
  refine LoopP.mk ⟨Nat × Int, fun y => y.1 ≤ 8 ∧ R32 y.2 ∧ crcN (8 - y.1) y.2 = crcStep s c, fun y => ([(0, .v (.int .u32 y.2)), (9, .v (.int .i64 y.1))], []), fun y => 8 - y.1, (0, Go.bits .xor .u32 s c), ⟨Nat.zero_le _, bits32 .xor s c, rfl⟩, Fit.ren [] [] rfl rfl trivial trivial ?_, ?_⟩
  · repeat' (first
    | (with_reducible first | exact True.intro | apply And.intro | apply If_true | apply If_false | apply If_not)
    | ((with_reducible apply VC.mk); exact vt)
    | ((with_reducible apply If_dec) <;> intro hc <;> (try (exfalso; omega)))
    | ((with_reducible apply If_any) <;> intro hc)
    | ((with_reducible first | apply PF.mk | apply DrawP.mk); (focus kernel_rfl))
    | ((with_reducible apply Same.mk); (focus rfl); (first | exact trivial | exact rfl))
    | (intro cap hcap)
    | ((fail_if_success (with_reducible apply st)); conv => whnf))
  · intro y hy
    obtain ⟨g1, g2, g3⟩ := hy
    have e2 : y.2 / 2 ^ min (Int.toNat 1) 32 = y.2 / 2 := rfl
    have e3 : 8 - y.1 = (8 - (y.1 + 1)) + 1 ∨ ¬ (y.1 : Int) < 8 := by omega
    repeat' (first
    | (with_reducible first | exact True.intro | apply And.intro | apply If_true | apply If_false | apply If_not)
    | ((with_reducible apply VC.mk); exact vt)
    | ((with_reducible apply If_dec) <;> intro hc <;> (try (exfalso; omega)))
    | ((with_reducible apply If_any) <;> intro hc)
    | ((with_reducible first | apply PF.mk | apply DrawP.mk); (focus kernel_rfl))
    | ((with_reducible apply Same.mk); (focus rfl); (first | exact trivial | exact rfl))
    | (intro cap hcap)
    | ((fail_if_success (with_reducible apply st)); conv => whnf))
    · rcases e3 with e3 | e3
      case inr => exact absurd (by omega) e3
      rw [e3, crcN] at g3
      have e4 : crc1 y.2 = Go.bits .xor .u32 (y.2 / 2) 3988292384 := if_pos hc
      refine Round.mk ⟨(y.1 + 1, crc1 y.2), ⟨by show y.1 + 1 ≤ _; omega, crc1_R g2, g3⟩, by show 8 - (y.1 + 1) < 8 - y.1; omega, Fit.ren [] [] rfl rfl trivial trivial ?_⟩
      repeat' (first
    | (with_reducible first | exact True.intro | apply And.intro | apply If_true | apply If_false | apply If_not)
    | ((with_reducible apply VC.mk); exact vt)
    | ((with_reducible apply If_dec) <;> intro hc <;> (try (exfalso; omega)))
    | ((with_reducible apply If_any) <;> intro hc)
    | ((with_reducible first | apply PF.mk | apply DrawP.mk); (focus kernel_rfl))
    | ((with_reducible apply Same.mk); (focus rfl); (first | exact trivial | exact rfl))
    | (intro cap hcap)
    | ((fail_if_success (with_reducible apply st)); conv => whnf))
      all_goals (refine VC.mk ?_; exact congrArg (Value.int .u32) e4.symm)
    · rcases e3 with e3 | e3
      case inr => exact absurd (by omega) e3
      rw [e3, crcN] at g3
      have e4 : crc1 y.2 = y.2 / 2 := if_neg hc
      refine Round.mk ⟨(y.1 + 1, crc1 y.2), ⟨by show y.1 + 1 ≤ _; omega, crc1_R g2, g3⟩, by show 8 - (y.1 + 1) < 8 - y.1; omega, Fit.ren [] [] rfl rfl trivial trivial ?_⟩
      repeat' (first
    | (with_reducible first | exact True.intro | apply And.intro | apply If_true | apply If_false | apply If_not)
    | ((with_reducible apply VC.mk); exact vt)
    | ((with_reducible apply If_dec) <;> intro hc <;> (try (exfalso; omega)))
    | ((with_reducible apply If_any) <;> intro hc)
    | ((with_reducible first | apply PF.mk | apply DrawP.mk); (focus kernel_rfl))
    | ((with_reducible apply Same.mk); (focus rfl); (first | exact trivial | exact rfl))
    | (intro cap hcap)
    | ((fail_if_success (with_reducible apply st)); conv => whnf))
      all_goals (refine VC.mk ?_; exact congrArg (Value.int .u32) e4.symm)
    · rw [show 8 - y.1 = 0 by omega, crcN] at g3
      rw [g3]
      exact Fin.same hk
theorem step_K : ConOk Go.Proofs.Try.prog 105 (Con.fn (Int × Int) (fun x => [.v (.int .u32 x.1), .v (.int .u8 x.2)]) (fun _ => []) (fun x => R32 x.1 ∧ 0 ≤ x.2 ∧ x.2 < 256) (fun x => .v (.int .u32 (crcStep x.1 x.2))) (fun _ => [])) :=
  conOk_fn (T := tab) mix Go.Proofs.Try.func105 (by decide +kernel) (by kernel_rfl) [] [] (fun n => by rw [Go.Proofs.Try.ntmps105]; exact Nat.le_of_ble_eq_true rfl) (fun n _ => ⟨trivial, (fun c hc => by cases hc), Nat.le_refl _⟩) (fun n _ c hc => by cases hc) (fun x k h0 hk => step_c x.1 x.2 k h0 hk)
theorem step_at {avs : List AV} {H : List Chunk} {k : K} (s c : Int) (h0 : R32 s ∧ 0 ≤ c ∧ c < 256) (ha : argsM H [] [.v (.int .u32 s), .v (.int .u8 c)] avs) (h : k (.v (.int .u32 (crcStep s c))) H) : CallP Go.Proofs.Try.prog 105 avs H k :=
  CallP.mk ⟨_, step_K.real, Con.spec step_K, (s, c), [], ⟨h0, rfl, trivial, ha⟩, (numK_eq H.length (fun N => k (AV.ren (fren [] N) (.v (.int .u32 (crcStep s c)))) (putAll H [] []))).mpr (by simpa [putAll, AV.ren] using h)⟩
def crcNot (s : Int) : Int := Go.bits .xor .u32 (if IntKind.u32.signed = true then -1 else IntKind.u32.max) s
def moreL (s : Int) (l : List Int) : Int := crcNot (l.foldl crcStep (crcNot s))
theorem crcNot_R (s : Int) : R32 (crcNot s) := bits32 _ _ _
theorem moreL_R (s : Int) (l : List Int) : R32 (moreL s l) := crcNot_R _
set_option maxHeartbeats 4000000 in
theorem more_c (s : Int) (l : List Int) (k : K) (h0 : R32 s ∧ B8 l ∧ l.length ≤ 1099511627776) (hk : k (.v (.int .u32 (moreL s l))) []) : evFunc tab [] [] Go.Proofs.Try.f83 [.v (.int .u32 s), .im false 1 l.length (.ints .u8 l)] [] k := by
  repeat' (first
    | (with_reducible first | exact True.intro | apply And.intro | apply If_true | apply If_false | apply If_not)
    | ((with_reducible apply VC.mk); exact vt)
    | ((with_reducible apply If_dec) <;> intro hc <;> (try (exfalso; omega)))
    | ((with_reducible apply If_any) <;> intro hc)
    | ((with_reducible first | apply PF.mk | apply DrawP.mk); (focus kernel_rfl))
    | ((with_reducible apply Same.mk); (focus rfl); (first | exact trivial | exact rfl))
    | (intro cap hcap)
    | ((fail_if_success (with_reducible apply st)); conv => whnf))
  refine LoopP.mk ⟨Nat × Int, fun y => y.1 ≤ l.length ∧ R32 y.2 ∧ y.2 = (l.take y.1).foldl crcStep (crcNot s), fun y => ([(0, .v (.int .u32 y.2)), (9, .im false 1 l.length (.ints .u8 l)), (10, .v (.int .i64 l.length)), (11, .v (.int .i64 y.1))], []), fun y => l.length - y.1, (0, crcNot s), ⟨Nat.zero_le _, crcNot_R s, rfl⟩, Fit.ren [] [] rfl rfl trivial trivial ?_, ?_⟩
  · repeat' (first
    | (with_reducible first | exact True.intro | apply And.intro | apply If_true | apply If_false | apply If_not)
    | ((with_reducible apply VC.mk); exact vt)
    | ((with_reducible apply If_dec) <;> intro hc <;> (try (exfalso; omega)))
    | ((with_reducible apply If_any) <;> intro hc)
    | ((with_reducible first | apply PF.mk | apply DrawP.mk); (focus kernel_rfl))
    | ((with_reducible apply Same.mk); (focus rfl); (first | exact trivial | exact rfl))
    | (intro cap hcap)
    | ((fail_if_success (with_reducible apply st)); conv => whnf))
  · intro y hy
    obtain ⟨g1, g2, g3⟩ := hy
    have e : ((y.1 : Nat) : Int).toNat = y.1 := Int.toNat_natCast _
    repeat' (first
    | (with_reducible first | exact True.intro | apply And.intro | apply If_true | apply If_false | apply If_not)
    | ((with_reducible apply VC.mk); exact vt)
    | ((with_reducible apply If_dec) <;> intro hc <;> (try (exfalso; omega)))
    | ((with_reducible apply If_any) <;> intro hc)
    | ((with_reducible first | apply PF.mk | apply DrawP.mk); (focus kernel_rfl))
    | ((with_reducible apply Same.mk); (focus rfl); (first | exact trivial | exact rfl))
    | (intro cap hcap)
    | ((fail_if_success (with_reducible apply st)); conv => whnf))
    · refine step_at y.2 (l.getD ((y.1 : Nat) : Int).toNat 0) ⟨g2, h0.2.1.getD _⟩ ⟨rfl, rfl, trivial⟩ ?_
      rw [e]
      have hlt : y.1 < l.length := by omega
      repeat' (first
    | (with_reducible first | exact True.intro | apply And.intro | apply If_true | apply If_false | apply If_not)
    | ((with_reducible apply VC.mk); exact vt)
    | ((with_reducible apply If_dec) <;> intro hc <;> (try (exfalso; omega)))
    | ((with_reducible apply If_any) <;> intro hc)
    | ((with_reducible first | apply PF.mk | apply DrawP.mk); (focus kernel_rfl))
    | ((with_reducible apply Same.mk); (focus rfl); (first | exact trivial | exact rfl))
    | (intro cap hcap)
    | ((fail_if_success (with_reducible apply st)); conv => whnf))
      refine Round.mk ⟨(y.1 + 1, crcStep y.2 (l.getD y.1 0)), ⟨by show y.1 + 1 ≤ _; omega, crcStep_R _ _, ?_⟩, by show l.length - (y.1 + 1) < l.length - y.1; omega, Fit.ren [] [] rfl rfl trivial trivial ?_⟩
      · rw [List.take_add_one, List.getElem?_eq_getElem hlt, List.foldl_append, ← g3, List.getD_eq_getElem?_getD, List.getElem?_eq_getElem hlt]
        rfl
      · repeat' (first
    | (with_reducible first | exact True.intro | apply And.intro | apply If_true | apply If_false | apply If_not)
    | ((with_reducible apply VC.mk); exact vt)
    | ((with_reducible apply If_dec) <;> intro hc <;> (try (exfalso; omega)))
    | ((with_reducible apply If_any) <;> intro hc)
    | ((with_reducible first | apply PF.mk | apply DrawP.mk); (focus kernel_rfl))
    | ((with_reducible apply Same.mk); (focus rfl); (first | exact trivial | exact rfl))
    | (intro cap hcap)
    | ((fail_if_success (with_reducible apply st)); conv => whnf))
    · have e2 : (l.take y.1) = l := List.take_of_length_le (by omega)
      rw [e2] at g3
      rw [g3]
      exact Fin.same hk
theorem more_K : ConOk Go.Proofs.Try.prog 83 (Con.fn (Int × List Int) (fun (s, l) => [.v (.int .u32 s), .im false 1 l.length (.ints .u8 l)]) (fun _ => []) (fun (s, l) => R32 s ∧ B8 l ∧ l.length ≤ 1099511627776) (fun (s, l) => .v (.int .u32 (moreL s l))) (fun _ => [])) :=
  conOk_fn (T := tab) mix Go.Proofs.Try.func83 (by decide +kernel) (by kernel_rfl) [] [] (fun n => by rw [Go.Proofs.Try.ntmps83]; exact Nat.le_of_ble_eq_true rfl) (fun n _ => ⟨trivial, (fun c hc => by cases hc), Nat.le_refl _⟩) (fun n _ c hc => by cases hc) (fun (s, l) k h0 hk => more_c s l k h0 hk)
theorem more_at {avs : List AV} {H : List Chunk} {k : K} (s : Int) (l : List Int) (h0 : R32 s ∧ B8 l ∧ l.length ≤ 1099511627776) (ha : argsM H [] [.v (.int .u32 s), .im false 1 l.length (.ints .u8 l)] avs) (h : k (.v (.int .u32 (moreL s l))) H) : CallP Go.Proofs.Try.prog 83 avs H k :=
  CallP.mk ⟨_, more_K.real, Con.spec more_K, (s, l), [], ⟨h0, rfl, trivial, ha⟩, (numK_eq H.length (fun N => k (AV.ren (fren [] N) (.v (.int .u32 (moreL s l)))) (putAll H [] []))).mpr (by simpa [putAll, AV.ren] using h)⟩
/-- The sum of one part: lent, or the beginning of a row that is handed over. -/
def rowOf (g : Bool) (l : List Int) : Cont := .recs 1 1 (fun _ => [.im g 1 l.length (.ints .u8 l)])
set_option maxHeartbeats 4000000 in
theorem sum_c (l : List Int) (k : K) (h0 : B8 l ∧ l.length ≤ 1099511627776) (hk : k (.v (.int .u32 (moreL 0 l))) []) : evFunc tab [] [] Go.Proofs.Try.f45 [.im false 1 1 (rowOf false l)] [] k := by
  repeat' (first
    | (with_reducible first | exact True.intro | apply And.intro | apply If_true | apply If_false | apply If_not)
    | ((with_reducible apply VC.mk); exact vt)
    | ((with_reducible apply If_dec) <;> intro hc <;> (try (exfalso; omega)))
    | ((with_reducible apply If_any) <;> intro hc)
    | ((with_reducible first | apply PF.mk | apply DrawP.mk); (focus kernel_rfl))
    | ((with_reducible apply Same.mk); (focus rfl); (first | exact trivial | exact rfl))
    | (intro cap hcap)
    | ((fail_if_success (with_reducible apply st)); conv => whnf))
  refine LoopP.mk ⟨Nat, fun y => y ≤ 1, fun y => ([(3, .v (.int .u32 (if y = 0 then 0 else moreL 0 l))), (6, .im false 1 1 (rowOf false l)), (7, .v (.int .i64 1)), (8, .v (.int .i64 y))], []), fun y => 1 - y, 0, Nat.zero_le _, Fit.ren [] [] rfl rfl trivial trivial ?_, ?_⟩
  · repeat' (first
    | (with_reducible first | exact True.intro | apply And.intro | apply If_true | apply If_false | apply If_not)
    | ((with_reducible apply VC.mk); exact vt)
    | ((with_reducible apply If_dec) <;> intro hc <;> (try (exfalso; omega)))
    | ((with_reducible apply If_any) <;> intro hc)
    | ((with_reducible first | apply PF.mk | apply DrawP.mk); (focus kernel_rfl))
    | ((with_reducible apply Same.mk); (focus rfl); (first | exact trivial | exact rfl))
    | (intro cap hcap)
    | ((fail_if_success (with_reducible apply st)); conv => whnf))
  · intro y hy
    have hy : y ≤ 1 := hy
    repeat' (first
    | (with_reducible first | exact True.intro | apply And.intro | apply If_true | apply If_false | apply If_not)
    | ((with_reducible apply VC.mk); exact vt)
    | ((with_reducible apply If_dec) <;> intro hc <;> (try (exfalso; omega)))
    | ((with_reducible apply If_any) <;> intro hc)
    | ((with_reducible first | apply PF.mk | apply DrawP.mk); (focus kernel_rfl))
    | ((with_reducible apply Same.mk); (focus rfl); (first | exact trivial | exact rfl))
    | (intro cap hcap)
    | ((fail_if_success (with_reducible apply st)); conv => whnf))
    · have hy0 : y = 0 := by omega
      subst hy0
      refine more_at 0 l ⟨⟨by decide, by decide⟩, h0⟩ ⟨rfl, ⟨rfl, rfl, rfl⟩, trivial⟩ ?_
      repeat' (first
    | (with_reducible first | exact True.intro | apply And.intro | apply If_true | apply If_false | apply If_not)
    | ((with_reducible apply VC.mk); exact vt)
    | ((with_reducible apply If_dec) <;> intro hc <;> (try (exfalso; omega)))
    | ((with_reducible apply If_any) <;> intro hc)
    | ((with_reducible first | apply PF.mk | apply DrawP.mk); (focus kernel_rfl))
    | ((with_reducible apply Same.mk); (focus rfl); (first | exact trivial | exact rfl))
    | (intro cap hcap)
    | ((fail_if_success (with_reducible apply st)); conv => whnf))
      refine Round.mk ⟨1, Nat.le_refl _, by decide, Fit.ren [] [] rfl rfl trivial trivial ?_⟩
      repeat' (first
    | (with_reducible first | exact True.intro | apply And.intro | apply If_true | apply If_false | apply If_not)
    | ((with_reducible apply VC.mk); exact vt)
    | ((with_reducible apply If_dec) <;> intro hc <;> (try (exfalso; omega)))
    | ((with_reducible apply If_any) <;> intro hc)
    | ((with_reducible first | apply PF.mk | apply DrawP.mk); (focus kernel_rfl))
    | ((with_reducible apply Same.mk); (focus rfl); (first | exact trivial | exact rfl))
    | (intro cap hcap)
    | ((fail_if_success (with_reducible apply st)); conv => whnf))
    · have hy0 : y = 1 := by omega
      subst hy0
      exact Fin.same hk
theorem sum_K : ConOk Go.Proofs.Try.prog 45 (Con.fn (List Int) (fun l => [.im false 1 1 (rowOf false l)]) (fun _ => []) (fun l => B8 l ∧ l.length ≤ 1099511627776) (fun l => .v (.int .u32 (moreL 0 l))) (fun _ => [])) :=
  conOk_fn (T := tab) mix Go.Proofs.Try.func45 (by decide +kernel) (by kernel_rfl) [] [] (fun n => by rw [Go.Proofs.Try.ntmps45]; exact Nat.le_of_ble_eq_true rfl) (fun n _ => ⟨trivial, (fun c hc => by cases hc), Nat.le_refl _⟩) (fun n _ c hc => by cases hc) (fun l k h0 hk => sum_c l k h0 hk)
theorem sum_at {avs : List AV} {H : List Chunk} {k : K} (l : List Int) (h0 : B8 l ∧ l.length ≤ 1099511627776) (ha : argsM H [] [.im false 1 1 (rowOf false l)] avs) (h : k (.v (.int .u32 (moreL 0 l))) H) : CallP Go.Proofs.Try.prog 45 avs H k :=
  CallP.mk ⟨_, sum_K.real, Con.spec sum_K, l, [], ⟨h0, rfl, trivial, ha⟩, (numK_eq H.length (fun N => k (AV.ren (fren [] N) (.v (.int .u32 (moreL 0 l)))) (putAll H [] []))).mpr (by simpa [putAll, AV.ren] using h)⟩
set_option maxHeartbeats 4000000 in
theorem sum2_c (l : List Int) (n c : Nat) (k : K) (h0 : B8 l ∧ n ≤ l.length ∧ n ≤ 1099511627776) (hk : k (.v (.int .u32 (moreL 0 (l.take n)))) [.blk 29 (.recs 1 1 (fun _ => [.s 1 0 1 n c])) 1, .blk 5 (.ints .u8 l) c]) : evFunc tab [] [] Go.Proofs.Try.f45 [.s 0 0 1 1 1] [.blk 29 (.recs 1 1 (fun _ => [.s 1 0 1 n c])) 1, .blk 5 (.ints .u8 l) c] k := by
  have hl : (l.take n).length = n := by rw [List.length_take]; omega
  repeat' (first
    | (with_reducible first | exact True.intro | apply And.intro | apply If_true | apply If_false | apply If_not)
    | ((with_reducible apply VC.mk); exact vt)
    | ((with_reducible apply If_dec) <;> intro hc <;> (try (exfalso; omega)))
    | ((with_reducible apply If_any) <;> intro hc)
    | ((with_reducible first | apply PF.mk | apply DrawP.mk); (focus kernel_rfl))
    | ((with_reducible apply Same.mk); (focus rfl); (first | exact trivial | exact rfl))
    | (intro cap hcap)
    | ((fail_if_success (with_reducible apply st)); conv => whnf))
  refine LoopP.mk ⟨Nat, fun y => y ≤ 1, fun y => ([(3, .v (.int .u32 (if y = 0 then 0 else moreL 0 (l.take n)))), (6, .s 0 0 1 1 1), (7, .v (.int .i64 1)), (8, .v (.int .i64 y))], [.blk 29 (.recs 1 1 (fun _ => [.s 1 0 1 n c])) 1, .blk 5 (.ints .u8 l) c]), fun y => 1 - y, 0, Nat.zero_le _, Fit.ren [0, 1] [] rfl rfl trivial ?_ ?_, ?_⟩
  · repeat' (first
    | (with_reducible first | exact True.intro | apply And.intro | apply If_true | apply If_false | apply If_not)
    | ((with_reducible apply VC.mk); exact vt)
    | ((with_reducible apply If_dec) <;> intro hc <;> (try (exfalso; omega)))
    | ((with_reducible apply If_any) <;> intro hc)
    | ((with_reducible first | apply PF.mk | apply DrawP.mk); (focus kernel_rfl))
    | ((with_reducible apply Same.mk); (focus rfl); (first | exact trivial | exact rfl))
    | (intro cap hcap)
    | ((fail_if_success (with_reducible apply st)); conv => whnf))
  · repeat' (first
    | (with_reducible first | exact True.intro | apply And.intro | apply If_true | apply If_false | apply If_not)
    | ((with_reducible apply VC.mk); exact vt)
    | ((with_reducible apply If_dec) <;> intro hc <;> (try (exfalso; omega)))
    | ((with_reducible apply If_any) <;> intro hc)
    | ((with_reducible first | apply PF.mk | apply DrawP.mk); (focus kernel_rfl))
    | ((with_reducible apply Same.mk); (focus rfl); (first | exact trivial | exact rfl))
    | (intro cap hcap)
    | ((fail_if_success (with_reducible apply st)); conv => whnf))
  · intro y hy
    have hy : y ≤ 1 := hy
    repeat' (first
    | (with_reducible first | exact True.intro | apply And.intro | apply If_true | apply If_false | apply If_not)
    | ((with_reducible apply VC.mk); exact vt)
    | ((with_reducible apply If_dec) <;> intro hc <;> (try (exfalso; omega)))
    | ((with_reducible apply If_any) <;> intro hc)
    | ((with_reducible first | apply PF.mk | apply DrawP.mk); (focus kernel_rfl))
    | ((with_reducible apply Same.mk); (focus rfl); (first | exact trivial | exact rfl))
    | (intro cap hcap)
    | ((fail_if_success (with_reducible apply st)); conv => whnf))
    · have hy0 : y = 0 := by omega
      subst hy0
      refine more_at 0 (l.take n) ⟨⟨by decide, by decide⟩, h0.1.take _, by omega⟩ ⟨rfl, ⟨by omega, rfl, hl.symm, by show Cont.ints _ _ = Cont.ints _ _; rw [List.drop_zero], rfl, Nat.one_pos⟩, trivial⟩ ?_
      repeat' (first
    | (with_reducible first | exact True.intro | apply And.intro | apply If_true | apply If_false | apply If_not)
    | ((with_reducible apply VC.mk); exact vt)
    | ((with_reducible apply If_dec) <;> intro hc <;> (try (exfalso; omega)))
    | ((with_reducible apply If_any) <;> intro hc)
    | ((with_reducible first | apply PF.mk | apply DrawP.mk); (focus kernel_rfl))
    | ((with_reducible apply Same.mk); (focus rfl); (first | exact trivial | exact rfl))
    | (intro cap hcap)
    | ((fail_if_success (with_reducible apply st)); conv => whnf))
      refine Round.mk ⟨1, Nat.le_refl _, by decide, Fit.ren [0, 1] [] rfl rfl trivial ?_ ?_⟩
      · repeat' (first
    | (with_reducible first | exact True.intro | apply And.intro | apply If_true | apply If_false | apply If_not)
    | ((with_reducible apply VC.mk); exact vt)
    | ((with_reducible apply If_dec) <;> intro hc <;> (try (exfalso; omega)))
    | ((with_reducible apply If_any) <;> intro hc)
    | ((with_reducible first | apply PF.mk | apply DrawP.mk); (focus kernel_rfl))
    | ((with_reducible apply Same.mk); (focus rfl); (first | exact trivial | exact rfl))
    | (intro cap hcap)
    | ((fail_if_success (with_reducible apply st)); conv => whnf))
      · repeat' (first
    | (with_reducible first | exact True.intro | apply And.intro | apply If_true | apply If_false | apply If_not)
    | ((with_reducible apply VC.mk); exact vt)
    | ((with_reducible apply If_dec) <;> intro hc <;> (try (exfalso; omega)))
    | ((with_reducible apply If_any) <;> intro hc)
    | ((with_reducible first | apply PF.mk | apply DrawP.mk); (focus kernel_rfl))
    | ((with_reducible apply Same.mk); (focus rfl); (first | exact trivial | exact rfl))
    | (intro cap hcap)
    | ((fail_if_success (with_reducible apply st)); conv => whnf))
    · have hy0 : y = 1 := by omega
      subst hy0
      exact Fin.same hk
theorem sum2_K : ConOk Go.Proofs.Try.prog 45 (Con.fn (List Int × Nat × Nat) (fun _ => [.s 0 0 1 1 1]) (fun (l, n, c) => [.blk 29 (.recs 1 1 (fun _ => [.s 1 0 1 n c])) 1, .blk 5 (.ints .u8 l) c]) (fun (l, n, _) => B8 l ∧ n ≤ l.length ∧ n ≤ 1099511627776) (fun (l, n, _) => .v (.int .u32 (moreL 0 (l.take n)))) (fun (l, n, c) => [.blk 29 (.recs 1 1 (fun _ => [.s 1 0 1 n c])) 1, .blk 5 (.ints .u8 l) c])) :=
  conOk_fn (T := tab) mix Go.Proofs.Try.func45 (by decide +kernel) (by kernel_rfl) [] [] (fun n => by rw [Go.Proofs.Try.ntmps45]; exact Nat.le_of_ble_eq_true rfl) (fun (l, n, c) _ => ⟨trivial, (fun x hx => by simp at hx; rcases hx with rfl | rfl; exact .blk (fun _ _ => ⟨trivial, trivial⟩); exact .blk trivial), Nat.le_refl _⟩) (fun (l, n, c) _ x hx => by simp at hx; rcases hx with rfl | rfl <;> trivial) (fun (l, n, c) k h0 hk => sum2_c l n c k h0 hk)
theorem sum2_at {avs : List AV} {H : List Chunk} {k : K} (l : List Int) (n c : Nat) (σ : List Nat) (h0 : B8 l ∧ n ≤ l.length ∧ n ≤ 1099511627776) (hn : nodupN σ = true) (hc : chunksAt H (fren σ H.length) σ [.blk 29 (.recs 1 1 (fun _ => [.s 1 0 1 n c])) 1, .blk 5 (.ints .u8 l) c]) (ha : argsM H σ [.s 0 0 1 1 1] avs)
    (h : numK H.length (fun N => k (.v (.int .u32 (moreL 0 (l.take n)))) (putAll H σ (List.map (Chunk.ren (fren σ N)) [.blk 29 (.recs 1 1 (fun _ => [.s 1 0 1 n c])) 1, .blk 5 (.ints .u8 l) c])))) : CallP Go.Proofs.Try.prog 45 avs H k :=
  CallP.mk ⟨_, sum2_K.real, Con.spec sum2_K, (l, n, c), σ, ⟨h0, hn, hc, ha⟩, h⟩
/-- Parts, joined. -/
def partsC (g : Bool) (ps : List (List Int)) : Cont := .recs 1 ps.length (fun i => [.im g 1 (ps.getD i []).length (.ints .u8 (ps.getD i []))])
set_option maxHeartbeats 4000000 in
theorem join_c (ps : List (List Int)) (k : K) (h0 : ps.flatten.length ≤ 1099511627776 ∧ ps.length ≤ 1099511627776) (hk : ∀ l, l = ps.flatten → k (.im true 1 l.length (.ints .u8 l)) []) : evFunc tab [] [] Go.Proofs.Try.f47 [.im false 1 ps.length (partsC false ps)] [] k := by
  repeat' (first
    | (with_reducible first | exact True.intro | apply And.intro | apply If_true | apply If_false | apply If_not)
    | ((with_reducible apply VC.mk); exact vt)
    | ((with_reducible apply If_dec) <;> intro hc <;> (try (exfalso; omega)))
    | ((with_reducible apply If_any) <;> intro hc)
    | ((with_reducible first | apply PF.mk | apply DrawP.mk); (focus kernel_rfl))
    | ((with_reducible apply Same.mk); (focus rfl); (first | exact trivial | exact rfl))
    | (intro cap hcap)
    | ((fail_if_success (with_reducible apply st)); conv => whnf))
  refine LoopP.mk ⟨Nat × List Int × Nat, fun y => y.1 ≤ ps.length ∧ y.2.1 = (ps.take y.1).flatten, fun y => ([(3, .s 0 0 1 y.2.1.length y.2.2), (6, .im false 1 ps.length (partsC false ps)), (7, .v (.int .i64 ps.length)), (8, .v (.int .i64 y.1))], [.blk 5 (.ints .u8 y.2.1) y.2.2]), fun y => ps.length - y.1, (0, [], 0), ⟨Nat.zero_le _, rfl⟩, Fit.ren [0] [] rfl rfl trivial ?_ ?_, ?_⟩
  · repeat' (first
    | (with_reducible first | exact True.intro | apply And.intro | apply If_true | apply If_false | apply If_not)
    | ((with_reducible apply VC.mk); exact vt)
    | ((with_reducible apply If_dec) <;> intro hc <;> (try (exfalso; omega)))
    | ((with_reducible apply If_any) <;> intro hc)
    | ((with_reducible first | apply PF.mk | apply DrawP.mk); (focus kernel_rfl))
    | ((with_reducible apply Same.mk); (focus rfl); (first | exact trivial | exact rfl))
    | (intro cap hcap)
    | ((fail_if_success (with_reducible apply st)); conv => whnf))
  · repeat' (first
    | (with_reducible first | exact True.intro | apply And.intro | apply If_true | apply If_false | apply If_not)
    | ((with_reducible apply VC.mk); exact vt)
    | ((with_reducible apply If_dec) <;> intro hc <;> (try (exfalso; omega)))
    | ((with_reducible apply If_any) <;> intro hc)
    | ((with_reducible first | apply PF.mk | apply DrawP.mk); (focus kernel_rfl))
    | ((with_reducible apply Same.mk); (focus rfl); (first | exact trivial | exact rfl))
    | (intro cap hcap)
    | ((fail_if_success (with_reducible apply st)); conv => whnf))
  · intro y hy
    obtain ⟨g1, g2⟩ := hy
    have e : ((y.1 : Nat) : Int).toNat = y.1 := Int.toNat_natCast _
    by_cases hlt : y.1 < ps.length
    · have e2 : (ps.take (y.1 + 1)).flatten = (ps.take y.1).flatten ++ ps.getD y.1 [] := by
        rw [List.take_add_one, List.getElem?_eq_getElem hlt, List.flatten_append, List.getD_eq_getElem?_getD, List.getElem?_eq_getElem hlt]
        simp
      have e3 : ((ps.take (y.1 + 1)).flatten).length ≤ ps.flatten.length := by
        have h1 := congrArg List.length (congrArg List.flatten (List.take_append_drop (y.1 + 1) ps))
        rw [List.flatten_append, List.length_append] at h1
        omega
      have e4 := congrArg List.length e2
      rw [List.length_append, ← g2] at e4
      rw [← g2] at e2
      repeat' (first
    | (with_reducible first | exact True.intro | apply And.intro | apply If_true | apply If_false | apply If_not)
    | ((with_reducible apply VC.mk); exact vt)
    | ((with_reducible apply If_dec) <;> intro hc <;> (try (exfalso; omega)))
    | ((with_reducible apply If_any) <;> intro hc)
    | ((with_reducible first | apply PF.mk | apply DrawP.mk); (focus kernel_rfl))
    | ((with_reducible apply Same.mk); (focus rfl); (first | exact trivial | exact rfl))
    | (intro cap hcap)
    | ((fail_if_success (with_reducible apply st)); conv => whnf))
      · refine VC.mk ⟨⟨rfl, rfl, by simp [Cont.cells], by omega⟩, trivial, ?_, by decide, by decide⟩
        rw [e]; omega
      · refine Round.mk ⟨(y.1 + 1, y.2.1 ++ ps.getD y.1 [], cap), ⟨by show y.1 + 1 ≤ _; omega, e2.symm⟩, by show ps.length - (y.1 + 1) < ps.length - y.1; omega, Fit.ren [1] [] rfl rfl trivial ?_ ?_⟩
        · refine ⟨⟨VC.mk ⟨rfl, by show cap * 1 = cap; omega⟩, VC.mk ⟨rfl, ?_⟩⟩, trivial⟩
          rw [e]; exact List.prefix_rfl
        · repeat' (first
    | (with_reducible first | exact True.intro | apply And.intro | apply If_true | apply If_false | apply If_not)
    | ((with_reducible apply VC.mk); exact vt)
    | ((with_reducible apply If_dec) <;> intro hc <;> (try (exfalso; omega)))
    | ((with_reducible apply If_any) <;> intro hc)
    | ((with_reducible first | apply PF.mk | apply DrawP.mk); (focus kernel_rfl))
    | ((with_reducible apply Same.mk); (focus rfl); (first | exact trivial | exact rfl))
    | (intro cap hcap)
    | ((fail_if_success (with_reducible apply st)); conv => whnf))
          all_goals (refine VC.mk ⟨rfl, rfl, rfl, ?_, rfl⟩; rw [e]; simp)
    · repeat' (first
    | (with_reducible first | exact True.intro | apply And.intro | apply If_true | apply If_false | apply If_not)
    | ((with_reducible apply VC.mk); exact vt)
    | ((with_reducible apply If_dec) <;> intro hc <;> (try (exfalso; omega)))
    | ((with_reducible apply If_any) <;> intro hc)
    | ((with_reducible first | apply PF.mk | apply DrawP.mk); (focus kernel_rfl))
    | ((with_reducible apply Same.mk); (focus rfl); (first | exact trivial | exact rfl))
    | (intro cap hcap)
    | ((fail_if_success (with_reducible apply st)); conv => whnf))
      have e5 : ps.take y.1 = ps := List.take_of_length_le (by omega)
      rw [e5] at g2
      exact Fin.frz rfl rfl (hk _ g2)
theorem join_K : ConOk Go.Proofs.Try.prog 47 (Con.of (List (List Int)) (List Int) (fun ps => [.im false 1 ps.length (partsC false ps)]) (fun _ => []) (fun ps => ps.flatten.length ≤ 1099511627776 ∧ ps.length ≤ 1099511627776) (fun ps l => l = ps.flatten) (fun _ l => .im true 1 l.length (.ints .u8 l)) (fun _ _ => [])) :=
  conOk_rel (T := tab) mix Go.Proofs.Try.func47 (by decide +kernel) (by kernel_rfl) [] [] (fun n => by rw [Go.Proofs.Try.ntmps47]; exact Nat.le_of_ble_eq_true rfl) (fun n z _ _ => ⟨⟨rfl, trivial⟩, (fun c hc => by cases hc), Nat.le_refl _⟩) (fun n _ c hc => by cases hc) (fun ps k h0 hk => join_c ps k h0 (fun l hl => hk l hl))
theorem join_at {avs : List AV} {H : List Chunk} {k : K} (ps : List (List Int)) (h0 : ps.flatten.length ≤ 1099511627776 ∧ ps.length ≤ 1099511627776) (ha : argsM H [] [.im false 1 ps.length (partsC false ps)] avs) (h : ∀ l, l = ps.flatten → k (.im true 1 l.length (.ints .u8 l)) H) : CallP Go.Proofs.Try.prog 47 avs H k :=
  CallP.mk ⟨_, join_K.real, Con.spec join_K, ps, [], ⟨h0, rfl, trivial, ha⟩, fun l hl => (numK_eq H.length (fun N => k (AV.ren (fren [] N) (.im true 1 l.length (.ints .u8 l))) (putAll H [] []))).mpr (by simpa [putAll, AV.ren, Cont.ren] using h l hl)⟩
end Go.Proofs.Ytcfmlnddmpiemaa.Sx


set_option maxRecDepth 10000
namespace Go.Proofs.Ytcfmlnddmpiemaa.Sx
open Go.RowKit
/-! ### CRC-32 as arithmetic of Nat: a step is linear and leaves no number but 0 to 0; so a row of up to 32 turned bits turns the sum -/
def cPn : Nat := 3988292384
def cT (x : Nat) : Nat := if x % 2 = 1 then (x / 2) ^^^ cPn else x / 2
def cTn : Nat → Nat → Nat
  | 0, x => x
  | n + 1, x => cTn n (cT x)
theorem cXor_div2 (a b : Nat) : (a ^^^ b) / 2 = a / 2 ^^^ b / 2 := by
  apply Nat.eq_of_testBit_eq
  intro i
  simp [Nat.testBit_div_two, Nat.testBit_xor]
theorem cXor_mod2 (a b : Nat) : (a ^^^ b) % 2 = (a + b) % 2 := by
  have h := Nat.testBit_xor a b 0
  simp only [Nat.testBit_zero] at h
  rcases Nat.mod_two_eq_zero_or_one (a ^^^ b) with h0 | h0 <;> rcases Nat.mod_two_eq_zero_or_one a with h1 | h1 <;> rcases Nat.mod_two_eq_zero_or_one b with h2 | h2 <;> simp [h0, h1, h2] at h <;> omega
theorem cT_xor (a b : Nat) : cT (a ^^^ b) = cT a ^^^ cT b := by
  unfold cT
  rw [cXor_mod2, cXor_div2]
  rcases Nat.mod_two_eq_zero_or_one a with h1 | h1 <;> rcases Nat.mod_two_eq_zero_or_one b with h2 | h2
  · rw [if_neg (by omega), if_neg (by omega), if_neg (by omega)]
  · rw [if_pos (by omega), if_neg (by omega), if_pos (by omega), Nat.xor_assoc]
  · rw [if_pos (by omega), if_pos (by omega), if_neg (by omega), Nat.xor_assoc, Nat.xor_assoc, Nat.xor_comm cPn]
  · rw [if_neg (by omega), if_pos (by omega), if_pos (by omega), Nat.xor_assoc, Nat.xor_comm (b / 2), ← Nat.xor_assoc cPn, Nat.xor_self, Nat.zero_xor]
theorem cTn_xor (n : Nat) : ∀ a b, cTn n (a ^^^ b) = cTn n a ^^^ cTn n b := by
  induction n with
  | zero => intro a b; rfl
  | succ n ih => intro a b; simp only [cTn, cT_xor, ih]
theorem cTn_add (m n : Nat) : ∀ x, cTn (m + n) x = cTn n (cTn m x) := by
  induction m with
  | zero => intro x; rw [Nat.zero_add]; rfl
  | succ m ih => intro x; rw [Nat.succ_add]; simp only [cTn, ih]
theorem cT_lt {x : Nat} (h : x < 2 ^ 32) : cT x < 2 ^ 32 := by
  unfold cT
  split
  · exact Nat.xor_lt_two_pow (by omega) (by unfold cPn; omega)
  · omega
theorem cTn_lt (n : Nat) : ∀ {x : Nat}, x < 2 ^ 32 → cTn n x < 2 ^ 32 := by
  induction n with
  | zero => intro x h; exact h
  | succ n ih => intro x h; exact ih (cT_lt h)
theorem cT_ne {x : Nat} (h : x < 2 ^ 32) (h0 : x ≠ 0) : cT x ≠ 0 := by
  unfold cT
  split
  · intro e
    have e1 : x / 2 = cPn := by
      have := congrArg (fun y => y ^^^ cPn) e
      simpa [Nat.xor_assoc, Nat.xor_self] using this
    unfold cPn at e1
    omega
  · omega
theorem cTn_ne (n : Nat) : ∀ {x : Nat}, x < 2 ^ 32 → x ≠ 0 → cTn n x ≠ 0 := by
  induction n with
  | zero => intro x _ h; exact h
  | succ n ih => intro x h h0; exact ih (cT_lt h) (cT_ne h h0)
theorem cTn_shift (n : Nat) : ∀ x, cTn n (x <<< n) = x := by
  induction n with
  | zero => intro x; rw [Nat.shiftLeft_zero]; rfl
  | succ n ih =>
    intro x
    simp only [cTn]
    have : cT (x <<< (n + 1)) = x <<< n := by
      rw [Nat.shiftLeft_succ]
      unfold cT
      rw [if_neg (by omega)]
      omega
    rw [this, ih]
/-- The state behind some bytes. -/
def cSt (s : Nat) : List Int → Nat
  | [] => s
  | c :: l => cSt (cTn 8 (s ^^^ c.toNat)) l
/-- What two rows of bytes differ in, as one number. -/
def cDif : List Int → List Int → Nat
  | p :: ps, q :: qs => (p.toNat ^^^ q.toNat) ^^^ (cDif ps qs <<< 8)
  | _, _ => 0
theorem cXor4 (a b c d : Nat) : (a ^^^ b) ^^^ (c ^^^ d) = (a ^^^ c) ^^^ (b ^^^ d) := by
  rw [Nat.xor_assoc, Nat.xor_assoc, ← Nat.xor_assoc b, ← Nat.xor_assoc c, Nat.xor_comm b c]
theorem cSt_step (n a b p q D : Nat) : (cTn n (a ^^^ p) ^^^ cTn n (b ^^^ q)) ^^^ D = cTn n ((a ^^^ b) ^^^ ((p ^^^ q) ^^^ (D <<< n))) := by
  rw [← Nat.xor_assoc (a ^^^ b), cTn_xor n _ (D <<< n), cTn_shift, cXor4 a b p q, cTn_xor n (a ^^^ p)]
theorem cSt_dif : ∀ (p q : List Int) (a b : Nat), p.length = q.length → cSt a p ^^^ cSt b q = cTn (8 * p.length) ((a ^^^ b) ^^^ cDif p q) := by
  intro p
  induction p with
  | nil =>
    intro q a b h
    cases q with
    | nil => rw [show cDif [] [] = 0 from rfl, Nat.xor_zero]; rfl
    | cons q qs => simp at h
  | cons p ps ih =>
    intro q a b h
    cases q with
    | nil => simp at h
    | cons q qs =>
      have h1 := ih qs (cTn 8 (a ^^^ p.toNat)) (cTn 8 (b ^^^ q.toNat)) (by simpa using h)
      have e : 8 * (p :: ps).length = 8 + 8 * ps.length := by rw [List.length_cons]; omega
      rw [e, cTn_add 8]
      show cSt (cTn 8 (a ^^^ p.toNat)) ps ^^^ cSt (cTn 8 (b ^^^ q.toNat)) qs = cTn (8 * ps.length) (cTn 8 ((a ^^^ b) ^^^ ((p.toNat ^^^ q.toNat) ^^^ (cDif ps qs <<< 8))))
      rw [h1, cSt_step 8]
theorem cSt_lt : ∀ (p : List Int) (a : Nat), a < 2 ^ 32 → B8 p → cSt a p < 2 ^ 32
  | [], a, h, _ => h
  | p :: ps, a, h, hb => by
    have hp := hb p List.mem_cons_self
    exact cSt_lt ps _ (cTn_lt 8 (Nat.xor_lt_two_pow h (by omega))) (fun x hx => hb x (List.mem_cons_of_mem _ hx))
/-- A row of up to 32 bits that is turned turns the state. -/
theorem cSt_burst {p q : List Int} {s e k : Nat} (hl : p.length = q.length) (hd : cDif p q = e <<< k) (he : e < 2 ^ 32) (h0 : e ≠ 0) (hk : k ≤ 8 * p.length) : cSt s p ≠ cSt s q := by
  intro h
  have h1 := cSt_dif p q s s hl
  rw [h, Nat.xor_self, Nat.xor_self, Nat.zero_xor, hd, show 8 * p.length = k + (8 * p.length - k) by omega, cTn_add, cTn_shift] at h1
  exact cTn_ne _ he h0 h1.symm
theorem cDif_self : ∀ (p : List Int), cDif p p = 0
  | [] => rfl
  | c :: l => by simp [cDif, cDif_self l]
theorem cSet_dif : ∀ (p q : List Int) (i r : Nat) (v : Int), p.length = q.length → i < q.length → v.toNat = (q.getD i 0).toNat ^^^ 2 ^ r → cDif p (q.set i v) = cDif p q ^^^ 2 ^ (8 * i + r)
  | p :: ps, q :: qs, 0, r, v, hl, hi, hv => by
    rw [show (q :: qs).getD 0 0 = q from rfl] at hv
    simp only [List.set_cons_zero, cDif]
    rw [hv, Nat.mul_zero, Nat.zero_add, Nat.xor_assoc, Nat.xor_assoc, Nat.xor_assoc, Nat.xor_assoc, Nat.xor_comm (2 ^ r)]
  | p :: ps, q :: qs, i + 1, r, v, hl, hi, hv => by
    rw [List.getD_cons_succ] at hv
    simp only [List.set_cons_succ, cDif]
    rw [cSet_dif ps qs i r v (by simpa using hl) (by simpa using hi) hv, Nat.shiftLeft_xor_distrib, ← Nat.xor_assoc]
    congr 1
    rw [Nat.shiftLeft_eq, ← Nat.pow_add]
    congr 1
    omega
  | [], q :: qs, _, _, _, h, _, _ => by simp at h
  | _, [], _, _, _, _, h, _ => by simp at h
/-- One bit more of the row. -/
theorem cRow_bit (b j k : Nat) : ((b % 2 ^ j) <<< k) ^^^ (if b / 2 ^ j % 2 = 1 then 2 ^ (k + j) else 0) = (b % 2 ^ (j + 1)) <<< k := by
  have e : b % 2 ^ (j + 1) = b % 2 ^ j ^^^ (if b / 2 ^ j % 2 = 1 then 2 ^ j else 0) := by
    apply Nat.eq_of_testBit_eq
    intro i
    rw [Nat.testBit_xor, Nat.testBit_mod_two_pow, Nat.testBit_mod_two_pow]
    have hb : b / 2 ^ j % 2 = 1 ↔ b.testBit j = true := by rw [Nat.testBit_eq_decide_div_mod_eq]; simp
    by_cases h : b / 2 ^ j % 2 = 1
    · rw [if_pos h, Nat.testBit_two_pow]
      by_cases hij : j = i
      · subst hij
        simp [hb.1 h]
      · by_cases h1 : i < j <;> by_cases h2 : i < j + 1 <;> simp [hij, h1, h2] <;> omega
    · rw [if_neg h, Nat.zero_testBit]
      by_cases hij : j = i
      · subst hij
        have : b.testBit j = false := by
          cases hq : b.testBit j
          · rfl
          · exact absurd (hb.2 hq) h
        simp [this]
      · by_cases h1 : i < j <;> by_cases h2 : i < j + 1 <;> simp [hij, h1, h2] <;> omega
  rw [e, Nat.shiftLeft_xor_distrib]
  congr 1
  split
  · rw [Nat.shiftLeft_eq, ← Nat.pow_add, Nat.add_comm]
  · simp

theorem cxor_u32 (a b : Nat) (ha : a < 4294967296) (hb : b < 4294967296) : Go.bits .xor .u32 (a : Int) (b : Int) = ((a ^^^ b : Nat) : Int) := by
  have hx : a ^^^ b < 2 ^ 32 := Nat.xor_lt_two_pow (by omega) (by omega)
  have h1 : (BitVec.ofInt 32 (a : Int)).toNat = a := by
    rw [BitVec.ofInt_natCast, BitVec.toNat_ofNat]; exact Nat.mod_eq_of_lt (by omega)
  have h2 : (BitVec.ofInt 32 (b : Int)).toNat = b := by
    rw [BitVec.ofInt_natCast, BitVec.toNat_ofNat]; exact Nat.mod_eq_of_lt (by omega)
  show IntKind.u32.wrap ((BitVec.ofInt 32 (a : Int) ^^^ BitVec.ofInt 32 (b : Int)).toNat : Int) = _
  rw [BitVec.toNat_xor, h1, h2, wu32]
  omega
theorem cxor_u8 (a b : Nat) (ha : a < 256) (hb : b < 256) : Go.bits .xor .u8 (a : Int) (b : Int) = ((a ^^^ b : Nat) : Int) := by
  have hx : a ^^^ b < 2 ^ 8 := Nat.xor_lt_two_pow (by omega) (by omega)
  have h1 : (BitVec.ofInt 8 (a : Int)).toNat = a := by
    rw [BitVec.ofInt_natCast, BitVec.toNat_ofNat]; exact Nat.mod_eq_of_lt (by omega)
  have h2 : (BitVec.ofInt 8 (b : Int)).toNat = b := by
    rw [BitVec.ofInt_natCast, BitVec.toNat_ofNat]; exact Nat.mod_eq_of_lt (by omega)
  show IntKind.u8.wrap ((BitVec.ofInt 8 (a : Int) ^^^ BitVec.ofInt 8 (b : Int)).toNat : Int) = _
  rw [BitVec.toNat_xor, h1, h2]
  simp only [IntKind.wrap, IntKind.bits, IntKind.signed]
  simp
  omega
theorem cand_u32 (a : Nat) (ha : a < 4294967296) : Go.bits .and .u32 (a : Int) 1 = ((a % 2 : Nat) : Int) := by
  have h1 : (BitVec.ofInt 32 (a : Int)).toNat = a := by
    rw [BitVec.ofInt_natCast, BitVec.toNat_ofNat]; exact Nat.mod_eq_of_lt (by omega)
  show IntKind.u32.wrap ((BitVec.ofInt 32 (a : Int) &&& BitVec.ofInt 32 (1 : Int)).toNat : Int) = _
  rw [BitVec.toNat_and, h1, show (BitVec.ofInt 32 (1 : Int)).toNat = 1 from rfl, wu32, Nat.and_one_is_mod]
  omega

theorem crc1_T (x : Nat) (h : x < 4294967296) : crc1 (x : Int) = ((cT x : Nat) : Int) := by
  unfold crc1
  rw [cand_u32 x h]
  have e2 : (x : Int) / 2 = ((x / 2 : Nat) : Int) := by omega
  rw [e2]
  by_cases hx : x % 2 = 1
  · rw [if_pos (by omega), show (3988292384 : Int) = ((3988292384 : Nat) : Int) from rfl, cxor_u32 _ _ (by omega) (by omega)]
    have eT : cT x = x / 2 ^^^ 3988292384 := by unfold cT cPn; rw [if_pos hx]
    rw [← eT]
  · rw [if_neg (by omega)]
    have eT : cT x = x / 2 := by unfold cT; rw [if_neg hx]
    rw [← eT]
theorem crcN_T : ∀ (n : Nat) (x : Nat), x < 4294967296 → crcN n (x : Int) = ((cTn n x : Nat) : Int)
  | 0, x, h => rfl
  | n + 1, x, h => by
    have hT := cT_lt (x := x) (by omega)
    show crcN n (crc1 (x : Int)) = _
    rw [crc1_T x h, crcN_T n (cT x) (by omega)]; rfl
theorem crcStep_T (x : Nat) (c : Int) (h : x < 4294967296) (h0 : 0 ≤ c ∧ c < 256) : crcStep (x : Int) c = ((cTn 8 (x ^^^ c.toNat) : Nat) : Int) := by
  have hq : x ^^^ c.toNat < 2 ^ 32 := Nat.xor_lt_two_pow (by omega) (by omega)
  obtain ⟨m, rfl⟩ : ∃ m : Nat, c = m := ⟨c.toNat, by omega⟩
  rw [Int.toNat_natCast] at hq ⊢
  unfold crcStep
  rw [cxor_u32 _ _ h (by omega), crcN_T 8 _ (by omega)]
theorem fold_T : ∀ (l : List Int) (x : Nat), x < 4294967296 → B8 l → l.foldl crcStep (x : Int) = ((cSt x l : Nat) : Int)
  | [], x, _, _ => rfl
  | c :: l, x, h, hb => by
    have hc := hb c List.mem_cons_self
    have hq : x ^^^ c.toNat < 2 ^ 32 := Nat.xor_lt_two_pow (by omega) (by omega)
    have hT := cTn_lt 8 hq
    show l.foldl crcStep (crcStep (x : Int) c) = _
    rw [crcStep_T x c h hc, fold_T l _ (by omega) (fun y hy => hb y (List.mem_cons_of_mem _ hy))]
    rfl
theorem crcNot_T (x : Nat) (h : x < 4294967296) : crcNot (x : Int) = ((4294967295 ^^^ x : Nat) : Int) := by
  unfold crcNot
  rw [show (if IntKind.u32.signed = true then (-1 : Int) else IntKind.u32.max) = ((4294967295 : Nat) : Int) from by decide +kernel, cxor_u32 _ _ (by omega) h]
theorem moreL_T (l : List Int) (hb : B8 l) : moreL 0 l = ((4294967295 ^^^ cSt 4294967295 l : Nat) : Int) := by
  unfold moreL
  rw [show (0 : Int) = ((0 : Nat) : Int) from rfl, crcNot_T 0 (by omega), show (4294967295 ^^^ 0 : Nat) = 4294967295 from rfl, fold_T l _ (by omega) hb]
  exact crcNot_T _ (cSt_lt l _ (by omega) hb)
/-- A row of up to 32 bits that is turned turns the sum. -/
theorem moreL_burst {p q : List Int} {e k : Nat} (hp : B8 p) (hq : B8 q) (hl : p.length = q.length) (hd : cDif p q = e <<< k) (he : e < 2 ^ 32) (h0 : e ≠ 0) (hk : k ≤ 8 * p.length) : moreL 0 p ≠ moreL 0 q := by
  intro h
  rw [moreL_T p hp, moreL_T q hq] at h
  have h := Int.ofNat.inj h
  have h2 := congrArg (fun x => 4294967295 ^^^ x) h
  simp only [← Nat.xor_assoc, Nat.xor_self, Nat.zero_xor] at h2
  exact cSt_burst hl hd he h0 hk h2
theorem cshl1 (r : Nat) (h : r < 8) : IntKind.u8.wrap (1 * 2 ^ (min ((r : Nat) : Int).toNat IntKind.u8.bits)) = ((2 ^ r : Nat) : Int) := by
  have : ∀ r : _root_.Fin 8, IntKind.u8.wrap (1 * 2 ^ (min (((r : Nat) : Nat) : Int).toNat IntKind.u8.bits)) = ((2 ^ (r : Nat) : Nat) : Int) := by decide +kernel
  exact this ⟨r, h⟩
theorem cpow8 (r : Nat) (h : r < 8) : 2 ^ r < 256 := by
  have : ∀ r : _root_.Fin 8, 2 ^ (r : Nat) < 256 := by decide
  exact this ⟨r, h⟩
theorem bit_and {B j : Nat} (hB : B < 4294967296) (hj : j < 32) : Go.bits .and .u32 ((B : Int) / 2 ^ (min ((j : Nat) : Int).toNat IntKind.u32.bits)) 1 = ((B / 2 ^ j % 2 : Nat) : Int) := by
  have e : min ((j : Nat) : Int).toNat IntKind.u32.bits = j := by
    have : IntKind.u32.bits = 32 := rfl
    rw [this, Int.toNat_natCast]; omega
  have hlt : B / 2 ^ j < 4294967296 := Nat.lt_of_le_of_lt (Nat.div_le_self _ _) hB
  rw [e, show ((B : Int) / 2 ^ j) = ((B / 2 ^ j : Nat) : Int) by push_cast; rfl]
  exact cand_u32 _ hlt
theorem turn_set {p q : List Int} {B K j : Nat} (hl : q.length = p.length) (hq : B8 q) (hd : cDif p q = (B % 2 ^ j) <<< K) (hk : K + 32 ≤ 8 * p.length) (hj : j < 32) (hb : B / 2 ^ j % 2 = 1) {i r : Nat} (hi : i = (K + j) / 8) (hr : r = (K + j) % 8) :
    B8 (q.set i (Go.bits .xor .u8 (q.getD i 0) (IntKind.u8.wrap (1 * 2 ^ (min ((r : Nat) : Int).toNat IntKind.u8.bits))))) ∧ cDif p (q.set i (Go.bits .xor .u8 (q.getD i 0) (IntKind.u8.wrap (1 * 2 ^ (min ((r : Nat) : Int).toNat IntKind.u8.bits))))) = (B % 2 ^ (j + 1)) <<< K := by
  have hr8 : r < 8 := by omega
  have hp8 := cpow8 r hr8
  have hg := hq.getD i
  rw [cshl1 r hr8]
  have hv : Go.bits .xor .u8 (q.getD i 0) ((2 ^ r : Nat) : Int) = (((q.getD i 0).toNat ^^^ 2 ^ r : Nat) : Int) := by
    have := cxor_u8 (q.getD i 0).toNat (2 ^ r) (by omega) hp8
    rwa [show (((q.getD i 0).toNat : Nat) : Int) = q.getD i 0 by omega] at this
  rw [hv]
  have hx8 : (q.getD i 0).toNat ^^^ 2 ^ r < 2 ^ 8 := Nat.xor_lt_two_pow (by omega) hp8
  refine ⟨fun y hy => ?_, ?_⟩
  · rcases List.mem_or_eq_of_mem_set hy with hy | rfl
    · exact hq y hy
    · omega
  · rw [cSet_dif p q i r _ hl.symm (by omega) (by rw [Int.toNat_natCast]), hd, ← cRow_bit, if_pos hb, show 8 * i + r = K + j by omega]
end Go.Proofs.Ytcfmlnddmpiemaa.Sx


set_option maxRecDepth 10000
namespace Go.Proofs.Ytcfmlnddmpiemaa.Sx
open Go.RowKit
/-! ### slices.Sort of an owned row of numbers, as a contract -/
def sortC (T : TypeId) : Con := Con.of (List Int × Nat) (List Int) (fun x => [.s 0 0 1 x.1.length x.2]) (fun x => [.blk T (.ints .i64 x.1) x.2]) (fun x => x.1.length < 4611686018427387904) (fun x r => r = x.1.mergeSort (fun a b => decide (a ≤ b))) (fun _ _ => .tup []) (fun x r => [.blk T (.ints .i64 r) x.2])
theorem sort_conOk {P : Program} {f : FuncId} (T : TypeId) (hr : Real P f)
    (hS : ∀ (blk cap : Nat) (zs : List Int) (w : World), Go.Sort.Holds (Value.int .i64) w blk 0 zs.toArray → blk < w.heap.size → zs.length < 4611686018427387904 → Calls P f #[.slice (some ⟨blk, 0, none⟩) zs.length cap] w fun e w' => e = .returned (.tuple #[]) ∧ ∃ n os, w' = Go.Sort.grow (Go.Sort.putRow (Value.int .i64) (Go.Sort.ahead w n) blk 0 (zs.mergeSort fun x y => decide (x ≤ y)).toArray) os)
    (hN : ∀ (p : Option Addr) (cap : Nat) (w : World), Calls P f #[.slice p 0 cap] w fun e w' => e = .returned (.tuple #[]) ∧ w' = w) : ConOk P f (sortC T) := by
  refine ⟨hr, ?_, ?_, ?_⟩
  · intro x k hok hk r hrel
    refine ⟨hk r hrel, trivial, fun c hc => ?_, Nat.le_refl _⟩
    simp at hc; subst hc; exact .blk trivial
  · intro x hok c hc
    simp [sortC, Con.of] at hc; subst hc; trivial
  · rintro ⟨l, c⟩ k w0 M J0 J ρ φ w vs hok hk hs ha
    have hk : k (.tup []) [.blk T (.ints .i64 (l.mergeSort (fun a b => decide (a ≤ b)))) c] := hk _ rfl
    have hok : l.length < 4611686018427387904 := hok
    obtain ⟨v, rfl, hv⟩ : ∃ v, vs = [v] ∧ Rep ρ J w (.s 0 0 1 l.length c) v := by
      cases ha with
      | cons h hs => cases hs; exact ⟨_, rfl, h⟩
    have h0 := hs.hold 0 _ rfl
    by_cases hl : l = []
    · subst hl
      cases hv with
      | s h h0' h1 h2 =>
        have hk : k (.tup []) [.blk T (.ints .i64 []) c] := by simpa using hk
        refine (hN _ _ w).mono ?_
        rintro e w' ⟨rfl, rfl⟩
        exact ⟨_, _, _, ρ, φ, J, rfl, hk, hs, .tup .nil⟩
    · have hll : l.length ≠ 0 := fun e => hl (List.eq_nil_of_length_eq_zero e)
      generalize hb0 : ρ 0 = b0 at h0
      cases hv with
      | @s i e sz n c' b a h ha0 h1 h2 =>
        have hbb : b0 = some b := hb0.symm.trans h
        subst hbb
        have hc0 : c ≠ 0 := by omega
        obtain rfl := ha0 hc0
        cases h0 with
        | @blk _ _ _ _ _ _ cs gs hc hb hz h1' hp =>
          cases hc
          have hz : (l.map (Value.int .i64) ++ gs).length = c := hz
          have hlt : b < w.heap.size := (Array.getElem?_eq_some_iff.1 hb).1
          refine (hS b c l w ?_ hlt hok).mono ?_
          · intro j hj
            have hj : j < l.length := by simpa using hj
            have hjv : (l.toArray)[j]! = l[j] := by simp [hj]
            have hcell : (l.map (Value.int IntKind.i64) ++ gs).toArray[0 + j]? = some (Value.int .i64 (l[j])) := by
              rw [Nat.zero_add, List.getElem?_toArray, List.getElem?_append_left (by simpa using hj), List.getElem?_map, List.getElem?_eq_getElem hj]; rfl
            constructor
            · rw [hjv]
              simp only [World.cell?, hb]
              exact hcell
            · simp only [World.frozen?, hb]
              simp
          · rintro e w' ⟨rfl, n, os, rfl⟩
            obtain ⟨r, hr⟩ : ∃ r, r = l.mergeSort (fun a b => decide (a ≤ b)) := ⟨_, rfl⟩
            rw [← hr] at hk ⊢
            have hrl : r.length = l.length := by rw [hr]; exact List.length_mergeSort ..
            obtain ⟨w1, hw1⟩ : ∃ w1, w1 = Go.Sort.putRow (Value.int .i64) (Go.Sort.ahead w n) b 0 r.toArray := ⟨_, rfl⟩
            rw [← hw1]
            have hsz : w1.heap.size = w.heap.size := by rw [hw1, Go.Sort.size_putRow]; rfl
            have hoth : ∀ q, q ≠ b → w1.heap[q]? = w.heap[q]? := by
              intro q hq
              rw [hw1]
              simp only [Go.Sort.putRow, Go.Sort.mapBlock, Go.Sort.ahead, Array.getElem?_modify]
              rw [if_neg (fun e => hq e.symm)]
            have hblk : w1.heap[b]? = some (.cells (r.map (Value.int .i64) ++ gs).toArray T (0, 0)) := by
              rw [hw1]
              simp only [Go.Sort.putRow, Go.Sort.mapBlock, Go.Sort.ahead, Array.getElem?_modify, if_true, hb, Option.map_some, Go.Sort.onCells]
              congr 2
              apply Array.ext_getElem?
              intro q
              simp only [Go.Sort.putCells, Array.getElem?_mapIdx, List.getElem?_toArray, List.size_toArray, Nat.sub_zero]
              by_cases hq : q < l.length
              · have hq2 : q < r.length := by omega
                rw [List.getElem?_append_left (by simpa using hq), List.getElem?_append_left (by simpa using hq2), List.getElem?_map, List.getElem?_map, List.getElem?_eq_getElem hq, List.getElem?_eq_getElem hq2]
                simp [hq2]
              · rw [List.getElem?_append_right (by simpa using Nat.le_of_not_lt hq), List.getElem?_append_right (by rw [List.length_map]; omega), List.length_map, List.length_map, hrl]
                cases gs[q - l.length]? with
                | none => rfl
                | some u => simp only [Option.map_some]; rw [if_neg (by omega)]
            have P1 := hs.put (w' := w1) (i := 0) (c := .blk T (.ints .i64 r) c) (p' := φ 0) (fun q h => .inl h) (fun q h => by rw [hsz]; exact hs.lt _ _ h) (fun q h1 h2 => hoth q (fun e => h2 ((hp q).2 e))) (by rw [hsz]; exact Nat.le_refl _) (by rw [hw1]; rfl) (by rw [hw1]; rfl) (by rw [hw1]; rfl) Nat.one_pos ?_
            rotate_left
            · rw [hb0]
              exact .blk .ints hblk (by rw [← hz]; simp [hrl]) (by simp [Value.oneCell']) hp
            have P2 := P1.1.below (w' := Go.Sort.grow w1 os) ⟨rfl, rfl, rfl, by simp [Go.Sort.grow], fun q h => by simp only [Go.Sort.grow]; rw [Array.getElem?_append_left h]⟩
            exact ⟨_, _, _, ρ, _, J, rfl, hk, P2.1, .tup .nil⟩
        | none hc hp => exact absurd rfl hc0
end Go.Proofs.Ytcfmlnddmpiemaa.Sx


set_option maxRecDepth 10000
namespace Go.Proofs.Ytcfmlnddmpiemaa.Sx
open Go.Shelf
def sortI64_ren : Go.Shelf.Ren := ⟨fun | 53 => 93 | 64 => 100 | 63 => 107 | 78 => 116 | 79 => 117 | 70 => 118 | 71 => 119 | 72 => 120 | 73 => 121 | 74 => 122 | 75 => 123 | 59 => 124 | 76 => 125 | 77 => 126 | 88 => 132 | 89 => 128 | 90 => 129 | 91 => 133 | 92 => 134 | 68 => 101 | 96 => 136 | n => n, fun | 22 => 22 | 23 => 2 | 3 => 3 | 51 => 169 | 0 => 0 | 67 => 99 | 69 => 96 | 4 => 4 | 61 => 187 | 60 => 186 | 44 => 191 | 5 => 5 | 9 => 9 | 75 => 200 | 79 => 204 | 83 => 208 | 84 => 209 | n => n, fun | n => n⟩
theorem sortI64 : Go.Proofs.SlLaysN.n53 Try.prog sortI64_ren := {
  mixed := by kernel_rfl
  f53 := ⟨Try.f93.name, by decide, Try.func93.trans (congrArg some (by kernel_rfl))⟩
  f59 := ⟨Try.f124.name, by decide, Try.func124.trans (congrArg some (by kernel_rfl))⟩
  f63 := ⟨Try.f107.name, by decide, Try.func107.trans (congrArg some (by kernel_rfl))⟩
  f64 := Try.func100.trans (congrArg some (by kernel_rfl))
  f68 := ⟨Try.f101.name, by decide, Try.func101.trans (congrArg some (by kernel_rfl))⟩
  f70 := ⟨Try.f118.name, by decide, Try.func118.trans (congrArg some (by kernel_rfl))⟩
  f71 := ⟨Try.f119.name, by decide, Try.func119.trans (congrArg some (by kernel_rfl))⟩
  f72 := ⟨Try.f120.name, by decide, Try.func120.trans (congrArg some (by kernel_rfl))⟩
  f73 := ⟨Try.f121.name, by decide, Try.func121.trans (congrArg some (by kernel_rfl))⟩
  f74 := ⟨Try.f122.name, by decide, Try.func122.trans (congrArg some (by kernel_rfl))⟩
  f75 := ⟨Try.f123.name, by decide, Try.func123.trans (congrArg some (by kernel_rfl))⟩
  f76 := ⟨Try.f125.name, by decide, Try.func125.trans (congrArg some (by kernel_rfl))⟩
  f77 := ⟨Try.f126.name, by decide, Try.func126.trans (congrArg some (by kernel_rfl))⟩
  f78 := Try.func116.trans (congrArg some (by kernel_rfl))
  f79 := Try.func117.trans (congrArg some (by kernel_rfl))
  f88 := ⟨Try.f132.name, by decide, Try.func132.trans (congrArg some (by kernel_rfl))⟩
  f89 := Try.func128.trans (congrArg some (by kernel_rfl))
  f90 := Try.func129.trans (congrArg some (by kernel_rfl))
  f91 := ⟨Try.f133.name, by decide, Try.func133.trans (congrArg some (by kernel_rfl))⟩
  f92 := ⟨Try.f134.name, by decide, Try.func134.trans (congrArg some (by kernel_rfl))⟩
  f96 := ⟨Try.f136.name, by decide, Try.func136.trans (congrArg some (by kernel_rfl))⟩
  t0 := Try.underlying0
  a0 := Try.isAgg0
  z0 := Try.sizeOf0
  v0 := Try.zeroValue0
  t3 := Try.underlying3
  a3 := Try.isAgg3
  z3 := Try.sizeOf3
  v3 := Try.zeroValue3
  t4 := Try.underlying4
  a4 := Try.isAgg4
  z4 := Try.sizeOf4
  v4 := Try.zeroValue4
  t5 := Try.underlying5
  a5 := Try.isAgg5
  z5 := Try.sizeOf5
  v5 := Try.zeroValue5
  t9 := Try.underlying9
  a9 := Try.isAgg9
  z9 := Try.sizeOf9
  v9 := Try.zeroValue9
  t22 := Try.underlying22
  a22 := Try.isAgg22
  z22 := Try.sizeOf22
  v22 := Try.zeroValue22
  t23 := Try.underlying2
  a23 := Try.isAgg2
  z23 := Try.sizeOf2
  v23 := Try.zeroValue2
  t44 := Try.underlying191
  a44 := Try.isAgg191
  z44 := Try.sizeOf191
  v44 := Try.zeroValue191
  t51 := Try.underlying169
  a51 := Try.isAgg169
  z51 := Try.sizeOf169
  v51 := Try.zeroValue169
  t60 := Try.underlying186
  a60 := Try.isAgg186
  z60 := Try.sizeOf186
  v60 := Try.zeroValue186
  t61 := Try.underlying187
  a61 := Try.isAgg187
  z61 := Try.sizeOf187
  v61 := Try.zeroValue187
  t67 := Try.underlying99
  a67 := Try.isAgg99
  z67 := Try.sizeOf99
  v67 := Try.zeroValue99
  t69 := Try.underlying96
  a69 := Try.isAgg96
  z69 := Try.sizeOf96
  v69 := Try.zeroValue96
  t75 := Try.underlying200
  a75 := Try.isAgg200
  z75 := Try.sizeOf200
  v75 := Try.zeroValue200
  t79 := Try.underlying204
  a79 := Try.isAgg204
  z79 := Try.sizeOf204
  v79 := Try.zeroValue204
  t83 := Try.underlying208
  a83 := Try.isAgg208
  z83 := Try.sizeOf208
  v83 := Try.zeroValue208
  t84 := Try.underlying209
  a84 := Try.isAgg209
  z84 := Try.sizeOf209
  v84 := Try.zeroValue209 }
end Go.Proofs.Ytcfmlnddmpiemaa.Sx


set_option maxRecDepth 10000
namespace Go.Proofs.Ytcfmlnddmpiemaa.Sx
open Go.RowKit Go.Proofs.Ytcfmlnddmpiemaa.Sx.Tb
/-! ### Records -/
abbrev RecR := Int × List Int
def recAV (g : Bool) (r : RecR) : List AV := [.v (.int .i64 r.1), .im g 1 r.2.length (.ints .u8 r.2)]
def recsC (g : Bool) (rs : List RecR) : Cont := .recs 2 rs.length (fun i => recAV g (rs.getD i (0, [])))
def enc1 (r : RecR) : List Int := leB 8 r.1 ++ leB 4 (r.2.length : Int) ++ r.2
def encL (rs : List RecR) : List Int := rs.flatMap enc1
theorem enc1_length (r : RecR) : (enc1 r).length = 12 + r.2.length := by simp [enc1, leB_length]; omega
end Go.Proofs.Ytcfmlnddmpiemaa.Sx


set_option maxRecDepth 10000
namespace Go.Proofs.Ytcfmlnddmpiemaa.Sx
open Go.RowKit Go.Proofs.Ytcfmlnddmpiemaa.Sx.Tb
end Go.Proofs.Ytcfmlnddmpiemaa.Sx


set_option maxRecDepth 10000
namespace Go.Proofs.Ytcfmlnddmpiemaa.Sx
open Go.RowKit Go.Proofs.Ytcfmlnddmpiemaa.Sx.Tb
/-! ### What is done to a file, one behind the other, up to the first error -/
inductive FOp where
  | wr (at_ : Int) (xs : List Int)
  | fl
def FOp.size : FOp → Int
  | .wr _ xs => xs.length
  | .fl => 0
def DF.refB (s : DF) : Bool := (decide (0 < s.fail) && decide (s.ops + 1 = s.fail)) || (decide (0 < s.stop) && decide (s.stop ≤ s.ops + 1))
theorem DF.refB_iff (s : DF) : s.refB = true ↔ s.refused := by unfold DF.refB DF.refused; simp
def DF.doOp (s : DF) : FOp → Int × DF
  | .wr at_ xs => if s.refB = true then (5, s.asked) else if at_ < 0 then (4, s.asked) else if 4194304 - at_ < xs.length then (3, s.asked) else (0, s.wrote1 at_ xs)
  | .fl => if s.refB = true then (5, s.asked) else (0, s.flushed)
def DF.run (s : DF) : List FOp → Int × DF
  | [] => (0, s)
  | op :: r => if (s.doOp op).1 = 0 then (s.doOp op).2.run r else s.doOp op
/-! ### The journal -/
structure JR where
  pos : Int
  size : Int
  seq : Int
def JR.blk (j : JR) (i : Nat) : Chunk := .blk 140 (.lst [.p i 0 1 0, .v (.int .i64 j.pos), .v (.int .i64 j.size), .v (.int .u64 j.seq)]) 4
def JR.Ok (j : JR) : Prop := 0 ≤ j.pos ∧ j.pos ≤ 4194304 ∧ 1024 ≤ j.size ∧ j.size ≤ 4194304 ∧ 0 ≤ j.seq ∧ j.seq < 18446744073709551616
theorem JR.noF (j : JR) (i : Nat) : ChunkNoF (j.blk i) := .blk ⟨trivial, trivial, trivial, trivial, trivial⟩
def JR.out (j : JR) (at_ n : Int) : Prop := 0 ≤ at_ ∧ 0 ≤ n ∧ at_ ≤ 4194304 ∧ n ≤ 4194304 - at_ ∧ (at_ + n ≤ j.pos ∨ j.pos + j.size ≤ at_)
theorem two_le {H : List Chunk} {f : Nat → Nat} {ph : Nat → Bool} {j : JR} {s : DF} (hf : f 1 = 1) (h : 2 ≤ H.length) (h0 : nth H 0 = some (j.blk 1)) (h1 : nth H 1 = some s.pk) : chunksLe H [] f ph [0, 1] [j.blk 1, s.pk] := by
  refine ⟨?_, ?_, trivial⟩
  · unfold Chunk.le JR.blk
    simp only
    rw [show Nat.blt 0 H.length = true by rw [Nat.blt_eq]; omega, h0]
    exact ⟨VC.mk ⟨rfl, rfl⟩, VC.mk ⟨hf, rfl, rfl, rfl⟩, VC.mk rfl, VC.mk rfl, VC.mk rfl, trivial⟩
  · unfold Chunk.le DF.pk
    simp only
    rw [show Nat.blt 1 H.length = true by rw [Nat.blt_eq]; omega, h1]
    exact VC.mk ⟨rfl, rfl, rfl, rfl⟩
theorem J2.good {j : JR} {s : DF} {v : AV} (h : v.noF) : Good 2 v [j.blk 1, s.pk] := ⟨h, fun c hc => by simp at hc; rcases hc with rfl | rfl; exact j.noF _; exact s.pk_noF, Nat.le_refl _⟩
theorem J2.nd {j : JR} {s : DF} : ∀ c ∈ [j.blk 1, s.pk], c.lives := by intro c hc; simp at hc; rcases hc with rfl | rfl <;> trivial
theorem fix2 {N : Nat} {σ : List Nat} : ∀ i, i < 2 → fren (0 :: 1 :: σ) N i = i := fun i hi => by
  match i, hi with
  | 0, _ => rfl
  | 1, _ => rfl
theorem J2.fin {H : List Chunk} {j : JR} {s : DF} {v : AV} {k : K} (h : Nat.ble 2 H.length = true) (h0 : nth H 0 = some (j.blk 1)) (h1 : nth H 1 = some s.pk) (hk : k v [j.blk 1, s.pk]) (hv : v.inN 2 := by simp [AV.inN, inNs, Cont.inN]) : Fin 2 v H k :=
  Fin.ren [0, 1] [] v [j.blk 1, s.pk] rfl rfl trivial (two_le rfl (Nat.le_of_ble_eq_true h) h0 h1) (AV.le_refl fix2 hv) hk
def wrs (rs : List RecR) : List FOp := rs.map (fun r => .wr r.1 r.2)
end Go.Proofs.Ytcfmlnddmpiemaa.Sx


set_option maxRecDepth 10000
namespace Go.Proofs.Ytcfmlnddmpiemaa.Sx
open Go.RowKit Go.Proofs.Ytcfmlnddmpiemaa.Sx.Tb
/-! ### Commit -/
def JR.next (j : JR) : JR := { j with seq := (j.seq + 1) % 18446744073709551616 }
theorem wrap_u64 (x : Int) : IntKind.u64.wrap x = x % 18446744073709551616 := by simp [IntKind.wrap, IntKind.signed, IntKind.bits]
end Go.Proofs.Ytcfmlnddmpiemaa.Sx


set_option maxRecDepth 10000
namespace Go.Proofs.Ytcfmlnddmpiemaa.Sx
open Go.RowKit Go.Proofs.Ytcfmlnddmpiemaa.Sx.Tb
/-! ### Decode -/
def le8 (l : List Int) (at_ : Nat) : Int := leV ((l.drop at_).take 8)
def le4 (l : List Int) (at_ : Nat) : Int := leV ((l.drop at_).take 4)
def dec1 (l : List Int) (at_ : Nat) : Option RecR :=
  if at_ + 12 ≤ l.length ∧ (at_ : Int) + 12 + le4 l (at_ + 8) ≤ l.length ∧ le8 l at_ ≤ 4194304 then some (le8 l at_, (l.drop (at_ + 12)).take (le4 l (at_ + 8)).toNat) else none
def decF (l : List Int) : Nat → Option (List RecR × Nat)
  | 0 => some ([], 0)
  | i + 1 => match decF l i with
    | none => none
    | some y => match dec1 l y.2 with
      | none => none
      | some r => some (y.1 ++ [r], y.2 + 12 + r.2.length)
def decL (l : List Int) (n : Nat) : Option (List RecR) := match decF l n with
  | none => none
  | some y => if y.2 = l.length then some y.1 else none
theorem leV_bound {l : List Int} (h : B8 l) (n : Nat) : 0 ≤ leV (l.take n) ∧ leV (l.take n) < ((256 ^ n : Nat) : Int) := by
  refine ⟨leV_nonneg (h.take n), Int.lt_of_lt_of_le (leV_lt (h.take n)) ?_⟩
  have e : (256 : Int) ^ (l.take n).length = ((256 ^ (l.take n).length : Nat) : Int) := by simp
  rw [e]
  exact Int.ofNat_le.2 (Nat.pow_le_pow_right (by decide) (by simp; omega))
end Go.Proofs.Ytcfmlnddmpiemaa.Sx


set_option maxRecDepth 10000
namespace Go.Proofs.Ytcfmlnddmpiemaa.Sx
open Go.RowKit Go.Proofs.Ytcfmlnddmpiemaa.Sx.Tb
/-! ### Pending -/
instance (j : JR) (a n : Int) : Decidable (j.out a n) := by unfold JR.out; infer_instance
def pendOk (j : JR) (b : List Int) : Prop := le4 b 0 = 826954822 ∧ le4 b 24 = moreL 0 (b.take 24) ∧ le4 b 16 ≤ j.size - 512 ∧ le4 b 12 ≤ (j.size - 512) / 12 ∧ (∀ x ∈ (b.drop 28).take 484, x = 0) ∧ le4 b 20 = moreL 0 ((b.drop 512).take (le4 b 16).toNat)
instance (j : JR) (b : List Int) : Decidable (pendOk j b) := by unfold pendOk; infer_instance
def pendB (j : JR) (b : List Int) : Option (List RecR) :=
  if pendOk j b then match decL ((b.drop 512).take (le4 b 16).toNat) (le4 b 12).toNat with
    | some rs => if ∀ r ∈ rs, j.out r.1 r.2.length then some rs else none
    | none => none
  else none
def JR.part (j : JR) (s : DF) : List Int := (s.now.drop j.pos.toNat).take j.size.toNat
/-- What is pending: an error's number, the records, the number of the last. -/
def DF.pend (j : JR) (s : DF) : Int × Option (List RecR) × JR :=
  if s.refB = true then (5, none, j) else if (s.now.length : Int) < j.pos + j.size then (4, none, j) else match pendB j (j.part s) with
    | some rs => (0, some rs, { j with seq := le8 (j.part s) 4 })
    | none => (0, none, j)
end Go.Proofs.Ytcfmlnddmpiemaa.Sx


set_option maxRecDepth 10000
namespace Go.Proofs.Ytcfmlnddmpiemaa.Sx
open Go.RowKit Go.Proofs.Ytcfmlnddmpiemaa.Sx.Tb
end Go.Proofs.Ytcfmlnddmpiemaa.Sx


set_option maxRecDepth 10000
namespace Go.Proofs.Ytcfmlnddmpiemaa.Sx
open Go.RowKit Go.Proofs.Ytcfmlnddmpiemaa.Sx.Tb
end Go.Proofs.Ytcfmlnddmpiemaa.Sx

