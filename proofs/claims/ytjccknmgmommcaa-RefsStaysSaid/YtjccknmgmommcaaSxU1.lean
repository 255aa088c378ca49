import Derived.Test.YtjccknmgmommcaaSxDisk
import Derived.Test.YtjccknmgmommcaaSxEc
import Derived.Laws.BitsLemmas
set_option linter.unusedVariables false
set_option linter.unusedSimpArgs false
set_option maxRecDepth 10000
namespace Go.Proofs.Ytjccknmgmommcaa.Sx
open Go.RowKit Go.Proofs.Ytjccknmgmommcaa.Sx.Tb
theorem zeros_c (n : Int) (k : K) (h0 : 0 ≤ n ∧ n ≤ 1099511627776) (hk : k (.im true 1 n.toNat (.ints .u8 (List.replicate n.toNat 0))) []) : evFunc tab [] [] Go.Proofs.Try.f61 [.v (.int .i64 n)] [] k := by
  repeat' (first
 | (with_reducible first | exact True.intro | apply And.intro | apply If_true | apply If_false | apply If_not)
 | ((with_reducible apply VC.mk); (first | trivial | omega | (simp only [inR]; omega) | (exact ⟨rfl, List.prefix_rfl⟩) | (refine ⟨rfl, rfl, rfl, ?_, rfl⟩; (simp; done)) | (focus (repeat' (first | exact True.intro | apply And.intro | rfl | exact Nat.le_of_ble_eq_true rfl)); done) | (simp [inR, Cont.cells]; done) | (simp [inR, Cont.cells]; omega)))
 | ((with_reducible apply If_dec) <;> intro hc <;> (try (exfalso; omega)))
 | ((with_reducible apply If_any) <;> intro hc)
 | ((with_reducible first | apply PF.mk | apply DrawP.mk); (focus kernel_rfl))
 | ((with_reducible apply Same.mk); (focus rfl); (first | exact trivial | exact rfl))
 | (intro cap hcap)
 | ((fail_if_success (with_reducible first | apply Fin.mk | apply CallP.mk | apply LoopP.mk | apply VC.mk | apply falseMk | apply Round.mk | apply LookP.mk | apply RangeP.mk | apply NextP.mk | apply EntryP.mk | apply Eq.symm)); conv => whnf))
  refine Fin.ren [] [0] _ [] rfl rfl ⟨trivial, trivial⟩ trivial ?_ hk
  repeat' (first
 | (with_reducible first | exact True.intro | apply And.intro | apply If_true | apply If_false | apply If_not)
 | ((with_reducible apply VC.mk); (first | trivial | omega | (simp only [inR]; omega) | (exact ⟨rfl, List.prefix_rfl⟩) | (refine ⟨rfl, rfl, rfl, ?_, rfl⟩; (simp; done)) | (focus (repeat' (first | exact True.intro | apply And.intro | rfl | exact Nat.le_of_ble_eq_true rfl)); done) | (simp [inR, Cont.cells]; done) | (simp [inR, Cont.cells]; omega)))
 | ((with_reducible apply If_dec) <;> intro hc <;> (try (exfalso; omega)))
 | ((with_reducible apply If_any) <;> intro hc)
 | ((with_reducible first | apply PF.mk | apply DrawP.mk); (focus kernel_rfl))
 | ((with_reducible apply Same.mk); (focus rfl); (first | exact trivial | exact rfl))
 | (intro cap hcap)
 | ((fail_if_success (with_reducible first | apply Fin.mk | apply CallP.mk | apply LoopP.mk | apply VC.mk | apply falseMk | apply Round.mk | apply LookP.mk | apply RangeP.mk | apply NextP.mk | apply EntryP.mk | apply Eq.symm)); conv => whnf))
  all_goals exact VC.mk ⟨rfl, by simp⟩
theorem zeros_K : ConOk Go.Proofs.Try.prog 61 (Con.of Int (List Int) (fun n => [.v (.int .i64 n)]) (fun _ => []) (fun n => 0 ≤ n ∧ n ≤ 1099511627776) (fun n z => z = List.replicate n.toNat 0) (fun _ z => .im true 1 z.length (.ints .u8 z)) (fun _ _ => [])) := by
  refine conOk_rel (T := tab) mix Go.Proofs.Try.func61 (by decide +kernel) (by kernel_rfl) [] [] (fun n => by rw [Go.Proofs.Try.ntmps61]; exact Nat.le_of_ble_eq_true rfl) (fun n z _ _ => ⟨⟨rfl, trivial⟩, (fun c hc => by cases hc), Nat.le_refl _⟩) (fun n _ c hc => by cases hc) (fun n k h0 hk => zeros_c n k h0 ?_)
  have := hk _ rfl
  rwa [List.length_replicate] at this
theorem zeros_at {avs : List AV} {H : List Chunk} {k : K} (n : Int) (h0 : 0 ≤ n ∧ n ≤ 1099511627776) (ha : argsM H [] [.v (.int .i64 n)] avs) (h : ∀ z, z = List.replicate n.toNat 0 → k (.im true 1 z.length (.ints .u8 z)) H) : CallP Go.Proofs.Try.prog 61 avs H k :=
  CallP.mk ⟨_, zeros_K.real, Con.spec zeros_K, n, [], ⟨h0, rfl, trivial, ha⟩, fun z hz => (numK_eq _ _).mpr (by simpa [putAll, AV.ren, Cont.ren] using h z hz)⟩
theorem Fin.bool {b : Bool} {H : List Chunk} {k : K} (h : b = true) (hk : k (.v (.bool true)) []) : Fin 0 (.v (.bool b)) H k := by
  subst h
  exact Fin.ren [] [] (.v (.bool true)) [] rfl rfl trivial trivial (VC.mk rfl) hk
/-- An operation of a law. -/
structure OpR where
  kind : Int
  pos : Int
  n : Int
  b : List Int
def OpR.z : OpR := ⟨0, 0, 0, []⟩
def OpR.light (o : OpR) : Prop := o.b.length ≤ 1500 ∧ ¬ (6000 < o.pos ∧ o.pos ≤ 4194304) ∧ ¬ (6000 < o.n ∧ o.n ≤ 4194304 ∧ o.kind = 3)
end Go.Proofs.Ytjccknmgmommcaa.Sx


set_option maxRecDepth 10000
namespace Go.Proofs.Ytjccknmgmommcaa.Sx
open Go.RowKit Go.Proofs.Ytjccknmgmommcaa.Sx.Tb
theorem crashL_nil : ∀ (b : List Int) (its : List (Bool × Int × List Int)), crashL b its [] = b
  | b, [] => by simp [crashL]
  | b, it :: r => by simp [crashL, crashL_nil b r]
/-- Whether the n-th is kept. -/
theorem crashL_append : ∀ (its : List (Bool × Int × List Int)) (b : List Int) (it : Bool × Int × List Int) (ks : List Bool),
    crashL b (its ++ [it]) ks = if ks.getD its.length false = true then layL (crashL b its ks) it.1 it.2.1 it.2.2 else crashL b its ks
  | [], b, it, ks => by
    cases ks with
    | nil => simp [crashL]
    | cons k ks => cases k <;> simp [crashL]
  | x :: r, b, it, ks => by
    cases ks with
    | nil => simp [crashL_nil]
    | cons k ks =>
      cases k
      · simp only [List.cons_append, crashL, List.length_cons, List.getD_cons_succ]
        exact crashL_append r b it ks
      · simp only [List.cons_append, crashL, List.length_cons, List.getD_cons_succ]
        exact crashL_append r _ it ks
/-- A byte of what a write makes. -/
theorem layL_get (b : List Int) (at_ : Int) (xs : List Int) (j : Nat) (h : 0 ≤ at_) (h1 : at_ + xs.length ≤ b.length) :
    (layL b false at_ xs).getD j 0 = if at_.toNat ≤ j ∧ j < at_.toNat + xs.length then xs.getD (j - at_.toNat) 0 else b.getD j 0 := by
  have e : layL b false at_ xs = b.take at_.toNat ++ xs ++ b.drop (at_.toNat + xs.length) := by
    unfold layL
    rw [layP_id _ _ (by omega)]
    rfl
  rw [e, List.getD_eq_getElem?_getD, List.getD_eq_getElem?_getD, List.getD_eq_getElem?_getD]
  by_cases h2 : j < at_.toNat
  · rw [if_neg (by omega), List.append_assoc, List.getElem?_append_left (by rw [List.length_take]; omega), List.getElem?_take, if_pos h2]
  · by_cases h3 : j < at_.toNat + xs.length
    · rw [if_pos ⟨by omega, h3⟩, List.append_assoc, List.getElem?_append_right (by rw [List.length_take]; omega), List.getElem?_append_left (by rw [List.length_take]; omega), List.length_take, show min at_.toNat b.length = at_.toNat by omega]
    · rw [if_neg (by omega), List.getElem?_append_right (by rw [List.length_append, List.length_take]; omega), List.getElem?_drop, List.length_append, List.length_take, show at_.toNat + xs.length + (j - (min at_.toNat b.length + xs.length)) = j by omega]
/-- A write within a sector. -/
theorem wrote1_one (s : DF) (at_ : Int) (xs : List Int) (h : 0 ≤ at_) (h1 : at_ / 512 = (at_ + xs.length) / 512) :
    s.wrote1 at_ xs = (if xs = [] then { s with ops := s.ops + 1, wrote := s.wrote + 1 } else { s with ops := s.ops + 1, wrote := s.wrote + 1, now := layL s.now false at_ xs, items := s.items ++ [(false, at_, xs)] }) := by
  unfold DF.wrote1
  cases xs with
  | nil => rw [if_pos rfl]; rfl
  | cons x r =>
    rw [if_neg (by simp)]
    rw [List.length_cons, wrN, if_neg (by simp)]
    have hs : secN at_ (r.length + 1) = (x :: r).length := by
      rw [List.length_cons] at h1 ⊢
      unfold secN
      omega
    rw [List.length_cons, hs, List.take_length, List.drop_length]
    cases r.length with
    | zero => rfl
    | succ m => rw [wrN, if_pos rfl]
/-- What is known of the file and the states so far. -/
structure Sec (b : List Int) (i : Nat) (s : DF) (sts : List (List Int)) : Prop where
  safe : s.safe = b
  ops : s.ops = s.wrote ∧ 0 ≤ s.ops ∧ s.ops ≤ i
  live : s.fail = 0 ∧ s.stop = 0
  len : s.now.length = b.length
  its : s.items.length ≤ i
  all : ∀ it ∈ s.items, it.1 = false ∧ 0 ≤ it.2.1 ∧ it.2.1 + it.2.2.length ≤ b.length
  lens : ∀ st ∈ sts, st.length = b.length
  cl : ∀ ks, (crashL s.safe s.items ks).length = b.length
  cov : ∀ ks j, j < b.length → ∃ st ∈ sts, (crashL s.safe s.items ks).getD j 0 = st.getD j 0
theorem Sec.zero (b : List Int) : Sec b 0 (DF.mk0 b) [b] := by
  refine ⟨rfl, ⟨rfl, Int.le_refl _, Int.le_refl _⟩, ⟨rfl, rfl⟩, rfl, Nat.le_refl _, fun it h => (by cases h), fun st h => (by simp at h; rw [h]), fun ks => (by simp [DF.mk0, crashL]), fun ks j hj => ⟨b, by simp, by simp [DF.mk0, crashL]⟩⟩
theorem Sec.mono {b : List Int} {i : Nat} {s : DF} {sts : List (List Int)} (h : Sec b i s sts) : Sec b (i + 1) s sts :=
  ⟨h.safe, ⟨h.ops.1, h.ops.2.1, by have := h.ops.2.2; omega⟩, h.live, h.len, Nat.le_succ_of_le h.its, h.all, h.lens, h.cl, h.cov⟩
theorem Sec.step {b : List Int} {i : Nat} {s : DF} {sts : List (List Int)} (h : Sec b i s sts) (hnow : s.now ∈ sts) {at_ : Int} {xs : List Int} (h0 : 0 ≤ at_) (h1 : at_ + xs.length ≤ b.length) (h2 : at_ / 512 = (at_ + xs.length) / 512) :
    Sec b (i + 1) (s.wrote1 at_ xs) (sts ++ [(s.wrote1 at_ xs).now]) ∧ (s.wrote1 at_ xs).now ∈ sts ++ [(s.wrote1 at_ xs).now] := by
  refine ⟨?_, by simp⟩
  rw [wrote1_one s at_ xs h0 h2]
  by_cases hx : xs = []
  · rw [if_pos hx]
    refine ⟨h.safe, ⟨?_, ?_, ?_⟩, h.live, h.len, Nat.le_succ_of_le h.its, h.all, fun st hst => ?_, h.cl, fun ks j hj => ?_⟩
    · have := h.ops.1; show s.ops + 1 = s.wrote + 1; omega
    · have := h.ops.2.1; show 0 ≤ s.ops + 1; omega
    · have := h.ops.2.2; show s.ops + 1 ≤ _; omega
    · rcases List.mem_append.1 hst with hst | hst
      · exact h.lens st hst
      · simp at hst; rw [hst]; exact h.len
    · obtain ⟨st, h3, h4⟩ := h.cov ks j hj
      exact ⟨st, List.mem_append_left _ h3, h4⟩
  · rw [if_neg hx]
    have hll : (layL s.now false at_ xs).length = b.length := by rw [layL_len _ _ _ h0, h.len]; omega
    refine ⟨h.safe, ⟨?_, ?_, ?_⟩, h.live, hll, ?_, fun it hit => ?_, fun st hst => ?_, fun ks => ?_, fun ks j hj => ?_⟩
    · have := h.ops.1; show s.ops + 1 = s.wrote + 1; omega
    · have := h.ops.2.1; show 0 ≤ s.ops + 1; omega
    · have := h.ops.2.2; show s.ops + 1 ≤ _; omega
    · have := h.its; show (s.items ++ [_]).length ≤ i + 1; rw [List.length_append]; simp; omega
    · rcases List.mem_append.1 hit with hit | hit
      · exact h.all it hit
      · simp at hit; subst hit; exact ⟨rfl, h0, h1⟩
    · rcases List.mem_append.1 hst with hst | hst
      · exact h.lens st hst
      · simp at hst; rw [hst]; exact hll
    · show (crashL s.safe (s.items ++ [(false, at_, xs)]) ks).length = b.length
      rw [crashL_append]
      split
      · simp only
        rw [layL_len _ _ _ h0, h.cl]; omega
      · exact h.cl ks
    · show ∃ st ∈ _, (crashL s.safe (s.items ++ [(false, at_, xs)]) ks).getD j 0 = _
      rw [crashL_append]
      obtain ⟨st, h3, h4⟩ := h.cov ks j hj
      split
      · simp only
        rw [layL_get _ _ _ _ h0 (by rw [h.cl]; exact h1)]
        by_cases hin : at_.toNat ≤ j ∧ j < at_.toNat + xs.length
        · rw [if_pos hin]
          refine ⟨layL s.now false at_ xs, by simp, ?_⟩
          rw [layL_get _ _ _ _ h0 (by rw [h.len]; exact h1), if_pos hin]
        · rw [if_neg hin]
          exact ⟨st, List.mem_append_left _ h3, h4⟩
      · exact ⟨st, List.mem_append_left _ h3, h4⟩
end Go.Proofs.Ytjccknmgmommcaa.Sx


set_option maxRecDepth 10000
namespace Go.Proofs.Ytjccknmgmommcaa.Sx
open Go.RowKit Go.Proofs.Ytjccknmgmommcaa.Sx.Tb
/-- The document's file. -/
structure RF where
  safe : List Int
  row : List (Bool × Int × List Int)
  ops : Int
  wrote : Int
  fail : Int
  stop : Int
def RF.st (s : RF) (c : Nat) : Chunk := .blk 41 (.lst [.im true 1 s.safe.length (.ints .u8 s.safe), .s 1 0 3 s.row.length c, .v (.int .i64 s.ops), .v (.int .i64 s.wrote), .v (.int .i64 s.fail), .v (.int .i64 s.stop)]) 6
def RF.rowC (s : RF) (c : Nat) : Chunk := .blk 197 (.recs 3 s.row.length (fun k => itAV (s.row.getD k (false, 0, [])))) (c * 3)
def RF.κ (s : RF) (y : List Nat) : Prop := s.row.length ≤ y.getD 0 0
def RF.chs (s : RF) (c : Nat) : List Chunk := [s.st c, s.rowC c]
def RF.cs (s : RF) (y : List Nat) : List Chunk := s.chs (y.getD 0 0)
def RF.pk (s : RF) : Chunk := .pack [] 2 s.κ s.cs
theorem RF.cs_lives (s : RF) (y : List Nat) : ∀ c ∈ s.cs y, c.lives := by
  intro c hc
  simp [RF.cs, RF.chs] at hc
  rcases hc with rfl | rfl <;> trivial
theorem RF.pk_noF (s : RF) : ChunkNoF s.pk := by
  refine .pack (fun y c hc => ?_)
  simp [RF.cs, RF.chs] at hc
  rcases hc with rfl | rfl
  · exact .blk ⟨⟨rfl, trivial⟩, trivial, trivial, trivial, trivial, trivial, trivial⟩
  · exact .blk (fun j _ => itAV_noF _)
theorem RF.goodP (s : RF) {v : AV} (h : v.noF) : Good 1 v [s.pk] := ⟨h, fun c hc => by simp at hc; subst hc; exact s.pk_noF, Nat.le_refl _⟩
theorem RF.ndP (s : RF) : ∀ c ∈ [s.pk], c.lives := by intro c hc; simp at hc; subst hc; trivial
theorem RF.fin {s : RF} {c : Nat} {v : AV} {k : K} (h : s.row.length ≤ c) (hk : k v [s.pk]) (hv : v.inN 1 := by simp [AV.inN, inNs, Cont.inN]) : Fin 1 v (s.chs c) k := by
  refine Fin.pk (Pk.pack [0, 1] [] s.κ s.cs [c] rfl h ⟨rfl, rfl, trivial⟩ ⟨trivial, trivial⟩) ?_
  exact Fin.ren [0] [] v [s.pk] rfl rfl trivial ⟨VC.mk ⟨rfl, rfl, rfl, rfl⟩, trivial⟩ (AV.le_refl fix1 hv) hk
/-- It is within the limits. -/
structure RF.Ok (s : RF) (n : Int) : Prop where
  safe : s.safe.length ≤ 4194304
  its : ∀ it ∈ s.row, 0 ≤ it.2.1 ∧ it.2.1 + it.2.2.length ≤ 4194304
  len : s.row.length ≤ n
  ops : 0 ≤ s.ops ∧ s.ops ≤ n
  wrote : 0 ≤ s.wrote ∧ s.wrote ≤ n
theorem Fin.frz {i n c cap : Nat} {T : TypeId} {L : List Int} {kd : IntKind} {H : List Chunk} {k : K} (hi : nth H i = some (.blk T (.ints kd L) cap)) (hn : n = L.length) (hk : k (.im true 1 L.length (.ints kd L)) []) : Fin 0 (.s i 0 1 n c) H k := by
  subst hn
  refine Fin.ren [] [i] (.im true 1 L.length (.ints kd L)) [] rfl rfl ⟨by rw [hi]; trivial, trivial⟩ trivial ?_ hk
  have hm : memN i [i] = true := memN_iff.2 (by simp)
  unfold AV.le
  simp only [hm, cond_true, hi, Cont.ext]
  constructor <;> apply VC.mk <;> simp
end Go.Proofs.Ytjccknmgmommcaa.Sx


set_option maxRecDepth 10000
namespace Go.Proofs.Ytjccknmgmommcaa.Sx
open Go.RowKit Go.Proofs.Ytjccknmgmommcaa.Sx.Tb
def RF.asked (s : RF) : RF := { s with ops := s.ops + 1 }
theorem RF.nd (s : RF) (c : Nat) : ∀ x ∈ s.chs c, x.lives := by
  intro x hx
  simp [RF.chs] at hx
  rcases hx with rfl | rfl <;> trivial
theorem RF.good (s : RF) (c : Nat) {v : AV} (h : v.noF) : Good 2 v (s.chs c) := by
  refine ⟨h, fun x hx => ?_, Nat.le_refl _⟩
  simp [RF.chs] at hx
  rcases hx with rfl | rfl
  · exact .blk ⟨⟨rfl, trivial⟩, trivial, trivial, trivial, trivial, trivial, trivial⟩
  · exact .blk (fun j _ => itAV_noF _)
theorem RF.Ok.ask {s : RF} {n : Int} (h : s.Ok n) : s.asked.Ok (n + 1) := by
  obtain ⟨a1, a2, a3, a4, a5⟩ := h
  exact ⟨a1, a2, by show (s.row.length : Int) ≤ _; omega, by show 0 ≤ s.ops + 1 ∧ s.ops + 1 ≤ _; omega, by show 0 ≤ s.wrote ∧ s.wrote ≤ _; omega⟩
def RF.flushed (s : RF) (l : List Int) : RF := { s with ops := s.ops + 1, safe := l, row := [] }
end Go.Proofs.Ytjccknmgmommcaa.Sx


set_option maxRecDepth 10000
namespace Go.Proofs.Ytjccknmgmommcaa.Sx
open Go.RowKit Go.Proofs.Ytjccknmgmommcaa.Sx.Tb
theorem same_c (l m : List Int) (k : K) (hk : k (.v (.bool (decide (strOf l = strOf m)))) []) : evFunc tab [] [] Go.Proofs.Try.f24 [.im false 1 l.length (.ints .u8 l), .im false 1 m.length (.ints .u8 m)] [] k := by
  repeat' (first
 | (with_reducible first | exact True.intro | apply And.intro | apply If_true | apply If_false | apply If_not)
 | ((with_reducible apply VC.mk); (first | trivial | omega | (simp only [inR]; omega) | (exact ⟨rfl, List.prefix_rfl⟩) | (refine ⟨rfl, rfl, rfl, ?_, rfl⟩; (simp; done)) | (focus (repeat' (first | exact True.intro | apply And.intro | rfl | exact Nat.le_of_ble_eq_true rfl)); done) | (simp [inR, Cont.cells]; done) | (simp [inR, Cont.cells]; omega)))
 | ((with_reducible apply If_dec) <;> intro hc <;> (try (exfalso; omega)))
 | ((with_reducible apply If_any) <;> intro hc)
 | ((with_reducible first | apply PF.mk | apply DrawP.mk); (focus kernel_rfl))
 | ((with_reducible apply Same.mk); (focus rfl); (first | exact trivial | exact rfl))
 | (intro cap hcap)
 | ((fail_if_success (with_reducible first | apply Fin.mk | apply CallP.mk | apply LoopP.mk | apply VC.mk | apply falseMk | apply Round.mk | apply LookP.mk | apply RangeP.mk | apply NextP.mk | apply EntryP.mk | apply Eq.symm)); conv => whnf))
  exact Fin.same hk
theorem same_K : ConOk Go.Proofs.Try.prog 24 (Con.fn (List Int × List Int) (fun (l, m) => [.im false 1 l.length (.ints .u8 l), .im false 1 m.length (.ints .u8 m)]) (fun _ => []) (fun _ => True) (fun (l, m) => .v (.bool (decide (strOf l = strOf m)))) (fun _ => [])) :=
  conOk_fn (T := tab) mix Go.Proofs.Try.func24 (by decide +kernel) (by kernel_rfl) [] [] (fun n => by rw [Go.Proofs.Try.ntmps24]; exact Nat.le_of_ble_eq_true rfl) (fun n _ => ⟨trivial, (fun c hc => by cases hc), Nat.le_refl _⟩) (fun n _ c hc => by cases hc) (fun (l, m) k _ hk => same_c l m k hk)
theorem same_at {avs : List AV} {H : List Chunk} {k : K} (l m : List Int) (ha : argsM H [] [.im false 1 l.length (.ints .u8 l), .im false 1 m.length (.ints .u8 m)] avs) (h : k (.v (.bool (decide (strOf l = strOf m)))) H) : CallP Go.Proofs.Try.prog 24 avs H k :=
  CallP.mk ⟨_, same_K.real, Con.spec same_K, (l, m), [], ⟨trivial, rfl, trivial, ha⟩, (numK_eq H.length (fun N => k (AV.ren (fren [] N) (.v (.bool (decide (strOf l = strOf m))))) (putAll H [] []))).mpr (by simpa [putAll, AV.ren] using h)⟩
/-- What an operation makes of a file. -/
def DF.Did (s : DF) (o : OpR) (s' : DF) : Prop :=
  (o.kind = 1 ∧ s' = s.asked) ∨
  (o.kind = 2 ∧ (s.refused ∧ s' = s.asked ∨ ¬ s.refused ∧ o.pos < 0 ∧ s' = s.asked ∨ ¬ s.refused ∧ 0 ≤ o.pos ∧ 4194304 - o.pos < o.b.length ∧ s' = s.asked ∨ ¬ s.refused ∧ 0 ≤ o.pos ∧ o.b.length ≤ 4194304 - o.pos ∧ s' = s.wrote1 o.pos o.b)) ∨
  (o.kind = 3 ∧ (s.refused ∧ s' = s.asked ∨ ¬ s.refused ∧ ¬ (0 ≤ o.n ∧ o.n ≤ 4194304) ∧ s' = s.asked ∨ ¬ s.refused ∧ 0 ≤ o.n ∧ o.n ≤ 4194304 ∧ s' = s.cutTo o.n)) ∨
  (o.kind = 4 ∧ (s.refused ∧ s' = s.asked ∨ ¬ s.refused ∧ s' = s.flushed)) ∨
  (¬ (1 ≤ o.kind ∧ o.kind ≤ 4) ∧ s' = s)
def doneOk (s : DF) (m : RF) (n : Int) (o : OpR) : Prop := (0 ≤ s.ops ∧ s.ops ≤ 1099511627776 ∧ 0 ≤ s.wrote ∧ s.wrote ≤ 1099511627776 ∧ s.items.length ≤ 1099511627776 ∧ s.now.length ≤ 4194304) ∧ (m.Ok n ∧ n ≤ 549755813888) ∧ o.b.length ≤ 4194304 ∧ o.kind ≤ 4
theorem RF.OkM {s : RF} {n m : Int} (h : s.Ok n) (hm : n ≤ m) : s.Ok m := ⟨h.safe, h.its, by have := h.len; omega, by have := h.ops; omega, by have := h.wrote; omega⟩
end Go.Proofs.Ytjccknmgmommcaa.Sx


set_option maxRecDepth 10000
namespace Go.Proofs.Ytjccknmgmommcaa.Sx
open Go.RowKit Go.Proofs.Ytjccknmgmommcaa.Sx.Tb
/-- All that was written, seen. -/
def allL (b : List Int) (its : List (Bool × Int × List Int)) : List Int := its.foldl (fun b it => layL b it.1 it.2.1 it.2.2) b
theorem allL_append (b : List Int) (its : List (Bool × Int × List Int)) (it : Bool × Int × List Int) : allL b (its ++ [it]) = layL (allL b its) it.1 it.2.1 it.2.2 := by simp [allL]
/-- A file as laws have it: within limits, never refused. -/
structure DF.Ok (s : DF) (n : Int) : Prop where
  safe : s.safe.length ≤ 4194304
  now : s.now.length ≤ 4194304
  its : ∀ it ∈ s.items, 0 ≤ it.2.1 ∧ it.2.1 + it.2.2.length ≤ 4194304
  len : s.items.length ≤ n
  ops : 0 ≤ s.ops ∧ s.ops ≤ n
  wrote : 0 ≤ s.wrote ∧ s.wrote ≤ n
  all : s.now = allL s.safe s.items
theorem wrN_ok : ∀ (k : Nat) (s : DF) (at_ : Int) (xs : List Int), s.now.length ≤ 4194304 → (∀ it ∈ s.items, 0 ≤ it.2.1 ∧ it.2.1 + it.2.2.length ≤ 4194304) → s.now = allL s.safe s.items → 0 ≤ at_ → at_ + xs.length ≤ 4194304 →
    (wrN k s at_ xs).now.length ≤ 4194304 ∧ (∀ it ∈ (wrN k s at_ xs).items, 0 ≤ it.2.1 ∧ it.2.1 + it.2.2.length ≤ 4194304) ∧ (wrN k s at_ xs).now = allL (wrN k s at_ xs).safe (wrN k s at_ xs).items ∧ (wrN k s at_ xs).items.length ≤ s.items.length + xs.length ∧
    (wrN k s at_ xs).safe = s.safe ∧ (wrN k s at_ xs).ops = s.ops ∧ (wrN k s at_ xs).wrote = s.wrote ∧ (wrN k s at_ xs).fail = s.fail ∧ (wrN k s at_ xs).stop = s.stop
  | 0, s, at_, xs, h1, h2, h3, _, _ => by rw [wrN]; exact ⟨h1, h2, h3, by omega, rfl, rfl, rfl, rfl, rfl⟩
  | k + 1, s, at_, xs, h1, h2, h3, h4, h5 => by
    rw [wrN]
    by_cases hx : xs = []
    · rw [if_pos hx]; exact ⟨h1, h2, h3, by omega, rfl, rfl, rfl, rfl, rfl⟩
    · rw [if_neg hx]
      have hl : 0 < xs.length := List.length_pos_iff.2 hx
      have hs1 : 0 < secN at_ xs.length := by unfold secN; omega
      have hs2 : secN at_ xs.length ≤ xs.length := by unfold secN; omega
      have hlt : (xs.take (secN at_ xs.length)).length = secN at_ xs.length := by rw [List.length_take]; omega
      obtain ⟨a1, a2, a3, a4, a5, a6, a7, a8, a9⟩ := wrN_ok k { s with now := layL s.now false at_ (xs.take (secN at_ xs.length)), items := s.items ++ [(false, at_, xs.take (secN at_ xs.length))] } (at_ + secN at_ xs.length) (xs.drop (secN at_ xs.length))
        (show (layL s.now false at_ (xs.take (secN at_ xs.length))).length ≤ 4194304 by rw [layL_len _ _ _ h4, hlt]; omega)
        (fun it hit => by
          rcases List.mem_append.1 hit with hit | hit
          · exact h2 it hit
          · simp only [List.mem_singleton] at hit; subst hit; simp only [hlt]; omega)
        (show layL s.now false at_ (xs.take (secN at_ xs.length)) = allL s.safe (s.items ++ [(false, at_, xs.take (secN at_ xs.length))]) by rw [allL_append, ← h3]) (by omega) (by rw [List.length_drop]; omega)
      refine ⟨a1, a2, a3, ?_, a5, a6, a7, a8, a9⟩
      have e : (s.items ++ [(false, at_, xs.take (secN at_ xs.length))]).length = s.items.length + 1 := by simp
      have a4' : (wrN k { s with now := layL s.now false at_ (xs.take (secN at_ xs.length)), items := s.items ++ [(false, at_, xs.take (secN at_ xs.length))] } (at_ + secN at_ xs.length) (xs.drop (secN at_ xs.length))).items.length ≤ (s.items ++ [(false, at_, xs.take (secN at_ xs.length))]).length + (xs.drop (secN at_ xs.length)).length := a4
      rw [e, List.length_drop] at a4'
      omega
theorem DF.Ok.ask {s : DF} {n : Int} (h : s.Ok n) : s.asked.Ok (n + 1) :=
  ⟨h.safe, h.now, h.its, by have := h.len; show (s.items.length : Int) ≤ _; omega, by have := h.ops; show 0 ≤ s.ops + 1 ∧ s.ops + 1 ≤ _; omega, by have := h.wrote; show 0 ≤ s.wrote ∧ s.wrote ≤ _; omega, h.all⟩
theorem DF.Ok.mono {s : DF} {n m : Int} (h : s.Ok n) (hm : n ≤ m) : s.Ok m :=
  ⟨h.safe, h.now, h.its, by have := h.len; omega, by have := h.ops; omega, by have := h.wrote; omega, h.all⟩
theorem DF.Ok.write {s : DF} {n : Int} (h : s.Ok n) {at_ : Int} {xs : List Int} (h0 : 0 ≤ at_) (h1 : xs.length ≤ 4194304 - at_) : (s.wrote1 at_ xs).Ok (n + 1 + xs.length) ∧ (s.wrote1 at_ xs).safe = s.safe ∧ (s.wrote1 at_ xs).ops = s.ops + 1 ∧ (s.wrote1 at_ xs).wrote = s.wrote + 1 ∧ (s.wrote1 at_ xs).fail = s.fail ∧ (s.wrote1 at_ xs).stop = s.stop := by
  obtain ⟨a1, a2, a3, a4, a5, a6, a7, a8, a9⟩ := wrN_ok xs.length { s with ops := s.ops + 1, wrote := s.wrote + 1 } at_ xs h.now h.its h.all h0 (by omega)
  refine ⟨⟨by rw [DF.wrote1, a5]; exact h.safe, a1, a2, ?_, ?_, ?_, a3⟩, a5, a6, a7, a8, a9⟩
  · have := h.len
    have a4' : (s.wrote1 at_ xs).items.length ≤ s.items.length + xs.length := a4
    omega
  · have := h.ops
    have a6' : (s.wrote1 at_ xs).ops = s.ops + 1 := a6
    omega
  · have := h.wrote
    have a7' : (s.wrote1 at_ xs).wrote = s.wrote + 1 := a7
    omega
theorem layL_cut_len (b : List Int) (n : Int) (h : 0 ≤ n) : (layL b true n []).length ≤ n.toNat := by
  unfold layL
  simp
  omega
theorem DF.Ok.cut {s : DF} {n : Int} (h : s.Ok n) {m : Int} (h0 : 0 ≤ m) (h1 : m ≤ 4194304) : (s.cutTo m).Ok (n + 1) := by
  refine ⟨h.safe, ?_, fun it hit => ?_, ?_, ?_, ?_, ?_⟩
  · have := layL_cut_len s.now m h0; show (layL s.now true m []).length ≤ _; omega
  · rcases List.mem_append.1 hit with hit | hit
    · exact h.its it hit
    · simp only [List.mem_singleton] at hit; subst hit; simp only [List.length_nil]; omega
  · have := h.len; show ((s.items ++ [_]).length : Int) ≤ _; rw [List.length_append, List.length_singleton]; omega
  · have := h.ops; show 0 ≤ s.ops + 1 ∧ s.ops + 1 ≤ _; omega
  · have := h.wrote; show 0 ≤ s.wrote + 1 ∧ s.wrote + 1 ≤ _; omega
  · show layL s.now true m [] = allL s.safe (s.items ++ [(true, m, [])]); rw [allL_append, ← h.all]
theorem DF.Ok.flush {s : DF} {n : Int} (h : s.Ok n) : s.flushed.Ok (n + 1) :=
  ⟨h.now, h.now, fun it hit => absurd hit (by simp [DF.flushed]), by have := h.len; show ((0 : Nat) : Int) ≤ _; omega, by have := h.ops; show 0 ≤ s.ops + 1 ∧ s.ops + 1 ≤ _; omega, by have := h.wrote; show 0 ≤ s.wrote ∧ s.wrote ≤ _; omega, rfl⟩
def DF.live (s : DF) : Prop := s.fail = 0 ∧ s.stop = 0
theorem DF.live.not {s : DF} (h : s.live) : ¬ s.refused := by unfold DF.refused; rw [h.1, h.2]; omega
theorem DF.Did.ok {s s' : DF} {n : Int} {o : OpR} (h : s.Ok n) (hl : s.live) (hd : s.Did o s') : s'.Ok (n + 1 + o.b.length) ∧ s'.live ∧ (o.kind < 4 → s'.safe = s.safe) := by
  have ha : s.asked.Ok (n + 1 + o.b.length) ∧ s.asked.live ∧ (o.kind < 4 → s.asked.safe = s.safe) := ⟨h.ask.mono (by omega), hl, fun _ => rfl⟩
  rcases hd with ⟨_, rfl⟩ | ⟨_, h1⟩ | ⟨_, h1⟩ | ⟨h4, h1⟩ | ⟨_, rfl⟩
  · exact ha
  · rcases h1 with ⟨_, rfl⟩ | ⟨_, _, rfl⟩ | ⟨_, _, _, rfl⟩ | ⟨_, h2, h3, rfl⟩
    · exact ha
    · exact ha
    · exact ha
    · obtain ⟨b1, b2, b3, b4, b5, b6⟩ := h.write h2 h3
      exact ⟨b1, ⟨by rw [b5]; exact hl.1, by rw [b6]; exact hl.2⟩, fun _ => b2⟩
  · rcases h1 with ⟨_, rfl⟩ | ⟨_, _, rfl⟩ | ⟨_, h2, h3, rfl⟩
    · exact ha
    · exact ha
    · exact ⟨(h.cut h2 h3).mono (by omega), hl, fun _ => rfl⟩
  · rcases h1 with ⟨_, rfl⟩ | ⟨_, rfl⟩
    · exact ha
    · exact ⟨h.flush.mono (by omega), hl, fun h => by omega⟩
  · exact ⟨h.mono (by omega), hl, fun _ => rfl⟩
theorem DF.Ok.zero {b : List Int} (h : b.length ≤ 4194304) : (DF.mk0 b).Ok 0 :=
  ⟨h, h, fun it hit => absurd hit (by simp [DF.mk0]), Int.le_refl _, ⟨Int.le_refl _, Int.le_refl _⟩, ⟨Int.le_refl _, Int.le_refl _⟩, rfl⟩
end Go.Proofs.Ytjccknmgmommcaa.Sx


set_option maxRecDepth 10000
namespace Go.Proofs.Ytjccknmgmommcaa.Sx
open Go.RowKit Go.Proofs.Ytjccknmgmommcaa.Sx.Tb
def B8 (l : List Int) : Prop := ∀ x ∈ l, 0 ≤ x ∧ x < 256
theorem B8.nil : B8 [] := fun x hx => by cases hx
theorem B8.append {l m : List Int} (h : B8 l) (g : B8 m) : B8 (l ++ m) := fun x hx => by
  rcases List.mem_append.1 hx with hx | hx
  · exact h x hx
  · exact g x hx
theorem B8.take {l : List Int} (h : B8 l) (n : Nat) : B8 (l.take n) := fun x hx => h x (List.mem_of_mem_take hx)
theorem B8.drop {l : List Int} (h : B8 l) (n : Nat) : B8 (l.drop n) := fun x hx => h x (List.mem_of_mem_drop hx)
theorem B8.replicate (n : Nat) : B8 (List.replicate n 0) := fun x hx => by
  have := List.eq_of_mem_replicate hx
  omega
theorem B8.getD {l : List Int} (h : B8 l) (i : Nat) : 0 ≤ l.getD i 0 ∧ l.getD i 0 < 256 := by
  rw [List.getD_eq_getElem?_getD]
  cases hi : l[i]? with
  | none => simp
  | some x => exact h x (List.mem_of_getElem? hi)
theorem wu8 (x : Int) : IntKind.u8.wrap x = x % 256 := by simp [IntKind.wrap, IntKind.bits, IntKind.signed]
theorem wu16 (x : Int) : IntKind.u16.wrap x = x % 65536 := by simp [IntKind.wrap, IntKind.bits, IntKind.signed]
theorem wu32 (x : Int) : IntKind.u32.wrap x = x % 4294967296 := by simp [IntKind.wrap, IntKind.bits, IntKind.signed]
theorem wraps_u16 (n : Int) (h₀ : 0 ≤ n) (h₁ : n < 2 ^ 16) : IntKind.u16.wrap n = n := by rw [wu16]; omega
theorem or16 (v b : Int) (h0 : 0 ≤ v) (h1 : v < 256) (b0 : 0 ≤ b) (b1 : b < 256) : Go.bits .or .u16 (IntKind.u16.wrap (v * 256)) b = v * 256 + b := by
  rw [wraps_u16 _ (by omega) (by omega)]
  exact bits_join .u16 16 (by decide) wraps_u16 8 _ _ (by omega) (by omega) (by omega) b0 (by omega) (by omega)
/-- A number out of bytes, the lowest first. -/
def leV : List Int → Int
  | [] => 0
  | x :: r => x + 256 * leV r
/-- A number's bytes. -/
def leB : Nat → Int → List Int
  | 0, _ => []
  | n + 1, v => v % 256 :: leB n (v / 256)
def putB : List Int → Nat → Nat → Int → List Int
  | l, _, 0, _ => l
  | l, at_, n + 1, v => putB (l.set at_ (v % 256)) (at_ + 1) n (v / 256)
theorem leB_length : ∀ (n : Nat) (v : Int), (leB n v).length = n
  | 0, _ => rfl
  | n + 1, v => by simp [leB, leB_length n]
theorem leB_B8 : ∀ (n : Nat) (v : Int), B8 (leB n v)
  | 0, _ => B8.nil
  | n + 1, v => fun x hx => by
    rcases List.mem_cons.1 hx with rfl | hx
    · omega
    · exact leB_B8 n _ x hx
theorem leV_leB : ∀ (n : Nat) (v : Int), 0 ≤ v → v < 256 ^ n → leV (leB n v) = v
  | 0, v, h0, h1 => by simp at h1; simp [leB, leV]; omega
  | n + 1, v, h0, h1 => by
    rw [Int.pow_succ] at h1
    rw [leB, leV, leV_leB n (v / 256) (by omega) (by omega)]
    omega
theorem leV_nonneg : ∀ {l : List Int}, B8 l → 0 ≤ leV l
  | [], _ => Int.le_refl _
  | x :: r, h => by
    have h1 := h x (by simp)
    have h2 := leV_nonneg (l := r) (fun y hy => h y (by simp [hy]))
    rw [leV]; omega
theorem leV_lt : ∀ {l : List Int}, B8 l → leV l < 256 ^ l.length
  | [], _ => by simp [leV]
  | x :: r, h => by
    have h1 := h x (by simp)
    have h2 := leV_lt (l := r) (fun y hy => h y (by simp [hy]))
    rw [leV, List.length_cons, Int.pow_succ]; omega
theorem putB_eq : ∀ (n : Nat) (l : List Int) (at_ : Nat) (v : Int), at_ + n ≤ l.length → putB l at_ n v = l.take at_ ++ leB n v ++ l.drop (at_ + n)
  | 0, l, at_, v, h => by simp [putB, leB]
  | n + 1, l, at_, v, h => by
    rw [putB, putB_eq n _ _ _ (by rw [List.length_set]; omega), leB]
    have e1 : (l.set at_ (v % 256)).take (at_ + 1) = l.take at_ ++ [v % 256] := by
      apply List.ext_getElem?
      intro i
      rw [List.getElem?_take, List.getElem?_set, List.getElem?_append, List.getElem?_take, List.length_take]
      by_cases h1 : i < at_
      · rw [if_pos (by omega), if_neg (by omega), if_pos (by omega), if_pos h1]
      · by_cases h2 : i = at_
        · subst h2
          rw [if_pos (by omega), if_pos rfl, if_pos (by omega), if_neg (by omega), show i - min i l.length = 0 by omega]; rfl
        · rw [if_neg (by omega), if_neg (by omega)]
          symm
          apply List.getElem?_eq_none
          simp; omega
    have e2 : (l.set at_ (v % 256)).drop (at_ + 1 + n) = l.drop (at_ + (n + 1)) := by
      apply List.ext_getElem?
      intro i
      rw [List.getElem?_drop, List.getElem?_drop, List.getElem?_set, if_neg (by omega), show at_ + 1 + n + i = at_ + (n + 1) + i by omega]
    rw [e1, e2]
    simp
theorem putB_length : ∀ (n : Nat) (l : List Int) (at_ : Nat) (v : Int), (putB l at_ n v).length = l.length
  | 0, l, at_, v => rfl
  | n + 1, l, at_, v => by rw [putB, putB_length n, List.length_set]
theorem pow256_le {a b : Nat} (h : a ≤ b) : (256 : Int) ^ a ≤ 256 ^ b := by
  have := Nat.pow_le_pow_right (n := 256) (by decide) h
  have e : ∀ n : Nat, ((256 ^ n : Nat) : Int) = (256 : Int) ^ n := fun n => by simp
  rw [← e, ← e]
  exact Int.ofNat_le.2 this
theorem oin_c (l : List Int) (p n : Int) (k : K) (h0 : l.length ≤ 1099511627776) (hk : ∀ r : Bool, (r = true ↔ 0 ≤ p ∧ 0 ≤ n ∧ p + n ≤ l.length) → k (.v (.bool r)) []) : evFunc tab [] [] Go.Proofs.Try.f135 [.im false 1 l.length (.ints .u8 l), .v (.int .i64 p), .v (.int .i64 n)] [] k := by
  repeat' (first
 | (with_reducible first | exact True.intro | apply And.intro | apply If_true | apply If_false | apply If_not)
 | ((with_reducible apply VC.mk); (first | trivial | omega | (simp only [inR]; omega) | (exact ⟨rfl, List.prefix_rfl⟩) | (refine ⟨rfl, rfl, rfl, ?_, rfl⟩; (simp; done)) | (focus (repeat' (first | exact True.intro | apply And.intro | rfl | exact Nat.le_of_ble_eq_true rfl)); done) | (simp [inR, Cont.cells]; done) | (simp [inR, Cont.cells]; omega)))
 | ((with_reducible apply If_dec) <;> intro hc <;> (try (exfalso; omega)))
 | ((with_reducible apply If_any) <;> intro hc)
 | ((with_reducible first | apply PF.mk | apply DrawP.mk); (focus kernel_rfl))
 | ((with_reducible apply Same.mk); (focus rfl); (first | exact trivial | exact rfl))
 | (intro cap hcap)
 | ((fail_if_success (with_reducible first | apply Fin.mk | apply CallP.mk | apply LoopP.mk | apply VC.mk | apply falseMk | apply Round.mk | apply LookP.mk | apply RangeP.mk | apply NextP.mk | apply EntryP.mk | apply Eq.symm)); conv => whnf))
  all_goals exact Fin.same (hk _ (by simp; omega))
theorem oin_K : ConOk Go.Proofs.Try.prog 135 (Con.of (List Int × Int × Int) Bool (fun (l, p, n) => [.im false 1 l.length (.ints .u8 l), .v (.int .i64 p), .v (.int .i64 n)]) (fun _ => []) (fun (l, _, _) => l.length ≤ 1099511627776) (fun (l, p, n) r => (r = true ↔ 0 ≤ p ∧ 0 ≤ n ∧ p + n ≤ l.length)) (fun _ r => .v (.bool r)) (fun _ _ => [])) :=
  conOk_rel (T := tab) mix Go.Proofs.Try.func135 (by decide +kernel) (by kernel_rfl) [] [] (fun n => by rw [Go.Proofs.Try.ntmps135]; exact Nat.le_of_ble_eq_true rfl) (fun n z _ _ => ⟨trivial, (fun c hc => by cases hc), Nat.le_refl _⟩) (fun n _ c hc => by cases hc) (fun (l, p, n) k h0 hk => oin_c l p n k h0 (fun r hr => hk r hr))
theorem oin_at {avs : List AV} {H : List Chunk} {k : K} (l : List Int) (p n : Int) (h0 : l.length ≤ 1099511627776) (ha : argsM H [] [.im false 1 l.length (.ints .u8 l), .v (.int .i64 p), .v (.int .i64 n)] avs) (h : ∀ r : Bool, (r = true ↔ 0 ≤ p ∧ 0 ≤ n ∧ p + n ≤ l.length) → k (.v (.bool r)) H) : CallP Go.Proofs.Try.prog 135 avs H k :=
  CallP.mk ⟨_, oin_K.real, Con.spec oin_K, (l, p, n), [], ⟨h0, rfl, trivial, ha⟩, fun r hr => (numK_eq H.length (fun N => k (AV.ren (fren [] N) (.v (.bool r))) (putAll H [] []))).mpr (by simpa [putAll, AV.ren] using h r hr)⟩
set_option maxHeartbeats 4000000 in
theorem put64_c (l : List Int) (c : Nat) (at_ n v : Int) (k : K) (h0 : 0 ≤ at_ ∧ 0 ≤ n ∧ at_ + n ≤ l.length ∧ l.length ≤ 1099511627776) (hk : k (.v (.bool true)) [.blk 5 (.ints .u8 (putB l at_.toNat n.toNat v)) c]) :
    evFunc tab [24] [] Go.Proofs.Try.f122 [.s 0 0 1 l.length c, .v (.int .i64 at_), .v (.int .i64 n), .v (.int .u64 v)] [.blk 5 (.ints .u8 l) c] k := by
  repeat' (first
 | (with_reducible first | exact True.intro | apply And.intro | apply If_true | apply If_false | apply If_not)
 | ((with_reducible apply VC.mk); (first | trivial | omega | (simp only [inR]; omega) | (exact ⟨rfl, List.prefix_rfl⟩) | (refine ⟨rfl, rfl, rfl, ?_, rfl⟩; (simp; done)) | (focus (repeat' (first | exact True.intro | apply And.intro | rfl | exact Nat.le_of_ble_eq_true rfl)); done) | (simp [inR, Cont.cells]; done) | (simp [inR, Cont.cells]; omega)))
 | ((with_reducible apply If_dec) <;> intro hc <;> (try (exfalso; omega)))
 | ((with_reducible apply If_any) <;> intro hc)
 | ((with_reducible first | apply PF.mk | apply DrawP.mk); (focus kernel_rfl))
 | ((with_reducible apply Same.mk); (focus rfl); (first | exact trivial | exact rfl))
 | (intro cap hcap)
 | ((fail_if_success (with_reducible first | apply Fin.mk | apply CallP.mk | apply LoopP.mk | apply VC.mk | apply falseMk | apply Round.mk | apply LookP.mk | apply RangeP.mk | apply NextP.mk | apply EntryP.mk | apply Eq.symm)); conv => whnf))
  refine oin_at l at_ n h0.2.2.2 ⟨⟨by omega, rfl, rfl, by show Cont.ints _ _ = Cont.ints _ _; rw [List.drop_zero, List.take_length], rfl, Nat.one_pos⟩, rfl, rfl, trivial⟩ ?_
  intro r hr
  have hr : r = true := hr.2 (by omega)
  subst hr
  repeat' (first
 | (with_reducible first | exact True.intro | apply And.intro | apply If_true | apply If_false | apply If_not)
 | ((with_reducible apply VC.mk); (first | trivial | omega | (simp only [inR]; omega) | (exact ⟨rfl, List.prefix_rfl⟩) | (refine ⟨rfl, rfl, rfl, ?_, rfl⟩; (simp; done)) | (focus (repeat' (first | exact True.intro | apply And.intro | rfl | exact Nat.le_of_ble_eq_true rfl)); done) | (simp [inR, Cont.cells]; done) | (simp [inR, Cont.cells]; omega)))
 | ((with_reducible apply If_dec) <;> intro hc <;> (try (exfalso; omega)))
 | ((with_reducible apply If_any) <;> intro hc)
 | ((with_reducible first | apply PF.mk | apply DrawP.mk); (focus kernel_rfl))
 | ((with_reducible apply Same.mk); (focus rfl); (first | exact trivial | exact rfl))
 | (intro cap hcap)
 | ((fail_if_success (with_reducible first | apply Fin.mk | apply CallP.mk | apply LoopP.mk | apply VC.mk | apply falseMk | apply Round.mk | apply LookP.mk | apply RangeP.mk | apply NextP.mk | apply EntryP.mk | apply Eq.symm)); conv => whnf))
  refine LoopP.mk ⟨Nat × List Int × Int, fun y => y.1 ≤ n.toNat ∧ y.2.1.length = l.length ∧ putB y.2.1 (at_.toNat + y.1) (n.toNat - y.1) y.2.2 = putB l at_.toNat n.toNat v, fun y => ([(0, .s 0 0 1 l.length c), (1, .v (.int .i64 at_)), (3, .v (.int .u64 y.2.2)), (15, .v (.int .i64 n)), (16, .v (.int .i64 y.1))], [.blk 5 (.ints .u8 y.2.1) c]), fun y => n.toNat - y.1, (0, l, v), ⟨Nat.zero_le _, rfl, rfl⟩, Fit.ren [0] [] rfl rfl trivial ?_ ?_, ?_⟩
  · repeat' (first
 | (with_reducible first | exact True.intro | apply And.intro | apply If_true | apply If_false | apply If_not)
 | ((with_reducible apply VC.mk); (first | trivial | omega | (simp only [inR]; omega) | (exact ⟨rfl, List.prefix_rfl⟩) | (refine ⟨rfl, rfl, rfl, ?_, rfl⟩; (simp; done)) | (focus (repeat' (first | exact True.intro | apply And.intro | rfl | exact Nat.le_of_ble_eq_true rfl)); done) | (simp [inR, Cont.cells]; done) | (simp [inR, Cont.cells]; omega)))
 | ((with_reducible apply If_dec) <;> intro hc <;> (try (exfalso; omega)))
 | ((with_reducible apply If_any) <;> intro hc)
 | ((with_reducible first | apply PF.mk | apply DrawP.mk); (focus kernel_rfl))
 | ((with_reducible apply Same.mk); (focus rfl); (first | exact trivial | exact rfl))
 | (intro cap hcap)
 | ((fail_if_success (with_reducible first | apply Fin.mk | apply CallP.mk | apply LoopP.mk | apply VC.mk | apply falseMk | apply Round.mk | apply LookP.mk | apply RangeP.mk | apply NextP.mk | apply EntryP.mk | apply Eq.symm)); conv => whnf))
  · repeat' (first
 | (with_reducible first | exact True.intro | apply And.intro | apply If_true | apply If_false | apply If_not)
 | ((with_reducible apply VC.mk); (first | trivial | omega | (simp only [inR]; omega) | (exact ⟨rfl, List.prefix_rfl⟩) | (refine ⟨rfl, rfl, rfl, ?_, rfl⟩; (simp; done)) | (focus (repeat' (first | exact True.intro | apply And.intro | rfl | exact Nat.le_of_ble_eq_true rfl)); done) | (simp [inR, Cont.cells]; done) | (simp [inR, Cont.cells]; omega)))
 | ((with_reducible apply If_dec) <;> intro hc <;> (try (exfalso; omega)))
 | ((with_reducible apply If_any) <;> intro hc)
 | ((with_reducible first | apply PF.mk | apply DrawP.mk); (focus kernel_rfl))
 | ((with_reducible apply Same.mk); (focus rfl); (first | exact trivial | exact rfl))
 | (intro cap hcap)
 | ((fail_if_success (with_reducible first | apply Fin.mk | apply CallP.mk | apply LoopP.mk | apply VC.mk | apply falseMk | apply Round.mk | apply LookP.mk | apply RangeP.mk | apply NextP.mk | apply EntryP.mk | apply Eq.symm)); conv => whnf))
  · intro y hy
    obtain ⟨g1, g2, g3⟩ := hy
    repeat' (first
 | (with_reducible first | exact True.intro | apply And.intro | apply If_true | apply If_false | apply If_not)
 | ((with_reducible apply VC.mk); (first | trivial | omega | (simp only [inR]; omega) | (exact ⟨rfl, List.prefix_rfl⟩) | (refine ⟨rfl, rfl, rfl, ?_, rfl⟩; (simp; done)) | (focus (repeat' (first | exact True.intro | apply And.intro | rfl | exact Nat.le_of_ble_eq_true rfl)); done) | (simp [inR, Cont.cells]; done) | (simp [inR, Cont.cells]; omega)))
 | ((with_reducible apply If_dec) <;> intro hc <;> (try (exfalso; omega)))
 | ((with_reducible apply If_any) <;> intro hc)
 | ((with_reducible first | apply PF.mk | apply DrawP.mk); (focus kernel_rfl))
 | ((with_reducible apply Same.mk); (focus rfl); (first | exact trivial | exact rfl))
 | (intro cap hcap)
 | ((fail_if_success (with_reducible first | apply Fin.mk | apply CallP.mk | apply LoopP.mk | apply VC.mk | apply falseMk | apply Round.mk | apply LookP.mk | apply RangeP.mk | apply NextP.mk | apply EntryP.mk | apply Eq.symm)); conv => whnf))
    · refine Round.mk ⟨(y.1 + 1, y.2.1.set (at_.toNat + y.1) (y.2.2 % 256), y.2.2 / 256), ⟨by show y.1 + 1 ≤ _; omega, by show (y.2.1.set _ _).length = _; rw [List.length_set, g2], ?_⟩, by show n.toNat - (y.1 + 1) < n.toNat - y.1; omega, Fit.ren [0] [] rfl rfl trivial ?_ ?_⟩
      · rw [← g3, show n.toNat - y.1 = (n.toNat - (y.1 + 1)) + 1 by omega]
        rfl
      · refine ⟨⟨VC.mk ⟨rfl, rfl⟩, VC.mk ⟨rfl, ?_⟩⟩, trivial⟩
        rw [wu8, show 0 + (at_ + (y.1 : Int)).toNat = at_.toNat + y.1 by omega]
        exact List.prefix_rfl
      · repeat' (first
 | (with_reducible first | exact True.intro | apply And.intro | apply If_true | apply If_false | apply If_not)
 | ((with_reducible apply VC.mk); (first | trivial | omega | (simp only [inR]; omega) | (exact ⟨rfl, List.prefix_rfl⟩) | (refine ⟨rfl, rfl, rfl, ?_, rfl⟩; (simp; done)) | (focus (repeat' (first | exact True.intro | apply And.intro | rfl | exact Nat.le_of_ble_eq_true rfl)); done) | (simp [inR, Cont.cells]; done) | (simp [inR, Cont.cells]; omega)))
 | ((with_reducible apply If_dec) <;> intro hc <;> (try (exfalso; omega)))
 | ((with_reducible apply If_any) <;> intro hc)
 | ((with_reducible first | apply PF.mk | apply DrawP.mk); (focus kernel_rfl))
 | ((with_reducible apply Same.mk); (focus rfl); (first | exact trivial | exact rfl))
 | (intro cap hcap)
 | ((fail_if_success (with_reducible first | apply Fin.mk | apply CallP.mk | apply LoopP.mk | apply VC.mk | apply falseMk | apply Round.mk | apply LookP.mk | apply RangeP.mk | apply NextP.mk | apply EntryP.mk | apply Eq.symm)); conv => whnf))
    · have e : n.toNat - y.1 = 0 := by omega
      rw [e] at g3
      have g3 : y.2.1 = putB l at_.toNat n.toNat v := g3
      rw [← g3] at hk
      exact Fin.same hk
theorem put64_K : ConOk Go.Proofs.Try.prog 122 (Con.fn (List Int × Nat × Int × Int × Int) (fun (l, c, at_, n, v) => [.s 0 0 1 l.length c, .v (.int .i64 at_), .v (.int .i64 n), .v (.int .u64 v)]) (fun (l, c, _, _, _) => [.blk 5 (.ints .u8 l) c]) (fun (l, c, at_, n, v) => 0 ≤ at_ ∧ 0 ≤ n ∧ at_ + n ≤ l.length ∧ l.length ≤ 1099511627776) (fun _ => .v (.bool true)) (fun (l, c, at_, n, v) => [.blk 5 (.ints .u8 (putB l at_.toNat n.toNat v)) c])) :=
  conOk_fn (T := tab) mix Go.Proofs.Try.func122 (by decide +kernel) (by kernel_rfl) [24] [] (fun n => by rw [Go.Proofs.Try.ntmps122]; exact Nat.le_of_ble_eq_true rfl) (fun (l, c, at_, n, v) _ => ⟨trivial, (fun x hx => by simp at hx; subst hx; exact .blk trivial), Nat.le_refl _⟩) (fun (l, c, at_, n, v) _ x hx => by simp at hx; subst hx; trivial) (fun (l, c, at_, n, v) k h0 hk => put64_c l c at_ n v k h0 hk)
theorem put64_at {avs : List AV} {H : List Chunk} {k : K} (l : List Int) (c : Nat) (at_ n v : Int) (i : Nat) (h0 : 0 ≤ at_ ∧ 0 ≤ n ∧ at_ + n ≤ l.length ∧ l.length ≤ 1099511627776) (hc : nth H i = some (.blk 5 (.ints .u8 l) c)) (ha : argsM H [i] [.s 0 0 1 l.length c, .v (.int .i64 at_), .v (.int .i64 n), .v (.int .u64 v)] avs)
    (h : k (.v (.bool true)) (H.set i (.blk 5 (.ints .u8 (putB l at_.toNat n.toNat v)) c))) : CallP Go.Proofs.Try.prog 122 avs H k :=
  CallP.mk ⟨_, put64_K.real, Con.spec put64_K, (l, c, at_, n, v), [i], ⟨h0, rfl, ⟨hc, trivial⟩, ha⟩, (numK_eq H.length (fun N => k (AV.ren (fren [i] N) (.v (.bool true))) (putAll H [i] [Chunk.ren (fren [i] N) (.blk 5 (.ints .u8 (putB l at_.toNat n.toNat v)) c)]))).mpr (by simpa [putAll, AV.ren, Chunk.ren, Cont.ren] using h)⟩
theorem Put64_c (l : List Int) (c : Nat) (at_ v : Int) (k : K) (h0 : 0 ≤ at_ ∧ at_ + 8 ≤ l.length ∧ l.length ≤ 1099511627776) (hk : k (.v (.bool true)) [.blk 5 (.ints .u8 (putB l at_.toNat 8 v)) c]) :
    evFunc tab [] [] Go.Proofs.Try.f96 [.s 0 0 1 l.length c, .v (.int .i64 at_), .v (.int .u64 v)] [.blk 5 (.ints .u8 l) c] k := by
  repeat' (first
 | (with_reducible first | exact True.intro | apply And.intro | apply If_true | apply If_false | apply If_not)
 | ((with_reducible apply VC.mk); (first | trivial | omega | (simp only [inR]; omega) | (exact ⟨rfl, List.prefix_rfl⟩) | (refine ⟨rfl, rfl, rfl, ?_, rfl⟩; (simp; done)) | (focus (repeat' (first | exact True.intro | apply And.intro | rfl | exact Nat.le_of_ble_eq_true rfl)); done) | (simp [inR, Cont.cells]; done) | (simp [inR, Cont.cells]; omega)))
 | ((with_reducible apply If_dec) <;> intro hc <;> (try (exfalso; omega)))
 | ((with_reducible apply If_any) <;> intro hc)
 | ((with_reducible first | apply PF.mk | apply DrawP.mk); (focus kernel_rfl))
 | ((with_reducible apply Same.mk); (focus rfl); (first | exact trivial | exact rfl))
 | (intro cap hcap)
 | ((fail_if_success (with_reducible first | apply Fin.mk | apply CallP.mk | apply LoopP.mk | apply VC.mk | apply falseMk | apply Round.mk | apply LookP.mk | apply RangeP.mk | apply NextP.mk | apply EntryP.mk | apply Eq.symm)); conv => whnf))
  refine put64_at l c at_ 8 v 0 (by omega) rfl ⟨rfl, rfl, rfl, rfl, trivial⟩ ?_
  repeat' (first
 | (with_reducible first | exact True.intro | apply And.intro | apply If_true | apply If_false | apply If_not)
 | ((with_reducible apply VC.mk); (first | trivial | omega | (simp only [inR]; omega) | (exact ⟨rfl, List.prefix_rfl⟩) | (refine ⟨rfl, rfl, rfl, ?_, rfl⟩; (simp; done)) | (focus (repeat' (first | exact True.intro | apply And.intro | rfl | exact Nat.le_of_ble_eq_true rfl)); done) | (simp [inR, Cont.cells]; done) | (simp [inR, Cont.cells]; omega)))
 | ((with_reducible apply If_dec) <;> intro hc <;> (try (exfalso; omega)))
 | ((with_reducible apply If_any) <;> intro hc)
 | ((with_reducible first | apply PF.mk | apply DrawP.mk); (focus kernel_rfl))
 | ((with_reducible apply Same.mk); (focus rfl); (first | exact trivial | exact rfl))
 | (intro cap hcap)
 | ((fail_if_success (with_reducible first | apply Fin.mk | apply CallP.mk | apply LoopP.mk | apply VC.mk | apply falseMk | apply Round.mk | apply LookP.mk | apply RangeP.mk | apply NextP.mk | apply EntryP.mk | apply Eq.symm)); conv => whnf))
  exact Fin.same hk
theorem Put64_K : ConOk Go.Proofs.Try.prog 96 (Con.fn (List Int × Nat × Int × Int) (fun (l, c, at_, v) => [.s 0 0 1 l.length c, .v (.int .i64 at_), .v (.int .u64 v)]) (fun (l, c, _, _) => [.blk 5 (.ints .u8 l) c]) (fun (l, c, at_, v) => 0 ≤ at_ ∧ at_ + 8 ≤ l.length ∧ l.length ≤ 1099511627776) (fun _ => .v (.bool true)) (fun (l, c, at_, v) => [.blk 5 (.ints .u8 (putB l at_.toNat 8 v)) c])) :=
  conOk_fn (T := tab) mix Go.Proofs.Try.func96 (by decide +kernel) (by kernel_rfl) [] [] (fun n => by rw [Go.Proofs.Try.ntmps96]; exact Nat.le_of_ble_eq_true rfl) (fun (l, c, at_, v) _ => ⟨trivial, (fun x hx => by simp at hx; subst hx; exact .blk trivial), Nat.le_refl _⟩) (fun (l, c, at_, v) _ x hx => by simp at hx; subst hx; trivial) (fun (l, c, at_, v) k h0 hk => Put64_c l c at_ v k h0 hk)
theorem Put64_at {avs : List AV} {H : List Chunk} {k : K} (l : List Int) (c : Nat) (at_ v : Int) (i : Nat) (h0 : 0 ≤ at_ ∧ at_ + 8 ≤ l.length ∧ l.length ≤ 1099511627776) (hc : nth H i = some (.blk 5 (.ints .u8 l) c)) (ha : argsM H [i] [.s 0 0 1 l.length c, .v (.int .i64 at_), .v (.int .u64 v)] avs)
    (h : k (.v (.bool true)) (H.set i (.blk 5 (.ints .u8 (putB l at_.toNat 8 v)) c))) : CallP Go.Proofs.Try.prog 96 avs H k :=
  CallP.mk ⟨_, Put64_K.real, Con.spec Put64_K, (l, c, at_, v), [i], ⟨h0, rfl, ⟨hc, trivial⟩, ha⟩, (numK_eq H.length (fun N => k (AV.ren (fren [i] N) (.v (.bool true))) (putAll H [i] [Chunk.ren (fren [i] N) (.blk 5 (.ints .u8 (putB l at_.toNat 8 v)) c)]))).mpr (by simpa [putAll, AV.ren, Chunk.ren, Cont.ren] using h)⟩
set_option maxHeartbeats 4000000 in
theorem put32_c (l : List Int) (c : Nat) (at_ n v : Int) (k : K) (h0 : 0 ≤ at_ ∧ 0 ≤ n ∧ at_ + n ≤ l.length ∧ l.length ≤ 1099511627776) (hk : k (.v (.bool true)) [.blk 5 (.ints .u8 (putB l at_.toNat n.toNat v)) c]) :
    evFunc tab [24] [] Go.Proofs.Try.f138 [.s 0 0 1 l.length c, .v (.int .i64 at_), .v (.int .i64 n), .v (.int .u32 v)] [.blk 5 (.ints .u8 l) c] k := by
  repeat' (first
 | (with_reducible first | exact True.intro | apply And.intro | apply If_true | apply If_false | apply If_not)
 | ((with_reducible apply VC.mk); (first | trivial | omega | (simp only [inR]; omega) | (exact ⟨rfl, List.prefix_rfl⟩) | (refine ⟨rfl, rfl, rfl, ?_, rfl⟩; (simp; done)) | (focus (repeat' (first | exact True.intro | apply And.intro | rfl | exact Nat.le_of_ble_eq_true rfl)); done) | (simp [inR, Cont.cells]; done) | (simp [inR, Cont.cells]; omega)))
 | ((with_reducible apply If_dec) <;> intro hc <;> (try (exfalso; omega)))
 | ((with_reducible apply If_any) <;> intro hc)
 | ((with_reducible first | apply PF.mk | apply DrawP.mk); (focus kernel_rfl))
 | ((with_reducible apply Same.mk); (focus rfl); (first | exact trivial | exact rfl))
 | (intro cap hcap)
 | ((fail_if_success (with_reducible first | apply Fin.mk | apply CallP.mk | apply LoopP.mk | apply VC.mk | apply falseMk | apply Round.mk | apply LookP.mk | apply RangeP.mk | apply NextP.mk | apply EntryP.mk | apply Eq.symm)); conv => whnf))
  refine oin_at l at_ n h0.2.2.2 ⟨⟨by omega, rfl, rfl, by show Cont.ints _ _ = Cont.ints _ _; rw [List.drop_zero, List.take_length], rfl, Nat.one_pos⟩, rfl, rfl, trivial⟩ ?_
  intro r hr
  have hr : r = true := hr.2 (by omega)
  subst hr
  repeat' (first
 | (with_reducible first | exact True.intro | apply And.intro | apply If_true | apply If_false | apply If_not)
 | ((with_reducible apply VC.mk); (first | trivial | omega | (simp only [inR]; omega) | (exact ⟨rfl, List.prefix_rfl⟩) | (refine ⟨rfl, rfl, rfl, ?_, rfl⟩; (simp; done)) | (focus (repeat' (first | exact True.intro | apply And.intro | rfl | exact Nat.le_of_ble_eq_true rfl)); done) | (simp [inR, Cont.cells]; done) | (simp [inR, Cont.cells]; omega)))
 | ((with_reducible apply If_dec) <;> intro hc <;> (try (exfalso; omega)))
 | ((with_reducible apply If_any) <;> intro hc)
 | ((with_reducible first | apply PF.mk | apply DrawP.mk); (focus kernel_rfl))
 | ((with_reducible apply Same.mk); (focus rfl); (first | exact trivial | exact rfl))
 | (intro cap hcap)
 | ((fail_if_success (with_reducible first | apply Fin.mk | apply CallP.mk | apply LoopP.mk | apply VC.mk | apply falseMk | apply Round.mk | apply LookP.mk | apply RangeP.mk | apply NextP.mk | apply EntryP.mk | apply Eq.symm)); conv => whnf))
  refine LoopP.mk ⟨Nat × List Int × Int, fun y => y.1 ≤ n.toNat ∧ y.2.1.length = l.length ∧ putB y.2.1 (at_.toNat + y.1) (n.toNat - y.1) y.2.2 = putB l at_.toNat n.toNat v, fun y => ([(0, .s 0 0 1 l.length c), (1, .v (.int .i64 at_)), (3, .v (.int .u32 y.2.2)), (15, .v (.int .i64 n)), (16, .v (.int .i64 y.1))], [.blk 5 (.ints .u8 y.2.1) c]), fun y => n.toNat - y.1, (0, l, v), ⟨Nat.zero_le _, rfl, rfl⟩, Fit.ren [0] [] rfl rfl trivial ?_ ?_, ?_⟩
  · repeat' (first
 | (with_reducible first | exact True.intro | apply And.intro | apply If_true | apply If_false | apply If_not)
 | ((with_reducible apply VC.mk); (first | trivial | omega | (simp only [inR]; omega) | (exact ⟨rfl, List.prefix_rfl⟩) | (refine ⟨rfl, rfl, rfl, ?_, rfl⟩; (simp; done)) | (focus (repeat' (first | exact True.intro | apply And.intro | rfl | exact Nat.le_of_ble_eq_true rfl)); done) | (simp [inR, Cont.cells]; done) | (simp [inR, Cont.cells]; omega)))
 | ((with_reducible apply If_dec) <;> intro hc <;> (try (exfalso; omega)))
 | ((with_reducible apply If_any) <;> intro hc)
 | ((with_reducible first | apply PF.mk | apply DrawP.mk); (focus kernel_rfl))
 | ((with_reducible apply Same.mk); (focus rfl); (first | exact trivial | exact rfl))
 | (intro cap hcap)
 | ((fail_if_success (with_reducible first | apply Fin.mk | apply CallP.mk | apply LoopP.mk | apply VC.mk | apply falseMk | apply Round.mk | apply LookP.mk | apply RangeP.mk | apply NextP.mk | apply EntryP.mk | apply Eq.symm)); conv => whnf))
  · repeat' (first
 | (with_reducible first | exact True.intro | apply And.intro | apply If_true | apply If_false | apply If_not)
 | ((with_reducible apply VC.mk); (first | trivial | omega | (simp only [inR]; omega) | (exact ⟨rfl, List.prefix_rfl⟩) | (refine ⟨rfl, rfl, rfl, ?_, rfl⟩; (simp; done)) | (focus (repeat' (first | exact True.intro | apply And.intro | rfl | exact Nat.le_of_ble_eq_true rfl)); done) | (simp [inR, Cont.cells]; done) | (simp [inR, Cont.cells]; omega)))
 | ((with_reducible apply If_dec) <;> intro hc <;> (try (exfalso; omega)))
 | ((with_reducible apply If_any) <;> intro hc)
 | ((with_reducible first | apply PF.mk | apply DrawP.mk); (focus kernel_rfl))
 | ((with_reducible apply Same.mk); (focus rfl); (first | exact trivial | exact rfl))
 | (intro cap hcap)
 | ((fail_if_success (with_reducible first | apply Fin.mk | apply CallP.mk | apply LoopP.mk | apply VC.mk | apply falseMk | apply Round.mk | apply LookP.mk | apply RangeP.mk | apply NextP.mk | apply EntryP.mk | apply Eq.symm)); conv => whnf))
  · intro y hy
    obtain ⟨g1, g2, g3⟩ := hy
    repeat' (first
 | (with_reducible first | exact True.intro | apply And.intro | apply If_true | apply If_false | apply If_not)
 | ((with_reducible apply VC.mk); (first | trivial | omega | (simp only [inR]; omega) | (exact ⟨rfl, List.prefix_rfl⟩) | (refine ⟨rfl, rfl, rfl, ?_, rfl⟩; (simp; done)) | (focus (repeat' (first | exact True.intro | apply And.intro | rfl | exact Nat.le_of_ble_eq_true rfl)); done) | (simp [inR, Cont.cells]; done) | (simp [inR, Cont.cells]; omega)))
 | ((with_reducible apply If_dec) <;> intro hc <;> (try (exfalso; omega)))
 | ((with_reducible apply If_any) <;> intro hc)
 | ((with_reducible first | apply PF.mk | apply DrawP.mk); (focus kernel_rfl))
 | ((with_reducible apply Same.mk); (focus rfl); (first | exact trivial | exact rfl))
 | (intro cap hcap)
 | ((fail_if_success (with_reducible first | apply Fin.mk | apply CallP.mk | apply LoopP.mk | apply VC.mk | apply falseMk | apply Round.mk | apply LookP.mk | apply RangeP.mk | apply NextP.mk | apply EntryP.mk | apply Eq.symm)); conv => whnf))
    · refine Round.mk ⟨(y.1 + 1, y.2.1.set (at_.toNat + y.1) (y.2.2 % 256), y.2.2 / 256), ⟨by show y.1 + 1 ≤ _; omega, by show (y.2.1.set _ _).length = _; rw [List.length_set, g2], ?_⟩, by show n.toNat - (y.1 + 1) < n.toNat - y.1; omega, Fit.ren [0] [] rfl rfl trivial ?_ ?_⟩
      · rw [← g3, show n.toNat - y.1 = (n.toNat - (y.1 + 1)) + 1 by omega]
        rfl
      · refine ⟨⟨VC.mk ⟨rfl, rfl⟩, VC.mk ⟨rfl, ?_⟩⟩, trivial⟩
        rw [wu8, show 0 + (at_ + (y.1 : Int)).toNat = at_.toNat + y.1 by omega]
        exact List.prefix_rfl
      · repeat' (first
 | (with_reducible first | exact True.intro | apply And.intro | apply If_true | apply If_false | apply If_not)
 | ((with_reducible apply VC.mk); (first | trivial | omega | (simp only [inR]; omega) | (exact ⟨rfl, List.prefix_rfl⟩) | (refine ⟨rfl, rfl, rfl, ?_, rfl⟩; (simp; done)) | (focus (repeat' (first | exact True.intro | apply And.intro | rfl | exact Nat.le_of_ble_eq_true rfl)); done) | (simp [inR, Cont.cells]; done) | (simp [inR, Cont.cells]; omega)))
 | ((with_reducible apply If_dec) <;> intro hc <;> (try (exfalso; omega)))
 | ((with_reducible apply If_any) <;> intro hc)
 | ((with_reducible first | apply PF.mk | apply DrawP.mk); (focus kernel_rfl))
 | ((with_reducible apply Same.mk); (focus rfl); (first | exact trivial | exact rfl))
 | (intro cap hcap)
 | ((fail_if_success (with_reducible first | apply Fin.mk | apply CallP.mk | apply LoopP.mk | apply VC.mk | apply falseMk | apply Round.mk | apply LookP.mk | apply RangeP.mk | apply NextP.mk | apply EntryP.mk | apply Eq.symm)); conv => whnf))
    · have e : n.toNat - y.1 = 0 := by omega
      rw [e] at g3
      have g3 : y.2.1 = putB l at_.toNat n.toNat v := g3
      rw [← g3] at hk
      exact Fin.same hk
theorem put32_K : ConOk Go.Proofs.Try.prog 138 (Con.fn (List Int × Nat × Int × Int × Int) (fun (l, c, at_, n, v) => [.s 0 0 1 l.length c, .v (.int .i64 at_), .v (.int .i64 n), .v (.int .u32 v)]) (fun (l, c, _, _, _) => [.blk 5 (.ints .u8 l) c]) (fun (l, c, at_, n, v) => 0 ≤ at_ ∧ 0 ≤ n ∧ at_ + n ≤ l.length ∧ l.length ≤ 1099511627776) (fun _ => .v (.bool true)) (fun (l, c, at_, n, v) => [.blk 5 (.ints .u8 (putB l at_.toNat n.toNat v)) c])) :=
  conOk_fn (T := tab) mix Go.Proofs.Try.func138 (by decide +kernel) (by kernel_rfl) [24] [] (fun n => by rw [Go.Proofs.Try.ntmps138]; exact Nat.le_of_ble_eq_true rfl) (fun (l, c, at_, n, v) _ => ⟨trivial, (fun x hx => by simp at hx; subst hx; exact .blk trivial), Nat.le_refl _⟩) (fun (l, c, at_, n, v) _ x hx => by simp at hx; subst hx; trivial) (fun (l, c, at_, n, v) k h0 hk => put32_c l c at_ n v k h0 hk)
theorem put32_at {avs : List AV} {H : List Chunk} {k : K} (l : List Int) (c : Nat) (at_ n v : Int) (i : Nat) (h0 : 0 ≤ at_ ∧ 0 ≤ n ∧ at_ + n ≤ l.length ∧ l.length ≤ 1099511627776) (hc : nth H i = some (.blk 5 (.ints .u8 l) c)) (ha : argsM H [i] [.s 0 0 1 l.length c, .v (.int .i64 at_), .v (.int .i64 n), .v (.int .u32 v)] avs)
    (h : k (.v (.bool true)) (H.set i (.blk 5 (.ints .u8 (putB l at_.toNat n.toNat v)) c))) : CallP Go.Proofs.Try.prog 138 avs H k :=
  CallP.mk ⟨_, put32_K.real, Con.spec put32_K, (l, c, at_, n, v), [i], ⟨h0, rfl, ⟨hc, trivial⟩, ha⟩, (numK_eq H.length (fun N => k (AV.ren (fren [i] N) (.v (.bool true))) (putAll H [i] [Chunk.ren (fren [i] N) (.blk 5 (.ints .u8 (putB l at_.toNat n.toNat v)) c)]))).mpr (by simpa [putAll, AV.ren, Chunk.ren, Cont.ren] using h)⟩
theorem Put32_c (l : List Int) (c : Nat) (at_ v : Int) (k : K) (h0 : 0 ≤ at_ ∧ at_ + 4 ≤ l.length ∧ l.length ≤ 1099511627776) (hk : k (.v (.bool true)) [.blk 5 (.ints .u8 (putB l at_.toNat 4 v)) c]) :
    evFunc tab [] [] Go.Proofs.Try.f129 [.s 0 0 1 l.length c, .v (.int .i64 at_), .v (.int .u32 v)] [.blk 5 (.ints .u8 l) c] k := by
  repeat' (first
 | (with_reducible first | exact True.intro | apply And.intro | apply If_true | apply If_false | apply If_not)
 | ((with_reducible apply VC.mk); (first | trivial | omega | (simp only [inR]; omega) | (exact ⟨rfl, List.prefix_rfl⟩) | (refine ⟨rfl, rfl, rfl, ?_, rfl⟩; (simp; done)) | (focus (repeat' (first | exact True.intro | apply And.intro | rfl | exact Nat.le_of_ble_eq_true rfl)); done) | (simp [inR, Cont.cells]; done) | (simp [inR, Cont.cells]; omega)))
 | ((with_reducible apply If_dec) <;> intro hc <;> (try (exfalso; omega)))
 | ((with_reducible apply If_any) <;> intro hc)
 | ((with_reducible first | apply PF.mk | apply DrawP.mk); (focus kernel_rfl))
 | ((with_reducible apply Same.mk); (focus rfl); (first | exact trivial | exact rfl))
 | (intro cap hcap)
 | ((fail_if_success (with_reducible first | apply Fin.mk | apply CallP.mk | apply LoopP.mk | apply VC.mk | apply falseMk | apply Round.mk | apply LookP.mk | apply RangeP.mk | apply NextP.mk | apply EntryP.mk | apply Eq.symm)); conv => whnf))
  refine put32_at l c at_ 4 v 0 (by omega) rfl ⟨rfl, rfl, rfl, rfl, trivial⟩ ?_
  repeat' (first
 | (with_reducible first | exact True.intro | apply And.intro | apply If_true | apply If_false | apply If_not)
 | ((with_reducible apply VC.mk); (first | trivial | omega | (simp only [inR]; omega) | (exact ⟨rfl, List.prefix_rfl⟩) | (refine ⟨rfl, rfl, rfl, ?_, rfl⟩; (simp; done)) | (focus (repeat' (first | exact True.intro | apply And.intro | rfl | exact Nat.le_of_ble_eq_true rfl)); done) | (simp [inR, Cont.cells]; done) | (simp [inR, Cont.cells]; omega)))
 | ((with_reducible apply If_dec) <;> intro hc <;> (try (exfalso; omega)))
 | ((with_reducible apply If_any) <;> intro hc)
 | ((with_reducible first | apply PF.mk | apply DrawP.mk); (focus kernel_rfl))
 | ((with_reducible apply Same.mk); (focus rfl); (first | exact trivial | exact rfl))
 | (intro cap hcap)
 | ((fail_if_success (with_reducible first | apply Fin.mk | apply CallP.mk | apply LoopP.mk | apply VC.mk | apply falseMk | apply Round.mk | apply LookP.mk | apply RangeP.mk | apply NextP.mk | apply EntryP.mk | apply Eq.symm)); conv => whnf))
  exact Fin.same hk
theorem Put32_K : ConOk Go.Proofs.Try.prog 129 (Con.fn (List Int × Nat × Int × Int) (fun (l, c, at_, v) => [.s 0 0 1 l.length c, .v (.int .i64 at_), .v (.int .u32 v)]) (fun (l, c, _, _) => [.blk 5 (.ints .u8 l) c]) (fun (l, c, at_, v) => 0 ≤ at_ ∧ at_ + 4 ≤ l.length ∧ l.length ≤ 1099511627776) (fun _ => .v (.bool true)) (fun (l, c, at_, v) => [.blk 5 (.ints .u8 (putB l at_.toNat 4 v)) c])) :=
  conOk_fn (T := tab) mix Go.Proofs.Try.func129 (by decide +kernel) (by kernel_rfl) [] [] (fun n => by rw [Go.Proofs.Try.ntmps129]; exact Nat.le_of_ble_eq_true rfl) (fun (l, c, at_, v) _ => ⟨trivial, (fun x hx => by simp at hx; subst hx; exact .blk trivial), Nat.le_refl _⟩) (fun (l, c, at_, v) _ x hx => by simp at hx; subst hx; trivial) (fun (l, c, at_, v) k h0 hk => Put32_c l c at_ v k h0 hk)
theorem Put32_at {avs : List AV} {H : List Chunk} {k : K} (l : List Int) (c : Nat) (at_ v : Int) (i : Nat) (h0 : 0 ≤ at_ ∧ at_ + 4 ≤ l.length ∧ l.length ≤ 1099511627776) (hc : nth H i = some (.blk 5 (.ints .u8 l) c)) (ha : argsM H [i] [.s 0 0 1 l.length c, .v (.int .i64 at_), .v (.int .u32 v)] avs)
    (h : k (.v (.bool true)) (H.set i (.blk 5 (.ints .u8 (putB l at_.toNat 4 v)) c))) : CallP Go.Proofs.Try.prog 129 avs H k :=
  CallP.mk ⟨_, Put32_K.real, Con.spec Put32_K, (l, c, at_, v), [i], ⟨h0, rfl, ⟨hc, trivial⟩, ha⟩, (numK_eq H.length (fun N => k (AV.ren (fren [i] N) (.v (.bool true))) (putAll H [i] [Chunk.ren (fren [i] N) (.blk 5 (.ints .u8 (putB l at_.toNat 4 v)) c)]))).mpr (by simpa [putAll, AV.ren, Chunk.ren, Cont.ren] using h)⟩
set_option maxHeartbeats 4000000 in
theorem put16_c (l : List Int) (c : Nat) (at_ n v : Int) (k : K) (h0 : 0 ≤ at_ ∧ 0 ≤ n ∧ at_ + n ≤ l.length ∧ l.length ≤ 1099511627776) (hk : k (.v (.bool true)) [.blk 5 (.ints .u8 (putB l at_.toNat n.toNat v)) c]) :
    evFunc tab [24] [] Go.Proofs.Try.f126 [.s 0 0 1 l.length c, .v (.int .i64 at_), .v (.int .i64 n), .v (.int .u16 v)] [.blk 5 (.ints .u8 l) c] k := by
  repeat' (first
 | (with_reducible first | exact True.intro | apply And.intro | apply If_true | apply If_false | apply If_not)
 | ((with_reducible apply VC.mk); (first | trivial | omega | (simp only [inR]; omega) | (exact ⟨rfl, List.prefix_rfl⟩) | (refine ⟨rfl, rfl, rfl, ?_, rfl⟩; (simp; done)) | (focus (repeat' (first | exact True.intro | apply And.intro | rfl | exact Nat.le_of_ble_eq_true rfl)); done) | (simp [inR, Cont.cells]; done) | (simp [inR, Cont.cells]; omega)))
 | ((with_reducible apply If_dec) <;> intro hc <;> (try (exfalso; omega)))
 | ((with_reducible apply If_any) <;> intro hc)
 | ((with_reducible first | apply PF.mk | apply DrawP.mk); (focus kernel_rfl))
 | ((with_reducible apply Same.mk); (focus rfl); (first | exact trivial | exact rfl))
 | (intro cap hcap)
 | ((fail_if_success (with_reducible first | apply Fin.mk | apply CallP.mk | apply LoopP.mk | apply VC.mk | apply falseMk | apply Round.mk | apply LookP.mk | apply RangeP.mk | apply NextP.mk | apply EntryP.mk | apply Eq.symm)); conv => whnf))
  refine oin_at l at_ n h0.2.2.2 ⟨⟨by omega, rfl, rfl, by show Cont.ints _ _ = Cont.ints _ _; rw [List.drop_zero, List.take_length], rfl, Nat.one_pos⟩, rfl, rfl, trivial⟩ ?_
  intro r hr
  have hr : r = true := hr.2 (by omega)
  subst hr
  repeat' (first
 | (with_reducible first | exact True.intro | apply And.intro | apply If_true | apply If_false | apply If_not)
 | ((with_reducible apply VC.mk); (first | trivial | omega | (simp only [inR]; omega) | (exact ⟨rfl, List.prefix_rfl⟩) | (refine ⟨rfl, rfl, rfl, ?_, rfl⟩; (simp; done)) | (focus (repeat' (first | exact True.intro | apply And.intro | rfl | exact Nat.le_of_ble_eq_true rfl)); done) | (simp [inR, Cont.cells]; done) | (simp [inR, Cont.cells]; omega)))
 | ((with_reducible apply If_dec) <;> intro hc <;> (try (exfalso; omega)))
 | ((with_reducible apply If_any) <;> intro hc)
 | ((with_reducible first | apply PF.mk | apply DrawP.mk); (focus kernel_rfl))
 | ((with_reducible apply Same.mk); (focus rfl); (first | exact trivial | exact rfl))
 | (intro cap hcap)
 | ((fail_if_success (with_reducible first | apply Fin.mk | apply CallP.mk | apply LoopP.mk | apply VC.mk | apply falseMk | apply Round.mk | apply LookP.mk | apply RangeP.mk | apply NextP.mk | apply EntryP.mk | apply Eq.symm)); conv => whnf))
  refine LoopP.mk ⟨Nat × List Int × Int, fun y => y.1 ≤ n.toNat ∧ y.2.1.length = l.length ∧ putB y.2.1 (at_.toNat + y.1) (n.toNat - y.1) y.2.2 = putB l at_.toNat n.toNat v, fun y => ([(0, .s 0 0 1 l.length c), (1, .v (.int .i64 at_)), (3, .v (.int .u16 y.2.2)), (15, .v (.int .i64 n)), (16, .v (.int .i64 y.1))], [.blk 5 (.ints .u8 y.2.1) c]), fun y => n.toNat - y.1, (0, l, v), ⟨Nat.zero_le _, rfl, rfl⟩, Fit.ren [0] [] rfl rfl trivial ?_ ?_, ?_⟩
  · repeat' (first
 | (with_reducible first | exact True.intro | apply And.intro | apply If_true | apply If_false | apply If_not)
 | ((with_reducible apply VC.mk); (first | trivial | omega | (simp only [inR]; omega) | (exact ⟨rfl, List.prefix_rfl⟩) | (refine ⟨rfl, rfl, rfl, ?_, rfl⟩; (simp; done)) | (focus (repeat' (first | exact True.intro | apply And.intro | rfl | exact Nat.le_of_ble_eq_true rfl)); done) | (simp [inR, Cont.cells]; done) | (simp [inR, Cont.cells]; omega)))
 | ((with_reducible apply If_dec) <;> intro hc <;> (try (exfalso; omega)))
 | ((with_reducible apply If_any) <;> intro hc)
 | ((with_reducible first | apply PF.mk | apply DrawP.mk); (focus kernel_rfl))
 | ((with_reducible apply Same.mk); (focus rfl); (first | exact trivial | exact rfl))
 | (intro cap hcap)
 | ((fail_if_success (with_reducible first | apply Fin.mk | apply CallP.mk | apply LoopP.mk | apply VC.mk | apply falseMk | apply Round.mk | apply LookP.mk | apply RangeP.mk | apply NextP.mk | apply EntryP.mk | apply Eq.symm)); conv => whnf))
  · repeat' (first
 | (with_reducible first | exact True.intro | apply And.intro | apply If_true | apply If_false | apply If_not)
 | ((with_reducible apply VC.mk); (first | trivial | omega | (simp only [inR]; omega) | (exact ⟨rfl, List.prefix_rfl⟩) | (refine ⟨rfl, rfl, rfl, ?_, rfl⟩; (simp; done)) | (focus (repeat' (first | exact True.intro | apply And.intro | rfl | exact Nat.le_of_ble_eq_true rfl)); done) | (simp [inR, Cont.cells]; done) | (simp [inR, Cont.cells]; omega)))
 | ((with_reducible apply If_dec) <;> intro hc <;> (try (exfalso; omega)))
 | ((with_reducible apply If_any) <;> intro hc)
 | ((with_reducible first | apply PF.mk | apply DrawP.mk); (focus kernel_rfl))
 | ((with_reducible apply Same.mk); (focus rfl); (first | exact trivial | exact rfl))
 | (intro cap hcap)
 | ((fail_if_success (with_reducible first | apply Fin.mk | apply CallP.mk | apply LoopP.mk | apply VC.mk | apply falseMk | apply Round.mk | apply LookP.mk | apply RangeP.mk | apply NextP.mk | apply EntryP.mk | apply Eq.symm)); conv => whnf))
  · intro y hy
    obtain ⟨g1, g2, g3⟩ := hy
    repeat' (first
 | (with_reducible first | exact True.intro | apply And.intro | apply If_true | apply If_false | apply If_not)
 | ((with_reducible apply VC.mk); (first | trivial | omega | (simp only [inR]; omega) | (exact ⟨rfl, List.prefix_rfl⟩) | (refine ⟨rfl, rfl, rfl, ?_, rfl⟩; (simp; done)) | (focus (repeat' (first | exact True.intro | apply And.intro | rfl | exact Nat.le_of_ble_eq_true rfl)); done) | (simp [inR, Cont.cells]; done) | (simp [inR, Cont.cells]; omega)))
 | ((with_reducible apply If_dec) <;> intro hc <;> (try (exfalso; omega)))
 | ((with_reducible apply If_any) <;> intro hc)
 | ((with_reducible first | apply PF.mk | apply DrawP.mk); (focus kernel_rfl))
 | ((with_reducible apply Same.mk); (focus rfl); (first | exact trivial | exact rfl))
 | (intro cap hcap)
 | ((fail_if_success (with_reducible first | apply Fin.mk | apply CallP.mk | apply LoopP.mk | apply VC.mk | apply falseMk | apply Round.mk | apply LookP.mk | apply RangeP.mk | apply NextP.mk | apply EntryP.mk | apply Eq.symm)); conv => whnf))
    · refine Round.mk ⟨(y.1 + 1, y.2.1.set (at_.toNat + y.1) (y.2.2 % 256), y.2.2 / 256), ⟨by show y.1 + 1 ≤ _; omega, by show (y.2.1.set _ _).length = _; rw [List.length_set, g2], ?_⟩, by show n.toNat - (y.1 + 1) < n.toNat - y.1; omega, Fit.ren [0] [] rfl rfl trivial ?_ ?_⟩
      · rw [← g3, show n.toNat - y.1 = (n.toNat - (y.1 + 1)) + 1 by omega]
        rfl
      · refine ⟨⟨VC.mk ⟨rfl, rfl⟩, VC.mk ⟨rfl, ?_⟩⟩, trivial⟩
        rw [wu8, show 0 + (at_ + (y.1 : Int)).toNat = at_.toNat + y.1 by omega]
        exact List.prefix_rfl
      · repeat' (first
 | (with_reducible first | exact True.intro | apply And.intro | apply If_true | apply If_false | apply If_not)
 | ((with_reducible apply VC.mk); (first | trivial | omega | (simp only [inR]; omega) | (exact ⟨rfl, List.prefix_rfl⟩) | (refine ⟨rfl, rfl, rfl, ?_, rfl⟩; (simp; done)) | (focus (repeat' (first | exact True.intro | apply And.intro | rfl | exact Nat.le_of_ble_eq_true rfl)); done) | (simp [inR, Cont.cells]; done) | (simp [inR, Cont.cells]; omega)))
 | ((with_reducible apply If_dec) <;> intro hc <;> (try (exfalso; omega)))
 | ((with_reducible apply If_any) <;> intro hc)
 | ((with_reducible first | apply PF.mk | apply DrawP.mk); (focus kernel_rfl))
 | ((with_reducible apply Same.mk); (focus rfl); (first | exact trivial | exact rfl))
 | (intro cap hcap)
 | ((fail_if_success (with_reducible first | apply Fin.mk | apply CallP.mk | apply LoopP.mk | apply VC.mk | apply falseMk | apply Round.mk | apply LookP.mk | apply RangeP.mk | apply NextP.mk | apply EntryP.mk | apply Eq.symm)); conv => whnf))
    · have e : n.toNat - y.1 = 0 := by omega
      rw [e] at g3
      have g3 : y.2.1 = putB l at_.toNat n.toNat v := g3
      rw [← g3] at hk
      exact Fin.same hk
theorem put16_K : ConOk Go.Proofs.Try.prog 126 (Con.fn (List Int × Nat × Int × Int × Int) (fun (l, c, at_, n, v) => [.s 0 0 1 l.length c, .v (.int .i64 at_), .v (.int .i64 n), .v (.int .u16 v)]) (fun (l, c, _, _, _) => [.blk 5 (.ints .u8 l) c]) (fun (l, c, at_, n, v) => 0 ≤ at_ ∧ 0 ≤ n ∧ at_ + n ≤ l.length ∧ l.length ≤ 1099511627776) (fun _ => .v (.bool true)) (fun (l, c, at_, n, v) => [.blk 5 (.ints .u8 (putB l at_.toNat n.toNat v)) c])) :=
  conOk_fn (T := tab) mix Go.Proofs.Try.func126 (by decide +kernel) (by kernel_rfl) [24] [] (fun n => by rw [Go.Proofs.Try.ntmps126]; exact Nat.le_of_ble_eq_true rfl) (fun (l, c, at_, n, v) _ => ⟨trivial, (fun x hx => by simp at hx; subst hx; exact .blk trivial), Nat.le_refl _⟩) (fun (l, c, at_, n, v) _ x hx => by simp at hx; subst hx; trivial) (fun (l, c, at_, n, v) k h0 hk => put16_c l c at_ n v k h0 hk)
theorem put16_at {avs : List AV} {H : List Chunk} {k : K} (l : List Int) (c : Nat) (at_ n v : Int) (i : Nat) (h0 : 0 ≤ at_ ∧ 0 ≤ n ∧ at_ + n ≤ l.length ∧ l.length ≤ 1099511627776) (hc : nth H i = some (.blk 5 (.ints .u8 l) c)) (ha : argsM H [i] [.s 0 0 1 l.length c, .v (.int .i64 at_), .v (.int .i64 n), .v (.int .u16 v)] avs)
    (h : k (.v (.bool true)) (H.set i (.blk 5 (.ints .u8 (putB l at_.toNat n.toNat v)) c))) : CallP Go.Proofs.Try.prog 126 avs H k :=
  CallP.mk ⟨_, put16_K.real, Con.spec put16_K, (l, c, at_, n, v), [i], ⟨h0, rfl, ⟨hc, trivial⟩, ha⟩, (numK_eq H.length (fun N => k (AV.ren (fren [i] N) (.v (.bool true))) (putAll H [i] [Chunk.ren (fren [i] N) (.blk 5 (.ints .u8 (putB l at_.toNat n.toNat v)) c)]))).mpr (by simpa [putAll, AV.ren, Chunk.ren, Cont.ren] using h)⟩
theorem Put16_c (l : List Int) (c : Nat) (at_ v : Int) (k : K) (h0 : 0 ≤ at_ ∧ at_ + 2 ≤ l.length ∧ l.length ≤ 1099511627776) (hk : k (.v (.bool true)) [.blk 5 (.ints .u8 (putB l at_.toNat 2 v)) c]) :
    evFunc tab [] [] Go.Proofs.Try.f104 [.s 0 0 1 l.length c, .v (.int .i64 at_), .v (.int .u16 v)] [.blk 5 (.ints .u8 l) c] k := by
  repeat' (first
 | (with_reducible first | exact True.intro | apply And.intro | apply If_true | apply If_false | apply If_not)
 | ((with_reducible apply VC.mk); (first | trivial | omega | (simp only [inR]; omega) | (exact ⟨rfl, List.prefix_rfl⟩) | (refine ⟨rfl, rfl, rfl, ?_, rfl⟩; (simp; done)) | (focus (repeat' (first | exact True.intro | apply And.intro | rfl | exact Nat.le_of_ble_eq_true rfl)); done) | (simp [inR, Cont.cells]; done) | (simp [inR, Cont.cells]; omega)))
 | ((with_reducible apply If_dec) <;> intro hc <;> (try (exfalso; omega)))
 | ((with_reducible apply If_any) <;> intro hc)
 | ((with_reducible first | apply PF.mk | apply DrawP.mk); (focus kernel_rfl))
 | ((with_reducible apply Same.mk); (focus rfl); (first | exact trivial | exact rfl))
 | (intro cap hcap)
 | ((fail_if_success (with_reducible first | apply Fin.mk | apply CallP.mk | apply LoopP.mk | apply VC.mk | apply falseMk | apply Round.mk | apply LookP.mk | apply RangeP.mk | apply NextP.mk | apply EntryP.mk | apply Eq.symm)); conv => whnf))
  refine put16_at l c at_ 2 v 0 (by omega) rfl ⟨rfl, rfl, rfl, rfl, trivial⟩ ?_
  repeat' (first
 | (with_reducible first | exact True.intro | apply And.intro | apply If_true | apply If_false | apply If_not)
 | ((with_reducible apply VC.mk); (first | trivial | omega | (simp only [inR]; omega) | (exact ⟨rfl, List.prefix_rfl⟩) | (refine ⟨rfl, rfl, rfl, ?_, rfl⟩; (simp; done)) | (focus (repeat' (first | exact True.intro | apply And.intro | rfl | exact Nat.le_of_ble_eq_true rfl)); done) | (simp [inR, Cont.cells]; done) | (simp [inR, Cont.cells]; omega)))
 | ((with_reducible apply If_dec) <;> intro hc <;> (try (exfalso; omega)))
 | ((with_reducible apply If_any) <;> intro hc)
 | ((with_reducible first | apply PF.mk | apply DrawP.mk); (focus kernel_rfl))
 | ((with_reducible apply Same.mk); (focus rfl); (first | exact trivial | exact rfl))
 | (intro cap hcap)
 | ((fail_if_success (with_reducible first | apply Fin.mk | apply CallP.mk | apply LoopP.mk | apply VC.mk | apply falseMk | apply Round.mk | apply LookP.mk | apply RangeP.mk | apply NextP.mk | apply EntryP.mk | apply Eq.symm)); conv => whnf))
  exact Fin.same hk
theorem Put16_K : ConOk Go.Proofs.Try.prog 104 (Con.fn (List Int × Nat × Int × Int) (fun (l, c, at_, v) => [.s 0 0 1 l.length c, .v (.int .i64 at_), .v (.int .u16 v)]) (fun (l, c, _, _) => [.blk 5 (.ints .u8 l) c]) (fun (l, c, at_, v) => 0 ≤ at_ ∧ at_ + 2 ≤ l.length ∧ l.length ≤ 1099511627776) (fun _ => .v (.bool true)) (fun (l, c, at_, v) => [.blk 5 (.ints .u8 (putB l at_.toNat 2 v)) c])) :=
  conOk_fn (T := tab) mix Go.Proofs.Try.func104 (by decide +kernel) (by kernel_rfl) [] [] (fun n => by rw [Go.Proofs.Try.ntmps104]; exact Nat.le_of_ble_eq_true rfl) (fun (l, c, at_, v) _ => ⟨trivial, (fun x hx => by simp at hx; subst hx; exact .blk trivial), Nat.le_refl _⟩) (fun (l, c, at_, v) _ x hx => by simp at hx; subst hx; trivial) (fun (l, c, at_, v) k h0 hk => Put16_c l c at_ v k h0 hk)
theorem Put16_at {avs : List AV} {H : List Chunk} {k : K} (l : List Int) (c : Nat) (at_ v : Int) (i : Nat) (h0 : 0 ≤ at_ ∧ at_ + 2 ≤ l.length ∧ l.length ≤ 1099511627776) (hc : nth H i = some (.blk 5 (.ints .u8 l) c)) (ha : argsM H [i] [.s 0 0 1 l.length c, .v (.int .i64 at_), .v (.int .u16 v)] avs)
    (h : k (.v (.bool true)) (H.set i (.blk 5 (.ints .u8 (putB l at_.toNat 2 v)) c))) : CallP Go.Proofs.Try.prog 104 avs H k :=
  CallP.mk ⟨_, Put16_K.real, Con.spec Put16_K, (l, c, at_, v), [i], ⟨h0, rfl, ⟨hc, trivial⟩, ha⟩, (numK_eq H.length (fun N => k (AV.ren (fren [i] N) (.v (.bool true))) (putAll H [i] [Chunk.ren (fren [i] N) (.blk 5 (.ints .u8 (putB l at_.toNat 2 v)) c)]))).mpr (by simpa [putAll, AV.ren, Chunk.ren, Cont.ren] using h)⟩
/-- What is read: a number, or none. -/
def got16 (l : List Int) (at_ : Int) (v : Int) (b : Bool) : Prop := (0 ≤ at_ ∧ at_ + 2 ≤ l.length ∧ b = true ∧ v = leV ((l.drop at_.toNat).take 2)) ∨ (¬ (0 ≤ at_ ∧ at_ + 2 ≤ l.length) ∧ b = false ∧ v = 0)
set_option maxHeartbeats 4000000 in
theorem little16_c (l : List Int) (at_ : Int) (k : K) (h0 : l.length ≤ 1099511627776 ∧ B8 l ∧ at_ ≤ 1099511627776) (hk : ∀ v b, got16 l at_ v b → k (.tup [.v (.int .u16 v), .v (.bool b)]) []) :
    evFunc tab [] [] Go.Proofs.Try.f124 [.im false 1 l.length (.ints .u8 l), .v (.int .i64 at_), .v (.int .i64 2)] [] k := by
  repeat' (first
 | (with_reducible first | exact True.intro | apply And.intro | apply If_true | apply If_false | apply If_not)
 | ((with_reducible apply VC.mk); (first | trivial | omega | (simp only [inR]; omega) | (exact ⟨rfl, List.prefix_rfl⟩) | (refine ⟨rfl, rfl, rfl, ?_, rfl⟩; (simp; done)) | (focus (repeat' (first | exact True.intro | apply And.intro | rfl | exact Nat.le_of_ble_eq_true rfl)); done) | (simp [inR, Cont.cells]; done) | (simp [inR, Cont.cells]; omega)))
 | ((with_reducible apply If_dec) <;> intro hc <;> (try (exfalso; omega)))
 | ((with_reducible apply If_any) <;> intro hc)
 | ((with_reducible first | apply PF.mk | apply DrawP.mk); (focus kernel_rfl))
 | ((with_reducible apply Same.mk); (focus rfl); (first | exact trivial | exact rfl))
 | (intro cap hcap)
 | ((fail_if_success (with_reducible first | apply Fin.mk | apply CallP.mk | apply LoopP.mk | apply VC.mk | apply falseMk | apply Round.mk | apply LookP.mk | apply RangeP.mk | apply NextP.mk | apply EntryP.mk | apply Eq.symm)); conv => whnf))
  refine oin_at l at_ 2 h0.1 ⟨⟨rfl, rfl, rfl⟩, rfl, rfl, trivial⟩ ?_
  intro r hr
  by_cases hin : 0 ≤ at_ ∧ at_ + 2 ≤ l.length
  case neg =>
    have hr : r = false := by
      cases r
      · rfl
      · exact absurd (hr.1 rfl) (by omega)
    subst hr
    repeat' (first
 | (with_reducible first | exact True.intro | apply And.intro | apply If_true | apply If_false | apply If_not)
 | ((with_reducible apply VC.mk); (first | trivial | omega | (simp only [inR]; omega) | (exact ⟨rfl, List.prefix_rfl⟩) | (refine ⟨rfl, rfl, rfl, ?_, rfl⟩; (simp; done)) | (focus (repeat' (first | exact True.intro | apply And.intro | rfl | exact Nat.le_of_ble_eq_true rfl)); done) | (simp [inR, Cont.cells]; done) | (simp [inR, Cont.cells]; omega)))
 | ((with_reducible apply If_dec) <;> intro hc <;> (try (exfalso; omega)))
 | ((with_reducible apply If_any) <;> intro hc)
 | ((with_reducible first | apply PF.mk | apply DrawP.mk); (focus kernel_rfl))
 | ((with_reducible apply Same.mk); (focus rfl); (first | exact trivial | exact rfl))
 | (intro cap hcap)
 | ((fail_if_success (with_reducible first | apply Fin.mk | apply CallP.mk | apply LoopP.mk | apply VC.mk | apply falseMk | apply Round.mk | apply LookP.mk | apply RangeP.mk | apply NextP.mk | apply EntryP.mk | apply Eq.symm)); conv => whnf))
    exact Fin.same (hk 0 false (.inr ⟨hin, rfl, rfl⟩))
  have hr : r = true := hr.2 (by omega)
  subst hr
  repeat' (first
 | (with_reducible first | exact True.intro | apply And.intro | apply If_true | apply If_false | apply If_not)
 | ((with_reducible apply VC.mk); (first | trivial | omega | (simp only [inR]; omega) | (exact ⟨rfl, List.prefix_rfl⟩) | (refine ⟨rfl, rfl, rfl, ?_, rfl⟩; (simp; done)) | (focus (repeat' (first | exact True.intro | apply And.intro | rfl | exact Nat.le_of_ble_eq_true rfl)); done) | (simp [inR, Cont.cells]; done) | (simp [inR, Cont.cells]; omega)))
 | ((with_reducible apply If_dec) <;> intro hc <;> (try (exfalso; omega)))
 | ((with_reducible apply If_any) <;> intro hc)
 | ((with_reducible first | apply PF.mk | apply DrawP.mk); (focus kernel_rfl))
 | ((with_reducible apply Same.mk); (focus rfl); (first | exact trivial | exact rfl))
 | (intro cap hcap)
 | ((fail_if_success (with_reducible first | apply Fin.mk | apply CallP.mk | apply LoopP.mk | apply VC.mk | apply falseMk | apply Round.mk | apply LookP.mk | apply RangeP.mk | apply NextP.mk | apply EntryP.mk | apply Eq.symm)); conv => whnf))
  refine LoopP.mk ⟨Nat × Int, fun y => y.1 ≤ 2 ∧ y.2 = leV ((l.drop (at_.toNat + (2 - y.1))).take y.1), fun y => ([(0, .im false 1 l.length (.ints .u8 l)), (1, .v (.int .i64 at_)), (8, .v (.int .u16 y.2)), (9, .v (.int .i64 (2 - 1 - (y.1 : Int))))], []), fun y => 2 - y.1, (0, 0), ⟨Nat.zero_le _, by simp [leV]⟩, Fit.ren [] [] rfl rfl trivial trivial ?_, ?_⟩
  · repeat' (first
 | (with_reducible first | exact True.intro | apply And.intro | apply If_true | apply If_false | apply If_not)
 | ((with_reducible apply VC.mk); (first | trivial | omega | (simp only [inR]; omega) | (exact ⟨rfl, List.prefix_rfl⟩) | (refine ⟨rfl, rfl, rfl, ?_, rfl⟩; (simp; done)) | (focus (repeat' (first | exact True.intro | apply And.intro | rfl | exact Nat.le_of_ble_eq_true rfl)); done) | (simp [inR, Cont.cells]; done) | (simp [inR, Cont.cells]; omega)))
 | ((with_reducible apply If_dec) <;> intro hc <;> (try (exfalso; omega)))
 | ((with_reducible apply If_any) <;> intro hc)
 | ((with_reducible first | apply PF.mk | apply DrawP.mk); (focus kernel_rfl))
 | ((with_reducible apply Same.mk); (focus rfl); (first | exact trivial | exact rfl))
 | (intro cap hcap)
 | ((fail_if_success (with_reducible first | apply Fin.mk | apply CallP.mk | apply LoopP.mk | apply VC.mk | apply falseMk | apply Round.mk | apply LookP.mk | apply RangeP.mk | apply NextP.mk | apply EntryP.mk | apply Eq.symm)); conv => whnf))
  · intro y hy
    obtain ⟨g1, g2⟩ := hy
    have hb := h0.2.1.getD (at_.toNat + (2 - (y.1 + 1)))
    have hs : B8 ((l.drop (at_.toNat + (2 - y.1))).take y.1) := (h0.2.1.drop _).take _
    have hl1 := leV_nonneg hs
    have hl2 := leV_lt hs
    have hll : ((l.drop (at_.toNat + (2 - y.1))).take y.1).length = y.1 := by rw [List.length_take, List.length_drop]; omega
    rw [hll] at hl2
    rw [← g2] at hl1 hl2
    have e0 : (at_ + (2 - 1 - (y.1 : Int))).toNat = 0 + (at_.toNat + (2 - (y.1 + 1))) ∨ ¬ (0 ≤ (2 : Int) - 1 - (y.1 : Int)) := by omega
    repeat' (first
 | (with_reducible first | exact True.intro | apply And.intro | apply If_true | apply If_false | apply If_not)
 | ((with_reducible apply VC.mk); (first | trivial | omega | (simp only [inR]; omega) | (exact ⟨rfl, List.prefix_rfl⟩) | (refine ⟨rfl, rfl, rfl, ?_, rfl⟩; (simp; done)) | (focus (repeat' (first | exact True.intro | apply And.intro | rfl | exact Nat.le_of_ble_eq_true rfl)); done) | (simp [inR, Cont.cells]; done) | (simp [inR, Cont.cells]; omega)))
 | ((with_reducible apply If_dec) <;> intro hc <;> (try (exfalso; omega)))
 | ((with_reducible apply If_any) <;> intro hc)
 | ((with_reducible first | apply PF.mk | apply DrawP.mk); (focus kernel_rfl))
 | ((with_reducible apply Same.mk); (focus rfl); (first | exact trivial | exact rfl))
 | (intro cap hcap)
 | ((fail_if_success (with_reducible first | apply Fin.mk | apply CallP.mk | apply LoopP.mk | apply VC.mk | apply falseMk | apply Round.mk | apply LookP.mk | apply RangeP.mk | apply NextP.mk | apply EntryP.mk | apply Eq.symm)); conv => whnf))
    · rcases e0 with e0 | e0
      · rw [e0, Nat.zero_add]; exact VC.mk (by simp only [inR]; omega)
      · exact absurd hc e0
    · rcases e0 with e0 | e0
      case inr => exact absurd hc e0
      rw [Nat.zero_add] at e0
      generalize hbb : l.getD (at_.toNat + (2 - (y.1 + 1))) 0 = bb at *
      have hp : (256 : Int) ^ y.1 ≤ 256 ^ (2 - 1) := pow256_le (by omega)
      have hp2 : (256 : Int) ^ (2 - 1) = 256 := by decide
      have hor := or16 y.2 bb hl1 (by omega) hb.1 hb.2
      refine Round.mk ⟨(y.1 + 1, y.2 * 256 + bb), ⟨by show y.1 + 1 ≤ _; omega, ?_⟩, by show 2 - (y.1 + 1) < 2 - y.1; omega, Fit.ren [] [] rfl rfl trivial trivial ?_⟩
      · have hlt : at_.toNat + (2 - (y.1 + 1)) < l.length := by omega
        rw [List.drop_eq_getElem_cons hlt, List.take_succ_cons, leV, show at_.toNat + (2 - (y.1 + 1)) + 1 = at_.toNat + (2 - y.1) by omega, ← g2, ← hbb, List.getD_eq_getElem?_getD, List.getElem?_eq_getElem hlt]
        show y.2 * 256 + l[at_.toNat + (2 - (y.1 + 1))] = l[at_.toNat + (2 - (y.1 + 1))] + 256 * y.2
        omega
      · repeat' (first
 | (with_reducible first | exact True.intro | apply And.intro | apply If_true | apply If_false | apply If_not)
 | ((with_reducible apply VC.mk); (first | trivial | omega | (simp only [inR]; omega) | (exact ⟨rfl, List.prefix_rfl⟩) | (refine ⟨rfl, rfl, rfl, ?_, rfl⟩; (simp; done)) | (focus (repeat' (first | exact True.intro | apply And.intro | rfl | exact Nat.le_of_ble_eq_true rfl)); done) | (simp [inR, Cont.cells]; done) | (simp [inR, Cont.cells]; omega)))
 | ((with_reducible apply If_dec) <;> intro hc <;> (try (exfalso; omega)))
 | ((with_reducible apply If_any) <;> intro hc)
 | ((with_reducible first | apply PF.mk | apply DrawP.mk); (focus kernel_rfl))
 | ((with_reducible apply Same.mk); (focus rfl); (first | exact trivial | exact rfl))
 | (intro cap hcap)
 | ((fail_if_success (with_reducible first | apply Fin.mk | apply CallP.mk | apply LoopP.mk | apply VC.mk | apply falseMk | apply Round.mk | apply LookP.mk | apply RangeP.mk | apply NextP.mk | apply EntryP.mk | apply Eq.symm)); conv => whnf))
        · refine VC.mk ?_
          rw [e0, hbb]
          exact congrArg (Value.int .u16) hor
        all_goals (refine VC.mk ?_; exact congrArg (Value.int .i64) (by omega))
    · refine Fin.same (hk _ _ (.inl ⟨hin.1, hin.2, rfl, ?_⟩))
      rw [g2, show y.1 = 2 by omega]
      simp
theorem little16_K : ConOk Go.Proofs.Try.prog 124 (Con.of (List Int × Int) (Int × Bool) (fun (l, at_) => [.im false 1 l.length (.ints .u8 l), .v (.int .i64 at_), .v (.int .i64 2)]) (fun _ => []) (fun (l, at_) => l.length ≤ 1099511627776 ∧ B8 l ∧ at_ ≤ 1099511627776) (fun (l, at_) (v, b) => got16 l at_ v b) (fun _ (v, b) => .tup [.v (.int .u16 v), .v (.bool b)]) (fun _ _ => [])) :=
  conOk_rel (T := tab) mix Go.Proofs.Try.func124 (by decide +kernel) (by kernel_rfl) [] [] (fun n => by rw [Go.Proofs.Try.ntmps124]; exact Nat.le_of_ble_eq_true rfl) (fun n z _ _ => ⟨⟨trivial, trivial, trivial⟩, (fun c hc => by cases hc), Nat.le_refl _⟩) (fun n _ c hc => by cases hc) (fun (l, at_) k h0 hk => little16_c l at_ k h0 (fun v b hr => hk (v, b) hr))
theorem little16_at {avs : List AV} {H : List Chunk} {k : K} (l : List Int) (at_ : Int) (h0 : l.length ≤ 1099511627776 ∧ B8 l ∧ at_ ≤ 1099511627776) (ha : argsM H [] [.im false 1 l.length (.ints .u8 l), .v (.int .i64 at_), .v (.int .i64 2)] avs) (h : ∀ v b, got16 l at_ v b → k (.tup [.v (.int .u16 v), .v (.bool b)]) H) : CallP Go.Proofs.Try.prog 124 avs H k :=
  CallP.mk ⟨_, little16_K.real, Con.spec little16_K, (l, at_), [], ⟨h0, rfl, trivial, ha⟩, fun (v, b) hr => (numK_eq H.length (fun N => k (AV.ren (fren [] N) (.tup [.v (.int .u16 v), .v (.bool b)])) (putAll H [] []))).mpr (by simpa [putAll, AV.ren, rens] using h v b hr)⟩
theorem U16_c (l : List Int) (at_ : Int) (k : K) (h0 : l.length ≤ 1099511627776 ∧ B8 l ∧ at_ ≤ 1099511627776) (hk : ∀ v b, got16 l at_ v b → k (.tup [.v (.int .u16 v), .v (.bool b)]) []) :
    evFunc tab [] [] Go.Proofs.Try.f101 [.im false 1 l.length (.ints .u8 l), .v (.int .i64 at_)] [] k := by
  repeat' (first
 | (with_reducible first | exact True.intro | apply And.intro | apply If_true | apply If_false | apply If_not)
 | ((with_reducible apply VC.mk); (first | trivial | omega | (simp only [inR]; omega) | (exact ⟨rfl, List.prefix_rfl⟩) | (refine ⟨rfl, rfl, rfl, ?_, rfl⟩; (simp; done)) | (focus (repeat' (first | exact True.intro | apply And.intro | rfl | exact Nat.le_of_ble_eq_true rfl)); done) | (simp [inR, Cont.cells]; done) | (simp [inR, Cont.cells]; omega)))
 | ((with_reducible apply If_dec) <;> intro hc <;> (try (exfalso; omega)))
 | ((with_reducible apply If_any) <;> intro hc)
 | ((with_reducible first | apply PF.mk | apply DrawP.mk); (focus kernel_rfl))
 | ((with_reducible apply Same.mk); (focus rfl); (first | exact trivial | exact rfl))
 | (intro cap hcap)
 | ((fail_if_success (with_reducible first | apply Fin.mk | apply CallP.mk | apply LoopP.mk | apply VC.mk | apply falseMk | apply Round.mk | apply LookP.mk | apply RangeP.mk | apply NextP.mk | apply EntryP.mk | apply Eq.symm)); conv => whnf))
  refine little16_at l at_ h0 ⟨⟨rfl, rfl, rfl⟩, rfl, rfl, trivial⟩ ?_
  intro v b hr
  repeat' (first
 | (with_reducible first | exact True.intro | apply And.intro | apply If_true | apply If_false | apply If_not)
 | ((with_reducible apply VC.mk); (first | trivial | omega | (simp only [inR]; omega) | (exact ⟨rfl, List.prefix_rfl⟩) | (refine ⟨rfl, rfl, rfl, ?_, rfl⟩; (simp; done)) | (focus (repeat' (first | exact True.intro | apply And.intro | rfl | exact Nat.le_of_ble_eq_true rfl)); done) | (simp [inR, Cont.cells]; done) | (simp [inR, Cont.cells]; omega)))
 | ((with_reducible apply If_dec) <;> intro hc <;> (try (exfalso; omega)))
 | ((with_reducible apply If_any) <;> intro hc)
 | ((with_reducible first | apply PF.mk | apply DrawP.mk); (focus kernel_rfl))
 | ((with_reducible apply Same.mk); (focus rfl); (first | exact trivial | exact rfl))
 | (intro cap hcap)
 | ((fail_if_success (with_reducible first | apply Fin.mk | apply CallP.mk | apply LoopP.mk | apply VC.mk | apply falseMk | apply Round.mk | apply LookP.mk | apply RangeP.mk | apply NextP.mk | apply EntryP.mk | apply Eq.symm)); conv => whnf))
  exact Fin.same (hk v b hr)
theorem U16_K : ConOk Go.Proofs.Try.prog 101 (Con.of (List Int × Int) (Int × Bool) (fun (l, at_) => [.im false 1 l.length (.ints .u8 l), .v (.int .i64 at_)]) (fun _ => []) (fun (l, at_) => l.length ≤ 1099511627776 ∧ B8 l ∧ at_ ≤ 1099511627776) (fun (l, at_) (v, b) => got16 l at_ v b) (fun _ (v, b) => .tup [.v (.int .u16 v), .v (.bool b)]) (fun _ _ => [])) :=
  conOk_rel (T := tab) mix Go.Proofs.Try.func101 (by decide +kernel) (by kernel_rfl) [] [] (fun n => by rw [Go.Proofs.Try.ntmps101]; exact Nat.le_of_ble_eq_true rfl) (fun n z _ _ => ⟨⟨trivial, trivial, trivial⟩, (fun c hc => by cases hc), Nat.le_refl _⟩) (fun n _ c hc => by cases hc) (fun (l, at_) k h0 hk => U16_c l at_ k h0 (fun v b hr => hk (v, b) hr))
theorem U16_at {avs : List AV} {H : List Chunk} {k : K} (l : List Int) (at_ : Int) (h0 : l.length ≤ 1099511627776 ∧ B8 l ∧ at_ ≤ 1099511627776) (ha : argsM H [] [.im false 1 l.length (.ints .u8 l), .v (.int .i64 at_)] avs) (h : ∀ v b, got16 l at_ v b → k (.tup [.v (.int .u16 v), .v (.bool b)]) H) : CallP Go.Proofs.Try.prog 101 avs H k :=
  CallP.mk ⟨_, U16_K.real, Con.spec U16_K, (l, at_), [], ⟨h0, rfl, trivial, ha⟩, fun (v, b) hr => (numK_eq H.length (fun N => k (AV.ren (fren [] N) (.tup [.v (.int .u16 v), .v (.bool b)])) (putAll H [] []))).mpr (by simpa [putAll, AV.ren, rens] using h v b hr)⟩
end Go.Proofs.Ytjccknmgmommcaa.Sx

