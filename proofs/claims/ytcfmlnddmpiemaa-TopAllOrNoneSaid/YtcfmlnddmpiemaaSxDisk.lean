import Derived.Test.YtcfmlnddmpiemaaSxEc
import Derived.Test.YtcfmlnddmpiemaaSxT
set_option linter.unusedVariables false
set_option linter.unusedSimpArgs false
set_option maxRecDepth 10000
namespace Go.Proofs.Ytcfmlnddmpiemaa.Sx
open Go.RowKit Go.Proofs.Ytcfmlnddmpiemaa.Sx.Tb
/-- A disk's file. -/
structure DF where
  now : List Int
  safe : List Int
  items : List (Bool × Int × List Int)
  ops : Int
  fail : Int
  stop : Int
  wrote : Int
def itAV (x : Bool × Int × List Int) : List AV := [.v (.bool x.1), .v (.int .i64 x.2.1), .im true 1 x.2.2.length (.ints .u8 x.2.2)]
def DF.st (s : DF) (i j c1 c2 : Nat) : Chunk := .blk 113 (.lst [.s i 0 1 s.now.length c1, .im true 1 s.safe.length (.ints .u8 s.safe), .s j 0 3 s.items.length c2, .v (.int .i64 s.ops), .v (.int .i64 s.fail), .v (.int .i64 s.stop), .v (.int .i64 s.wrote)]) 7
def DF.nowC (s : DF) (c : Nat) : Chunk := .blk 5 (.ints .u8 s.now) c
def DF.itC (s : DF) (c : Nat) : Chunk := .blk 143 (.recs 3 s.items.length (fun k => itAV (s.items.getD k (false, 0, [])))) (c * 3)
def DF.chs (s : DF) (c1 c2 : Nat) : List Chunk := [s.st 1 2 c1 c2, s.nowC c1, s.itC c2]
def DF.refused (s : DF) : Prop := (0 < s.fail ∧ s.ops + 1 = s.fail) ∨ (0 < s.stop ∧ s.stop ≤ s.ops + 1)
def DF.asked (s : DF) : DF := { s with ops := s.ops + 1 }
theorem mix : Go.Proofs.Try.prog.follows .mixedOrders = true := by kernel_rfl
theorem DF.nd (s : DF) (c1 c2 : Nat) : ∀ c ∈ s.chs c1 c2, c.lives := by
  intro c hc
  simp [DF.chs] at hc
  rcases hc with rfl | rfl | rfl <;> trivial
theorem itAV_noF (x : Bool × Int × List Int) : noFs (itAV x) := ⟨trivial, trivial, ⟨rfl, trivial⟩, trivial⟩
theorem DF.st_noF (s : DF) (i j c1 c2 : Nat) : ChunkNoF (s.st i j c1 c2) := .blk ⟨trivial, ⟨rfl, trivial⟩, trivial, trivial, trivial, trivial, trivial, trivial⟩
theorem DF.now_noF (s : DF) (c : Nat) : ChunkNoF (s.nowC c) := .blk trivial
theorem DF.it_noF (s : DF) (c : Nat) : ChunkNoF (s.itC c) := .blk (fun j _ => itAV_noF _)
theorem DF.good (s : DF) (c1 c2 : Nat) {v : AV} (h : v.noF) : Good 3 v (s.chs c1 c2) := by
  refine ⟨h, fun c hc => ?_, Nat.le_refl _⟩
  simp [DF.chs] at hc
  rcases hc with rfl | rfl | rfl
  · exact s.st_noF _ _ _ _
  · exact s.now_noF _
  · exact s.it_noF _
/-- A file whose rows have new numbers. -/
def DF.chm (s : DF) (c1 c2 : Nat) : List Chunk := [s.st 3 4 c1 c2, .dead, .dead, s.nowC c1, s.itC c2]
set_option maxHeartbeats 4000000 in
theorem ask_c (s : DF) (c1 c2 : Nat) (h0 : 0 ≤ s.ops ∧ s.ops ≤ 1099511627776) (k : K) (hk : ∀ r : Int, (r = 0 ∧ ¬ s.refused ∨ r = 5 ∧ s.refused) → k (.v (.int .i64 r)) (s.asked.chs c1 c2)) : evFunc tab [] p94 Go.Proofs.Try.f94 [.p 0 0 1 0] (s.chs c1 c2) k := by
  repeat' (first
    | (with_reducible first | exact True.intro | apply And.intro | apply If_true | apply If_false | apply If_not)
    | ((with_reducible apply VC.mk); exact vt)
    | ((with_reducible apply If_dec) <;> intro hc <;> (try (exfalso; omega)))
    | ((with_reducible apply If_any) <;> intro hc)
    | ((with_reducible first | apply PF.mk | apply DrawP.mk); (focus kernel_rfl))
    | ((with_reducible apply Same.mk); (focus rfl); (first | exact trivial | exact rfl))
    | (intro cap hcap)
    | ((fail_if_success (with_reducible apply st)); conv => whnf))
  all_goals first
    | exact Fin.same (hk 0 (.inl ⟨rfl, by unfold DF.refused; omega⟩))
    | exact Fin.same (hk 5 (.inr ⟨rfl, by unfold DF.refused; omega⟩))
theorem ask_ok : ConOk Go.Proofs.Try.prog 94 (Con.of (DF × Nat × Nat) Int (fun _ => [.p 0 0 1 0]) (fun x => x.1.chs x.2.1 x.2.2) (fun x => 0 ≤ x.1.ops ∧ x.1.ops ≤ 1099511627776) (fun x r => r = 0 ∧ ¬ x.1.refused ∨ r = 5 ∧ x.1.refused) (fun _ r => .v (.int .i64 r)) (fun x _ => x.1.asked.chs x.2.1 x.2.2)) :=
  conOk_rel (T := tab) mix Go.Proofs.Try.func94 (by decide +kernel) (by kernel_rfl) [] p94 (fun x => by rw [Go.Proofs.Try.ntmps94]; exact Nat.le_of_ble_eq_true rfl) (fun x r _ _ => x.1.asked.good _ _ trivial) (fun x _ => x.1.nd _ _)
    (fun x k h0 hk => ask_c x.1 x.2.1 x.2.2 h0 k hk)
/-- What a write, or a length, makes of bytes. -/
def layP (b : List Int) (end_ : Int) : List Int := b ++ List.replicate (end_.toNat - b.length) 0
def layL (b : List Int) (cut : Bool) (at_ : Int) (xs : List Int) : List Int :=
  let b1 := layP b (at_ + xs.length)
  if cut then b1.take at_.toNat else b1.take at_.toNat ++ xs ++ b1.drop (at_.toNat + xs.length)
def layI (at_ : Int) (cut : Bool) (xs : List Int) (y : List Int × Nat) : Env × List Chunk :=
  ([(0, .s 2 0 1 y.1.length y.2), (3, .p 1 0 1 0), (5, .v (.int .i64 (at_ + xs.length)))],
   [.dead, .blk 143 (.lst [.v (.bool cut), .v (.int .i64 at_), .im false 1 xs.length (.ints .u8 xs)]) 3, .blk 5 (.ints .u8 y.1) y.2])
theorem layP_len (b : List Int) (e : Int) (h : b.length ≤ e.toNat) : (layP b e).length = e.toNat := by unfold layP; simp; omega
theorem layP_id (b : List Int) (e : Int) (h : e.toNat ≤ b.length) : layP b e = b := by unfold layP; rw [show e.toNat - b.length = 0 by omega]; simp
set_option maxHeartbeats 4000000 in
theorem lay_c (l : List Int) (c : Nat) (cut : Bool) (at_ : Int) (xs : List Int) (h0 : 0 ≤ at_ ∧ at_ ≤ 1099511627776 ∧ xs.length ≤ 1099511627776 ∧ l.length ≤ 1099511627776 ∧ l.length ≤ c) (k : K)
    (hk : ∀ c', (layL l cut at_ xs).length ≤ c' → k (.s 1 0 1 (layL l cut at_ xs).length c') [.dead, .blk 5 (.ints .u8 (layL l cut at_ xs)) c']) :
    evFunc tab [] p72 Try.f72 [.s 0 0 1 l.length c, .agg [.v (.bool cut), .v (.int .i64 at_), .im false 1 xs.length (.ints .u8 xs)]] [.blk 5 (.ints .u8 l) c] k := by
  repeat' (first
    | (with_reducible first | exact True.intro | apply And.intro | apply If_true | apply If_false | apply If_not)
    | ((with_reducible apply VC.mk); exact vt)
    | ((with_reducible apply If_dec) <;> intro hc <;> (try (exfalso; omega)))
    | ((with_reducible apply If_any) <;> intro hc)
    | ((with_reducible first | apply PF.mk | apply DrawP.mk); (focus kernel_rfl))
    | ((with_reducible apply Same.mk); (focus rfl); (first | exact trivial | exact rfl))
    | (intro cap hcap)
    | ((fail_if_success (with_reducible apply st)); conv => whnf))
  refine LoopP.mk ⟨List Int × Nat, fun y => (y.1 = l ∨ y.1 = layP l (at_ + xs.length)) ∧ y.1.length ≤ y.2, layI at_ cut xs, fun y => (at_ + xs.length).toNat - y.1.length, (l, c), ⟨.inl rfl, h0.2.2.2.2⟩, ?_, ?_⟩
  · refine Fit.ren [0, 1, 0] [] rfl rfl trivial ?_ ?_
    · repeat' (first
    | (with_reducible first | exact True.intro | apply And.intro | apply If_true | apply If_false | apply If_not)
    | ((with_reducible apply VC.mk); exact vt)
    | ((with_reducible apply If_dec) <;> intro hc <;> (try (exfalso; omega)))
    | ((with_reducible apply If_any) <;> intro hc)
    | ((with_reducible first | apply PF.mk | apply DrawP.mk); (focus kernel_rfl))
    | ((with_reducible apply Same.mk); (focus rfl); (first | exact trivial | exact rfl))
    | (intro cap hcap)
    | ((fail_if_success (with_reducible apply st)); conv => whnf))
    · repeat' (first
    | (with_reducible first | exact True.intro | apply And.intro | apply If_true | apply If_false | apply If_not)
    | ((with_reducible apply VC.mk); exact vt)
    | ((with_reducible apply If_dec) <;> intro hc <;> (try (exfalso; omega)))
    | ((with_reducible apply If_any) <;> intro hc)
    | ((with_reducible first | apply PF.mk | apply DrawP.mk); (focus kernel_rfl))
    | ((with_reducible apply Same.mk); (focus rfl); (first | exact trivial | exact rfl))
    | (intro cap hcap)
    | ((fail_if_success (with_reducible apply st)); conv => whnf))
  · intro y hy
    obtain ⟨hy, hc1⟩ := hy
    have hlen : y.1.length ≤ 2199023255552 := by
      rcases hy with h | h
      · rw [h]; omega
      · rw [h]; unfold layP; simp; omega
    repeat' (first
    | (with_reducible first | exact True.intro | apply And.intro | apply If_true | apply If_false | apply If_not)
    | ((with_reducible apply VC.mk); exact vt)
    | ((with_reducible apply If_dec) <;> intro hc <;> (try (exfalso; omega)))
    | ((with_reducible apply If_any) <;> intro hc)
    | ((with_reducible first | apply PF.mk | apply DrawP.mk); (focus kernel_rfl))
    | ((with_reducible apply Same.mk); (focus rfl); (first | exact trivial | exact rfl))
    | (intro cap hcap)
    | ((fail_if_success (with_reducible apply st)); conv => whnf))
    · have hl : y.1 = l := by
        rcases hy with h | h
        · exact h
        · rw [h] at hc
          by_cases hx : l.length ≤ (at_ + xs.length).toNat
          · rw [layP_len _ _ hx] at hc; omega
          · rw [layP_id _ _ (by omega)] at hc; omega
      have he : y.1 ++ List.replicate (at_ + xs.length - y.1.length).toNat 0 = layP l (at_ + xs.length) := by
        rw [hl] at hc ⊢; unfold layP; congr 2; omega
      rw [he]
      have hn : (layP l (at_ + xs.length)).length = y.1.length + (at_ + xs.length - y.1.length).toNat := by rw [← he]; simp
      refine Round.mk ⟨(layP l (at_ + xs.length), cap), ⟨.inr rfl, by rw [hn]; exact hcap⟩, ?_, Fit.ren [0, 1, 3] [] rfl rfl trivial ?_ ?_⟩
      · show (at_ + xs.length).toNat - (layP l (at_ + xs.length)).length < (at_ + xs.length).toNat - y.1.length
        rw [hn]; omega
      · repeat' (first
    | (with_reducible first | exact True.intro | apply And.intro | apply If_true | apply If_false | apply If_not)
    | ((with_reducible apply VC.mk); exact vt)
    | ((with_reducible apply If_dec) <;> intro hc <;> (try (exfalso; omega)))
    | ((with_reducible apply If_any) <;> intro hc)
    | ((with_reducible first | apply PF.mk | apply DrawP.mk); (focus kernel_rfl))
    | ((with_reducible apply Same.mk); (focus rfl); (first | exact trivial | exact rfl))
    | (intro cap hcap)
    | ((fail_if_success (with_reducible apply st)); conv => whnf))
      · repeat' (first
    | (with_reducible first | exact True.intro | apply And.intro | apply If_true | apply If_false | apply If_not)
    | ((with_reducible apply VC.mk); exact vt)
    | ((with_reducible apply If_dec) <;> intro hc <;> (try (exfalso; omega)))
    | ((with_reducible apply If_any) <;> intro hc)
    | ((with_reducible first | apply PF.mk | apply DrawP.mk); (focus kernel_rfl))
    | ((with_reducible apply Same.mk); (focus rfl); (first | exact trivial | exact rfl))
    | (intro cap hcap)
    | ((fail_if_success (with_reducible apply st)); conv => whnf))
        refine VC.mk ⟨rfl, rfl, rfl, hn.symm, rfl⟩
    all_goals
      have hy' : layP l (at_ + xs.length) = y.1 := by
        rcases hy with h | h
        · rw [layP_id _ _ (by rw [← h]; omega)]; exact h.symm
        · exact h.symm
    · subst hc
      have hres : layL l true at_ xs = y.1.take at_.toNat := by unfold layL; rw [hy']; rfl
      have hn : (layL l true at_ xs).length = at_.toNat := by rw [hres]; simp; omega
      refine Fin.ren [0, 2] [] (.s 1 0 1 (layL l true at_ xs).length y.2) [.dead, .blk 5 (.ints .u8 (layL l true at_ xs)) y.2] rfl rfl trivial ?_ ?_ (hk y.2 (by omega))
      · repeat' (first
    | (with_reducible first | exact True.intro | apply And.intro | apply If_true | apply If_false | apply If_not)
    | ((with_reducible apply VC.mk); exact vt)
    | ((with_reducible apply If_dec) <;> intro hc <;> (try (exfalso; omega)))
    | ((with_reducible apply If_any) <;> intro hc)
    | ((with_reducible first | apply PF.mk | apply DrawP.mk); (focus kernel_rfl))
    | ((with_reducible apply Same.mk); (focus rfl); (first | exact trivial | exact rfl))
    | (intro cap hcap)
    | ((fail_if_success (with_reducible apply st)); conv => whnf))
        refine VC.mk ⟨rfl, by rw [hres]; exact List.take_prefix _ _⟩
      · repeat' (first
    | (with_reducible first | exact True.intro | apply And.intro | apply If_true | apply If_false | apply If_not)
    | ((with_reducible apply VC.mk); exact vt)
    | ((with_reducible apply If_dec) <;> intro hc <;> (try (exfalso; omega)))
    | ((with_reducible apply If_any) <;> intro hc)
    | ((with_reducible first | apply PF.mk | apply DrawP.mk); (focus kernel_rfl))
    | ((with_reducible apply Same.mk); (focus rfl); (first | exact trivial | exact rfl))
    | (intro cap hcap)
    | ((fail_if_success (with_reducible apply st)); conv => whnf))
        refine VC.mk ⟨rfl, rfl, rfl, hn.symm, rfl⟩
    · subst hc
      have hres : layL l false at_ xs = y.1.take (0 + at_.toNat) ++ xs.take (min xs.length (y.1.length - at_.toNat)) ++ y.1.drop (0 + at_.toNat + min xs.length (y.1.length - at_.toNat)) := by
        unfold layL; rw [hy', show min xs.length (y.1.length - at_.toNat) = xs.length by omega, List.take_length, Nat.zero_add]; rfl
      have hn : (layL l false at_ xs).length = y.1.length := by rw [hres]; simp; omega
      rw [← hres]
      refine Fin.ren [0, 2] [] (.s 1 0 1 (layL l false at_ xs).length y.2) [.dead, .blk 5 (.ints .u8 (layL l false at_ xs)) y.2] rfl rfl trivial ?_ ?_ (hk y.2 (by omega))
      · repeat' (first
    | (with_reducible first | exact True.intro | apply And.intro | apply If_true | apply If_false | apply If_not)
    | ((with_reducible apply VC.mk); exact vt)
    | ((with_reducible apply If_dec) <;> intro hc <;> (try (exfalso; omega)))
    | ((with_reducible apply If_any) <;> intro hc)
    | ((with_reducible first | apply PF.mk | apply DrawP.mk); (focus kernel_rfl))
    | ((with_reducible apply Same.mk); (focus rfl); (first | exact trivial | exact rfl))
    | (intro cap hcap)
    | ((fail_if_success (with_reducible apply st)); conv => whnf))
      · repeat' (first
    | (with_reducible first | exact True.intro | apply And.intro | apply If_true | apply If_false | apply If_not)
    | ((with_reducible apply VC.mk); exact vt)
    | ((with_reducible apply If_dec) <;> intro hc <;> (try (exfalso; omega)))
    | ((with_reducible apply If_any) <;> intro hc)
    | ((with_reducible first | apply PF.mk | apply DrawP.mk); (focus kernel_rfl))
    | ((with_reducible apply Same.mk); (focus rfl); (first | exact trivial | exact rfl))
    | (intro cap hcap)
    | ((fail_if_success (with_reducible apply st)); conv => whnf))
        refine VC.mk ⟨rfl, rfl, rfl, hn.symm, rfl⟩

theorem lay_ok : ConOk Go.Proofs.Try.prog 72 (Con.of ((List Int × Nat) × Bool × Int × List Int) Nat (fun x => [.s 0 0 1 x.1.1.length x.1.2, .agg [.v (.bool x.2.1), .v (.int .i64 x.2.2.1), .im false 1 x.2.2.2.length (.ints .u8 x.2.2.2)]])
    (fun x => [.blk 5 (.ints .u8 x.1.1) x.1.2]) (fun x => 0 ≤ x.2.2.1 ∧ x.2.2.1 ≤ 1099511627776 ∧ x.2.2.2.length ≤ 1099511627776 ∧ x.1.1.length ≤ 1099511627776 ∧ x.1.1.length ≤ x.1.2)
    (fun x c' => (layL x.1.1 x.2.1 x.2.2.1 x.2.2.2).length ≤ c') (fun x c' => .s 1 0 1 (layL x.1.1 x.2.1 x.2.2.1 x.2.2.2).length c') (fun x c' => [.dead, .blk 5 (.ints .u8 (layL x.1.1 x.2.1 x.2.2.1 x.2.2.2)) c'])) := by
  refine conOk_rel (T := tab) mix Go.Proofs.Try.func72 (by decide +kernel) (by kernel_rfl) [] p72 (fun x => by rw [Go.Proofs.Try.ntmps72]; exact Nat.le_of_ble_eq_true rfl) (fun x r _ _ => ⟨trivial, fun c hc => ?_, by simp⟩) (fun x _ c hc => ?_) ?_
  · simp at hc
    rcases hc with rfl | rfl
    · exact .dead
    · exact .blk trivial
  · simp at hc; subst hc; trivial
  · rintro ⟨⟨l, c⟩, cut, at_, xs⟩ k h0 hk
    exact lay_c l c cut at_ xs h0 k hk
theorem ask_call {avs : List AV} {H : List Chunk} {k : K} (s : DF) (c1 c2 : Nat) (σ : List Nat) (h0 : 0 ≤ s.ops ∧ s.ops ≤ 1099511627776) (hn : nodupN σ = true) (hc : chunksAt H (fren σ H.length) σ (s.chs c1 c2)) (ha : argsM H σ [.p 0 0 1 0] avs)
    (h : ∀ r : Int, (r = 0 ∧ ¬ s.refused ∨ r = 5 ∧ s.refused) → numK H.length (fun N => k (.v (.int .i64 r)) (putAll H σ ((s.asked.chs c1 c2).map (Chunk.ren (fren σ N)))))) : CallP Go.Proofs.Try.prog 94 avs H k :=
  CallP.mk ⟨_, ask_ok.real, Con.spec ask_ok, (s, c1, c2), σ, ⟨h0, hn, hc, ha⟩, h⟩
theorem lay_call {avs : List AV} {H : List Chunk} {k : K} (l : List Int) (c : Nat) (cut : Bool) (at_ : Int) (xs : List Int) (j : Nat) (h0 : 0 ≤ at_ ∧ at_ ≤ 1099511627776 ∧ xs.length ≤ 1099511627776 ∧ l.length ≤ 1099511627776 ∧ l.length ≤ c)
    (hc : chunksAt H (fren [j] H.length) [j] [.blk 5 (.ints .u8 l) c]) (ha : argsM H [j] [.s 0 0 1 l.length c, .agg [.v (.bool cut), .v (.int .i64 at_), .im false 1 xs.length (.ints .u8 xs)]] avs)
    (h : ∀ c', (layL l cut at_ xs).length ≤ c' → k (.s H.length 0 1 (layL l cut at_ xs).length c') (H.set j .dead ++ [.blk 5 (.ints .u8 (layL l cut at_ xs)) c'])) : CallP Go.Proofs.Try.prog 72 avs H k :=
  CallP.mk ⟨_, lay_ok.real, Con.spec lay_ok, ((l, c), cut, at_, xs), [j], ⟨h0, rfl, hc, ha⟩, fun c' hc' => (numK_eq _ _).mpr (h c' hc')⟩
end Go.Proofs.Ytcfmlnddmpiemaa.Sx


set_option maxRecDepth 10000
namespace Go.Proofs.Ytcfmlnddmpiemaa.Sx
open Go.RowKit Go.Proofs.Ytcfmlnddmpiemaa.Sx.Tb
/-- How many bytes are of one sector. -/
def secN (at_ : Int) (n : Nat) : Nat := (min (n : Int) (512 - at_ % 512)).toNat
/-- Bytes are written, sector by sector. -/
def wrN : Nat → DF → Int → List Int → DF
  | 0, s, _, _ => s
  | n + 1, s, at_, xs => if xs = [] then s else wrN n { s with now := layL s.now false at_ (xs.take (secN at_ xs.length)), items := s.items ++ [(false, at_, xs.take (secN at_ xs.length))] } (at_ + secN at_ xs.length) (xs.drop (secN at_ xs.length))
theorem wrN_fuel : ∀ (n m : Nat) (s : DF) (at_ : Int) (xs : List Int), xs.length ≤ n → xs.length ≤ m → wrN n s at_ xs = wrN m s at_ xs
  | 0, 0, _, _, _, _, _ => rfl
  | 0, m + 1, s, at_, xs, h, _ => by
    have : xs = [] := List.eq_nil_of_length_eq_zero (by omega)
    rw [wrN, wrN, if_pos this]
  | n + 1, 0, s, at_, xs, _, h => by
    have : xs = [] := List.eq_nil_of_length_eq_zero (by omega)
    rw [wrN, wrN, if_pos this]
  | n + 1, m + 1, s, at_, xs, h1, h2 => by
    rw [wrN, wrN]
    by_cases hx : xs = []
    · rw [if_pos hx, if_pos hx]
    · rw [if_neg hx, if_neg hx]
      have hl : 0 < xs.length := List.length_pos_iff.2 hx
      have : 0 < secN at_ xs.length := by unfold secN; omega
      exact wrN_fuel n m _ _ _ (by rw [List.length_drop]; omega) (by rw [List.length_drop]; omega)
theorem layL_len (b : List Int) (at_ : Int) (xs : List Int) (h : 0 ≤ at_) : (layL b false at_ xs).length = max b.length (at_.toNat + xs.length) := by
  unfold layL layP
  simp
  omega
def DF.wrote1 (s : DF) (at_ : Int) (xs : List Int) : DF := wrN xs.length { s with ops := s.ops + 1, wrote := s.wrote + 1 } at_ xs
def wrOk (s : DF) (at_ : Int) (xs : List Int) (y : DF × Int × List Int × Nat × Nat) : Prop :=
  s.wrote1 at_ xs = wrN y.2.2.1.length y.1 y.2.1 y.2.2.1 ∧ 0 ≤ y.2.1 ∧ y.2.1 + y.2.2.1.length ≤ 4194304 ∧ y.1.now.length ≤ y.2.2.2.1 ∧ y.1.items.length ≤ y.2.2.2.2 ∧ y.1.items.length + y.2.2.1.length ≤ s.items.length + xs.length ∧ y.1.now.length ≤ 4194304
def wrI (y : DF × Int × List Int × Nat × Nat) : Env × List Chunk :=
  ([(0, .p 0 0 1 0), (1, .v (.int .i64 y.2.1)), (2, .im false 1 y.2.2.1.length (.ints .u8 y.2.2.1))], y.1.chm y.2.2.2.1 y.2.2.2.2)
set_option maxHeartbeats 4000000 in
theorem write_c (s : DF) (c1 c2 : Nat) (at_ : Int) (xs : List Int) (h0 : 0 ≤ s.ops ∧ s.ops ≤ 1099511627776 ∧ 0 ≤ s.wrote ∧ s.wrote ≤ 1099511627776 ∧ xs.length ≤ 1099511627776 ∧ s.now.length ≤ c1 ∧ s.items.length ≤ c2 ∧ s.items.length ≤ 1099511627776 ∧ s.now.length ≤ 4194304) (k : K)
    (hk : ∀ (r : Int) (s' : DF) (c1 c2 : Nat), (r = 5 ∧ s.refused ∧ s' = s.asked ∨ r = 4 ∧ ¬ s.refused ∧ at_ < 0 ∧ s' = s.asked ∨ r = 3 ∧ ¬ s.refused ∧ 0 ≤ at_ ∧ 4194304 - at_ < xs.length ∧ s' = s.asked ∨ r = 0 ∧ ¬ s.refused ∧ 0 ≤ at_ ∧ xs.length ≤ 4194304 - at_ ∧ s' = s.wrote1 at_ xs) → s'.now.length ≤ c1 → s'.items.length ≤ c2 →
      k (.v (.int .i64 r)) (s'.chm c1 c2)) :
    evFunc tab [] p68 Go.Proofs.Try.f68 [.p 0 0 1 0, .v (.int .i64 at_), .im false 1 xs.length (.ints .u8 xs)] (s.chs c1 c2) k := by
  repeat' (first
    | (with_reducible first | exact True.intro | apply And.intro | apply If_true | apply If_false | apply If_not)
    | ((with_reducible apply VC.mk); exact vt)
    | ((with_reducible apply If_dec) <;> intro hc <;> (try (exfalso; omega)))
    | ((with_reducible apply If_any) <;> intro hc)
    | ((with_reducible first | apply PF.mk | apply DrawP.mk); (focus kernel_rfl))
    | ((with_reducible apply Same.mk); (focus rfl); (first | exact trivial | exact rfl))
    | (intro cap hcap)
    | ((fail_if_success (with_reducible apply st)); conv => whnf))
  refine ask_call s c1 c2 [0, 1, 2] (by omega) rfl ⟨rfl, rfl, rfl, trivial⟩ ⟨rfl, trivial⟩ ?_
  intro r hr
  have err : ∀ (r : Int), (r = 5 ∧ s.refused ∨ r = 4 ∧ ¬ s.refused ∧ at_ < 0 ∨ r = 3 ∧ ¬ s.refused ∧ 0 ≤ at_ ∧ 4194304 - at_ < xs.length) → Fin 3 (.v (.int .i64 r)) (s.asked.chs c1 c2) k := by
    intro r hr
    refine Fin.ren [0, 1, 2, 1, 2] [] (.v (.int .i64 r)) (s.asked.chm c1 c2) rfl rfl trivial ?_ (VC.mk rfl) (hk r s.asked c1 c2 ?_ h0.2.2.2.2.2.1 h0.2.2.2.2.2.2.1)
    · repeat' (first
    | (with_reducible first | exact True.intro | apply And.intro | apply If_true | apply If_false | apply If_not)
    | ((with_reducible apply VC.mk); first | exact vt | (simp [inR, Cont.cells, DF.asked]; done) | (simp [inR, Cont.cells, DF.asked]; omega))
    | ((with_reducible apply If_dec) <;> intro hc <;> (try (exfalso; omega)))
    | ((with_reducible apply If_any) <;> intro hc)
    | ((with_reducible first | apply PF.mk | apply DrawP.mk); (focus kernel_rfl))
    | ((with_reducible apply Same.mk); (focus rfl); (first | exact trivial | exact rfl))
    | (intro cap hcap)
    | ((fail_if_success (with_reducible apply st)); conv => whnf))
    · rcases hr with ⟨rfl, h⟩ | ⟨rfl, h1, h2⟩ | ⟨rfl, h1, h2, h3⟩
      · exact .inl ⟨rfl, h, rfl⟩
      · exact .inr (.inl ⟨rfl, h1, h2, rfl⟩)
      · exact .inr (.inr (.inl ⟨rfl, h1, h2, h3, rfl⟩))
  rcases hr with ⟨rfl, hr⟩ | ⟨rfl, hr⟩
  case inr =>
    repeat' (first
    | (with_reducible first | exact True.intro | apply And.intro | apply If_true | apply If_false | apply If_not)
    | ((with_reducible apply VC.mk); exact vt)
    | ((with_reducible apply If_dec) <;> intro hc <;> (try (exfalso; omega)))
    | ((with_reducible apply If_any) <;> intro hc)
    | ((with_reducible first | apply PF.mk | apply DrawP.mk); (focus kernel_rfl))
    | ((with_reducible apply Same.mk); (focus rfl); (first | exact trivial | exact rfl))
    | (intro cap hcap)
    | ((fail_if_success (with_reducible apply st)); conv => whnf))
    exact err 5 (.inl ⟨rfl, hr⟩)
  repeat' (first
    | (with_reducible first | exact True.intro | apply And.intro | apply If_true | apply If_false | apply If_not)
    | ((with_reducible apply VC.mk); first | exact vt | (simp [inR, Cont.cells, DF.asked]; done) | (simp [inR, Cont.cells, DF.asked]; omega))
    | ((with_reducible apply If_dec) <;> intro hc <;> (try (exfalso; omega)))
    | ((with_reducible apply If_any) <;> intro hc)
    | ((with_reducible first | apply PF.mk | apply DrawP.mk); (focus kernel_rfl))
    | ((with_reducible apply Same.mk); (focus rfl); (first | exact trivial | exact rfl))
    | (intro cap hcap)
    | ((fail_if_success (with_reducible apply st)); conv => whnf))
  · exact err 4 (.inr (.inl ⟨rfl, hr, by omega⟩))
  · exact err 3 (.inr (.inr ⟨rfl, hr, by omega, by omega⟩))
  · exact err 3 (.inr (.inr ⟨rfl, hr, by omega, by omega⟩))
  refine LoopP.mk ⟨DF × Int × List Int × Nat × Nat, wrOk s at_ xs, wrI, fun y => y.2.2.1.length, ({ s with ops := s.ops + 1, wrote := s.wrote + 1 }, at_, xs, c1, c2), ?_, ?_, ?_⟩
  · unfold wrOk
    dsimp only
    exact ⟨rfl, by omega, by omega, by omega, by omega, by omega, by omega⟩
  · refine Fit.ren [0, 1, 2, 1, 2] [] rfl rfl trivial ?_ ?_
    · repeat' (first
    | (with_reducible first | exact True.intro | apply And.intro | apply If_true | apply If_false | apply If_not)
    | ((with_reducible apply VC.mk); exact vt)
    | ((with_reducible apply If_dec) <;> intro hc <;> (try (exfalso; omega)))
    | ((with_reducible apply If_any) <;> intro hc)
    | ((with_reducible first | apply PF.mk | apply DrawP.mk); (focus kernel_rfl))
    | ((with_reducible apply Same.mk); (focus rfl); (first | exact trivial | exact rfl))
    | (intro cap hcap)
    | ((fail_if_success (with_reducible apply st)); conv => whnf))
      refine VC.mk ⟨rfl, Nat.le_refl _⟩
    · repeat' (first
    | (with_reducible first | exact True.intro | apply And.intro | apply If_true | apply If_false | apply If_not)
    | ((with_reducible apply VC.mk); exact vt)
    | ((with_reducible apply If_dec) <;> intro hc <;> (try (exfalso; omega)))
    | ((with_reducible apply If_any) <;> intro hc)
    | ((with_reducible first | apply PF.mk | apply DrawP.mk); (focus kernel_rfl))
    | ((with_reducible apply Same.mk); (focus rfl); (first | exact trivial | exact rfl))
    | (intro cap hcap)
    | ((fail_if_success (with_reducible apply st)); conv => whnf))
  · intro y hy
    obtain ⟨g1, g2, g3, g4, g6, g7, g8⟩ := hy
    repeat' (first
    | (with_reducible first | exact True.intro | apply And.intro | apply If_true | apply If_false | apply If_not)
    | ((with_reducible apply VC.mk); exact vt)
    | ((with_reducible apply If_dec) <;> intro hc <;> (try (exfalso; omega)))
    | ((with_reducible apply If_any) <;> intro hc)
    | ((with_reducible first | apply PF.mk | apply DrawP.mk); (focus kernel_rfl))
    | ((with_reducible apply Same.mk); (focus rfl); (first | exact trivial | exact rfl))
    | (intro cap hcap)
    | ((fail_if_success (with_reducible apply st)); conv => whnf))
    · have e : (bif false then max (↑y.2.2.1.length) (512 - y.2.1 % 512) else min (↑y.2.2.1.length : Int) (512 - y.2.1 % 512)).toNat - Int.toNat 0 = secN y.2.1 y.2.2.1.length := by simp [secN]
      rw [e]
      have hm1 : secN y.2.1 y.2.2.1.length ≤ y.2.2.1.length := by unfold secN; omega
      have hm2 : 0 < secN y.2.1 y.2.2.1.length := by unfold secN; omega
      have hlt : (y.2.2.1.take (secN y.2.1 y.2.2.1.length)).length = secN y.2.1 y.2.2.1.length := by rw [List.length_take]; omega
      refine lay_call y.1.now y.2.2.2.1 false y.2.1 (y.2.2.1.take (secN y.2.1 y.2.2.1.length)) 3 (by omega) ⟨rfl, trivial⟩ ⟨rfl, ⟨rfl, rfl, ?_, trivial⟩, trivial⟩ ?_
      · refine ⟨?_, rfl, hlt.symm, ?_, rfl, Nat.one_pos⟩
        · simp; omega
        · show Cont.ints _ _ = Cont.ints _ _
          simp only [Int.toNat_zero, List.drop_zero, List.take_take, Nat.min_self]
      · intro c' hc'
        repeat' (first
    | (with_reducible first | exact True.intro | apply And.intro | apply If_true | apply If_false | apply If_not)
    | ((with_reducible apply VC.mk); exact vt)
    | ((with_reducible apply If_dec) <;> intro hc <;> (try (exfalso; omega)))
    | ((with_reducible apply If_any) <;> intro hc)
    | ((with_reducible first | apply PF.mk | apply DrawP.mk); (focus kernel_rfl))
    | ((with_reducible apply Same.mk); (focus rfl); (first | exact trivial | exact rfl))
    | (intro cap hcap)
    | ((fail_if_success (with_reducible apply st)); conv => whnf))
        have e2 : (bif false then max (↑y.2.2.1.length) (512 - y.2.1 % 512) else min (↑y.2.2.1.length : Int) (512 - y.2.1 % 512)).toNat = secN y.2.1 y.2.2.1.length := by simp [secN]
        have e3 : (bif false then max (↑y.2.2.1.length) (512 - y.2.1 % 512) else min (↑y.2.2.1.length : Int) (512 - y.2.1 % 512)) = (secN y.2.1 y.2.2.1.length : Int) := by simp only [secN, cond_false]; omega
        simp only [e2, e3]
        refine Round.mk ⟨({ y.1 with now := layL y.1.now false y.2.1 (y.2.2.1.take (secN y.2.1 y.2.2.1.length)), items := y.1.items ++ [(false, y.2.1, y.2.2.1.take (secN y.2.1 y.2.2.1.length))] }, y.2.1 + secN y.2.1 y.2.2.1.length, y.2.2.1.drop (secN y.2.1 y.2.2.1.length), c', cap), ?_, ?_, Fit.ren [0, 1, 2, 9, 8] [5] rfl rfl ⟨trivial, trivial⟩ ?_ ?_⟩
        · unfold wrOk
          dsimp only
          have hxs : y.2.2.1 ≠ [] := fun h => by rw [h] at hc; simp at hc
          have hll : (layL y.1.now false y.2.1 (y.2.2.1.take (secN y.2.1 y.2.2.1.length))).length = max y.1.now.length (y.2.1.toNat + secN y.2.1 y.2.2.1.length) := by rw [layL_len _ _ _ g2, hlt]
          refine ⟨?_, by omega, ?_, hc', ?_, ?_, ?_⟩
          · rw [g1, wrN_fuel (y.2.2.1.length) (y.2.2.1.length - 1 + 1) _ _ _ (Nat.le_refl _) (by omega), wrN, if_neg hxs]
            exact wrN_fuel _ _ _ _ _ (by rw [List.length_drop]; omega) (Nat.le_refl _)
          · rw [List.length_drop]; omega
          · rw [List.length_append, List.length_singleton]; omega
          · rw [List.length_append, List.length_singleton, List.length_drop]; omega
          · rw [hll]; omega
        · show (y.2.2.1.drop (secN y.2.1 y.2.2.1.length)).length < y.2.2.1.length
          rw [List.length_drop]; omega
        · refine And.intro ?_ (And.intro trivial (And.intro trivial (And.intro ?_ (And.intro ?_ trivial))))
          · repeat' (first
    | (with_reducible first | exact True.intro | apply And.intro | apply If_true | apply If_false | apply If_not)
    | ((with_reducible apply VC.mk); exact vt)
    | ((with_reducible apply If_dec) <;> intro hc <;> (try (exfalso; omega)))
    | ((with_reducible apply If_any) <;> intro hc)
    | ((with_reducible first | apply PF.mk | apply DrawP.mk); (focus kernel_rfl))
    | ((with_reducible apply Same.mk); (focus rfl); (first | exact trivial | exact rfl))
    | (intro cap hcap)
    | ((fail_if_success (with_reducible apply st)); conv => whnf))
            all_goals (refine VC.mk ⟨rfl, rfl, rfl, by simp, rfl⟩)
          · repeat' (first
    | (with_reducible first | exact True.intro | apply And.intro | apply If_true | apply If_false | apply If_not)
    | ((with_reducible apply VC.mk); exact vt)
    | ((with_reducible apply If_dec) <;> intro hc <;> (try (exfalso; omega)))
    | ((with_reducible apply If_any) <;> intro hc)
    | ((with_reducible first | apply PF.mk | apply DrawP.mk); (focus kernel_rfl))
    | ((with_reducible apply Same.mk); (focus rfl); (first | exact trivial | exact rfl))
    | (intro cap hcap)
    | ((fail_if_success (with_reducible apply st)); conv => whnf))
          · refine And.intro (VC.mk ⟨rfl, rfl⟩) (And.intro (VC.mk ⟨rfl, by simp⟩) ?_)
            intro j hj
            show les _ _ _ _ (itAV ((y.1.items ++ [(false, y.2.1, y.2.2.1.take (secN y.2.1 y.2.2.1.length))]).getD j (false, 0, []))) (if j < y.1.items.length then itAV (y.1.items.getD j (false, 0, [])) else _)
            by_cases hjn : j < y.1.items.length
            · rw [if_pos hjn, show (y.1.items ++ [(false, y.2.1, y.2.2.1.take (secN y.2.1 y.2.2.1.length))]).getD j (false, 0, []) = y.1.items.getD j (false, 0, []) by simp [List.getD_eq_getElem?_getD, List.getElem?_append_left hjn]]
              generalize y.1.items.getD j (false, 0, []) = it
              repeat' (first
    | (with_reducible first | exact True.intro | apply And.intro | apply If_true | apply If_false | apply If_not)
    | ((with_reducible apply VC.mk); exact vt)
    | ((with_reducible apply If_dec) <;> intro hc <;> (try (exfalso; omega)))
    | ((with_reducible apply If_any) <;> intro hc)
    | ((with_reducible first | apply PF.mk | apply DrawP.mk); (focus kernel_rfl))
    | ((with_reducible apply Same.mk); (focus rfl); (first | exact trivial | exact rfl))
    | (intro cap hcap)
    | ((fail_if_success (with_reducible apply st)); conv => whnf))
            · have hjn2 : j = y.1.items.length := by
                have : (y.1.items ++ [(false, y.2.1, y.2.2.1.take (secN y.2.1 y.2.2.1.length))]).length = y.1.items.length + 1 := by simp
                have h2 : j < (y.1.items ++ [(false, y.2.1, y.2.2.1.take (secN y.2.1 y.2.2.1.length))]).length := hj
                omega
              subst hjn2
              rw [if_neg hjn, show (y.1.items ++ [(false, y.2.1, y.2.2.1.take (secN y.2.1 y.2.2.1.length))]).getD y.1.items.length (false, 0, []) = (false, y.2.1, y.2.2.1.take (secN y.2.1 y.2.2.1.length)) by simp [List.getD_eq_getElem?_getD]]
              repeat' (first
    | (with_reducible first | exact True.intro | apply And.intro | apply If_true | apply If_false | apply If_not)
    | ((with_reducible apply VC.mk); exact vt)
    | ((with_reducible apply If_dec) <;> intro hc <;> (try (exfalso; omega)))
    | ((with_reducible apply If_any) <;> intro hc)
    | ((with_reducible first | apply PF.mk | apply DrawP.mk); (focus kernel_rfl))
    | ((with_reducible apply Same.mk); (focus rfl); (first | exact trivial | exact rfl))
    | (intro cap hcap)
    | ((fail_if_success (with_reducible apply st)); conv => whnf))
              refine VC.mk ⟨rfl, ?_⟩
              simp only [Int.toNat_zero, List.drop_zero, List.take_take, Nat.min_self]
        · repeat' (first
    | (with_reducible first | exact True.intro | apply And.intro | apply If_true | apply If_false | apply If_not)
    | ((with_reducible apply VC.mk); exact vt)
    | ((with_reducible apply If_dec) <;> intro hc <;> (try (exfalso; omega)))
    | ((with_reducible apply If_any) <;> intro hc)
    | ((with_reducible first | apply PF.mk | apply DrawP.mk); (focus kernel_rfl))
    | ((with_reducible apply Same.mk); (focus rfl); (first | exact trivial | exact rfl))
    | (intro cap hcap)
    | ((fail_if_success (with_reducible apply st)); conv => whnf))
          refine VC.mk ⟨rfl, ?_⟩
          simp only [Int.toNat_natCast]
          exact List.take_of_length_le (by rw [List.length_drop]; exact Nat.le_refl _)
    · refine Fin.same (hk 0 y.1 _ _ (.inr (.inr (.inr ⟨rfl, hr, by omega, by omega, ?_⟩))) g4 g6)
      rw [g1, show y.2.2.1.length = 0 by omega]; rfl
end Go.Proofs.Ytcfmlnddmpiemaa.Sx


set_option maxRecDepth 10000
namespace Go.Proofs.Ytcfmlnddmpiemaa.Sx
open Go.RowKit Go.Proofs.Ytcfmlnddmpiemaa.Sx.Tb
theorem len_c (s : DF) (c1 c2 : Nat) (h : s.now.length ≤ 1099511627776) (k : K) (hk : k (.v (.int .i64 s.now.length)) (s.chs c1 c2)) : evFunc tab [] [] Go.Proofs.Try.f22 [.p 0 0 1 0] (s.chs c1 c2) k := by
  repeat' (first
    | (with_reducible first | exact True.intro | apply And.intro | apply If_true | apply If_false | apply If_not)
    | ((with_reducible apply VC.mk); exact vt)
    | ((with_reducible apply If_dec) <;> intro hc <;> (try (exfalso; omega)))
    | ((with_reducible apply If_any) <;> intro hc)
    | ((with_reducible first | apply PF.mk | apply DrawP.mk); (focus kernel_rfl))
    | ((with_reducible apply Same.mk); (focus rfl); (first | exact trivial | exact rfl))
    | (intro cap hcap)
    | ((fail_if_success (with_reducible apply st)); conv => whnf))
  exact Fin.same hk
theorem stop_c (s : DF) (c1 c2 : Nat) (n : Int) (h : 0 ≤ s.ops ∧ s.ops ≤ 1099511627776) (k : K) (hk : k (.tup []) (({ s with stop := if 0 < n ∧ n ≤ 65536 then s.ops + n else 0 } : DF).chs c1 c2)) : evFunc tab [] [] Go.Proofs.Try.f17 [.p 0 0 1 0, .v (.int .i64 n)] (s.chs c1 c2) k := by
  repeat' (first
    | (with_reducible first | exact True.intro | apply And.intro | apply If_true | apply If_false | apply If_not)
    | ((with_reducible apply VC.mk); exact vt)
    | ((with_reducible apply If_dec) <;> intro hc <;> (try (exfalso; omega)))
    | ((with_reducible apply If_any) <;> intro hc)
    | ((with_reducible first | apply PF.mk | apply DrawP.mk); (focus kernel_rfl))
    | ((with_reducible apply Same.mk); (focus rfl); (first | exact trivial | exact rfl))
    | (intro cap hcap)
    | ((fail_if_success (with_reducible apply st)); conv => whnf))
  · rw [if_pos (by omega)] at hk; exact Fin.same hk
  · rw [if_neg (by omega)] at hk; exact Fin.same hk
  · rw [if_neg (by omega)] at hk; exact Fin.same hk
theorem bytes_c (s : DF) (c1 c2 : Nat) (h : s.now.length ≤ 1099511627776) (k : K) (hk : k (.im true 1 s.now.length (.ints .u8 s.now)) (s.chs c1 c2)) : evFunc tab [] [] Go.Proofs.Try.f29 [.p 0 0 1 0] (s.chs c1 c2) k := by
  repeat' (first
    | (with_reducible first | exact True.intro | apply And.intro | apply If_true | apply If_false | apply If_not)
    | ((with_reducible apply VC.mk); exact vt)
    | ((with_reducible apply If_dec) <;> intro hc <;> (try (exfalso; omega)))
    | ((with_reducible apply If_any) <;> intro hc)
    | ((with_reducible first | apply PF.mk | apply DrawP.mk); (focus kernel_rfl))
    | ((with_reducible apply Same.mk); (focus rfl); (first | exact trivial | exact rfl))
    | (intro cap hcap)
    | ((fail_if_success (with_reducible apply st)); conv => whnf))
  refine Fin.ren [0, 1, 2] [3] _ (s.chs c1 c2) rfl rfl ⟨trivial, trivial⟩ ?_ ?_ hk
  · repeat' (first
    | (with_reducible first | exact True.intro | apply And.intro | apply If_true | apply If_false | apply If_not)
    | ((with_reducible apply VC.mk); exact vt)
    | ((with_reducible apply If_dec) <;> intro hc <;> (try (exfalso; omega)))
    | ((with_reducible apply If_any) <;> intro hc)
    | ((with_reducible first | apply PF.mk | apply DrawP.mk); (focus kernel_rfl))
    | ((with_reducible apply Same.mk); (focus rfl); (first | exact trivial | exact rfl))
    | (intro cap hcap)
    | ((fail_if_success (with_reducible apply st)); conv => whnf))
  · repeat' (first
    | (with_reducible first | exact True.intro | apply And.intro | apply If_true | apply If_false | apply If_not)
    | ((with_reducible apply VC.mk); exact vt)
    | ((with_reducible apply If_dec) <;> intro hc <;> (try (exfalso; omega)))
    | ((with_reducible apply If_any) <;> intro hc)
    | ((with_reducible first | apply PF.mk | apply DrawP.mk); (focus kernel_rfl))
    | ((with_reducible apply Same.mk); (focus rfl); (first | exact trivial | exact rfl))
    | (intro cap hcap)
    | ((fail_if_success (with_reducible apply st)); conv => whnf))
    all_goals refine VC.mk ⟨rfl, ?_⟩
    all_goals simp only [List.drop_zero, List.take_take, Nat.min_self, List.take_length]
/-- All is safe. -/
def DF.flushed (s : DF) : DF := { s with ops := s.ops + 1, safe := s.now, items := [] }
set_option maxHeartbeats 4000000 in
theorem flush_c (s : DF) (c1 c2 : Nat) (h0 : 0 ≤ s.ops ∧ s.ops ≤ 1099511627776 ∧ s.now.length ≤ 1099511627776) (k : K)
    (hk : ∀ (r : Int) (s' : DF) (c2' : Nat), (r = 5 ∧ s.refused ∧ s' = s.asked ∧ c2' = c2 ∨ r = 0 ∧ ¬ s.refused ∧ s' = s.flushed ∧ c2' = 0) → k (.v (.int .i64 r)) (s'.chm c1 c2')) : evFunc tab [] [] Go.Proofs.Try.f69 [.p 0 0 1 0] (s.chs c1 c2) k := by
  repeat' (first
    | (with_reducible first | exact True.intro | apply And.intro | apply If_true | apply If_false | apply If_not)
    | ((with_reducible apply VC.mk); exact vt)
    | ((with_reducible apply If_dec) <;> intro hc <;> (try (exfalso; omega)))
    | ((with_reducible apply If_any) <;> intro hc)
    | ((with_reducible first | apply PF.mk | apply DrawP.mk); (focus kernel_rfl))
    | ((with_reducible apply Same.mk); (focus rfl); (first | exact trivial | exact rfl))
    | (intro cap hcap)
    | ((fail_if_success (with_reducible apply st)); conv => whnf))
  refine ask_call s c1 c2 [0, 1, 2] (by omega) rfl ⟨rfl, rfl, rfl, trivial⟩ ⟨rfl, trivial⟩ ?_
  intro r hr
  rcases hr with ⟨rfl, hr⟩ | ⟨rfl, hr⟩
  case inr =>
    repeat' (first
    | (with_reducible first | exact True.intro | apply And.intro | apply If_true | apply If_false | apply If_not)
    | ((with_reducible apply VC.mk); exact vt)
    | ((with_reducible apply If_dec) <;> intro hc <;> (try (exfalso; omega)))
    | ((with_reducible apply If_any) <;> intro hc)
    | ((with_reducible first | apply PF.mk | apply DrawP.mk); (focus kernel_rfl))
    | ((with_reducible apply Same.mk); (focus rfl); (first | exact trivial | exact rfl))
    | (intro cap hcap)
    | ((fail_if_success (with_reducible apply st)); conv => whnf))
    refine Fin.ren [0, 1, 2, 1, 2] [] (.v (.int .i64 5)) (s.asked.chm c1 c2) rfl rfl trivial ?_ (VC.mk rfl) (hk 5 s.asked c2 (.inl ⟨rfl, hr, rfl, rfl⟩))
    repeat' (first
    | (with_reducible first | exact True.intro | apply And.intro | apply If_true | apply If_false | apply If_not)
    | ((with_reducible apply VC.mk); first | exact vt | (simp [inR, Cont.cells, DF.asked]; done) | (simp [inR, Cont.cells, DF.asked]; omega))
    | ((with_reducible apply If_dec) <;> intro hc <;> (try (exfalso; omega)))
    | ((with_reducible apply If_any) <;> intro hc)
    | ((with_reducible first | apply PF.mk | apply DrawP.mk); (focus kernel_rfl))
    | ((with_reducible apply Same.mk); (focus rfl); (first | exact trivial | exact rfl))
    | (intro cap hcap)
    | ((fail_if_success (with_reducible apply st)); conv => whnf))
  repeat' (first
    | (with_reducible first | exact True.intro | apply And.intro | apply If_true | apply If_false | apply If_not)
    | ((with_reducible apply VC.mk); first | exact vt | (simp [inR, Cont.cells, DF.asked]; done) | (simp [inR, Cont.cells, DF.asked]; omega))
    | ((with_reducible apply If_dec) <;> intro hc <;> (try (exfalso; omega)))
    | ((with_reducible apply If_any) <;> intro hc)
    | ((with_reducible first | apply PF.mk | apply DrawP.mk); (focus kernel_rfl))
    | ((with_reducible apply Same.mk); (focus rfl); (first | exact trivial | exact rfl))
    | (intro cap hcap)
    | ((fail_if_success (with_reducible apply st)); conv => whnf))
  refine Fin.ren [0, 1, 2, 1, 9] [3] (.v (.int .i64 0)) (s.flushed.chm c1 0) rfl rfl ⟨trivial, trivial⟩ ?_ (VC.mk rfl) (hk 0 s.flushed 0 (.inr ⟨rfl, hr, rfl, rfl⟩))
  repeat' (first
    | (with_reducible first | exact True.intro | apply And.intro | apply If_true | apply If_false | apply If_not)
    | ((with_reducible apply VC.mk); first | exact vt | (simp [inR, Cont.cells, DF.asked]; done) | (simp [inR, Cont.cells, DF.asked]; omega))
    | ((with_reducible apply If_dec) <;> intro hc <;> (try (exfalso; omega)))
    | ((with_reducible apply If_any) <;> intro hc)
    | ((with_reducible first | apply PF.mk | apply DrawP.mk); (focus kernel_rfl))
    | ((with_reducible apply Same.mk); (focus rfl); (first | exact trivial | exact rfl))
    | (intro cap hcap)
    | ((fail_if_success (with_reducible apply st)); conv => whnf))
  · refine VC.mk ⟨by simp, rfl, rfl, rfl, Nat.one_pos⟩
  · refine VC.mk ⟨rfl, ?_⟩
    rw [List.drop_zero, List.drop_zero, List.take_take, Nat.min_self, List.take_length]
    rfl
/-- Another length. -/
def DF.cutTo (s : DF) (n : Int) : DF := { s with ops := s.ops + 1, wrote := s.wrote + 1, items := s.items ++ [(true, n, [])], now := layL s.now true n [] }
theorem len_ok : ConOk Go.Proofs.Try.prog 22 (Con.fn (DF × Nat × Nat) (fun _ => [.p 0 0 1 0]) (fun x => x.1.chs x.2.1 x.2.2) (fun x => x.1.now.length ≤ 1099511627776) (fun x => .v (.int .i64 x.1.now.length)) (fun x => x.1.chs x.2.1 x.2.2)) :=
  conOk_fn (T := tab) mix Go.Proofs.Try.func22 (by decide +kernel) (by kernel_rfl) [] [] (fun x => by rw [Go.Proofs.Try.ntmps22]; exact Nat.le_of_ble_eq_true rfl) (fun x _ => x.1.good _ _ trivial) (fun x _ => x.1.nd _ _)
    (fun x k h0 hk => len_c x.1 x.2.1 x.2.2 h0 k hk)
theorem len_call {avs : List AV} {H : List Chunk} {k : K} (s : DF) (c1 c2 : Nat) (σ : List Nat) (h0 : s.now.length ≤ 1099511627776) (hn : nodupN σ = true) (hc : chunksAt H (fren σ H.length) σ (s.chs c1 c2)) (ha : argsM H σ [.p 0 0 1 0] avs)
    (h : numK H.length (fun N => k (.v (.int .i64 s.now.length)) (putAll H σ ((s.chs c1 c2).map (Chunk.ren (fren σ N)))))) : CallP Go.Proofs.Try.prog 22 avs H k :=
  CallP.mk ⟨_, len_ok.real, Con.spec len_ok, (s, c1, c2), σ, ⟨h0, hn, hc, ha⟩, h⟩
end Go.Proofs.Ytcfmlnddmpiemaa.Sx


set_option maxRecDepth 10000
namespace Go.Proofs.Ytcfmlnddmpiemaa.Sx
open Go.RowKit Go.Proofs.Ytcfmlnddmpiemaa.Sx.Tb
set_option maxHeartbeats 4000000 in
theorem new_c (l : List Int) (h : l.length ≤ 1099511627776) (k : K)
    (hk1 : 4194304 < l.length → k (.tup [.v (.pointer none), .v (.int .i64 3)]) [])
    (hk : l.length ≤ 4194304 → ∀ c, l.length ≤ c → k (.tup [.p 0 0 1 0, .v (.int .i64 0)]) (({ now := l, safe := l, items := [], ops := 0, fail := 0, stop := 0, wrote := 0 } : DF).chs c 0)) :
    evFunc tab [] [] Go.Proofs.Try.f11 [.im false 1 l.length (.ints .u8 l)] [] k := by
  repeat' (first
    | (with_reducible first | exact True.intro | apply And.intro | apply If_true | apply If_false | apply If_not)
    | ((with_reducible apply VC.mk); exact vt)
    | ((with_reducible apply If_dec) <;> intro hc <;> (try (exfalso; omega)))
    | ((with_reducible apply If_any) <;> intro hc)
    | ((with_reducible first | apply PF.mk | apply DrawP.mk); (focus kernel_rfl))
    | ((with_reducible apply Same.mk); (focus rfl); (first | exact trivial | exact rfl))
    | (intro cap hcap)
    | ((fail_if_success (with_reducible apply st)); conv => whnf))
  · exact Fin.same (hk1 (by omega))
  · rename_i capA hA
    refine Fin.ren [2, 0, 9] [1] (.tup [.p 0 0 1 0, .v (.int .i64 0)]) (({ now := l, safe := l, items := [], ops := 0, fail := 0, stop := 0, wrote := 0 } : DF).chs capA 0) rfl rfl ⟨trivial, trivial⟩ ?_ ?_ (hk (by omega) capA hA)
    · repeat' (first
    | (with_reducible first | exact True.intro | apply And.intro | apply If_true | apply If_false | apply If_not)
    | ((with_reducible apply VC.mk); exact vt)
    | ((with_reducible apply If_dec) <;> intro hc <;> (try (exfalso; omega)))
    | ((with_reducible apply If_any) <;> intro hc)
    | ((with_reducible first | apply PF.mk | apply DrawP.mk); (focus kernel_rfl))
    | ((with_reducible apply Same.mk); (focus rfl); (first | exact trivial | exact rfl))
    | (intro cap hcap)
    | ((fail_if_success (with_reducible apply st)); conv => whnf))
    · repeat' (first
    | (with_reducible first | exact True.intro | apply And.intro | apply If_true | apply If_false | apply If_not)
    | ((with_reducible apply VC.mk); exact vt)
    | ((with_reducible apply If_dec) <;> intro hc <;> (try (exfalso; omega)))
    | ((with_reducible apply If_any) <;> intro hc)
    | ((with_reducible first | apply PF.mk | apply DrawP.mk); (focus kernel_rfl))
    | ((with_reducible apply Same.mk); (focus rfl); (first | exact trivial | exact rfl))
    | (intro cap hcap)
    | ((fail_if_success (with_reducible apply st)); conv => whnf))
set_option maxHeartbeats 4000000 in
theorem read_c (s : DF) (c1 c2 : Nat) (at_ n : Int) (h0 : 0 ≤ s.ops ∧ s.ops ≤ 1099511627776 ∧ s.now.length ≤ 4194304 ∧ s.now.length ≤ c1) (k : K)
    (hk : ∀ (r : Int) (l : List Int), (r = 5 ∧ s.refused ∧ l = [] ∨ r = 4 ∧ ¬ s.refused ∧ ¬ (0 ≤ at_ ∧ 0 ≤ n ∧ at_ ≤ s.now.length ∧ n ≤ s.now.length - at_) ∧ l = [] ∨ r = 0 ∧ ¬ s.refused ∧ 0 ≤ at_ ∧ 0 ≤ n ∧ at_ ≤ s.now.length ∧ n ≤ s.now.length - at_ ∧ l = (s.now.drop at_.toNat).take n.toNat) → k (.tup [.im true 1 l.length (.ints .u8 l), .v (.int .i64 r)]) (s.asked.chs c1 c2)) : evFunc tab [] [] Go.Proofs.Try.f102 [.p 0 0 1 0, .v (.int .i64 at_), .v (.int .i64 n)] (s.chs c1 c2) k := by
  repeat' (first
    | (with_reducible first | exact True.intro | apply And.intro | apply If_true | apply If_false | apply If_not)
    | ((with_reducible apply VC.mk); exact vt)
    | ((with_reducible apply If_dec) <;> intro hc <;> (try (exfalso; omega)))
    | ((with_reducible apply If_any) <;> intro hc)
    | ((with_reducible first | apply PF.mk | apply DrawP.mk); (focus kernel_rfl))
    | ((with_reducible apply Same.mk); (focus rfl); (first | exact trivial | exact rfl))
    | (intro cap hcap)
    | ((fail_if_success (with_reducible apply st)); conv => whnf))
  refine ask_call s c1 c2 [0, 1, 2] (by omega) rfl ⟨rfl, rfl, rfl, trivial⟩ ⟨rfl, trivial⟩ ?_
  intro r hr
  rcases hr with ⟨rfl, hr⟩ | ⟨rfl, hr⟩
  case inr =>
    repeat' (first
    | (with_reducible first | exact True.intro | apply And.intro | apply If_true | apply If_false | apply If_not)
    | ((with_reducible apply VC.mk); exact vt)
    | ((with_reducible apply If_dec) <;> intro hc <;> (try (exfalso; omega)))
    | ((with_reducible apply If_any) <;> intro hc)
    | ((with_reducible first | apply PF.mk | apply DrawP.mk); (focus kernel_rfl))
    | ((with_reducible apply Same.mk); (focus rfl); (first | exact trivial | exact rfl))
    | (intro cap hcap)
    | ((fail_if_success (with_reducible apply st)); conv => whnf))
    refine Fin.ren [0, 1, 2] [] (.tup [.im true 1 0 (.ints .u8 []), .v (.int .i64 5)]) (s.asked.chs c1 c2) rfl rfl trivial ?_ ?_ (hk 5 [] (.inl ⟨rfl, hr, rfl⟩))
    · repeat' (first
    | (with_reducible first | exact True.intro | apply And.intro | apply If_true | apply If_false | apply If_not)
    | ((with_reducible apply VC.mk); first | exact vt | (simp [inR, Cont.cells, DF.asked]; done) | (simp [inR, Cont.cells, DF.asked]; omega))
    | ((with_reducible apply If_dec) <;> intro hc <;> (try (exfalso; omega)))
    | ((with_reducible apply If_any) <;> intro hc)
    | ((with_reducible first | apply PF.mk | apply DrawP.mk); (focus kernel_rfl))
    | ((with_reducible apply Same.mk); (focus rfl); (first | exact trivial | exact rfl))
    | (intro cap hcap)
    | ((fail_if_success (with_reducible apply st)); conv => whnf))
    · repeat' (first
    | (with_reducible first | exact True.intro | apply And.intro | apply If_true | apply If_false | apply If_not)
    | ((with_reducible apply VC.mk); exact vt)
    | ((with_reducible apply If_dec) <;> intro hc <;> (try (exfalso; omega)))
    | ((with_reducible apply If_any) <;> intro hc)
    | ((with_reducible first | apply PF.mk | apply DrawP.mk); (focus kernel_rfl))
    | ((with_reducible apply Same.mk); (focus rfl); (first | exact trivial | exact rfl))
    | (intro cap hcap)
    | ((fail_if_success (with_reducible apply st)); conv => whnf))
  have err : ¬ (0 ≤ at_ ∧ 0 ≤ n ∧ at_ ≤ s.now.length ∧ n ≤ s.now.length - at_) → Fin 3 (.tup [.v (.slice none 0 0), .v (.int .i64 4)]) (s.asked.chs c1 c2) k := by
    intro h
    refine Fin.ren [0, 1, 2] [] (.tup [.im true 1 0 (.ints .u8 []), .v (.int .i64 4)]) (s.asked.chs c1 c2) rfl rfl trivial ?_ ?_ (hk 4 [] (.inr (.inl ⟨rfl, hr, h, rfl⟩)))
    · repeat' (first
    | (with_reducible first | exact True.intro | apply And.intro | apply If_true | apply If_false | apply If_not)
    | ((with_reducible apply VC.mk); first | exact vt | (simp [inR, Cont.cells, DF.asked]; done) | (simp [inR, Cont.cells, DF.asked]; omega))
    | ((with_reducible apply If_dec) <;> intro hc <;> (try (exfalso; omega)))
    | ((with_reducible apply If_any) <;> intro hc)
    | ((with_reducible first | apply PF.mk | apply DrawP.mk); (focus kernel_rfl))
    | ((with_reducible apply Same.mk); (focus rfl); (first | exact trivial | exact rfl))
    | (intro cap hcap)
    | ((fail_if_success (with_reducible apply st)); conv => whnf))
    · repeat' (first
    | (with_reducible first | exact True.intro | apply And.intro | apply If_true | apply If_false | apply If_not)
    | ((with_reducible apply VC.mk); exact vt)
    | ((with_reducible apply If_dec) <;> intro hc <;> (try (exfalso; omega)))
    | ((with_reducible apply If_any) <;> intro hc)
    | ((with_reducible first | apply PF.mk | apply DrawP.mk); (focus kernel_rfl))
    | ((with_reducible apply Same.mk); (focus rfl); (first | exact trivial | exact rfl))
    | (intro cap hcap)
    | ((fail_if_success (with_reducible apply st)); conv => whnf))
  repeat' (first
    | (with_reducible first | exact True.intro | apply And.intro | apply If_true | apply If_false | apply If_not)
    | ((with_reducible apply VC.mk); first | exact vt | (simp [inR, Cont.cells, DF.asked]; done) | (simp [inR, Cont.cells, DF.asked]; omega))
    | ((with_reducible apply If_dec) <;> intro hc <;> (try (exfalso; omega)))
    | ((with_reducible apply If_any) <;> intro hc)
    | ((with_reducible first | apply PF.mk | apply DrawP.mk); (focus kernel_rfl))
    | ((with_reducible apply Same.mk); (focus rfl); (first | exact trivial | exact rfl))
    | (intro cap hcap)
    | ((fail_if_success (with_reducible apply st)); conv => whnf))
  · exact err (by omega)
  · exact err (by omega)
  · refine len_call s.asked c1 c2 [0, 1, 2] (by show s.now.length ≤ _; omega) rfl ⟨rfl, rfl, rfl, trivial⟩ ⟨rfl, trivial⟩ ?_
    repeat' (first
    | (with_reducible first | exact True.intro | apply And.intro | apply If_true | apply If_false | apply If_not)
    | ((with_reducible apply VC.mk); first | exact vt | (simp [inR, Cont.cells, DF.asked]; done) | (simp [inR, Cont.cells, DF.asked]; omega))
    | ((with_reducible apply If_dec) <;> intro hc <;> (try (exfalso; omega)))
    | ((with_reducible apply If_any) <;> intro hc)
    | ((with_reducible first | apply PF.mk | apply DrawP.mk); (focus kernel_rfl))
    | ((with_reducible apply Same.mk); (focus rfl); (first | exact trivial | exact rfl))
    | (intro cap hcap)
    | ((fail_if_success (with_reducible apply st)); conv => whnf))
    · have : (s.asked.now.length : Int) = s.now.length := rfl
      exact err (by omega)
    · have hsl : (s.asked.now.length : Int) = s.now.length := rfl
      refine len_call s.asked c1 c2 [0, 1, 2] (by show s.now.length ≤ _; omega) rfl ⟨rfl, rfl, rfl, trivial⟩ ⟨rfl, trivial⟩ ?_
      repeat' (first
    | (with_reducible first | exact True.intro | apply And.intro | apply If_true | apply If_false | apply If_not)
    | ((with_reducible apply VC.mk); first | exact vt | (simp [inR, Cont.cells, DF.asked]; done) | (simp [inR, Cont.cells, DF.asked]; omega))
    | ((with_reducible apply If_dec) <;> intro hc <;> (try (exfalso; omega)))
    | ((with_reducible apply If_any) <;> intro hc)
    | ((with_reducible first | apply PF.mk | apply DrawP.mk); (focus kernel_rfl))
    | ((with_reducible apply Same.mk); (focus rfl); (first | exact trivial | exact rfl))
    | (intro cap hcap)
    | ((fail_if_success (with_reducible apply st)); conv => whnf))
      · exact err (by omega)
      · have hn : ((s.now.drop at_.toNat).take n.toNat).length = (at_ + n).toNat - at_.toNat := by rw [List.length_take, List.length_drop]; omega
        refine Fin.ren [0, 1, 2] [3] (.tup [.im true 1 ((s.now.drop at_.toNat).take n.toNat).length (.ints .u8 ((s.now.drop at_.toNat).take n.toNat)), .v (.int .i64 0)]) (s.asked.chs c1 c2) rfl rfl ⟨trivial, trivial⟩ ?_ ?_ (hk 0 _ (.inr (.inr ⟨rfl, hr, by omega, by omega, by omega, by omega, rfl⟩)))
        · repeat' (first
    | (with_reducible first | exact True.intro | apply And.intro | apply If_true | apply If_false | apply If_not)
    | ((with_reducible apply VC.mk); first | exact vt | (simp [inR, Cont.cells, DF.asked]; done) | (simp [inR, Cont.cells, DF.asked]; omega))
    | ((with_reducible apply If_dec) <;> intro hc <;> (try (exfalso; omega)))
    | ((with_reducible apply If_any) <;> intro hc)
    | ((with_reducible first | apply PF.mk | apply DrawP.mk); (focus kernel_rfl))
    | ((with_reducible apply Same.mk); (focus rfl); (first | exact trivial | exact rfl))
    | (intro cap hcap)
    | ((fail_if_success (with_reducible apply st)); conv => whnf))
        · repeat' (first
    | (with_reducible first | exact True.intro | apply And.intro | apply If_true | apply If_false | apply If_not)
    | ((with_reducible apply VC.mk); exact vt)
    | ((with_reducible apply If_dec) <;> intro hc <;> (try (exfalso; omega)))
    | ((with_reducible apply If_any) <;> intro hc)
    | ((with_reducible first | apply PF.mk | apply DrawP.mk); (focus kernel_rfl))
    | ((with_reducible apply Same.mk); (focus rfl); (first | exact trivial | exact rfl))
    | (intro cap hcap)
    | ((fail_if_success (with_reducible apply st)); conv => whnf))
          · refine VC.mk ⟨rfl, ?_⟩
            rw [List.drop_zero, List.take_take, Nat.min_self, show (at_ + n).toNat - at_.toNat = n.toNat by omega, Nat.zero_add]
            rfl
end Go.Proofs.Ytcfmlnddmpiemaa.Sx


set_option maxRecDepth 10000
namespace Go.Proofs.Ytcfmlnddmpiemaa.Sx
open Go.RowKit Go.Proofs.Ytcfmlnddmpiemaa.Sx.Tb
/-- What a crash leaves. -/
def crashL : List Int → List (Bool × Int × List Int) → List Bool → List Int
  | b, [], _ => b
  | b, it :: r, [] => crashL b r []
  | b, it :: r, true :: ks => crashL (layL b it.1 it.2.1 it.2.2) r ks
  | b, it :: r, false :: ks => crashL b r ks
def boolsC (ks : List Bool) : Cont := .recs 1 ks.length (fun i => [.v (.bool (ks.getD i false))])
theorem crash_step (b : List Int) (items : List (Bool × Int × List Int)) (ks : List Bool) (i : Nat) (h : i < items.length) :
    crashL b (items.drop i) (ks.drop i) = crashL (if ks.getD i false = true then layL b (items.getD i (false, 0, [])).1 (items.getD i (false, 0, [])).2.1 (items.getD i (false, 0, [])).2.2 else b) (items.drop (i + 1)) (ks.drop (i + 1)) := by
  rw [List.drop_eq_getElem_cons h, show items.getD i (false, 0, []) = items[i] by simp [List.getD_eq_getElem?_getD, h]]
  by_cases hk : i < ks.length
  · rw [List.drop_eq_getElem_cons hk, show ks.getD i false = ks[i] by simp [List.getD_eq_getElem?_getD, hk]]
    cases hb : ks[i]
    · simp [crashL]
    · simp [crashL]
  · rw [List.drop_eq_nil_of_le (show ks.length ≤ i by omega), List.drop_eq_nil_of_le (show ks.length ≤ i + 1 by omega), show ks.getD i false = false by simp [List.getD_eq_getElem?_getD, List.getElem?_eq_none (show ks.length ≤ i by omega)]]
    simp [crashL]
theorem layL_le (b : List Int) (cut : Bool) (at_ : Int) (xs : List Int) (h : 0 ≤ at_) (h1 : at_ + xs.length ≤ 4194304) (h2 : b.length ≤ 4194304) : (layL b cut at_ xs).length ≤ 4194304 := by
  unfold layL layP
  cases cut
  · simp; omega
  · simp; omega
def crOk (s : DF) (ks : List Bool) (y : Nat × List Int × Nat) : Prop :=
  y.1 ≤ s.items.length ∧ crashL y.2.1 (s.items.drop y.1) (ks.drop y.1) = crashL s.safe s.items ks ∧ y.2.1.length ≤ 4194304 ∧ y.2.1.length ≤ y.2.2
def crI (s : DF) (c1 c2 : Nat) (ks : List Bool) (y : Nat × List Int × Nat) : Env × List Chunk :=
  ([(1, .im false 1 ks.length (boolsC ks)), (5, .s 3 0 1 y.2.1.length y.2.2), (18, .s 2 0 3 s.items.length c2), (19, .v (.int .i64 s.items.length)), (20, .v (.int .i64 y.1))], s.chs c1 c2 ++ [.blk 5 (.ints .u8 y.2.1) y.2.2])
set_option maxHeartbeats 4000000 in
theorem crash_c (s : DF) (c1 c2 : Nat) (ks : List Bool) (h0 : s.safe.length ≤ 4194304 ∧ ks.length ≤ 1099511627776 ∧ s.items.length ≤ 1099511627776 ∧ ∀ it ∈ s.items, 0 ≤ it.2.1 ∧ it.2.1 + it.2.2.length ≤ 4194304) (k : K)
    (hk : k (.im true 1 (crashL s.safe s.items ks).length (.ints .u8 (crashL s.safe s.items ks))) (s.chs c1 c2)) : evFunc tab [] [] Go.Proofs.Try.f19 [.p 0 0 1 0, .im false 1 ks.length (boolsC ks)] (s.chs c1 c2) k := by
  repeat' (first
    | (with_reducible first | exact True.intro | apply And.intro | apply If_true | apply If_false | apply If_not)
    | ((with_reducible apply VC.mk); exact vt)
    | ((with_reducible apply If_dec) <;> intro hc <;> (try (exfalso; omega)))
    | ((with_reducible apply If_any) <;> intro hc)
    | ((with_reducible first | apply PF.mk | apply DrawP.mk); (focus kernel_rfl))
    | ((with_reducible apply Same.mk); (focus rfl); (first | exact trivial | exact rfl))
    | (intro cap hcap)
    | ((fail_if_success (with_reducible apply st)); conv => whnf))
  refine LoopP.mk ⟨Nat × List Int × Nat, crOk s ks, crI s c1 c2 ks, fun y => s.items.length - y.1, (0, s.safe, cap), ⟨Nat.zero_le _, rfl, h0.1, hcap⟩, Fit.ren [0, 1, 2, 3] [] rfl rfl trivial ?_ ?_, ?_⟩
  · repeat' (first
    | (with_reducible first | exact True.intro | apply And.intro | apply If_true | apply If_false | apply If_not)
    | ((with_reducible apply VC.mk); exact vt)
    | ((with_reducible apply If_dec) <;> intro hc <;> (try (exfalso; omega)))
    | ((with_reducible apply If_any) <;> intro hc)
    | ((with_reducible first | apply PF.mk | apply DrawP.mk); (focus kernel_rfl))
    | ((with_reducible apply Same.mk); (focus rfl); (first | exact trivial | exact rfl))
    | (intro cap hcap)
    | ((fail_if_success (with_reducible apply st)); conv => whnf))
  · repeat' (first
    | (with_reducible first | exact True.intro | apply And.intro | apply If_true | apply If_false | apply If_not)
    | ((with_reducible apply VC.mk); exact vt)
    | ((with_reducible apply If_dec) <;> intro hc <;> (try (exfalso; omega)))
    | ((with_reducible apply If_any) <;> intro hc)
    | ((with_reducible first | apply PF.mk | apply DrawP.mk); (focus kernel_rfl))
    | ((with_reducible apply Same.mk); (focus rfl); (first | exact trivial | exact rfl))
    | (intro cap hcap)
    | ((fail_if_success (with_reducible apply st)); conv => whnf))
  · intro y hy
    obtain ⟨g1, g2, g3, g4⟩ := hy
    have e : 0 + ((y.1 : Nat) : Int).toNat = y.1 := by omega
    repeat' (first
    | (with_reducible first | exact True.intro | apply And.intro | apply If_true | apply If_false | apply If_not)
    | ((with_reducible apply VC.mk); exact vt)
    | ((with_reducible apply If_dec) <;> intro hc <;> (try (exfalso; omega)))
    | ((with_reducible apply If_any) <;> intro hc)
    | ((with_reducible first | apply PF.mk | apply DrawP.mk); (focus kernel_rfl))
    | ((with_reducible apply Same.mk); (focus rfl); (first | exact trivial | exact rfl))
    | (intro cap hcap)
    | ((fail_if_success (with_reducible apply st)); conv => whnf))
    · have hlt : y.1 < s.items.length := by omega
      have e2 : ((y.1 : Nat) : Int).toNat = y.1 := by omega
      rw [e2] at hc
      have hst := crash_step y.2.1 s.items ks y.1 hlt
      rw [if_pos hc] at hst
      simp only [e]
      have hm : s.items.getD y.1 (false, 0, []) ∈ s.items := by rw [show s.items.getD y.1 (false, 0, []) = s.items[y.1] by simp [List.getD_eq_getElem?_getD, hlt]]; exact List.getElem_mem hlt
      have hit := h0.2.2.2 _ hm
      generalize s.items.getD y.1 (false, 0, []) = it at *
      refine lay_call y.2.1 y.2.2 it.1 it.2.1 it.2.2 3 (by omega) ⟨rfl, trivial⟩ ⟨rfl, ⟨rfl, rfl, ⟨rfl, rfl, rfl⟩, trivial⟩, trivial⟩ ?_
      intro c' hc'
      repeat' (first
    | (with_reducible first | exact True.intro | apply And.intro | apply If_true | apply If_false | apply If_not)
    | ((with_reducible apply VC.mk); exact vt)
    | ((with_reducible apply If_dec) <;> intro hc <;> (try (exfalso; omega)))
    | ((with_reducible apply If_any) <;> intro hc)
    | ((with_reducible first | apply PF.mk | apply DrawP.mk); (focus kernel_rfl))
    | ((with_reducible apply Same.mk); (focus rfl); (first | exact trivial | exact rfl))
    | (intro cap hcap)
    | ((fail_if_success (with_reducible apply st)); conv => whnf))
      refine Round.mk ⟨(y.1 + 1, layL y.2.1 it.1 it.2.1 it.2.2, c'), ⟨by show y.1 + 1 ≤ _; omega, ?_, layL_le _ _ _ _ hit.1 hit.2 g3, hc'⟩, ?_, Fit.ren [0, 1, 2, 5] [] rfl rfl trivial ?_ ?_⟩
      · rw [← g2, hst]
      · show s.items.length - (y.1 + 1) < s.items.length - y.1; omega
      · repeat' (first
    | (with_reducible first | exact True.intro | apply And.intro | apply If_true | apply If_false | apply If_not)
    | ((with_reducible apply VC.mk); exact vt)
    | ((with_reducible apply If_dec) <;> intro hc <;> (try (exfalso; omega)))
    | ((with_reducible apply If_any) <;> intro hc)
    | ((with_reducible first | apply PF.mk | apply DrawP.mk); (focus kernel_rfl))
    | ((with_reducible apply Same.mk); (focus rfl); (first | exact trivial | exact rfl))
    | (intro cap hcap)
    | ((fail_if_success (with_reducible apply st)); conv => whnf))
      · repeat' (first
    | (with_reducible first | exact True.intro | apply And.intro | apply If_true | apply If_false | apply If_not)
    | ((with_reducible apply VC.mk); exact vt)
    | ((with_reducible apply If_dec) <;> intro hc <;> (try (exfalso; omega)))
    | ((with_reducible apply If_any) <;> intro hc)
    | ((with_reducible first | apply PF.mk | apply DrawP.mk); (focus kernel_rfl))
    | ((with_reducible apply Same.mk); (focus rfl); (first | exact trivial | exact rfl))
    | (intro cap hcap)
    | ((fail_if_success (with_reducible apply st)); conv => whnf))
    · have hlt : y.1 < s.items.length := by omega
      have e2 : ((y.1 : Nat) : Int).toNat = y.1 := by omega
      rw [e2] at hc
      have hst := crash_step y.2.1 s.items ks y.1 hlt
      rw [hc, if_neg (by decide)] at hst
      refine Round.mk ⟨(y.1 + 1, y.2.1, y.2.2), ⟨by show y.1 + 1 ≤ _; omega, ?_, g3, g4⟩, ?_, Fit.ren [0, 1, 2, 3] [] rfl rfl trivial ?_ ?_⟩
      · rw [← g2, hst]
      · show s.items.length - (y.1 + 1) < s.items.length - y.1; omega
      · repeat' (first
    | (with_reducible first | exact True.intro | apply And.intro | apply If_true | apply If_false | apply If_not)
    | ((with_reducible apply VC.mk); exact vt)
    | ((with_reducible apply If_dec) <;> intro hc <;> (try (exfalso; omega)))
    | ((with_reducible apply If_any) <;> intro hc)
    | ((with_reducible first | apply PF.mk | apply DrawP.mk); (focus kernel_rfl))
    | ((with_reducible apply Same.mk); (focus rfl); (first | exact trivial | exact rfl))
    | (intro cap hcap)
    | ((fail_if_success (with_reducible apply st)); conv => whnf))
      · repeat' (first
    | (with_reducible first | exact True.intro | apply And.intro | apply If_true | apply If_false | apply If_not)
    | ((with_reducible apply VC.mk); exact vt)
    | ((with_reducible apply If_dec) <;> intro hc <;> (try (exfalso; omega)))
    | ((with_reducible apply If_any) <;> intro hc)
    | ((with_reducible first | apply PF.mk | apply DrawP.mk); (focus kernel_rfl))
    | ((with_reducible apply Same.mk); (focus rfl); (first | exact trivial | exact rfl))
    | (intro cap hcap)
    | ((fail_if_success (with_reducible apply st)); conv => whnf))
    · have hlt : y.1 < s.items.length := by omega
      have hst := crash_step y.2.1 s.items ks y.1 hlt
      rw [show ks.getD y.1 false = false by simp [List.getD_eq_getElem?_getD, List.getElem?_eq_none (show ks.length ≤ y.1 by omega)], if_neg (by decide)] at hst
      refine Round.mk ⟨(y.1 + 1, y.2.1, y.2.2), ⟨by show y.1 + 1 ≤ _; omega, ?_, g3, g4⟩, ?_, Fit.ren [0, 1, 2, 3] [] rfl rfl trivial ?_ ?_⟩
      · rw [← g2, hst]
      · show s.items.length - (y.1 + 1) < s.items.length - y.1; omega
      · repeat' (first
    | (with_reducible first | exact True.intro | apply And.intro | apply If_true | apply If_false | apply If_not)
    | ((with_reducible apply VC.mk); exact vt)
    | ((with_reducible apply If_dec) <;> intro hc <;> (try (exfalso; omega)))
    | ((with_reducible apply If_any) <;> intro hc)
    | ((with_reducible first | apply PF.mk | apply DrawP.mk); (focus kernel_rfl))
    | ((with_reducible apply Same.mk); (focus rfl); (first | exact trivial | exact rfl))
    | (intro cap hcap)
    | ((fail_if_success (with_reducible apply st)); conv => whnf))
      · repeat' (first
    | (with_reducible first | exact True.intro | apply And.intro | apply If_true | apply If_false | apply If_not)
    | ((with_reducible apply VC.mk); exact vt)
    | ((with_reducible apply If_dec) <;> intro hc <;> (try (exfalso; omega)))
    | ((with_reducible apply If_any) <;> intro hc)
    | ((with_reducible first | apply PF.mk | apply DrawP.mk); (focus kernel_rfl))
    | ((with_reducible apply Same.mk); (focus rfl); (first | exact trivial | exact rfl))
    | (intro cap hcap)
    | ((fail_if_success (with_reducible apply st)); conv => whnf))
    · have hres : crashL s.safe s.items ks = y.2.1 := by
        rw [← g2, List.drop_eq_nil_of_le (show s.items.length ≤ y.1 by omega)]
        simp [crashL]
      rw [hres] at hk
      refine Fin.ren [0, 1, 2] [3] (.im true 1 y.2.1.length (.ints .u8 y.2.1)) (s.chs c1 c2) rfl rfl ⟨trivial, trivial⟩ ?_ ?_ hk
      · repeat' (first
    | (with_reducible first | exact True.intro | apply And.intro | apply If_true | apply If_false | apply If_not)
    | ((with_reducible apply VC.mk); exact vt)
    | ((with_reducible apply If_dec) <;> intro hc <;> (try (exfalso; omega)))
    | ((with_reducible apply If_any) <;> intro hc)
    | ((with_reducible first | apply PF.mk | apply DrawP.mk); (focus kernel_rfl))
    | ((with_reducible apply Same.mk); (focus rfl); (first | exact trivial | exact rfl))
    | (intro cap hcap)
    | ((fail_if_success (with_reducible apply st)); conv => whnf))
      · repeat' (first
    | (with_reducible first | exact True.intro | apply And.intro | apply If_true | apply If_false | apply If_not)
    | ((with_reducible apply VC.mk); exact vt)
    | ((with_reducible apply If_dec) <;> intro hc <;> (try (exfalso; omega)))
    | ((with_reducible apply If_any) <;> intro hc)
    | ((with_reducible first | apply PF.mk | apply DrawP.mk); (focus kernel_rfl))
    | ((with_reducible apply Same.mk); (focus rfl); (first | exact trivial | exact rfl))
    | (intro cap hcap)
    | ((fail_if_success (with_reducible apply st)); conv => whnf))
        all_goals refine VC.mk ⟨rfl, ?_⟩
        all_goals simp only [List.drop_zero, List.take_length]
end Go.Proofs.Ytcfmlnddmpiemaa.Sx


set_option maxRecDepth 10000
namespace Go.Proofs.Ytcfmlnddmpiemaa.Sx
open Go.RowKit Go.Proofs.Ytcfmlnddmpiemaa.Sx.Tb
/-- A disk's file, in one piece. -/
def DF.κ (s : DF) (y : List Nat) : Prop := s.now.length ≤ y.getD 0 0 ∧ s.items.length ≤ y.getD 1 0
def DF.cs (s : DF) (y : List Nat) : List Chunk := s.chs (y.getD 0 0) (y.getD 1 0)
def DF.pk (s : DF) : Chunk := .pack [] 3 s.κ s.cs
theorem DF.cs_lives (s : DF) (y : List Nat) : ∀ c ∈ s.cs y, c.lives := s.nd _ _
theorem DF.pk_noF (s : DF) : ChunkNoF s.pk := by
  refine .pack (fun y c hc => ?_)
  have : c = s.st 1 2 (y.getD 0 0) (y.getD 1 0) ∨ c = s.nowC (y.getD 0 0) ∨ c = s.itC (y.getD 1 0) := by simpa [DF.cs, DF.chs] using hc
  rcases this with rfl | rfl | rfl
  · exact s.st_noF _ _ _ _
  · exact s.now_noF _
  · exact s.it_noF _
theorem DF.goodP (s : DF) {v : AV} (h : v.noF) : Good 1 v [s.pk] := ⟨h, fun c hc => by simp at hc; subst hc; exact s.pk_noF, Nat.le_refl _⟩
theorem DF.ndP (s : DF) : ∀ c ∈ [s.pk], c.lives := by intro c hc; simp at hc; subst hc; trivial
theorem fix1 {N : Nat} {σ : List Nat} : ∀ i, i < 1 → fren (0 :: σ) N i = i := fun i hi => by
  have : i = 0 := by omega
  subst this; rfl
theorem DF.fin {s : DF} {c1 c2 : Nat} {v : AV} {k : K} (h : s.now.length ≤ c1 ∧ s.items.length ≤ c2) (hk : k v [s.pk]) (hv : v.inN 1 := by simp [AV.inN, inNs, Cont.inN]) : Fin 1 v (s.chs c1 c2) k := by
  refine Fin.pk (Pk.pack [0, 1, 2] [] s.κ s.cs [c1, c2] rfl h ⟨rfl, rfl, rfl, trivial⟩ ⟨trivial, trivial⟩) ?_
  exact Fin.ren [0] [] v [s.pk] rfl rfl trivial ⟨VC.mk ⟨rfl, rfl, rfl, rfl⟩, trivial⟩ (AV.le_refl fix1 hv) hk
theorem itAV_le {H : List Chunk} {fz : List Nat} {f : Nat → Nat} {ph : Nat → Bool} (x : Bool × Int × List Int) : les H fz f ph (itAV x) (itAV x) := ⟨VC.mk rfl, VC.mk rfl, ⟨VC.mk ⟨rfl, rfl, rfl⟩, VC.mk ⟨rfl, rfl⟩⟩, trivial⟩
theorem DF.finm {s : DF} {c1 c2 : Nat} {v : AV} {k : K} (h : s.now.length ≤ c1 ∧ s.items.length ≤ c2) (hk : k v [s.pk]) (hv : v.inN 1 := by simp [AV.inN, inNs, Cont.inN]) : Fin 1 v (s.chm c1 c2) k := by
  refine Fin.fit (Fit.ren (E' := [(0, v)]) (H' := s.chs c1 c2) [0, 3, 4] [] rfl rfl trivial ⟨?_, ?_, ?_, trivial⟩ ⟨AV.le_refl fix1 hv, trivial⟩) (DF.fin h hk hv)
  · exact ⟨VC.mk ⟨rfl, rfl⟩, VC.mk ⟨rfl, rfl, rfl, rfl, rfl⟩, ⟨VC.mk ⟨rfl, rfl, rfl⟩, VC.mk ⟨rfl, rfl⟩⟩, VC.mk ⟨rfl, rfl, rfl, rfl, rfl⟩, VC.mk rfl, VC.mk rfl, VC.mk rfl, VC.mk rfl, trivial⟩
  · exact ⟨VC.mk ⟨rfl, rfl⟩, VC.mk ⟨rfl, List.prefix_rfl⟩⟩
  · exact ⟨VC.mk ⟨rfl, rfl⟩, VC.mk ⟨rfl, Nat.le_refl _⟩, fun j _ => itAV_le _⟩
theorem read_K : ConOk Go.Proofs.Try.prog 102 (Con.of (DF × Int × Int) (Int × List Int) (fun (s, at_, n) => [.p 0 0 1 0, .v (.int .i64 at_), .v (.int .i64 n)]) (fun (s, at_, n) => [s.pk]) (fun (s, at_, n) => 0 ≤ s.ops ∧ s.ops ≤ 1099511627776 ∧ s.now.length ≤ 4194304) (fun (s, at_, n) (r, l) => (r = 5 ∧ s.refused ∧ l = [] ∨ r = 4 ∧ ¬ s.refused ∧ ¬ (0 ≤ at_ ∧ 0 ≤ n ∧ at_ ≤ s.now.length ∧ n ≤ s.now.length - at_) ∧ l = [] ∨ r = 0 ∧ ¬ s.refused ∧ 0 ≤ at_ ∧ 0 ≤ n ∧ at_ ≤ s.now.length ∧ n ≤ s.now.length - at_ ∧ l = (s.now.drop at_.toNat).take n.toNat)) (fun (s, at_, n) (r, l) => .tup [.im true 1 l.length (.ints .u8 l), .v (.int .i64 r)]) (fun (s, at_, n) (r, l) => [DF.pk (s.asked)])) := by
  refine conOk_unpack (T := tab) mix Go.Proofs.Try.func102 (by decide +kernel) (by kernel_rfl) [] [] ?_ ?_ ?_ (fun _ => []) 3 (fun x => x.1.κ) (fun x => x.1.cs) (by decide) (fun x => x.1.cs_lives) (fun x => ⟨_, rfl⟩) ?_
  · rintro ⟨s, at_, n⟩ h0; rw [Go.Proofs.Try.ntmps102]; exact Nat.le_of_ble_eq_true rfl
  · rintro ⟨s, at_, n⟩ k h0 hk ⟨r, l⟩ hr; exact ⟨hk (r, l) hr, DF.goodP _ (by simp [AV.noF, noFs, Cont.noF])⟩
  · rintro ⟨s, at_, n⟩ h0; exact DF.ndP s
  · rintro ⟨s, at_, n⟩ k y h0 hk hy; exact read_c s _ _ at_ n ⟨h0.1, h0.2.1, h0.2.2, hy.1⟩ _ (fun r l hr => DF.fin (s := s.asked) hy (hk (r, l) hr))
theorem read_at {avs : List AV} {H : List Chunk} {k : K} (s : DF) (at_ : Int) (n : Int) (i : Nat) (h0 : 0 ≤ s.ops ∧ s.ops ≤ 1099511627776 ∧ s.now.length ≤ 4194304) (hc : nth H i = some s.pk) (ha : argsM H [i] [.p 0 0 1 0, .v (.int .i64 at_), .v (.int .i64 n)] avs)
    (h : ∀ (r : Int) (l : List Int), (r = 5 ∧ s.refused ∧ l = [] ∨ r = 4 ∧ ¬ s.refused ∧ ¬ (0 ≤ at_ ∧ 0 ≤ n ∧ at_ ≤ s.now.length ∧ n ≤ s.now.length - at_) ∧ l = [] ∨ r = 0 ∧ ¬ s.refused ∧ 0 ≤ at_ ∧ 0 ≤ n ∧ at_ ≤ s.now.length ∧ n ≤ s.now.length - at_ ∧ l = (s.now.drop at_.toNat).take n.toNat) → k (.tup [.im true 1 l.length (.ints .u8 l), .v (.int .i64 r)]) (H.set i (DF.pk (s.asked)))) : CallP Go.Proofs.Try.prog 102 avs H k :=
  CallP.mk ⟨_, read_K.real, Con.spec read_K, (s, at_, n), [i], ⟨h0, rfl, ⟨hc, trivial⟩, ha⟩, fun ⟨r, l⟩ hr => (numK_eq _ _).mpr (by simpa [putAll, AV.ren, rens, Cont.ren, Chunk.ren, DF.pk] using h r l hr)⟩
theorem len_K : ConOk Go.Proofs.Try.prog 22 (Con.of (DF) (Unit) (fun s => [.p 0 0 1 0]) (fun s => [s.pk]) (fun s => s.now.length ≤ 1099511627776) (fun s _ => True) (fun s _ => .v (.int .i64 s.now.length)) (fun s _ => [DF.pk (s)])) := by
  refine conOk_unpack (T := tab) mix Go.Proofs.Try.func22 (by decide +kernel) (by kernel_rfl) [] [] ?_ ?_ ?_ (fun _ => []) 3 (fun x => x.κ) (fun x => x.cs) (by decide) (fun x => x.cs_lives) (fun x => ⟨_, rfl⟩) ?_
  · rintro s h0; rw [Go.Proofs.Try.ntmps22]; exact Nat.le_of_ble_eq_true rfl
  · rintro s k h0 hk u hr; exact ⟨hk u hr, DF.goodP _ (by simp [AV.noF, noFs, Cont.noF])⟩
  · rintro s h0; exact DF.ndP s
  · rintro s k y h0 hk hy; exact len_c s _ _ h0 _ (DF.fin (s := s) hy (hk () trivial))
theorem len_at {avs : List AV} {H : List Chunk} {k : K} (s : DF) (i : Nat) (h0 : s.now.length ≤ 1099511627776) (hc : nth H i = some s.pk) (ha : argsM H [i] [.p 0 0 1 0] avs)
    (h : True → k (.v (.int .i64 s.now.length)) (H.set i (DF.pk (s)))) : CallP Go.Proofs.Try.prog 22 avs H k :=
  CallP.mk ⟨_, len_K.real, Con.spec len_K, s, [i], ⟨h0, rfl, ⟨hc, trivial⟩, ha⟩, fun _ hr => (numK_eq _ _).mpr (by simpa [putAll, AV.ren, rens, Cont.ren, Chunk.ren, DF.pk] using h  hr)⟩
theorem bytes_K : ConOk Go.Proofs.Try.prog 29 (Con.of (DF) (List Int) (fun s => [.p 0 0 1 0]) (fun s => [s.pk]) (fun s => s.now.length ≤ 1099511627776) (fun s l => l = s.now) (fun s l => .im true 1 l.length (.ints .u8 l)) (fun s l => [DF.pk (s)])) := by
  refine conOk_unpack (T := tab) mix Go.Proofs.Try.func29 (by decide +kernel) (by kernel_rfl) [] [] ?_ ?_ ?_ (fun _ => []) 3 (fun x => x.κ) (fun x => x.cs) (by decide) (fun x => x.cs_lives) (fun x => ⟨_, rfl⟩) ?_
  · rintro s h0; rw [Go.Proofs.Try.ntmps29]; exact Nat.le_of_ble_eq_true rfl
  · rintro s k h0 hk l hr; exact ⟨hk l hr, DF.goodP _ (by simp [AV.noF, noFs, Cont.noF])⟩
  · rintro s h0; exact DF.ndP s
  · rintro s k y h0 hk hy; exact bytes_c s _ _ h0 _ (DF.fin (s := s) hy (hk _ rfl))
theorem bytes_at {avs : List AV} {H : List Chunk} {k : K} (s : DF) (i : Nat) (h0 : s.now.length ≤ 1099511627776) (hc : nth H i = some s.pk) (ha : argsM H [i] [.p 0 0 1 0] avs)
    (h : ∀ (l : List Int), l = s.now → k (.im true 1 l.length (.ints .u8 l)) (H.set i (DF.pk (s)))) : CallP Go.Proofs.Try.prog 29 avs H k :=
  CallP.mk ⟨_, bytes_K.real, Con.spec bytes_K, s, [i], ⟨h0, rfl, ⟨hc, trivial⟩, ha⟩, fun l hr => (numK_eq _ _).mpr (by simpa [putAll, AV.ren, rens, Cont.ren, Chunk.ren, DF.pk] using h l hr)⟩
theorem stop_K : ConOk Go.Proofs.Try.prog 17 (Con.of (DF × Int) (Unit) (fun (s, n) => [.p 0 0 1 0, .v (.int .i64 n)]) (fun (s, n) => [s.pk]) (fun (s, n) => 0 ≤ s.ops ∧ s.ops ≤ 1099511627776) (fun (s, n) _ => True) (fun (s, n) _ => .tup []) (fun (s, n) _ => [DF.pk ({ s with stop := if 0 < n ∧ n ≤ 65536 then s.ops + n else 0 })])) := by
  refine conOk_unpack (T := tab) mix Go.Proofs.Try.func17 (by decide +kernel) (by kernel_rfl) [] [] ?_ ?_ ?_ (fun _ => []) 3 (fun x => x.1.κ) (fun x => x.1.cs) (by decide) (fun x => x.1.cs_lives) (fun x => ⟨_, rfl⟩) ?_
  · rintro ⟨s, n⟩ h0; rw [Go.Proofs.Try.ntmps17]; exact Nat.le_of_ble_eq_true rfl
  · rintro ⟨s, n⟩ k h0 hk u hr; exact ⟨hk u hr, DF.goodP _ (by simp [AV.noF, noFs, Cont.noF])⟩
  · rintro ⟨s, n⟩ h0; exact DF.ndP s
  · rintro ⟨s, n⟩ k y h0 hk hy; exact stop_c s _ _ n h0 _ (DF.fin (s := { s with stop := if 0 < n ∧ n ≤ 65536 then s.ops + n else 0 }) hy (hk () trivial))
theorem stop_at {avs : List AV} {H : List Chunk} {k : K} (s : DF) (n : Int) (i : Nat) (h0 : 0 ≤ s.ops ∧ s.ops ≤ 1099511627776) (hc : nth H i = some s.pk) (ha : argsM H [i] [.p 0 0 1 0, .v (.int .i64 n)] avs)
    (h : True → k (.tup []) (H.set i (DF.pk ({ s with stop := if 0 < n ∧ n ≤ 65536 then s.ops + n else 0 })))) : CallP Go.Proofs.Try.prog 17 avs H k :=
  CallP.mk ⟨_, stop_K.real, Con.spec stop_K, (s, n), [i], ⟨h0, rfl, ⟨hc, trivial⟩, ha⟩, fun _ hr => (numK_eq _ _).mpr (by simpa [putAll, AV.ren, rens, Cont.ren, Chunk.ren, DF.pk] using h  hr)⟩
theorem crash_K : ConOk Go.Proofs.Try.prog 19 (Con.of (DF × List Bool) (List Int) (fun (s, ks) => [.p 0 0 1 0, .im false 1 ks.length (boolsC ks)]) (fun (s, ks) => [s.pk]) (fun (s, ks) => s.safe.length ≤ 4194304 ∧ ks.length ≤ 1099511627776 ∧ s.items.length ≤ 1099511627776 ∧ ∀ it ∈ s.items, 0 ≤ it.2.1 ∧ it.2.1 + it.2.2.length ≤ 4194304) (fun (s, ks) l => l = crashL s.safe s.items ks) (fun (s, ks) l => .im true 1 l.length (.ints .u8 l)) (fun (s, ks) l => [DF.pk (s)])) := by
  refine conOk_unpack (T := tab) mix Go.Proofs.Try.func19 (by decide +kernel) (by kernel_rfl) [] [] ?_ ?_ ?_ (fun _ => []) 3 (fun x => x.1.κ) (fun x => x.1.cs) (by decide) (fun x => x.1.cs_lives) (fun x => ⟨_, rfl⟩) ?_
  · rintro ⟨s, ks⟩ h0; rw [Go.Proofs.Try.ntmps19]; exact Nat.le_of_ble_eq_true rfl
  · rintro ⟨s, ks⟩ k h0 hk l hr; exact ⟨hk l hr, DF.goodP _ (by simp [AV.noF, noFs, Cont.noF])⟩
  · rintro ⟨s, ks⟩ h0; exact DF.ndP s
  · rintro ⟨s, ks⟩ k y h0 hk hy; exact crash_c s _ _ ks h0 _ (DF.fin (s := s) hy (hk _ rfl))
theorem crash_at {avs : List AV} {H : List Chunk} {k : K} (s : DF) (ks : List Bool) (i : Nat) (h0 : s.safe.length ≤ 4194304 ∧ ks.length ≤ 1099511627776 ∧ s.items.length ≤ 1099511627776 ∧ ∀ it ∈ s.items, 0 ≤ it.2.1 ∧ it.2.1 + it.2.2.length ≤ 4194304) (hc : nth H i = some s.pk) (ha : argsM H [i] [.p 0 0 1 0, .im false 1 ks.length (boolsC ks)] avs)
    (h : ∀ (l : List Int), l = crashL s.safe s.items ks → k (.im true 1 l.length (.ints .u8 l)) (H.set i (DF.pk (s)))) : CallP Go.Proofs.Try.prog 19 avs H k :=
  CallP.mk ⟨_, crash_K.real, Con.spec crash_K, (s, ks), [i], ⟨h0, rfl, ⟨hc, trivial⟩, ha⟩, fun l hr => (numK_eq _ _).mpr (by simpa [putAll, AV.ren, rens, Cont.ren, Chunk.ren, DF.pk] using h l hr)⟩
theorem flush_K : ConOk Go.Proofs.Try.prog 69 (Con.of (DF) (Int × DF) (fun s => [.p 0 0 1 0]) (fun s => [s.pk]) (fun s => 0 ≤ s.ops ∧ s.ops ≤ 1099511627776 ∧ s.now.length ≤ 1099511627776) (fun s (r, s') => (r = 5 ∧ s.refused ∧ s' = s.asked ∨ r = 0 ∧ ¬ s.refused ∧ s' = s.flushed)) (fun s (r, s') => .v (.int .i64 r)) (fun s (r, s') => [DF.pk (s')])) := by
  refine conOk_unpack (T := tab) mix Go.Proofs.Try.func69 (by decide +kernel) (by kernel_rfl) [] [] ?_ ?_ ?_ (fun _ => []) 3 (fun x => x.κ) (fun x => x.cs) (by decide) (fun x => x.cs_lives) (fun x => ⟨_, rfl⟩) ?_
  · rintro s h0; rw [Go.Proofs.Try.ntmps69]; exact Nat.le_of_ble_eq_true rfl
  · rintro s k h0 hk ⟨r, s'⟩ hr; exact ⟨hk (r, s') hr, DF.goodP _ (by simp [AV.noF, noFs, Cont.noF])⟩
  · rintro s h0; exact DF.ndP s
  · rintro s k y h0 hk hy; exact flush_c s _ _ h0 _ (fun r s' c2' hr => DF.finm (s := s') (by rcases hr with ⟨_, _, rfl, rfl⟩ | ⟨_, _, rfl, rfl⟩ <;> first | exact hy | exact ⟨hy.1, Nat.le_refl _⟩) (hk (r, s') (by rcases hr with ⟨a, b, c, _⟩ | ⟨a, b, c, _⟩ <;> simp_all)))
theorem flush_at {avs : List AV} {H : List Chunk} {k : K} (s : DF) (i : Nat) (h0 : 0 ≤ s.ops ∧ s.ops ≤ 1099511627776 ∧ s.now.length ≤ 1099511627776) (hc : nth H i = some s.pk) (ha : argsM H [i] [.p 0 0 1 0] avs)
    (h : ∀ (r : Int) (s' : DF), (r = 5 ∧ s.refused ∧ s' = s.asked ∨ r = 0 ∧ ¬ s.refused ∧ s' = s.flushed) → k (.v (.int .i64 r)) (H.set i (DF.pk (s')))) : CallP Go.Proofs.Try.prog 69 avs H k :=
  CallP.mk ⟨_, flush_K.real, Con.spec flush_K, s, [i], ⟨h0, rfl, ⟨hc, trivial⟩, ha⟩, fun ⟨r, s'⟩ hr => (numK_eq _ _).mpr (by simpa [putAll, AV.ren, rens, Cont.ren, Chunk.ren, DF.pk] using h r s' hr)⟩
theorem write_K : ConOk Go.Proofs.Try.prog 68 (Con.of (DF × Int × List Int) (Int × DF) (fun (s, at_, xs) => [.p 0 0 1 0, .v (.int .i64 at_), .im false 1 xs.length (.ints .u8 xs)]) (fun (s, at_, xs) => [s.pk]) (fun (s, at_, xs) => 0 ≤ s.ops ∧ s.ops ≤ 1099511627776 ∧ 0 ≤ s.wrote ∧ s.wrote ≤ 1099511627776 ∧ xs.length ≤ 1099511627776 ∧ s.items.length ≤ 1099511627776 ∧ s.now.length ≤ 4194304) (fun (s, at_, xs) (r, s') => (r = 5 ∧ s.refused ∧ s' = s.asked ∨ r = 4 ∧ ¬ s.refused ∧ at_ < 0 ∧ s' = s.asked ∨ r = 3 ∧ ¬ s.refused ∧ 0 ≤ at_ ∧ 4194304 - at_ < xs.length ∧ s' = s.asked ∨ r = 0 ∧ ¬ s.refused ∧ 0 ≤ at_ ∧ xs.length ≤ 4194304 - at_ ∧ s' = s.wrote1 at_ xs)) (fun (s, at_, xs) (r, s') => .v (.int .i64 r)) (fun (s, at_, xs) (r, s') => [DF.pk (s')])) := by
  refine conOk_unpack (T := tab) mix Go.Proofs.Try.func68 (by decide +kernel) (by kernel_rfl) [] p68 ?_ ?_ ?_ (fun _ => []) 3 (fun x => x.1.κ) (fun x => x.1.cs) (by decide) (fun x => x.1.cs_lives) (fun x => ⟨_, rfl⟩) ?_
  · rintro ⟨s, at_, xs⟩ h0; rw [Go.Proofs.Try.ntmps68]; exact Nat.le_of_ble_eq_true rfl
  · rintro ⟨s, at_, xs⟩ k h0 hk ⟨r, s'⟩ hr; exact ⟨hk (r, s') hr, DF.goodP _ (by simp [AV.noF, noFs, Cont.noF])⟩
  · rintro ⟨s, at_, xs⟩ h0; exact DF.ndP s
  · rintro ⟨s, at_, xs⟩ k y h0 hk hy; exact write_c s _ _ at_ xs ⟨h0.1, h0.2.1, h0.2.2.1, h0.2.2.2.1, h0.2.2.2.2.1, hy.1, hy.2, h0.2.2.2.2.2.1, h0.2.2.2.2.2.2⟩ _ (fun r s' c1 c2 hr h1 h2 => DF.finm (s := s') ⟨h1, h2⟩ (hk (r, s') hr))
theorem write_at {avs : List AV} {H : List Chunk} {k : K} (s : DF) (at_ : Int) (xs : List Int) (i : Nat) (h0 : 0 ≤ s.ops ∧ s.ops ≤ 1099511627776 ∧ 0 ≤ s.wrote ∧ s.wrote ≤ 1099511627776 ∧ xs.length ≤ 1099511627776 ∧ s.items.length ≤ 1099511627776 ∧ s.now.length ≤ 4194304) (hc : nth H i = some s.pk) (ha : argsM H [i] [.p 0 0 1 0, .v (.int .i64 at_), .im false 1 xs.length (.ints .u8 xs)] avs)
    (h : ∀ (r : Int) (s' : DF), (r = 5 ∧ s.refused ∧ s' = s.asked ∨ r = 4 ∧ ¬ s.refused ∧ at_ < 0 ∧ s' = s.asked ∨ r = 3 ∧ ¬ s.refused ∧ 0 ≤ at_ ∧ 4194304 - at_ < xs.length ∧ s' = s.asked ∨ r = 0 ∧ ¬ s.refused ∧ 0 ≤ at_ ∧ xs.length ≤ 4194304 - at_ ∧ s' = s.wrote1 at_ xs) → k (.v (.int .i64 r)) (H.set i (DF.pk (s')))) : CallP Go.Proofs.Try.prog 68 avs H k :=
  CallP.mk ⟨_, write_K.real, Con.spec write_K, (s, at_, xs), [i], ⟨h0, rfl, ⟨hc, trivial⟩, ha⟩, fun ⟨r, s'⟩ hr => (numK_eq _ _).mpr (by simpa [putAll, AV.ren, rens, Cont.ren, Chunk.ren, DF.pk] using h r s' hr)⟩
/-- A new file. -/
def DF.mk0 (l : List Int) : DF := { now := l, safe := l, items := [], ops := 0, fail := 0, stop := 0, wrote := 0 }
theorem new_K : ConOk Go.Proofs.Try.prog 11 ⟨List Int, fun l => [.im false 1 l.length (.ints .u8 l)], fun _ => [], fun l => l.length ≤ 1099511627776, fun l k => (4194304 < l.length → k (.tup [.v (.pointer none), .v (.int .i64 3)]) []) ∧ (l.length ≤ 4194304 → k (.tup [.p 0 0 1 0, .v (.int .i64 0)]) [(DF.mk0 l).pk])⟩ := by
  refine conOk_fin (T := tab) mix Go.Proofs.Try.func11 (by decide +kernel) (by kernel_rfl) [] [] ?_ ?_ ?_ ?_
  · rintro l h0; rw [Go.Proofs.Try.ntmps11]; exact Nat.le_of_ble_eq_true rfl
  · rintro l k h0 hk; exact ⟨fun h => ⟨hk.1 h, ⟨by simp [AV.noF, noFs], (fun c hc => by cases hc), Nat.le_refl _⟩⟩, fun h => ⟨hk.2 h, ⟨by simp [AV.noF, noFs], (fun c hc => by simp at hc; subst hc; exact DF.pk_noF _), Nat.zero_le _⟩⟩⟩
  · rintro l h0 c hc; cases hc
  · rintro l k h0 hk
    refine new_c l h0 _ (fun h => Fin.same (hk.1 h)) (fun h c hc => ?_)
    refine Fin.pk (Pk.pack [0, 1, 2] [] (DF.mk0 l).κ (DF.mk0 l).cs [c, 0] rfl ⟨hc, Nat.le_refl _⟩ ⟨rfl, rfl, rfl, trivial⟩ ⟨trivial, trivial⟩) ?_
    exact Fin.ren [0] [] (.tup [.p 0 0 1 0, .v (.int .i64 0)]) [(DF.mk0 l).pk] rfl rfl trivial ⟨VC.mk ⟨rfl, rfl, rfl, rfl⟩, trivial⟩ ⟨VC.mk ⟨rfl, rfl, rfl, rfl⟩, VC.mk rfl, trivial⟩ (hk.2 h)
theorem new_at {avs : List AV} {H : List Chunk} {k : K} (l : List Int) (h0 : l.length ≤ 1099511627776) (ha : argsM H [] [.im false 1 l.length (.ints .u8 l)] avs) (h1 : 4194304 < l.length → k (.tup [.v (.pointer none), .v (.int .i64 3)]) H)
    (h2 : l.length ≤ 4194304 → k (.tup [.p H.length 0 1 0, .v (.int .i64 0)]) (H ++ [(DF.mk0 l).pk])) : CallP Go.Proofs.Try.prog 11 avs H k :=
  CallP.mk ⟨_, new_K.real, Con.spec new_K, l, [], ⟨h0, rfl, trivial, ha⟩, fun h => (numK_eq _ _).mpr (by simpa [putAll, AV.ren, rens] using h1 h), fun h => (numK_eq _ _).mpr (by simpa [putAll, AV.ren, rens, fren, nth, Chunk.ren, DF.pk] using h2 h)⟩
end Go.Proofs.Ytcfmlnddmpiemaa.Sx

