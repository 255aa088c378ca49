import Derived.Test.YtjccknmgmommcaaSxT
import Derived.Test.YtjccknmgmommcaaSxEc
set_option linter.unusedVariables false
set_option linter.unusedSimpArgs false
set_option maxRecDepth 10000
namespace Go.Proofs.Ytjccknmgmommcaa.Sx
open Go.RowKit Go.Proofs.Ytjccknmgmommcaa.Sx.Tb
/-- A disk's file. -/
structure DF where
  now : List Int
  safe : List Int
  items : List (Bool × Int × List Int)
  ops : Int
  fail : Int
  stop : Int
  wrote : Int
def itAV (x : Bool × Int × List Int) : List AV := [.v (.bool x.1), .v (.int .i64 x.2.1), .im true 1 x.2.2.length (.ints .u8 x.2.2)]
def DF.st (s : DF) (i j c1 c2 : Nat) : Chunk := .blk 145 (.lst [.s i 0 1 s.now.length c1, .im true 1 s.safe.length (.ints .u8 s.safe), .s j 0 3 s.items.length c2, .v (.int .i64 s.ops), .v (.int .i64 s.fail), .v (.int .i64 s.stop), .v (.int .i64 s.wrote)]) 7
def DF.nowC (s : DF) (c : Nat) : Chunk := .blk 5 (.ints .u8 s.now) c
def DF.itC (s : DF) (c : Nat) : Chunk := .blk 147 (.recs 3 s.items.length (fun k => itAV (s.items.getD k (false, 0, [])))) (c * 3)
def DF.chs (s : DF) (c1 c2 : Nat) : List Chunk := [s.st 1 2 c1 c2, s.nowC c1, s.itC c2]
def DF.refused (s : DF) : Prop := (0 < s.fail ∧ s.ops + 1 = s.fail) ∨ (0 < s.stop ∧ s.stop ≤ s.ops + 1)
def DF.asked (s : DF) : DF := { s with ops := s.ops + 1 }
theorem mix : Go.Proofs.Try.prog.follows .mixedOrders = true := by kernel_rfl
theorem DF.nd (s : DF) (c1 c2 : Nat) : ∀ c ∈ s.chs c1 c2, c.lives := by
  intro c hc
  simp [DF.chs] at hc
  rcases hc with rfl | rfl | rfl <;> trivial
theorem itAV_noF (x : Bool × Int × List Int) : noFs (itAV x) := ⟨trivial, trivial, ⟨rfl, trivial⟩, trivial⟩
theorem DF.st_noF (s : DF) (i j c1 c2 : Nat) : ChunkNoF (s.st i j c1 c2) := .blk ⟨trivial, ⟨rfl, trivial⟩, trivial, trivial, trivial, trivial, trivial, trivial⟩
theorem DF.now_noF (s : DF) (c : Nat) : ChunkNoF (s.nowC c) := .blk trivial
theorem DF.it_noF (s : DF) (c : Nat) : ChunkNoF (s.itC c) := .blk (fun j _ => itAV_noF _)
theorem DF.good (s : DF) (c1 c2 : Nat) {v : AV} (h : v.noF) : Good 3 v (s.chs c1 c2) := by
  refine ⟨h, fun c hc => ?_, Nat.le_refl _⟩
  simp [DF.chs] at hc
  rcases hc with rfl | rfl | rfl
  · exact s.st_noF _ _ _ _
  · exact s.now_noF _
  · exact s.it_noF _
set_option maxHeartbeats 4000000 in
theorem ask_c (s : DF) (c1 c2 : Nat) (h0 : 0 ≤ s.ops ∧ s.ops ≤ 1099511627776) (k : K) (hk : ∀ r : Int, (r = 0 ∧ ¬ s.refused ∨ r = 5 ∧ s.refused) → k (.v (.int .i64 r)) (s.asked.chs c1 c2)) : evFunc tab [] p86 Go.Proofs.Try.f86 [.p 0 0 1 0] (s.chs c1 c2) k := by
  repeat' (first
 | (with_reducible first | exact True.intro | apply And.intro | apply If_true | apply If_false | apply If_not)
 | ((with_reducible apply VC.mk); (first | trivial | omega | (simp only [inR]; omega) | (exact ⟨rfl, List.prefix_rfl⟩) | (refine ⟨rfl, rfl, rfl, ?_, rfl⟩; (simp; done)) | (focus (repeat' (first | exact True.intro | apply And.intro | rfl | exact Nat.le_of_ble_eq_true rfl)); done) | (simp [inR, Cont.cells]; done) | (simp [inR, Cont.cells]; omega)))
 | ((with_reducible apply If_dec) <;> intro hc <;> (try (exfalso; omega)))
 | ((with_reducible apply If_any) <;> intro hc)
 | ((with_reducible first | apply PF.mk | apply DrawP.mk); (focus kernel_rfl))
 | ((with_reducible apply Same.mk); (focus rfl); (first | exact trivial | exact rfl))
 | (intro cap hcap)
 | ((fail_if_success (with_reducible first | apply Fin.mk | apply CallP.mk | apply LoopP.mk | apply VC.mk | apply falseMk | apply Round.mk | apply LookP.mk | apply RangeP.mk | apply NextP.mk | apply EntryP.mk | apply Eq.symm)); conv => whnf))
  all_goals first
    | exact Fin.same (hk 0 (.inl ⟨rfl, by unfold DF.refused; omega⟩))
    | exact Fin.same (hk 5 (.inr ⟨rfl, by unfold DF.refused; omega⟩))
theorem ask_ok : ConOk Go.Proofs.Try.prog 86 (Con.of (DF × Nat × Nat) Int (fun _ => [.p 0 0 1 0]) (fun x => x.1.chs x.2.1 x.2.2) (fun x => 0 ≤ x.1.ops ∧ x.1.ops ≤ 1099511627776) (fun x r => r = 0 ∧ ¬ x.1.refused ∨ r = 5 ∧ x.1.refused) (fun _ r => .v (.int .i64 r)) (fun x _ => x.1.asked.chs x.2.1 x.2.2)) :=
  conOk_rel (T := tab) mix Go.Proofs.Try.func86 (by decide +kernel) (by kernel_rfl) [] p86 (fun x => by rw [Go.Proofs.Try.ntmps86]; exact Nat.le_of_ble_eq_true rfl) (fun x r _ _ => x.1.asked.good _ _ trivial) (fun x _ => x.1.nd _ _)
    (fun x k h0 hk => ask_c x.1 x.2.1 x.2.2 h0 k hk)
/-- What a write, or a length, makes of bytes. -/
def layP (b : List Int) (end_ : Int) : List Int := b ++ List.replicate (end_.toNat - b.length) 0
def layL (b : List Int) (cut : Bool) (at_ : Int) (xs : List Int) : List Int :=
  let b1 := layP b (at_ + xs.length)
  if cut then b1.take at_.toNat else b1.take at_.toNat ++ xs ++ b1.drop (at_.toNat + xs.length)
theorem layP_id (b : List Int) (e : Int) (h : e.toNat ≤ b.length) : layP b e = b := by unfold layP; rw [show e.toNat - b.length = 0 by omega]; simp
theorem ask_call {avs : List AV} {H : List Chunk} {k : K} (s : DF) (c1 c2 : Nat) (σ : List Nat) (h0 : 0 ≤ s.ops ∧ s.ops ≤ 1099511627776) (hn : nodupN σ = true) (hc : chunksAt H (fren σ H.length) σ (s.chs c1 c2)) (ha : argsM H σ [.p 0 0 1 0] avs)
    (h : ∀ r : Int, (r = 0 ∧ ¬ s.refused ∨ r = 5 ∧ s.refused) → numK H.length (fun N => k (.v (.int .i64 r)) (putAll H σ ((s.asked.chs c1 c2).map (Chunk.ren (fren σ N)))))) : CallP Go.Proofs.Try.prog 86 avs H k :=
  CallP.mk ⟨_, ask_ok.real, Con.spec ask_ok, (s, c1, c2), σ, ⟨h0, hn, hc, ha⟩, h⟩
end Go.Proofs.Ytjccknmgmommcaa.Sx


set_option maxRecDepth 10000
namespace Go.Proofs.Ytjccknmgmommcaa.Sx
open Go.RowKit Go.Proofs.Ytjccknmgmommcaa.Sx.Tb
/-- How many bytes are of one sector. -/
def secN (at_ : Int) (n : Nat) : Nat := (min (n : Int) (512 - at_ % 512)).toNat
/-- Bytes are written, sector by sector. -/
def wrN : Nat → DF → Int → List Int → DF
  | 0, s, _, _ => s
  | n + 1, s, at_, xs => if xs = [] then s else wrN n { s with now := layL s.now false at_ (xs.take (secN at_ xs.length)), items := s.items ++ [(false, at_, xs.take (secN at_ xs.length))] } (at_ + secN at_ xs.length) (xs.drop (secN at_ xs.length))
theorem layL_len (b : List Int) (at_ : Int) (xs : List Int) (h : 0 ≤ at_) : (layL b false at_ xs).length = max b.length (at_.toNat + xs.length) := by
  unfold layL layP
  simp
  omega
def DF.wrote1 (s : DF) (at_ : Int) (xs : List Int) : DF := wrN xs.length { s with ops := s.ops + 1, wrote := s.wrote + 1 } at_ xs
end Go.Proofs.Ytjccknmgmommcaa.Sx


set_option maxRecDepth 10000
namespace Go.Proofs.Ytjccknmgmommcaa.Sx
open Go.RowKit Go.Proofs.Ytjccknmgmommcaa.Sx.Tb
theorem len_c (s : DF) (c1 c2 : Nat) (h : s.now.length ≤ 1099511627776) (k : K) (hk : k (.v (.int .i64 s.now.length)) (s.chs c1 c2)) : evFunc tab [] [] Go.Proofs.Try.f31 [.p 0 0 1 0] (s.chs c1 c2) k := by
  repeat' (first
 | (with_reducible first | exact True.intro | apply And.intro | apply If_true | apply If_false | apply If_not)
 | ((with_reducible apply VC.mk); (first | trivial | omega | (simp only [inR]; omega) | (exact ⟨rfl, List.prefix_rfl⟩) | (refine ⟨rfl, rfl, rfl, ?_, rfl⟩; (simp; done)) | (focus (repeat' (first | exact True.intro | apply And.intro | rfl | exact Nat.le_of_ble_eq_true rfl)); done) | (simp [inR, Cont.cells]; done) | (simp [inR, Cont.cells]; omega)))
 | ((with_reducible apply If_dec) <;> intro hc <;> (try (exfalso; omega)))
 | ((with_reducible apply If_any) <;> intro hc)
 | ((with_reducible first | apply PF.mk | apply DrawP.mk); (focus kernel_rfl))
 | ((with_reducible apply Same.mk); (focus rfl); (first | exact trivial | exact rfl))
 | (intro cap hcap)
 | ((fail_if_success (with_reducible first | apply Fin.mk | apply CallP.mk | apply LoopP.mk | apply VC.mk | apply falseMk | apply Round.mk | apply LookP.mk | apply RangeP.mk | apply NextP.mk | apply EntryP.mk | apply Eq.symm)); conv => whnf))
  exact Fin.same hk
/-- All is safe. -/
def DF.flushed (s : DF) : DF := { s with ops := s.ops + 1, safe := s.now, items := [] }
/-- Another length. -/
def DF.cutTo (s : DF) (n : Int) : DF := { s with ops := s.ops + 1, wrote := s.wrote + 1, items := s.items ++ [(true, n, [])], now := layL s.now true n [] }
theorem len_ok : ConOk Go.Proofs.Try.prog 31 (Con.fn (DF × Nat × Nat) (fun _ => [.p 0 0 1 0]) (fun x => x.1.chs x.2.1 x.2.2) (fun x => x.1.now.length ≤ 1099511627776) (fun x => .v (.int .i64 x.1.now.length)) (fun x => x.1.chs x.2.1 x.2.2)) :=
  conOk_fn (T := tab) mix Go.Proofs.Try.func31 (by decide +kernel) (by kernel_rfl) [] [] (fun x => by rw [Go.Proofs.Try.ntmps31]; exact Nat.le_of_ble_eq_true rfl) (fun x _ => x.1.good _ _ trivial) (fun x _ => x.1.nd _ _)
    (fun x k h0 hk => len_c x.1 x.2.1 x.2.2 h0 k hk)
theorem len_call {avs : List AV} {H : List Chunk} {k : K} (s : DF) (c1 c2 : Nat) (σ : List Nat) (h0 : s.now.length ≤ 1099511627776) (hn : nodupN σ = true) (hc : chunksAt H (fren σ H.length) σ (s.chs c1 c2)) (ha : argsM H σ [.p 0 0 1 0] avs)
    (h : numK H.length (fun N => k (.v (.int .i64 s.now.length)) (putAll H σ ((s.chs c1 c2).map (Chunk.ren (fren σ N)))))) : CallP Go.Proofs.Try.prog 31 avs H k :=
  CallP.mk ⟨_, len_ok.real, Con.spec len_ok, (s, c1, c2), σ, ⟨h0, hn, hc, ha⟩, h⟩
end Go.Proofs.Ytjccknmgmommcaa.Sx


set_option maxRecDepth 10000
namespace Go.Proofs.Ytjccknmgmommcaa.Sx
open Go.RowKit Go.Proofs.Ytjccknmgmommcaa.Sx.Tb
set_option maxHeartbeats 4000000 in
theorem new_c (l : List Int) (h : l.length ≤ 1099511627776) (k : K)
    (hk1 : 4194304 < l.length → k (.tup [.v (.pointer none), .v (.int .i64 3)]) [])
    (hk : l.length ≤ 4194304 → ∀ c, l.length ≤ c → k (.tup [.p 0 0 1 0, .v (.int .i64 0)]) (({ now := l, safe := l, items := [], ops := 0, fail := 0, stop := 0, wrote := 0 } : DF).chs c 0)) :
    evFunc tab [] [] Go.Proofs.Try.f17 [.im false 1 l.length (.ints .u8 l)] [] k := by
  repeat' (first
 | (with_reducible first | exact True.intro | apply And.intro | apply If_true | apply If_false | apply If_not)
 | ((with_reducible apply VC.mk); (first | trivial | omega | (simp only [inR]; omega) | (exact ⟨rfl, List.prefix_rfl⟩) | (refine ⟨rfl, rfl, rfl, ?_, rfl⟩; (simp; done)) | (focus (repeat' (first | exact True.intro | apply And.intro | rfl | exact Nat.le_of_ble_eq_true rfl)); done) | (simp [inR, Cont.cells]; done) | (simp [inR, Cont.cells]; omega)))
 | ((with_reducible apply If_dec) <;> intro hc <;> (try (exfalso; omega)))
 | ((with_reducible apply If_any) <;> intro hc)
 | ((with_reducible first | apply PF.mk | apply DrawP.mk); (focus kernel_rfl))
 | ((with_reducible apply Same.mk); (focus rfl); (first | exact trivial | exact rfl))
 | (intro cap hcap)
 | ((fail_if_success (with_reducible first | apply Fin.mk | apply CallP.mk | apply LoopP.mk | apply VC.mk | apply falseMk | apply Round.mk | apply LookP.mk | apply RangeP.mk | apply NextP.mk | apply EntryP.mk | apply Eq.symm)); conv => whnf))
  · exact Fin.same (hk1 (by omega))
  · rename_i capA hA
    refine Fin.ren [2, 0, 9] [1] (.tup [.p 0 0 1 0, .v (.int .i64 0)]) (({ now := l, safe := l, items := [], ops := 0, fail := 0, stop := 0, wrote := 0 } : DF).chs capA 0) rfl rfl ⟨trivial, trivial⟩ ?_ ?_ (hk (by omega) capA hA)
    · repeat' (first
 | (with_reducible first | exact True.intro | apply And.intro | apply If_true | apply If_false | apply If_not)
 | ((with_reducible apply VC.mk); (first | trivial | omega | (simp only [inR]; omega) | (exact ⟨rfl, List.prefix_rfl⟩) | (refine ⟨rfl, rfl, rfl, ?_, rfl⟩; (simp; done)) | (focus (repeat' (first | exact True.intro | apply And.intro | rfl | exact Nat.le_of_ble_eq_true rfl)); done) | (simp [inR, Cont.cells]; done) | (simp [inR, Cont.cells]; omega)))
 | ((with_reducible apply If_dec) <;> intro hc <;> (try (exfalso; omega)))
 | ((with_reducible apply If_any) <;> intro hc)
 | ((with_reducible first | apply PF.mk | apply DrawP.mk); (focus kernel_rfl))
 | ((with_reducible apply Same.mk); (focus rfl); (first | exact trivial | exact rfl))
 | (intro cap hcap)
 | ((fail_if_success (with_reducible first | apply Fin.mk | apply CallP.mk | apply LoopP.mk | apply VC.mk | apply falseMk | apply Round.mk | apply LookP.mk | apply RangeP.mk | apply NextP.mk | apply EntryP.mk | apply Eq.symm)); conv => whnf))
    · repeat' (first
 | (with_reducible first | exact True.intro | apply And.intro | apply If_true | apply If_false | apply If_not)
 | ((with_reducible apply VC.mk); (first | trivial | omega | (simp only [inR]; omega) | (exact ⟨rfl, List.prefix_rfl⟩) | (refine ⟨rfl, rfl, rfl, ?_, rfl⟩; (simp; done)) | (focus (repeat' (first | exact True.intro | apply And.intro | rfl | exact Nat.le_of_ble_eq_true rfl)); done) | (simp [inR, Cont.cells]; done) | (simp [inR, Cont.cells]; omega)))
 | ((with_reducible apply If_dec) <;> intro hc <;> (try (exfalso; omega)))
 | ((with_reducible apply If_any) <;> intro hc)
 | ((with_reducible first | apply PF.mk | apply DrawP.mk); (focus kernel_rfl))
 | ((with_reducible apply Same.mk); (focus rfl); (first | exact trivial | exact rfl))
 | (intro cap hcap)
 | ((fail_if_success (with_reducible first | apply Fin.mk | apply CallP.mk | apply LoopP.mk | apply VC.mk | apply falseMk | apply Round.mk | apply LookP.mk | apply RangeP.mk | apply NextP.mk | apply EntryP.mk | apply Eq.symm)); conv => whnf))
set_option maxHeartbeats 4000000 in
theorem read_c (s : DF) (c1 c2 : Nat) (at_ n : Int) (h0 : 0 ≤ s.ops ∧ s.ops ≤ 1099511627776 ∧ s.now.length ≤ 4194304 ∧ s.now.length ≤ c1) (k : K)
    (hk : ∀ (r : Int) (l : List Int), (r = 5 ∧ s.refused ∧ l = [] ∨ r = 4 ∧ ¬ s.refused ∧ ¬ (0 ≤ at_ ∧ 0 ≤ n ∧ at_ ≤ s.now.length ∧ n ≤ s.now.length - at_) ∧ l = [] ∨ r = 0 ∧ ¬ s.refused ∧ 0 ≤ at_ ∧ 0 ≤ n ∧ at_ ≤ s.now.length ∧ n ≤ s.now.length - at_ ∧ l = (s.now.drop at_.toNat).take n.toNat) → k (.tup [.im true 1 l.length (.ints .u8 l), .v (.int .i64 r)]) (s.asked.chs c1 c2)) : evFunc tab [] [] Go.Proofs.Try.f27 [.p 0 0 1 0, .v (.int .i64 at_), .v (.int .i64 n)] (s.chs c1 c2) k := by
  repeat' (first
 | (with_reducible first | exact True.intro | apply And.intro | apply If_true | apply If_false | apply If_not)
 | ((with_reducible apply VC.mk); (first | trivial | omega | (simp only [inR]; omega) | (exact ⟨rfl, List.prefix_rfl⟩) | (refine ⟨rfl, rfl, rfl, ?_, rfl⟩; (simp; done)) | (focus (repeat' (first | exact True.intro | apply And.intro | rfl | exact Nat.le_of_ble_eq_true rfl)); done) | (simp [inR, Cont.cells]; done) | (simp [inR, Cont.cells]; omega)))
 | ((with_reducible apply If_dec) <;> intro hc <;> (try (exfalso; omega)))
 | ((with_reducible apply If_any) <;> intro hc)
 | ((with_reducible first | apply PF.mk | apply DrawP.mk); (focus kernel_rfl))
 | ((with_reducible apply Same.mk); (focus rfl); (first | exact trivial | exact rfl))
 | (intro cap hcap)
 | ((fail_if_success (with_reducible first | apply Fin.mk | apply CallP.mk | apply LoopP.mk | apply VC.mk | apply falseMk | apply Round.mk | apply LookP.mk | apply RangeP.mk | apply NextP.mk | apply EntryP.mk | apply Eq.symm)); conv => whnf))
  refine ask_call s c1 c2 [0, 1, 2] (by omega) rfl ⟨rfl, rfl, rfl, trivial⟩ ⟨rfl, trivial⟩ ?_
  intro r hr
  rcases hr with ⟨rfl, hr⟩ | ⟨rfl, hr⟩
  case inr =>
    repeat' (first
 | (with_reducible first | exact True.intro | apply And.intro | apply If_true | apply If_false | apply If_not)
 | ((with_reducible apply VC.mk); (first | trivial | omega | (simp only [inR]; omega) | (exact ⟨rfl, List.prefix_rfl⟩) | (refine ⟨rfl, rfl, rfl, ?_, rfl⟩; (simp; done)) | (focus (repeat' (first | exact True.intro | apply And.intro | rfl | exact Nat.le_of_ble_eq_true rfl)); done) | (simp [inR, Cont.cells]; done) | (simp [inR, Cont.cells]; omega)))
 | ((with_reducible apply If_dec) <;> intro hc <;> (try (exfalso; omega)))
 | ((with_reducible apply If_any) <;> intro hc)
 | ((with_reducible first | apply PF.mk | apply DrawP.mk); (focus kernel_rfl))
 | ((with_reducible apply Same.mk); (focus rfl); (first | exact trivial | exact rfl))
 | (intro cap hcap)
 | ((fail_if_success (with_reducible first | apply Fin.mk | apply CallP.mk | apply LoopP.mk | apply VC.mk | apply falseMk | apply Round.mk | apply LookP.mk | apply RangeP.mk | apply NextP.mk | apply EntryP.mk | apply Eq.symm)); conv => whnf))
    refine Fin.ren [0, 1, 2] [] (.tup [.im true 1 0 (.ints .u8 []), .v (.int .i64 5)]) (s.asked.chs c1 c2) rfl rfl trivial ?_ ?_ (hk 5 [] (.inl ⟨rfl, hr, rfl⟩))
    · repeat' (first
 | (with_reducible first | exact True.intro | apply And.intro | apply If_true | apply If_false | apply If_not)
 | ((with_reducible apply VC.mk); (first | trivial | omega | (simp only [inR]; omega) | (exact ⟨rfl, List.prefix_rfl⟩) | (refine ⟨rfl, rfl, rfl, ?_, rfl⟩; (simp; done)) | (focus (repeat' (first | exact True.intro | apply And.intro | rfl | exact Nat.le_of_ble_eq_true rfl)); done) | (simp [inR, Cont.cells]; done) | (simp [inR, Cont.cells]; omega) | (simp [inR, Cont.cells, DF.asked]; done) | (simp [inR, Cont.cells, DF.asked]; omega)))
 | ((with_reducible apply If_dec) <;> intro hc <;> (try (exfalso; omega)))
 | ((with_reducible apply If_any) <;> intro hc)
 | ((with_reducible first | apply PF.mk | apply DrawP.mk); (focus kernel_rfl))
 | ((with_reducible apply Same.mk); (focus rfl); (first | exact trivial | exact rfl))
 | (intro cap hcap)
 | ((fail_if_success (with_reducible first | apply Fin.mk | apply CallP.mk | apply LoopP.mk | apply VC.mk | apply falseMk | apply Round.mk | apply LookP.mk | apply RangeP.mk | apply NextP.mk | apply EntryP.mk | apply Eq.symm)); conv => whnf))
    · repeat' (first
 | (with_reducible first | exact True.intro | apply And.intro | apply If_true | apply If_false | apply If_not)
 | ((with_reducible apply VC.mk); (first | trivial | omega | (simp only [inR]; omega) | (exact ⟨rfl, List.prefix_rfl⟩) | (refine ⟨rfl, rfl, rfl, ?_, rfl⟩; (simp; done)) | (focus (repeat' (first | exact True.intro | apply And.intro | rfl | exact Nat.le_of_ble_eq_true rfl)); done) | (simp [inR, Cont.cells]; done) | (simp [inR, Cont.cells]; omega)))
 | ((with_reducible apply If_dec) <;> intro hc <;> (try (exfalso; omega)))
 | ((with_reducible apply If_any) <;> intro hc)
 | ((with_reducible first | apply PF.mk | apply DrawP.mk); (focus kernel_rfl))
 | ((with_reducible apply Same.mk); (focus rfl); (first | exact trivial | exact rfl))
 | (intro cap hcap)
 | ((fail_if_success (with_reducible first | apply Fin.mk | apply CallP.mk | apply LoopP.mk | apply VC.mk | apply falseMk | apply Round.mk | apply LookP.mk | apply RangeP.mk | apply NextP.mk | apply EntryP.mk | apply Eq.symm)); conv => whnf))
  have err : ¬ (0 ≤ at_ ∧ 0 ≤ n ∧ at_ ≤ s.now.length ∧ n ≤ s.now.length - at_) → Fin 3 (.tup [.v (.slice none 0 0), .v (.int .i64 4)]) (s.asked.chs c1 c2) k := by
    intro h
    refine Fin.ren [0, 1, 2] [] (.tup [.im true 1 0 (.ints .u8 []), .v (.int .i64 4)]) (s.asked.chs c1 c2) rfl rfl trivial ?_ ?_ (hk 4 [] (.inr (.inl ⟨rfl, hr, h, rfl⟩)))
    · repeat' (first
 | (with_reducible first | exact True.intro | apply And.intro | apply If_true | apply If_false | apply If_not)
 | ((with_reducible apply VC.mk); (first | trivial | omega | (simp only [inR]; omega) | (exact ⟨rfl, List.prefix_rfl⟩) | (refine ⟨rfl, rfl, rfl, ?_, rfl⟩; (simp; done)) | (focus (repeat' (first | exact True.intro | apply And.intro | rfl | exact Nat.le_of_ble_eq_true rfl)); done) | (simp [inR, Cont.cells]; done) | (simp [inR, Cont.cells]; omega) | (simp [inR, Cont.cells, DF.asked]; done) | (simp [inR, Cont.cells, DF.asked]; omega)))
 | ((with_reducible apply If_dec) <;> intro hc <;> (try (exfalso; omega)))
 | ((with_reducible apply If_any) <;> intro hc)
 | ((with_reducible first | apply PF.mk | apply DrawP.mk); (focus kernel_rfl))
 | ((with_reducible apply Same.mk); (focus rfl); (first | exact trivial | exact rfl))
 | (intro cap hcap)
 | ((fail_if_success (with_reducible first | apply Fin.mk | apply CallP.mk | apply LoopP.mk | apply VC.mk | apply falseMk | apply Round.mk | apply LookP.mk | apply RangeP.mk | apply NextP.mk | apply EntryP.mk | apply Eq.symm)); conv => whnf))
    · repeat' (first
 | (with_reducible first | exact True.intro | apply And.intro | apply If_true | apply If_false | apply If_not)
 | ((with_reducible apply VC.mk); (first | trivial | omega | (simp only [inR]; omega) | (exact ⟨rfl, List.prefix_rfl⟩) | (refine ⟨rfl, rfl, rfl, ?_, rfl⟩; (simp; done)) | (focus (repeat' (first | exact True.intro | apply And.intro | rfl | exact Nat.le_of_ble_eq_true rfl)); done) | (simp [inR, Cont.cells]; done) | (simp [inR, Cont.cells]; omega)))
 | ((with_reducible apply If_dec) <;> intro hc <;> (try (exfalso; omega)))
 | ((with_reducible apply If_any) <;> intro hc)
 | ((with_reducible first | apply PF.mk | apply DrawP.mk); (focus kernel_rfl))
 | ((with_reducible apply Same.mk); (focus rfl); (first | exact trivial | exact rfl))
 | (intro cap hcap)
 | ((fail_if_success (with_reducible first | apply Fin.mk | apply CallP.mk | apply LoopP.mk | apply VC.mk | apply falseMk | apply Round.mk | apply LookP.mk | apply RangeP.mk | apply NextP.mk | apply EntryP.mk | apply Eq.symm)); conv => whnf))
  repeat' (first
 | (with_reducible first | exact True.intro | apply And.intro | apply If_true | apply If_false | apply If_not)
 | ((with_reducible apply VC.mk); (first | trivial | omega | (simp only [inR]; omega) | (exact ⟨rfl, List.prefix_rfl⟩) | (refine ⟨rfl, rfl, rfl, ?_, rfl⟩; (simp; done)) | (focus (repeat' (first | exact True.intro | apply And.intro | rfl | exact Nat.le_of_ble_eq_true rfl)); done) | (simp [inR, Cont.cells]; done) | (simp [inR, Cont.cells]; omega) | (simp [inR, Cont.cells, DF.asked]; done) | (simp [inR, Cont.cells, DF.asked]; omega)))
 | ((with_reducible apply If_dec) <;> intro hc <;> (try (exfalso; omega)))
 | ((with_reducible apply If_any) <;> intro hc)
 | ((with_reducible first | apply PF.mk | apply DrawP.mk); (focus kernel_rfl))
 | ((with_reducible apply Same.mk); (focus rfl); (first | exact trivial | exact rfl))
 | (intro cap hcap)
 | ((fail_if_success (with_reducible first | apply Fin.mk | apply CallP.mk | apply LoopP.mk | apply VC.mk | apply falseMk | apply Round.mk | apply LookP.mk | apply RangeP.mk | apply NextP.mk | apply EntryP.mk | apply Eq.symm)); conv => whnf))
  · exact err (by omega)
  · exact err (by omega)
  · refine len_call s.asked c1 c2 [0, 1, 2] (by show s.now.length ≤ _; omega) rfl ⟨rfl, rfl, rfl, trivial⟩ ⟨rfl, trivial⟩ ?_
    repeat' (first
 | (with_reducible first | exact True.intro | apply And.intro | apply If_true | apply If_false | apply If_not)
 | ((with_reducible apply VC.mk); (first | trivial | omega | (simp only [inR]; omega) | (exact ⟨rfl, List.prefix_rfl⟩) | (refine ⟨rfl, rfl, rfl, ?_, rfl⟩; (simp; done)) | (focus (repeat' (first | exact True.intro | apply And.intro | rfl | exact Nat.le_of_ble_eq_true rfl)); done) | (simp [inR, Cont.cells]; done) | (simp [inR, Cont.cells]; omega) | (simp [inR, Cont.cells, DF.asked]; done) | (simp [inR, Cont.cells, DF.asked]; omega)))
 | ((with_reducible apply If_dec) <;> intro hc <;> (try (exfalso; omega)))
 | ((with_reducible apply If_any) <;> intro hc)
 | ((with_reducible first | apply PF.mk | apply DrawP.mk); (focus kernel_rfl))
 | ((with_reducible apply Same.mk); (focus rfl); (first | exact trivial | exact rfl))
 | (intro cap hcap)
 | ((fail_if_success (with_reducible first | apply Fin.mk | apply CallP.mk | apply LoopP.mk | apply VC.mk | apply falseMk | apply Round.mk | apply LookP.mk | apply RangeP.mk | apply NextP.mk | apply EntryP.mk | apply Eq.symm)); conv => whnf))
    · have : (s.asked.now.length : Int) = s.now.length := rfl
      exact err (by omega)
    · have hsl : (s.asked.now.length : Int) = s.now.length := rfl
      refine len_call s.asked c1 c2 [0, 1, 2] (by show s.now.length ≤ _; omega) rfl ⟨rfl, rfl, rfl, trivial⟩ ⟨rfl, trivial⟩ ?_
      repeat' (first
 | (with_reducible first | exact True.intro | apply And.intro | apply If_true | apply If_false | apply If_not)
 | ((with_reducible apply VC.mk); (first | trivial | omega | (simp only [inR]; omega) | (exact ⟨rfl, List.prefix_rfl⟩) | (refine ⟨rfl, rfl, rfl, ?_, rfl⟩; (simp; done)) | (focus (repeat' (first | exact True.intro | apply And.intro | rfl | exact Nat.le_of_ble_eq_true rfl)); done) | (simp [inR, Cont.cells]; done) | (simp [inR, Cont.cells]; omega) | (simp [inR, Cont.cells, DF.asked]; done) | (simp [inR, Cont.cells, DF.asked]; omega)))
 | ((with_reducible apply If_dec) <;> intro hc <;> (try (exfalso; omega)))
 | ((with_reducible apply If_any) <;> intro hc)
 | ((with_reducible first | apply PF.mk | apply DrawP.mk); (focus kernel_rfl))
 | ((with_reducible apply Same.mk); (focus rfl); (first | exact trivial | exact rfl))
 | (intro cap hcap)
 | ((fail_if_success (with_reducible first | apply Fin.mk | apply CallP.mk | apply LoopP.mk | apply VC.mk | apply falseMk | apply Round.mk | apply LookP.mk | apply RangeP.mk | apply NextP.mk | apply EntryP.mk | apply Eq.symm)); conv => whnf))
      · exact err (by omega)
      · have hn : ((s.now.drop at_.toNat).take n.toNat).length = (at_ + n).toNat - at_.toNat := by rw [List.length_take, List.length_drop]; omega
        refine Fin.ren [0, 1, 2] [3] (.tup [.im true 1 ((s.now.drop at_.toNat).take n.toNat).length (.ints .u8 ((s.now.drop at_.toNat).take n.toNat)), .v (.int .i64 0)]) (s.asked.chs c1 c2) rfl rfl ⟨trivial, trivial⟩ ?_ ?_ (hk 0 _ (.inr (.inr ⟨rfl, hr, by omega, by omega, by omega, by omega, rfl⟩)))
        · repeat' (first
 | (with_reducible first | exact True.intro | apply And.intro | apply If_true | apply If_false | apply If_not)
 | ((with_reducible apply VC.mk); (first | trivial | omega | (simp only [inR]; omega) | (exact ⟨rfl, List.prefix_rfl⟩) | (refine ⟨rfl, rfl, rfl, ?_, rfl⟩; (simp; done)) | (focus (repeat' (first | exact True.intro | apply And.intro | rfl | exact Nat.le_of_ble_eq_true rfl)); done) | (simp [inR, Cont.cells]; done) | (simp [inR, Cont.cells]; omega) | (simp [inR, Cont.cells, DF.asked]; done) | (simp [inR, Cont.cells, DF.asked]; omega)))
 | ((with_reducible apply If_dec) <;> intro hc <;> (try (exfalso; omega)))
 | ((with_reducible apply If_any) <;> intro hc)
 | ((with_reducible first | apply PF.mk | apply DrawP.mk); (focus kernel_rfl))
 | ((with_reducible apply Same.mk); (focus rfl); (first | exact trivial | exact rfl))
 | (intro cap hcap)
 | ((fail_if_success (with_reducible first | apply Fin.mk | apply CallP.mk | apply LoopP.mk | apply VC.mk | apply falseMk | apply Round.mk | apply LookP.mk | apply RangeP.mk | apply NextP.mk | apply EntryP.mk | apply Eq.symm)); conv => whnf))
        · repeat' (first
 | (with_reducible first | exact True.intro | apply And.intro | apply If_true | apply If_false | apply If_not)
 | ((with_reducible apply VC.mk); (first | trivial | omega | (simp only [inR]; omega) | (exact ⟨rfl, List.prefix_rfl⟩) | (refine ⟨rfl, rfl, rfl, ?_, rfl⟩; (simp; done)) | (focus (repeat' (first | exact True.intro | apply And.intro | rfl | exact Nat.le_of_ble_eq_true rfl)); done) | (simp [inR, Cont.cells]; done) | (simp [inR, Cont.cells]; omega)))
 | ((with_reducible apply If_dec) <;> intro hc <;> (try (exfalso; omega)))
 | ((with_reducible apply If_any) <;> intro hc)
 | ((with_reducible first | apply PF.mk | apply DrawP.mk); (focus kernel_rfl))
 | ((with_reducible apply Same.mk); (focus rfl); (first | exact trivial | exact rfl))
 | (intro cap hcap)
 | ((fail_if_success (with_reducible first | apply Fin.mk | apply CallP.mk | apply LoopP.mk | apply VC.mk | apply falseMk | apply Round.mk | apply LookP.mk | apply RangeP.mk | apply NextP.mk | apply EntryP.mk | apply Eq.symm)); conv => whnf))
          · refine VC.mk ⟨rfl, ?_⟩
            rw [List.drop_zero, List.take_take, Nat.min_self, show (at_ + n).toNat - at_.toNat = n.toNat by omega, Nat.zero_add]
            rfl
end Go.Proofs.Ytjccknmgmommcaa.Sx


set_option maxRecDepth 10000
namespace Go.Proofs.Ytjccknmgmommcaa.Sx
open Go.RowKit Go.Proofs.Ytjccknmgmommcaa.Sx.Tb
/-- What a crash leaves. -/
def crashL : List Int → List (Bool × Int × List Int) → List Bool → List Int
  | b, [], _ => b
  | b, it :: r, [] => crashL b r []
  | b, it :: r, true :: ks => crashL (layL b it.1 it.2.1 it.2.2) r ks
  | b, it :: r, false :: ks => crashL b r ks
end Go.Proofs.Ytjccknmgmommcaa.Sx


set_option maxRecDepth 10000
namespace Go.Proofs.Ytjccknmgmommcaa.Sx
open Go.RowKit Go.Proofs.Ytjccknmgmommcaa.Sx.Tb
/-- A disk's file, in one piece. -/
def DF.κ (s : DF) (y : List Nat) : Prop := s.now.length ≤ y.getD 0 0 ∧ s.items.length ≤ y.getD 1 0
def DF.cs (s : DF) (y : List Nat) : List Chunk := s.chs (y.getD 0 0) (y.getD 1 0)
def DF.pk (s : DF) : Chunk := .pack [] 3 s.κ s.cs
theorem DF.cs_lives (s : DF) (y : List Nat) : ∀ c ∈ s.cs y, c.lives := s.nd _ _
theorem DF.pk_noF (s : DF) : ChunkNoF s.pk := by
  refine .pack (fun y c hc => ?_)
  have : c = s.st 1 2 (y.getD 0 0) (y.getD 1 0) ∨ c = s.nowC (y.getD 0 0) ∨ c = s.itC (y.getD 1 0) := by simpa [DF.cs, DF.chs] using hc
  rcases this with rfl | rfl | rfl
  · exact s.st_noF _ _ _ _
  · exact s.now_noF _
  · exact s.it_noF _
theorem DF.goodP (s : DF) {v : AV} (h : v.noF) : Good 1 v [s.pk] := ⟨h, fun c hc => by simp at hc; subst hc; exact s.pk_noF, Nat.le_refl _⟩
theorem DF.ndP (s : DF) : ∀ c ∈ [s.pk], c.lives := by intro c hc; simp at hc; subst hc; trivial
theorem fix1 {N : Nat} {σ : List Nat} : ∀ i, i < 1 → fren (0 :: σ) N i = i := fun i hi => by
  have : i = 0 := by omega
  subst this; rfl
theorem DF.fin {s : DF} {c1 c2 : Nat} {v : AV} {k : K} (h : s.now.length ≤ c1 ∧ s.items.length ≤ c2) (hk : k v [s.pk]) (hv : v.inN 1 := by simp [AV.inN, inNs, Cont.inN]) : Fin 1 v (s.chs c1 c2) k := by
  refine Fin.pk (Pk.pack [0, 1, 2] [] s.κ s.cs [c1, c2] rfl h ⟨rfl, rfl, rfl, trivial⟩ ⟨trivial, trivial⟩) ?_
  exact Fin.ren [0] [] v [s.pk] rfl rfl trivial ⟨VC.mk ⟨rfl, rfl, rfl, rfl⟩, trivial⟩ (AV.le_refl fix1 hv) hk
theorem read_K : ConOk Go.Proofs.Try.prog 27 (Con.of (DF × Int × Int) (Int × List Int) (fun (s, at_, n) => [.p 0 0 1 0, .v (.int .i64 at_), .v (.int .i64 n)]) (fun (s, at_, n) => [s.pk]) (fun (s, at_, n) => 0 ≤ s.ops ∧ s.ops ≤ 1099511627776 ∧ s.now.length ≤ 4194304) (fun (s, at_, n) (r, l) => (r = 5 ∧ s.refused ∧ l = [] ∨ r = 4 ∧ ¬ s.refused ∧ ¬ (0 ≤ at_ ∧ 0 ≤ n ∧ at_ ≤ s.now.length ∧ n ≤ s.now.length - at_) ∧ l = [] ∨ r = 0 ∧ ¬ s.refused ∧ 0 ≤ at_ ∧ 0 ≤ n ∧ at_ ≤ s.now.length ∧ n ≤ s.now.length - at_ ∧ l = (s.now.drop at_.toNat).take n.toNat)) (fun (s, at_, n) (r, l) => .tup [.im true 1 l.length (.ints .u8 l), .v (.int .i64 r)]) (fun (s, at_, n) (r, l) => [DF.pk (s.asked)])) := by
  refine conOk_unpack (T := tab) mix Go.Proofs.Try.func27 (by decide +kernel) (by kernel_rfl) [] [] ?_ ?_ ?_ (fun _ => []) 3 (fun x => x.1.κ) (fun x => x.1.cs) (by decide) (fun x => x.1.cs_lives) (fun x => ⟨_, rfl⟩) ?_
  · rintro ⟨s, at_, n⟩ h0; rw [Go.Proofs.Try.ntmps27]; exact Nat.le_of_ble_eq_true rfl
  · rintro ⟨s, at_, n⟩ k h0 hk ⟨r, l⟩ hr; exact ⟨hk (r, l) hr, DF.goodP _ (by simp [AV.noF, noFs, Cont.noF])⟩
  · rintro ⟨s, at_, n⟩ h0; exact DF.ndP s
  · rintro ⟨s, at_, n⟩ k y h0 hk hy; exact read_c s _ _ at_ n ⟨h0.1, h0.2.1, h0.2.2, hy.1⟩ _ (fun r l hr => DF.fin (s := s.asked) hy (hk (r, l) hr))
theorem read_at {avs : List AV} {H : List Chunk} {k : K} (s : DF) (at_ : Int) (n : Int) (i : Nat) (h0 : 0 ≤ s.ops ∧ s.ops ≤ 1099511627776 ∧ s.now.length ≤ 4194304) (hc : nth H i = some s.pk) (ha : argsM H [i] [.p 0 0 1 0, .v (.int .i64 at_), .v (.int .i64 n)] avs)
    (h : ∀ (r : Int) (l : List Int), (r = 5 ∧ s.refused ∧ l = [] ∨ r = 4 ∧ ¬ s.refused ∧ ¬ (0 ≤ at_ ∧ 0 ≤ n ∧ at_ ≤ s.now.length ∧ n ≤ s.now.length - at_) ∧ l = [] ∨ r = 0 ∧ ¬ s.refused ∧ 0 ≤ at_ ∧ 0 ≤ n ∧ at_ ≤ s.now.length ∧ n ≤ s.now.length - at_ ∧ l = (s.now.drop at_.toNat).take n.toNat) → k (.tup [.im true 1 l.length (.ints .u8 l), .v (.int .i64 r)]) (H.set i (DF.pk (s.asked)))) : CallP Go.Proofs.Try.prog 27 avs H k :=
  CallP.mk ⟨_, read_K.real, Con.spec read_K, (s, at_, n), [i], ⟨h0, rfl, ⟨hc, trivial⟩, ha⟩, fun ⟨r, l⟩ hr => (numK_eq _ _).mpr (by simpa [putAll, AV.ren, rens, Cont.ren, Chunk.ren, DF.pk] using h r l hr)⟩
theorem len_K : ConOk Go.Proofs.Try.prog 31 (Con.of (DF) (Unit) (fun s => [.p 0 0 1 0]) (fun s => [s.pk]) (fun s => s.now.length ≤ 1099511627776) (fun s _ => True) (fun s _ => .v (.int .i64 s.now.length)) (fun s _ => [DF.pk (s)])) := by
  refine conOk_unpack (T := tab) mix Go.Proofs.Try.func31 (by decide +kernel) (by kernel_rfl) [] [] ?_ ?_ ?_ (fun _ => []) 3 (fun x => x.κ) (fun x => x.cs) (by decide) (fun x => x.cs_lives) (fun x => ⟨_, rfl⟩) ?_
  · rintro s h0; rw [Go.Proofs.Try.ntmps31]; exact Nat.le_of_ble_eq_true rfl
  · rintro s k h0 hk u hr; exact ⟨hk u hr, DF.goodP _ (by simp [AV.noF, noFs, Cont.noF])⟩
  · rintro s h0; exact DF.ndP s
  · rintro s k y h0 hk hy; exact len_c s _ _ h0 _ (DF.fin (s := s) hy (hk () trivial))
theorem len_at {avs : List AV} {H : List Chunk} {k : K} (s : DF) (i : Nat) (h0 : s.now.length ≤ 1099511627776) (hc : nth H i = some s.pk) (ha : argsM H [i] [.p 0 0 1 0] avs)
    (h : True → k (.v (.int .i64 s.now.length)) (H.set i (DF.pk (s)))) : CallP Go.Proofs.Try.prog 31 avs H k :=
  CallP.mk ⟨_, len_K.real, Con.spec len_K, s, [i], ⟨h0, rfl, ⟨hc, trivial⟩, ha⟩, fun _ hr => (numK_eq _ _).mpr (by simpa [putAll, AV.ren, rens, Cont.ren, Chunk.ren, DF.pk] using h  hr)⟩
/-- A new file. -/
def DF.mk0 (l : List Int) : DF := { now := l, safe := l, items := [], ops := 0, fail := 0, stop := 0, wrote := 0 }
theorem new_K : ConOk Go.Proofs.Try.prog 17 ⟨List Int, fun l => [.im false 1 l.length (.ints .u8 l)], fun _ => [], fun l => l.length ≤ 1099511627776, fun l k => (4194304 < l.length → k (.tup [.v (.pointer none), .v (.int .i64 3)]) []) ∧ (l.length ≤ 4194304 → k (.tup [.p 0 0 1 0, .v (.int .i64 0)]) [(DF.mk0 l).pk])⟩ := by
  refine conOk_fin (T := tab) mix Go.Proofs.Try.func17 (by decide +kernel) (by kernel_rfl) [] [] ?_ ?_ ?_ ?_
  · rintro l h0; rw [Go.Proofs.Try.ntmps17]; exact Nat.le_of_ble_eq_true rfl
  · rintro l k h0 hk; exact ⟨fun h => ⟨hk.1 h, ⟨by simp [AV.noF, noFs], (fun c hc => by cases hc), Nat.le_refl _⟩⟩, fun h => ⟨hk.2 h, ⟨by simp [AV.noF, noFs], (fun c hc => by simp at hc; subst hc; exact DF.pk_noF _), Nat.zero_le _⟩⟩⟩
  · rintro l h0 c hc; cases hc
  · rintro l k h0 hk
    refine new_c l h0 _ (fun h => Fin.same (hk.1 h)) (fun h c hc => ?_)
    refine Fin.pk (Pk.pack [0, 1, 2] [] (DF.mk0 l).κ (DF.mk0 l).cs [c, 0] rfl ⟨hc, Nat.le_refl _⟩ ⟨rfl, rfl, rfl, trivial⟩ ⟨trivial, trivial⟩) ?_
    exact Fin.ren [0] [] (.tup [.p 0 0 1 0, .v (.int .i64 0)]) [(DF.mk0 l).pk] rfl rfl trivial ⟨VC.mk ⟨rfl, rfl, rfl, rfl⟩, trivial⟩ ⟨VC.mk ⟨rfl, rfl, rfl, rfl⟩, VC.mk rfl, trivial⟩ (hk.2 h)
theorem new_at {avs : List AV} {H : List Chunk} {k : K} (l : List Int) (h0 : l.length ≤ 1099511627776) (ha : argsM H [] [.im false 1 l.length (.ints .u8 l)] avs) (h1 : 4194304 < l.length → k (.tup [.v (.pointer none), .v (.int .i64 3)]) H)
    (h2 : l.length ≤ 4194304 → k (.tup [.p H.length 0 1 0, .v (.int .i64 0)]) (H ++ [(DF.mk0 l).pk])) : CallP Go.Proofs.Try.prog 17 avs H k :=
  CallP.mk ⟨_, new_K.real, Con.spec new_K, l, [], ⟨h0, rfl, trivial, ha⟩, fun h => (numK_eq _ _).mpr (by simpa [putAll, AV.ren, rens] using h1 h), fun h => (numK_eq _ _).mpr (by simpa [putAll, AV.ren, rens, fren, nth, Chunk.ren, DF.pk] using h2 h)⟩
end Go.Proofs.Ytjccknmgmommcaa.Sx

