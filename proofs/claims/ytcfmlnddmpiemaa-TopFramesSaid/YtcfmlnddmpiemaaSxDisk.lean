import Derived.Test.YtcfmlnddmpiemaaSxEc
import Derived.Test.YtcfmlnddmpiemaaSxT
set_option linter.unusedVariables false
set_option linter.unusedSimpArgs false
set_option maxRecDepth 10000
namespace Go.Proofs.Ytcfmlnddmpiemaa.Sx
open Go.RowKit Go.Proofs.Ytcfmlnddmpiemaa.Sx.Tb
/-- A disk's file. -/
structure DF where
  now : List Int
  safe : List Int
  items : List (Bool × Int × List Int)
  ops : Int
  fail : Int
  stop : Int
  wrote : Int
def itAV (x : Bool × Int × List Int) : List AV := [.v (.bool x.1), .v (.int .i64 x.2.1), .im true 1 x.2.2.length (.ints .u8 x.2.2)]
def DF.st (s : DF) (i j c1 c2 : Nat) : Chunk := .blk 113 (.lst [.s i 0 1 s.now.length c1, .im true 1 s.safe.length (.ints .u8 s.safe), .s j 0 3 s.items.length c2, .v (.int .i64 s.ops), .v (.int .i64 s.fail), .v (.int .i64 s.stop), .v (.int .i64 s.wrote)]) 7
def DF.nowC (s : DF) (c : Nat) : Chunk := .blk 5 (.ints .u8 s.now) c
def DF.itC (s : DF) (c : Nat) : Chunk := .blk 143 (.recs 3 s.items.length (fun k => itAV (s.items.getD k (false, 0, [])))) (c * 3)
def DF.chs (s : DF) (c1 c2 : Nat) : List Chunk := [s.st 1 2 c1 c2, s.nowC c1, s.itC c2]
def DF.refused (s : DF) : Prop := (0 < s.fail ∧ s.ops + 1 = s.fail) ∨ (0 < s.stop ∧ s.stop ≤ s.ops + 1)
def DF.asked (s : DF) : DF := { s with ops := s.ops + 1 }
theorem mix : Go.Proofs.Try.prog.follows .mixedOrders = true := by kernel_rfl
theorem DF.nd (s : DF) (c1 c2 : Nat) : ∀ c ∈ s.chs c1 c2, c.lives := by
  intro c hc
  simp [DF.chs] at hc
  rcases hc with rfl | rfl | rfl <;> trivial
theorem itAV_noF (x : Bool × Int × List Int) : noFs (itAV x) := ⟨trivial, trivial, ⟨rfl, trivial⟩, trivial⟩
theorem DF.st_noF (s : DF) (i j c1 c2 : Nat) : ChunkNoF (s.st i j c1 c2) := .blk ⟨trivial, ⟨rfl, trivial⟩, trivial, trivial, trivial, trivial, trivial, trivial⟩
theorem DF.now_noF (s : DF) (c : Nat) : ChunkNoF (s.nowC c) := .blk trivial
theorem DF.it_noF (s : DF) (c : Nat) : ChunkNoF (s.itC c) := .blk (fun j _ => itAV_noF _)
theorem DF.good (s : DF) (c1 c2 : Nat) {v : AV} (h : v.noF) : Good 3 v (s.chs c1 c2) := by
  refine ⟨h, fun c hc => ?_, Nat.le_refl _⟩
  simp [DF.chs] at hc
  rcases hc with rfl | rfl | rfl
  · exact s.st_noF _ _ _ _
  · exact s.now_noF _
  · exact s.it_noF _
/-- What a write, or a length, makes of bytes. -/
def layP (b : List Int) (end_ : Int) : List Int := b ++ List.replicate (end_.toNat - b.length) 0
def layL (b : List Int) (cut : Bool) (at_ : Int) (xs : List Int) : List Int :=
  let b1 := layP b (at_ + xs.length)
  if cut then b1.take at_.toNat else b1.take at_.toNat ++ xs ++ b1.drop (at_.toNat + xs.length)
theorem layP_id (b : List Int) (e : Int) (h : e.toNat ≤ b.length) : layP b e = b := by unfold layP; rw [show e.toNat - b.length = 0 by omega]; simp
end Go.Proofs.Ytcfmlnddmpiemaa.Sx


set_option maxRecDepth 10000
namespace Go.Proofs.Ytcfmlnddmpiemaa.Sx
open Go.RowKit Go.Proofs.Ytcfmlnddmpiemaa.Sx.Tb
/-- How many bytes are of one sector. -/
def secN (at_ : Int) (n : Nat) : Nat := (min (n : Int) (512 - at_ % 512)).toNat
/-- Bytes are written, sector by sector. -/
def wrN : Nat → DF → Int → List Int → DF
  | 0, s, _, _ => s
  | n + 1, s, at_, xs => if xs = [] then s else wrN n { s with now := layL s.now false at_ (xs.take (secN at_ xs.length)), items := s.items ++ [(false, at_, xs.take (secN at_ xs.length))] } (at_ + secN at_ xs.length) (xs.drop (secN at_ xs.length))
theorem layL_len (b : List Int) (at_ : Int) (xs : List Int) (h : 0 ≤ at_) : (layL b false at_ xs).length = max b.length (at_.toNat + xs.length) := by
  unfold layL layP
  simp
  omega
def DF.wrote1 (s : DF) (at_ : Int) (xs : List Int) : DF := wrN xs.length { s with ops := s.ops + 1, wrote := s.wrote + 1 } at_ xs
end Go.Proofs.Ytcfmlnddmpiemaa.Sx


set_option maxRecDepth 10000
namespace Go.Proofs.Ytcfmlnddmpiemaa.Sx
open Go.RowKit Go.Proofs.Ytcfmlnddmpiemaa.Sx.Tb
/-- All is safe. -/
def DF.flushed (s : DF) : DF := { s with ops := s.ops + 1, safe := s.now, items := [] }
/-- Another length. -/
def DF.cutTo (s : DF) (n : Int) : DF := { s with ops := s.ops + 1, wrote := s.wrote + 1, items := s.items ++ [(true, n, [])], now := layL s.now true n [] }
end Go.Proofs.Ytcfmlnddmpiemaa.Sx


set_option maxRecDepth 10000
namespace Go.Proofs.Ytcfmlnddmpiemaa.Sx
open Go.RowKit Go.Proofs.Ytcfmlnddmpiemaa.Sx.Tb
end Go.Proofs.Ytcfmlnddmpiemaa.Sx


set_option maxRecDepth 10000
namespace Go.Proofs.Ytcfmlnddmpiemaa.Sx
open Go.RowKit Go.Proofs.Ytcfmlnddmpiemaa.Sx.Tb
/-- What a crash leaves. -/
def crashL : List Int → List (Bool × Int × List Int) → List Bool → List Int
  | b, [], _ => b
  | b, it :: r, [] => crashL b r []
  | b, it :: r, true :: ks => crashL (layL b it.1 it.2.1 it.2.2) r ks
  | b, it :: r, false :: ks => crashL b r ks
end Go.Proofs.Ytcfmlnddmpiemaa.Sx


set_option maxRecDepth 10000
namespace Go.Proofs.Ytcfmlnddmpiemaa.Sx
open Go.RowKit Go.Proofs.Ytcfmlnddmpiemaa.Sx.Tb
/-- A disk's file, in one piece. -/
def DF.κ (s : DF) (y : List Nat) : Prop := s.now.length ≤ y.getD 0 0 ∧ s.items.length ≤ y.getD 1 0
def DF.cs (s : DF) (y : List Nat) : List Chunk := s.chs (y.getD 0 0) (y.getD 1 0)
def DF.pk (s : DF) : Chunk := .pack [] 3 s.κ s.cs
theorem DF.pk_noF (s : DF) : ChunkNoF s.pk := by
  refine .pack (fun y c hc => ?_)
  have : c = s.st 1 2 (y.getD 0 0) (y.getD 1 0) ∨ c = s.nowC (y.getD 0 0) ∨ c = s.itC (y.getD 1 0) := by simpa [DF.cs, DF.chs] using hc
  rcases this with rfl | rfl | rfl
  · exact s.st_noF _ _ _ _
  · exact s.now_noF _
  · exact s.it_noF _
theorem fix1 {N : Nat} {σ : List Nat} : ∀ i, i < 1 → fren (0 :: σ) N i = i := fun i hi => by
  have : i = 0 := by omega
  subst this; rfl
theorem DF.fin {s : DF} {c1 c2 : Nat} {v : AV} {k : K} (h : s.now.length ≤ c1 ∧ s.items.length ≤ c2) (hk : k v [s.pk]) (hv : v.inN 1 := by simp [AV.inN, inNs, Cont.inN]) : Fin 1 v (s.chs c1 c2) k := by
  refine Fin.pk (Pk.pack [0, 1, 2] [] s.κ s.cs [c1, c2] rfl h ⟨rfl, rfl, rfl, trivial⟩ ⟨trivial, trivial⟩) ?_
  exact Fin.ren [0] [] v [s.pk] rfl rfl trivial ⟨VC.mk ⟨rfl, rfl, rfl, rfl⟩, trivial⟩ (AV.le_refl fix1 hv) hk
/-- A new file. -/
def DF.mk0 (l : List Int) : DF := { now := l, safe := l, items := [], ops := 0, fail := 0, stop := 0, wrote := 0 }
end Go.Proofs.Ytcfmlnddmpiemaa.Sx

