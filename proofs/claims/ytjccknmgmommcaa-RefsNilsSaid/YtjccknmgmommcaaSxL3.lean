import Derived.Test.YtjccknmgmommcaaSxF4
set_option linter.unusedVariables false
set_option linter.unusedSimpArgs false
set_option maxRecDepth 10000
namespace Go.Proofs.Ytjccknmgmommcaa.Sx
open Go.RowKit Go.Proofs.Ytjccknmgmommcaa.Sx.Tb
def RF.mk0 (l : List Int) : RF := { safe := l, row := [], ops := 0, wrote := 0, fail := 0, stop := 0 }
theorem RF.Ok.zero {b : List Int} (h : b.length ≤ 4194304) : (RF.mk0 b).Ok 0 :=
  ⟨h, fun it hit => absurd hit (by simp [RF.mk0]), Int.le_refl _, ⟨Int.le_refl _, Int.le_refl _⟩, ⟨Int.le_refl _, Int.le_refl _⟩⟩
/-- What is known while operations go on. -/
structure Run (i : Nat) (s : DF) (m : RF) : Prop where
  f : s.Ok (1501 * i)
  m : m.Ok (1501 * i)
  live : s.live
theorem Run.step {i : Nat} {s s' : DF} {m m' : RF} {o : OpR} (h : Run i s m) (ho : o.light) (hd : s.Did o s') (hm : m'.Ok (1501 * i + 1 + o.b.length)) : Run (i + 1) s' m' ∧ (o.kind < 4 → s'.safe = s.safe) := by
  obtain ⟨h1, h2, h3⟩ := DF.Did.ok h.f h.live hd
  have := ho.1
  exact ⟨⟨h1.mono (by omega), RF.OkM hm (by omega), h2⟩, h3⟩
theorem Run.mono {i : Nat} {s : DF} {m : RF} (h : Run i s m) : Run (i + 1) s m := ⟨h.f.mono (by omega), RF.OkM h.m (by omega), h.live⟩
theorem Run.le {i j : Nat} {s : DF} {m : RF} (h : Run i s m) (hij : i ≤ j) : Run j s m := ⟨h.f.mono (by omega), RF.OkM h.m (by omega), h.live⟩
theorem Run.pre {i : Nat} {s : DF} {m : RF} {o : OpR} (h : Run i s m) (hi : i ≤ 1000) (ho : o.light) (hk : o.kind ≤ 4) : doneOk s m (1501 * i) o := by
  have a1 := h.f.ops
  have a2 := h.f.wrote
  have a3 := h.f.len
  have a4 := ho.1
  exact ⟨⟨a1.1, by omega, a2.1, by omega, by omega, h.f.now⟩, ⟨h.m, by omega⟩, by omega, hk⟩
end Go.Proofs.Ytjccknmgmommcaa.Sx

