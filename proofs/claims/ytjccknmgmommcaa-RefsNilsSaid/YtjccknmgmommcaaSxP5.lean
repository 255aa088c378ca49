import Derived.Test.YtjccknmgmommcaaSxP4
set_option linter.unusedVariables false
set_option linter.unusedSimpArgs false
set_option maxRecDepth 10000
namespace Go.Proofs.Ytjccknmgmommcaa.Sx
/-! ### What a file is between a commit and its end -/
def JR.inJ (j : JR) (i : Nat) : Prop := j.pos.toNat ≤ i ∧ i < j.pos.toNat + j.size.toNat
def JR.eqJ (j : JR) (C D : List Int) : Prop := C.length = D.length ∧ ∀ i, ¬ j.inJ i → C.getD i 0 = D.getD i 0
def JR.partL (j : JR) (C : List Int) : List Int := (C.drop j.pos.toNat).take j.size.toNat
/-- The case: a file's bytes, a journal of it, records that may be done. -/
structure JCase (j : JR) (b : List Int) (rs : List RecR) : Prop where
  ok : j.Ok
  al : j.pos % 512 = 0
  fit : j.pos + j.size ≤ b.length
  b8 : B8 b
  out : ∀ r ∈ rs, j.out r.1 r.2.length
  recs : ∀ r ∈ rs, recP r
  r8 : ∀ r ∈ rs, B8 r.2
  at_ : ∀ r ∈ rs, r.1.toNat ≤ b.length
  len : b.length ≤ 4194304
  room : (encL rs).length ≤ j.size - 512
/-- Some of the records' bytes may stand. -/
structure Mid (j : JR) (b : List Int) (rs : List RecR) (C : List Int) : Prop where
  lo : b.length ≤ C.length
  hi : C.length ≤ endL rs b.length
  b8 : B8 C
  off : ∀ i, ¬ j.inJ i → (∀ r ∈ rs, ¬ covers r i) → C.getD i 0 = b.getD i 0
theorem Mid.zero {j : JR} {b : List Int} {rs : List RecR} (hc : JCase j b rs) {C : List Int} (h : j.eqJ C b) (h8 : B8 C) : Mid j b rs C :=
  ⟨by rw [h.1]; exact Nat.le_refl _, by rw [h.1]; exact endL_ge _ _, h8, fun i hi _ => h.2 i hi⟩
/-- All records done, on whatever is between. -/
theorem Mid.done {j : JR} {b : List Int} {rs : List RecR} {C : List Int} (hc : JCase j b rs) (h : Mid j b rs C) : j.eqJ (doneL rs C) (doneL rs b) := by
  have ha : ∀ r ∈ rs, r.1.toNat ≤ C.length := fun r hr => Nat.le_trans (hc.at_ r hr) h.lo
  refine ⟨?_, fun i hi => ?_⟩
  · rw [doneL_length rs C ha, doneL_length rs b hc.at_]
    exact endL_idem rs _ _ h.lo h.hi
  · exact doneL_same rs C b i ha hc.at_ (fun hn => h.off i hi hn)
end Go.Proofs.Ytjccknmgmommcaa.Sx

