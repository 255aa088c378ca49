import Derived.Test.YtjccknmgmommcaaSxP5
set_option linter.unusedVariables false
set_option linter.unusedSimpArgs false
set_option maxRecDepth 10000
namespace Go.Proofs.Ytjccknmgmommcaa.Sx
/-! ### What a crash may leave -/
theorem partL_get {j : JR} {C : List Int} {i : Nat} (hi : i < j.size.toNat) : (j.partL C).getD i 0 = C.getD (j.pos.toNat + i) 0 := by
  unfold JR.partL
  simp only [List.getD_eq_getElem?_getD, List.getElem?_take, if_pos hi, List.getElem?_drop]
theorem partL_length {j : JR} {C : List Int} (h : j.pos.toNat + j.size.toNat ≤ C.length) : (j.partL C).length = j.size.toNat := by
  unfold JR.partL; simp only [List.length_take, List.length_drop]; omega
/-- A journal that begins with noughts says nothing. -/
theorem zero_none {j : JR} (hj : j.Ok) {C : List Int} (hl : j.pos.toNat + j.size.toNat ≤ C.length) (h : ∀ i, i < 4 → C.getD (j.pos.toNat + i) 0 = 0) : pendB j (j.partL C) = none := by
  obtain ⟨j1, j2, j3, j4, j5, j6⟩ := hj
  have e : (j.partL C).take 4 = [0, 0, 0, 0] := by
    refine ext_getD (by rw [List.length_take, partL_length hl]; show min 4 _ = 4; omega) (fun i hi => ?_)
    rw [List.length_take, partL_length hl] at hi
    have : i < 4 := by omega
    rw [show ((j.partL C).take 4).getD i 0 = (j.partL C).getD i 0 by simp only [List.getD_eq_getElem?_getD, List.getElem?_take, if_pos this], partL_get (by omega), h i this]
    match i, this with
    | 0, _ => rfl
    | 1, _ => rfl
    | 2, _ => rfl
    | 3, _ => rfl
  unfold pendB
  rw [if_neg]
  intro ok
  have := ok.1
  unfold le4 at this
  rw [List.drop_zero, e] at this
  simp [leV] at this
/-- What a crash may leave, between a commit and its end. -/
def Cr (j : JR) (b : List Int) (rs : List RecR) (C : List Int) : Prop :=
  B8 C ∧ (j.eqJ C b ∧ pendB j (j.partL C) = none ∨ Mid j b rs C ∧ pendB j (j.partL C) = some rs ∨ j.eqJ C (doneL rs b) ∧ pendB j (j.partL C) = none)
theorem JR.eqJ.refl {j : JR} (C : List Int) : j.eqJ C C := ⟨rfl, fun _ _ => rfl⟩
theorem JR.eqJ.trans {j : JR} {C D E : List Int} (h : j.eqJ C D) (g : j.eqJ D E) : j.eqJ C E := ⟨h.1.trans g.1, fun i hi => (h.2 i hi).trans (g.2 i hi)⟩
/-- What is laid into the journal's part changes nothing else. -/
theorem eqJ_lay {j : JR} {C : List Int} {at_ : Int} {xs : List Int} (hj : j.Ok) (hl : j.pos.toNat + j.size.toNat ≤ C.length) (h0 : j.pos ≤ at_) (h1 : at_ + xs.length ≤ j.pos + j.size) : j.eqJ (layL C false at_ xs) C := by
  obtain ⟨j1, j2, j3, j4, j5, j6⟩ := hj
  have a0 : 0 ≤ at_ := by omega
  refine ⟨by rw [layL_length a0]; omega, fun i hi => ?_⟩
  rw [layL_at a0, if_neg]
  intro hq
  exact hi ⟨by omega, by omega⟩
theorem DF.doOp_err {s : DF} {op : FOp} (h : (s.doOp op).1 ≠ 0) : (s.doOp op).2 = s.asked := by
  cases op with
  | wr at_ xs =>
    rw [DF.doOp_wr] at h ⊢
    split
    · rfl
    · rename_i h1
      rw [if_neg h1] at h
      split
      · rfl
      · rename_i h2
        rw [if_neg h2] at h
        split
        · rfl
        · rename_i h3
          rw [if_neg h3] at h
          exact absurd rfl h
  | fl =>
    rw [DF.doOp_fl] at h ⊢
    split
    · rfl
    · rename_i h1
      rw [if_neg h1] at h
      exact absurd rfl h
theorem DF.doOp_did {s : DF} {at_ : Int} {xs : List Int} (h : (s.doOp (.wr at_ xs)).1 = 0) (h2 : at_.toNat ≤ s.now.length) : 0 ≤ at_ ∧ (s.doOp (.wr at_ xs)).2 = { s with now := putG s.now at_.toNat xs, items := s.items ++ segs xs.length at_ xs, ops := s.ops + 1, wrote := s.wrote + 1 } := by
  rw [DF.doOp_wr] at h ⊢
  split
  · rename_i h1; rw [if_pos h1] at h; exact absurd (show (5 : Int) = 0 from h) (by decide)
  · rename_i h1
    rw [if_neg h1] at h
    split
    · rename_i h3; rw [if_pos h3] at h; exact absurd (show (4 : Int) = 0 from h) (by decide)
    · rename_i h3
      rw [if_neg h3] at h
      split
      · rename_i h4; rw [if_pos h4] at h; exact absurd (show (3 : Int) = 0 from h) (by decide)
      · exact ⟨by omega, wrote1_put s at_ xs (by omega) h2⟩
theorem DF.doOp_fled {s : DF} (h : (s.doOp .fl).1 = 0) : (s.doOp .fl).2 = s.flushed := by
  rw [DF.doOp_fl] at h ⊢
  split
  · rename_i h1; rw [if_pos h1] at h; exact absurd (show (5 : Int) = 0 from h) (by decide)
  · rfl
/-- Whatever a crash keeps of a file. -/
def CrS (j : JR) (b : List Int) (rs : List RecR) (s : DF) : Prop := ∀ ks, Cr j b rs (crashL s.safe s.items ks)
theorem CrS.asked {j : JR} {b : List Int} {rs : List RecR} {s : DF} (h : CrS j b rs s) : CrS j b rs s.asked := h
/-- The sign is taken away. -/
theorem clear_cr {j : JR} {b : List Int} {rs : List RecR} {s : DF} {z : List Int} (hc : JCase j b rs) (hz : z = List.replicate 512 0) (hi : s.items = []) (hn : s.now = s.safe) (h8 : B8 s.safe) (he : j.eqJ s.safe (doneL rs b)) (hp : CrS j b rs s) :
    CrS j b rs (s.run [.wr j.pos z, .fl]).2 ∧ ((s.run [.wr j.pos z, .fl]).1 = 0 → (s.run [.wr j.pos z, .fl]).2.items = [] ∧ (s.run [.wr j.pos z, .fl]).2.now = (s.run [.wr j.pos z, .fl]).2.safe ∧ B8 (s.run [.wr j.pos z, .fl]).2.safe ∧ j.eqJ (s.run [.wr j.pos z, .fl]).2.safe (doneL rs b) ∧ pendB j (j.partL (s.run [.wr j.pos z, .fl]).2.safe) = none) := by
  have hj := hc.ok
  obtain ⟨j1, j2, j3, j4, j5, j6⟩ := hc.ok
  have hzl : z.length = 512 := by rw [hz]; exact List.length_replicate ..
  have hz8 : B8 z := by rw [hz]; exact B8.replicate _
  have hfit := hc.fit
  have hlen : j.pos.toNat + j.size.toNat ≤ s.safe.length := by rw [he.1, doneL_length rs b hc.at_]; have := endL_ge rs b.length; omega
  have hlay : layL s.safe false j.pos z = putG s.safe j.pos.toNat z := layL_putG j1 (by omega)
  have e2 : j.eqJ (putG s.safe j.pos.toNat z) (doneL rs b) := by
    rw [← hlay]; exact (eqJ_lay hj hlen (Int.le_refl _) (by omega)).trans he
  have l2 : j.pos.toNat + j.size.toNat ≤ (putG s.safe j.pos.toNat z).length := by rw [putG_length (by omega)]; omega
  have n2 : pendB j (j.partL (putG s.safe j.pos.toNat z)) = none := zero_none hj l2 (fun i hi => by
    rw [putG_get (by omega), if_pos ⟨by omega, by omega⟩, hz, List.getD_eq_getElem?_getD, List.getElem?_replicate]
    split <;> rfl)
  have b2 : B8 (putG s.safe j.pos.toNat z) := putG_B8 h8 hz8
  have c2 : Cr j b rs (putG s.safe j.pos.toNat z) := ⟨b2, .inr (.inr ⟨e2, n2⟩)⟩
  rw [s.run2]
  by_cases h1 : (s.doOp (.wr j.pos z)).1 = 0
  · rw [if_pos h1]
    obtain ⟨-, hd⟩ := DF.doOp_did h1 (by rw [hn]; omega)
    rw [hd, segs_one _ _ hzl hc.al, hi, List.nil_append]
    generalize ht : ({ s with now := putG s.now j.pos.toNat z, items := [(false, j.pos, z)], ops := s.ops + 1, wrote := s.wrote + 1 } : DF) = t
    have t1 : t.safe = s.safe := by rw [← ht]
    have t2 : t.items = [(false, j.pos, z)] := by rw [← ht]
    have t3 : t.now = putG s.safe j.pos.toNat z := by rw [← ht, hn]
    have ct : CrS j b rs t := by
      intro ks
      rw [t1, t2]
      have hs := hp []
      rw [hi] at hs
      have hs : Cr j b rs s.safe := hs
      cases ks with
      | nil => exact hs
      | cons k ks =>
        cases k with
        | true => show Cr j b rs (layL s.safe false j.pos z); rw [hlay]; exact c2
        | false => exact hs
    by_cases h2 : (t.doOp .fl).1 = 0
    · have hf := DF.doOp_fled h2
      rw [hf]
      refine ⟨fun ks => ?_, fun _ => ⟨rfl, rfl, ?_, ?_, ?_⟩⟩
      · show Cr j b rs t.now; rw [t3]; exact c2
      · show B8 t.now; rw [t3]; exact b2
      · show j.eqJ t.now _; rw [t3]; exact e2
      · show pendB j (j.partL t.now) = none; rw [t3]; exact n2
    · rw [DF.doOp_err h2]
      exact ⟨ct, fun h => absurd h h2⟩
  · rw [if_neg h1, DF.doOp_err h1]
    exact ⟨hp, fun h => absurd h h1⟩
end Go.Proofs.Ytjccknmgmommcaa.Sx

