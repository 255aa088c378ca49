import Derived.Test.YtjccknmgmommcaaSxP6
set_option linter.unusedVariables false
set_option linter.unusedSimpArgs false
set_option maxRecDepth 10000
namespace Go.Proofs.Ytjccknmgmommcaa.Sx
/-! ### Apply, cut off anywhere -/
def recItem (rs : List RecR) (it : Bool × Int × List Int) : Prop := it.1 = false ∧ ∃ r ∈ rs, r.1 ≤ it.2.1 ∧ it.2.1 + it.2.2.length ≤ r.1 + r.2.length ∧ B8 it.2.2
theorem recs_cr {j : JR} {b : List Int} {rs : List RecR} {C : List Int} (hc : JCase j b rs) (hm : Mid j b rs C) (hp : pendB j (j.partL C) = some rs) {s : DF} (h1 : s.safe = C) (h2 : ∀ it ∈ s.items, recItem rs it) : CrS j b rs s := by
  intro ks
  have q : Mid j b rs (crashL s.safe s.items ks) ∧ j.partL (crashL s.safe s.items ks) = j.partL C := by
    refine crash_keeps (fun D => Mid j b rs D ∧ j.partL D = j.partL C) s.items s.safe ks (fun it hit D hD => ?_) (by rw [h1]; exact ⟨hm, rfl⟩)
    obtain ⟨i1, r, hr, i2, i3, i4⟩ := h2 it hit
    rw [i1]
    obtain ⟨k1, k2⟩ := hD.1.lay hc hr i2 i3 i4
    exact ⟨k1, k2.trans hD.2⟩
  exact ⟨q.1.b8, .inr (.inl ⟨q.1, by rw [q.2]; exact hp⟩)⟩
theorem doneL_append (rs ss : List RecR) (C : List Int) : doneL (rs ++ ss) C = doneL ss (doneL rs C) := by unfold doneL; rw [List.foldl_append]
theorem wrs_cr {j : JR} {b : List Int} {rs : List RecR} {C : List Int} (hc : JCase j b rs) (hm : Mid j b rs C) (hp : pendB j (j.partL C) = some rs) : ∀ (rest pre : List RecR) (s : DF), rs = pre ++ rest → s.safe = C → s.now = doneL pre C → (∀ it ∈ s.items, recItem rs it) →
    (s.run (wrs rest)).2.safe = C ∧ (∀ it ∈ (s.run (wrs rest)).2.items, recItem rs it) ∧ ((s.run (wrs rest)).1 = 0 → (s.run (wrs rest)).2.now = doneL rs C)
  | [], pre, s, e, h1, h2, h3 => by
    rw [List.append_nil] at e
    exact ⟨h1, h3, fun _ => by rw [e]; exact h2⟩
  | r :: rest, pre, s, e, h1, h2, h3 => by
    have hr : r ∈ rs := by rw [e]; simp
    have ha : ∀ q ∈ pre, q.1.toNat ≤ C.length := fun q hq => Nat.le_trans (hc.at_ q (by rw [e]; simp [hq])) hm.lo
    have hle : r.1.toNat ≤ s.now.length := by
      rw [h2, doneL_length pre C ha]
      have := endL_ge pre C.length
      have := hc.at_ r hr
      have := hm.lo
      omega
    rw [show wrs (r :: rest) = .wr r.1 r.2 :: wrs rest from rfl, DF.run]
    by_cases h0 : (s.doOp (.wr r.1 r.2)).1 = 0
    · rw [if_pos h0]
      obtain ⟨p0, hd⟩ := DF.doOp_did h0 hle
      rw [hd]
      refine wrs_cr hc hm hp rest (pre ++ [r]) _ (by rw [e]; simp) h1 ?_ ?_
      · show putG s.now r.1.toNat r.2 = _
        rw [doneL_append, h2]; rfl
      · intro it hit
        rcases List.mem_append.1 hit with hit | hit
        · exact h3 it hit
        · obtain ⟨i1, i2, i3, i4⟩ := segs_in _ _ _ it hit
          exact ⟨i1, r, hr, i2, i3, i4 (hc.r8 r hr)⟩
    · rw [if_neg h0, DF.doOp_err h0]
      exact ⟨h1, h3, fun h => absurd h h0⟩
theorem doneL_B8 : ∀ (rs : List RecR) (C : List Int), B8 C → (∀ r ∈ rs, B8 r.2) → B8 (doneL rs C)
  | [], C, h, _ => h
  | r :: rs, C, h, g => doneL_B8 rs _ (putG_B8 h (g r (List.mem_cons_self ..))) (fun q hq => g q (List.mem_cons_of_mem _ hq))
theorem Mid.doneM {j : JR} {b : List Int} {rs : List RecR} {C : List Int} (hc : JCase j b rs) (h : Mid j b rs C) : Mid j b rs (doneL rs C) ∧ j.partL (doneL rs C) = j.partL C := by
  obtain ⟨j1, j2, j3, j4, j5, j6⟩ := hc.ok
  have hf := hc.fit
  have ha : ∀ r ∈ rs, r.1.toNat ≤ C.length := fun r hr => Nat.le_trans (hc.at_ r hr) h.lo
  have hl := doneL_length rs C ha
  have e := endL_idem rs _ _ h.lo h.hi
  have hlo := h.lo
  have hge := endL_ge rs b.length
  refine ⟨⟨by rw [hl, e]; exact hge, by rw [hl, e]; exact Nat.le_refl _, doneL_B8 rs C h.b8 hc.r8, fun i hi hn => ?_⟩, part_same (by rw [hl, e]; omega) (by omega) (fun i hi => ?_)⟩
  · rw [doneL_off rs C i ha hn]; exact h.off i hi hn
  · refine doneL_off rs C i ha (fun r hr hcv => ?_)
    obtain ⟨o1, o2, o3, o4, o5⟩ := hc.out r hr
    have hi2 : j.pos.toNat ≤ i ∧ i < j.pos.toNat + j.size.toNat := hi
    have hc2 : r.1.toNat ≤ i ∧ i < r.1.toNat + r.2.length := hcv
    omega
/-- All of Apply, from a file whose journal says the records. -/
theorem apply_cr {j : JR} {b : List Int} {rs : List RecR} {C z : List Int} {s : DF} (hc : JCase j b rs) (hz : z = List.replicate 512 0) (hm : Mid j b rs C) (hp : pendB j (j.partL C) = some rs) (h1 : s.safe = C) (h2 : s.now = C) (h3 : s.items = []) :
    CrS j b rs (s.run (applyOps j z rs)).2 ∧ ((s.run (applyOps j z rs)).1 = 0 → (s.run (applyOps j z rs)).2.items = [] ∧ (s.run (applyOps j z rs)).2.now = (s.run (applyOps j z rs)).2.safe ∧ B8 (s.run (applyOps j z rs)).2.safe ∧ j.eqJ (s.run (applyOps j z rs)).2.safe (doneL rs b) ∧ pendB j (j.partL (s.run (applyOps j z rs)).2.safe) = none) := by
  obtain ⟨w1, w2, w3⟩ := wrs_cr hc hm hp rs [] s rfl h1 (by rw [h2]; rfl) (by rw [h3]; intro it hit; cases hit)
  unfold applyOps
  rw [DF.run_append]
  by_cases h0 : (s.run (wrs rs)).1 = 0
  · rw [if_pos h0]
    have w3 := w3 h0
    generalize (s.run (wrs rs)).2 = t at w1 w2 w3 ⊢
    rw [DF.run]
    by_cases h4 : (t.doOp .fl).1 = 0
    · rw [if_pos h4, DF.doOp_fled h4]
      obtain ⟨m1, m2⟩ := hm.doneM hc
      have hs : t.flushed.safe = doneL rs C := w3
      refine clear_cr hc hz rfl rfl ?_ ?_ ?_
      · rw [hs]; exact m1.b8
      · rw [hs]; exact hm.done hc
      · exact recs_cr hc m1 (by rw [m2]; exact hp) hs (fun it hit => by cases hit)
    · rw [if_neg h4, DF.doOp_err h4]
      exact ⟨recs_cr hc hm hp w1 w2, fun h => absurd h h4⟩
  · rw [if_neg h0]
    exact ⟨recs_cr hc hm hp w1 w2, fun h => absurd h h0⟩
end Go.Proofs.Ytjccknmgmommcaa.Sx

