import Derived.Test.YtjccknmgmommcaaSxP9
set_option linter.unusedVariables false
set_option linter.unusedSimpArgs false
set_option maxRecDepth 10000
namespace Go.Proofs.Ytjccknmgmommcaa.Sx
/-! ### The end -/
theorem wrs_calm {j : JR} {b : List Int} {rs : List RecR} (hc : JCase j b rs) : ∀ (rest : List RecR) (s : DF), (∀ r ∈ rest, r ∈ rs) → s.live → b.length ≤ s.now.length → (s.run (wrs rest)).1 = 0 ∧ (s.run (wrs rest)).2.live ∧ s.now.length ≤ (s.run (wrs rest)).2.now.length
  | [], s, _, hl, _ => ⟨rfl, hl, Nat.le_refl _⟩
  | r :: rest, s, hr, hl, hb => by
    have hm := hr r (List.mem_cons_self ..)
    obtain ⟨o1, o2, o3, o4, o5⟩ := hc.out r hm
    have ha := hc.at_ r hm
    have e := calm_wr hl (at_ := r.1) (xs := r.2) o1 (by omega) (by omega)
    rw [show wrs (r :: rest) = .wr r.1 r.2 :: wrs rest from rfl, DF.run, e]
    simp only [if_true]
    have hlen := putG_length (b := s.now) (p := r.1.toNat) (xs := r.2) (by omega)
    obtain ⟨i1, i2, i3⟩ := wrs_calm hc rest { s with now := putG s.now r.1.toNat r.2, items := s.items ++ segs r.2.length r.1 r.2, ops := s.ops + 1, wrote := s.wrote + 1 } (fun q hq => hr q (List.mem_cons_of_mem _ hq)) hl (by show _ ≤ (putG s.now r.1.toNat r.2).length; omega)
    refine ⟨i1, i2, ?_⟩
    have i3 : (putG s.now r.1.toNat r.2).length ≤ _ := i3
    omega
theorem apply_calm {j : JR} {b : List Int} {rs : List RecR} {z : List Int} {s : DF} (hc : JCase j b rs) (hz : z.length = 512) (hl : s.live) (hb : b.length ≤ s.now.length) : (s.run (applyOps j z rs)).1 = 0 ∧ (s.run (applyOps j z rs)).2.live := by
  obtain ⟨j1, j2, j3, j4, j5, j6⟩ := hc.ok
  have hf := hc.fit
  have hlen := hc.len
  obtain ⟨i1, i2, i3⟩ := wrs_calm hc rs s (fun r hr => hr) hl hb
  unfold applyOps
  rw [DF.run_append, if_pos i1]
  generalize (s.run (wrs rs)).2 = t at i2 i3 ⊢
  rw [DF.run, calm_fl i2]
  simp only [if_true]
  obtain ⟨s', e, l, -⟩ := calm_two (s := t.flushed) i2 (at_ := j.pos) (xs := z) j1 (by omega) (by show _ ≤ t.now.length; omega)
  rw [e]
  exact ⟨rfl, l⟩
def EndS (j : JR) (b : List Int) (rs : List RecR) (x : Int × Int × JR × DF) : Prop :=
  x.2.1 = 0 ∧ x.2.2.2.live ∧ x.2.2.2.items = [] ∧ x.2.2.2.now = x.2.2.2.safe ∧ B8 x.2.2.2.safe ∧ (j.eqJ x.2.2.2.safe b ∨ j.eqJ x.2.2.2.safe (doneL rs b)) ∧ pendB j (j.partL x.2.2.2.safe) = none
/-- A replay of what a crash left, not refused: no error, and nothing is pending any more. -/
theorem replay_end {j : JR} {b : List Int} {rs : List RecR} {C z : List Int} {s : DF} (hc : JCase j b rs) (hz : z = List.replicate 512 0) (h : Cr j b rs C) (h1 : s.safe = C) (h2 : s.now = C) (h3 : s.items = []) (hl : s.live) :
    EndS j b rs (s.replay j z) := by
  have hlen := h.len hc
  have hf := hc.fit
  have hp : j.part s = j.partL C := by unfold JR.part JR.partL; rw [h2]
  have hnl : ¬ ((s.now.length : Int) < j.pos + j.size) := by rw [h2]; omega
  have no : pendB j (j.partL C) = none → s.pend j = (0, none, j) := fun g => by
    unfold DF.pend
    rw [if_neg hl.refB, if_neg hnl, hp, g]
  have fin : pendB j (j.partL C) = none → (j.eqJ C b ∨ j.eqJ C (doneL rs b)) → EndS j b rs (s.replay j z) := fun g e => by
    have q := no g
    have : s.replay j z = (0, 0, j, s.asked) := by unfold DF.replay; rw [q]
    rw [this]
    refine ⟨rfl, hl, h3, by show s.now = s.safe; rw [h1, h2], by show B8 s.safe; rw [h1]; exact h.1, by show j.eqJ s.safe b ∨ j.eqJ s.safe _; rw [h1]; exact e, by show pendB j (j.partL s.safe) = none; rw [h1]; exact g⟩
  rcases h.2 with ⟨e, g⟩ | ⟨m, g⟩ | ⟨e, g⟩
  · exact fin g (.inl e)
  · have q : s.pend j = (0, some rs, { j with seq := le8 (j.part s) 4 }) := by
      unfold DF.pend
      rw [if_neg hl.refB, if_neg hnl, hp, g]
    obtain ⟨a1, a2⟩ := apply_calm (z := z) (s := s.asked) hc (by rw [hz]; exact List.length_replicate ..) hl (by show _ ≤ s.now.length; rw [h2]; omega)
    obtain ⟨-, d⟩ := apply_cr (s := s.asked) hc hz m g h1 h2 h3
    obtain ⟨d1, d2, d3, d4, d5⟩ := d a1
    have : s.replay j z = ((rs.length : Int), (s.asked.run (applyOps j z rs)).1, { j with seq := le8 (j.part s) 4 }, (s.asked.run (applyOps j z rs)).2) := by unfold DF.replay; rw [q]
    rw [this]
    exact ⟨a1, a2, d1, d2, d3, .inr d4, d5⟩
  · exact fin g (.inr e)
end Go.Proofs.Ytjccknmgmommcaa.Sx

