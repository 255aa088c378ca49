import Derived.Test.YtjccknmgmommcaaSxP7
set_option linter.unusedVariables false
set_option linter.unusedSimpArgs false
set_option maxRecDepth 10000
namespace Go.Proofs.Ytjccknmgmommcaa.Sx
/-! ### Commit, cut off anywhere -/
theorem signL_length (a : Int) (n : Nat) (b : List Int) : (signL a n b).length = 512 := by rw [signL_eq, List.length_append, List.length_append, headL_length, leB_length, List.length_replicate]
theorem signL_B (a : Int) (n : Nat) (b : List Int) : B8 (signL a n b) := by
  rw [signL_eq]
  refine B8.append ?_ ((leB_B8 _ _).append (B8.replicate _))
  unfold headL
  exact (leB_B8 _ _).append ((leB_B8 _ _).append ((leB_B8 _ _).append ((leB_B8 _ _).append (leB_B8 _ _))))
/-- The body is laid; the sign isn't. -/
theorem body_cr {j : JR} {b : List Int} {rs : List RecR} {s : DF} (hc : JCase j b rs) (h0 : ∀ i, i < 512 → b.getD (j.pos.toNat + i) 0 = 0) (h1 : s.safe = b) (h2 : ∀ it ∈ s.items, it.1 = false ∧ j.pos + 512 ≤ it.2.1 ∧ it.2.1 + it.2.2.length ≤ j.pos + j.size ∧ B8 it.2.2) : CrS j b rs s := by
  obtain ⟨j1, j2, j3, j4, j5, j6⟩ := hc.ok
  have hf := hc.fit
  intro ks
  have q : B8 (crashL s.safe s.items ks) ∧ j.eqJ (crashL s.safe s.items ks) b ∧ ∀ i, i < 512 → (crashL s.safe s.items ks).getD (j.pos.toNat + i) 0 = 0 := by
    refine crash_keeps (fun D => B8 D ∧ j.eqJ D b ∧ ∀ i, i < 512 → D.getD (j.pos.toNat + i) 0 = 0) s.items s.safe ks (fun it hit D hD => ?_) (by rw [h1]; exact ⟨hc.b8, .refl b, h0⟩)
    obtain ⟨d1, d2, d3⟩ := hD
    obtain ⟨i1, i2, i3, i4⟩ := h2 it hit
    rw [i1]
    have hl : j.pos.toNat + j.size.toNat ≤ D.length := by rw [d2.1]; omega
    refine ⟨?_, (eqJ_lay hc.ok hl (by omega) i3).trans d2, fun i hi => ?_⟩
    · rw [layL_eq (by omega)]
      refine putG_B8 ?_ i4
      unfold layP
      exact d1.append (B8.replicate _)
    · rw [layL_at (by omega), if_neg (by omega)]
      exact d3 i hi
  refine ⟨q.1, .inl ⟨q.2.1, zero_none hc.ok (by rw [q.2.1.1]; omega) (fun i hi => q.2.2 i (by omega))⟩⟩
/-- All of Commit. -/
theorem commit_cr {j : JR} {b : List Int} {rs : List RecR} {s : DF} {r : Int × JR × DF} (hc : JCase j b rs) (h0 : ∀ i, i < 512 → b.getD (j.pos.toNat + i) 0 = 0) (h1 : s.safe = b) (hn : s.now = b) (hi : s.items = []) (h : comRel j s rs r) :
    CrS j b rs r.2.2 ∧ (r.1 = 0 → r.2.1 = j.next ∧ r.2.2.items = [] ∧ r.2.2.now = r.2.2.safe ∧ Mid j b rs r.2.2.safe ∧ pendB j (j.partL r.2.2.safe) = some rs) := by
  obtain ⟨j1, j2, j3, j4, j5, j6⟩ := hc.ok
  have hf := hc.fit
  have hlen := hc.len
  have hroom := hc.room
  have c0 : CrS j b rs s := body_cr hc h0 h1 (by rw [hi]; intro it hit; cases hit)
  rcases h with ⟨_, h⟩ | ⟨_, _, h⟩ | ⟨_, _, x, hx, h⟩
  · subst h; exact ⟨c0, fun h => absurd (show (4 : Int) = 0 from h) (by decide)⟩
  · subst h; exact ⟨c0, fun h => absurd (show (15 : Int) = 0 from h) (by decide)⟩
  · obtain ⟨body, hb⟩ : ∃ body, body = encL rs := ⟨_, rfl⟩
    have hb8 : B8 body := by rw [hb]; exact encL_B8 hc.r8
    rw [← hb] at hx hroom h
    have a0 : 0 ≤ j.pos + 512 := by omega
    have lay1 : layL b false (j.pos + 512) body = putG b (j.pos + 512).toNat body := layL_putG a0 (by omega)
    have hlb : j.pos.toNat + j.size.toNat ≤ b.length := by omega
    obtain ⟨b1, hb1⟩ : ∃ b1, b1 = putG b (j.pos + 512).toNat body := ⟨_, rfl⟩
    have e1 : j.eqJ b1 b := by rw [hb1, ← lay1]; exact eqJ_lay hc.ok hlb (by omega) (by omega)
    have b18 : B8 b1 := by rw [hb1]; exact putG_B8 hc.b8 hb8
    have z1 : ∀ i, i < 512 → b1.getD (j.pos.toNat + i) 0 = 0 := fun i hi => by
      rw [hb1, ← lay1, layL_at a0, if_neg (by omega)]; exact h0 i hi
    have hl1 : j.pos.toNat + j.size.toNat ≤ b1.length := by rw [e1.1]; exact hlb
    have cr1 : Cr j b rs b1 := ⟨b18, .inl ⟨e1, zero_none hc.ok hl1 (fun i hi => z1 i (by omega))⟩⟩
    rw [s.run2] at hx
    by_cases hA : (s.doOp (.wr (j.pos + 512) body)).1 = 0
    · rw [if_pos hA] at hx
      obtain ⟨-, hd⟩ := DF.doOp_did hA (by rw [hn]; omega)
      rw [hd] at hx
      generalize ht : ({ s with now := putG s.now (j.pos + 512).toNat body, items := s.items ++ segs body.length (j.pos + 512) body, ops := s.ops + 1, wrote := s.wrote + 1 } : DF) = t at hx
      have t1 : t.safe = b := by rw [← ht]; exact h1
      have t2 : t.now = b1 := by rw [← ht, hb1, ← hn]
      have t3 : CrS j b rs t := body_cr hc h0 t1 (by
        rw [← ht, hi]
        intro it hit
        obtain ⟨i1, i2, i3, i4⟩ := segs_in _ _ _ it (by simpa using hit)
        exact ⟨i1, by omega, by omega, i4 hb8⟩)
      by_cases hF : (t.doOp .fl).1 = 0
      · rcases h with ⟨h, _⟩ | ⟨_, sg, hsg, y, hy, h⟩
        · rw [hx] at h; exact absurd hF h
        · have hu := DF.doOp_fled hF
          rw [hx, hu] at hy
          have sl : sg.length = 512 := by rw [hsg]; exact signL_length _ _ _
          have s8 : B8 sg := by rw [hsg]; exact signL_B _ _ _
          have lay2 : layL b1 false j.pos sg = putG b1 j.pos.toNat sg := layL_putG j1 (by omega)
          obtain ⟨b2, hb2⟩ : ∃ b2, b2 = putG b1 j.pos.toNat sg := ⟨_, rfl⟩
          have e2 : j.eqJ b2 b := by rw [hb2, ← lay2]; exact (eqJ_lay hc.ok hl1 (Int.le_refl _) (by omega)).trans e1
          have b28 : B8 b2 := by rw [hb2]; exact putG_B8 b18 s8
          have m2 : Mid j b rs b2 := Mid.zero hc e2 b28
          obtain ⟨-, -, -, -, q5, q6⟩ := JR.next_ok hc.ok
          have p2 : pendB j (j.partL b2) = some rs := (pend_put (t := DF.mk0 b2) (b := b) (j := j) (seq := j.next.seq) (rs := rs) (by
              show b2 = _
              rw [hb2, hb1, show (j.pos + 512).toNat = j.pos.toNat + 512 by omega, putG_two sl (by omega), hsg, hb]) hc.ok ⟨q5, q6⟩ hc.out hc.recs hc.room hc.fit).1
          have cr2 : Cr j b rs b2 := ⟨b28, .inr (.inl ⟨m2, p2⟩)⟩
          have un : t.flushed.now = b1 := t2
          have cu : CrS j b rs t.flushed := fun ks => by show Cr j b rs t.now; rw [t2]; exact cr1
          rw [t.flushed.run2] at hy
          subst h
          by_cases hB : (t.flushed.doOp (.wr j.pos sg)).1 = 0
          · rw [if_pos hB] at hy
            obtain ⟨-, hd2⟩ := DF.doOp_did hB (by rw [un]; omega)
            rw [hd2, segs_one _ _ sl hc.al] at hy
            generalize hv : ({ t.flushed with now := putG t.flushed.now j.pos.toNat sg, items := t.flushed.items ++ [(false, j.pos, sg)], ops := t.flushed.ops + 1, wrote := t.flushed.wrote + 1 } : DF) = v at hy
            have v1 : v.safe = b1 := by rw [← hv]; exact t2
            have v2 : v.items = [(false, j.pos, sg)] := by rw [← hv]; rfl
            have v3 : v.now = b2 := by rw [← hv, hb2, ← un]
            have cv : CrS j b rs v := fun ks => by
              rw [v1, v2]
              cases ks with
              | nil => exact cr1
              | cons k ks =>
                cases k with
                | true => show Cr j b rs (layL b1 false j.pos sg); rw [lay2, ← hb2]; exact cr2
                | false => exact cr1
            rw [hy]
            by_cases hG : (v.doOp .fl).1 = 0
            · rw [DF.doOp_fled hG]
              refine ⟨fun ks => by show Cr j b rs v.now; rw [v3]; exact cr2, fun _ => ⟨rfl, rfl, rfl, by show Mid j b rs v.now; rw [v3]; exact m2, by show pendB j (j.partL v.now) = _; rw [v3]; exact p2⟩⟩
            · simp only [DF.doOp_err hG]
              exact ⟨cv, fun h => absurd h hG⟩
          · rw [if_neg hB] at hy
            rw [hy]
            simp only [DF.doOp_err hB]
            exact ⟨cu, fun h => absurd h hB⟩
      · rcases h with ⟨h, hr⟩ | ⟨h, _⟩
        · subst hr
          rw [hx]
          simp only [DF.doOp_err hF]
          exact ⟨t3, fun h => absurd h hF⟩
        · rw [hx] at h; exact absurd h hF
    · rw [if_neg hA] at hx
      rcases h with ⟨h, hr⟩ | ⟨h, _⟩
      · subst hr
        rw [hx]
        simp only [DF.doOp_err hA]
        exact ⟨c0, fun h => absurd h hA⟩
      · rw [hx] at h; exact absurd h hA
end Go.Proofs.Ytjccknmgmommcaa.Sx

