import Derived.Test.YtjccknmgmommcaaSxF3
import Derived.Test.YtjccknmgmommcaaSxEc
set_option linter.unusedVariables false
set_option linter.unusedSimpArgs false
set_option maxRecDepth 10000
namespace Go.Proofs.Ytjccknmgmommcaa.Sx
open Go.RowKit Go.Proofs.Ytjccknmgmommcaa.Sx.Tb
/-- All that was written, seen. -/
def allL (b : List Int) (its : List (Bool × Int × List Int)) : List Int := its.foldl (fun b it => layL b it.1 it.2.1 it.2.2) b
theorem allL_append (b : List Int) (its : List (Bool × Int × List Int)) (it : Bool × Int × List Int) : allL b (its ++ [it]) = layL (allL b its) it.1 it.2.1 it.2.2 := by simp [allL]
/-- A file as laws have it: within limits, never refused. -/
structure DF.Ok (s : DF) (n : Int) : Prop where
  safe : s.safe.length ≤ 4194304
  now : s.now.length ≤ 4194304
  its : ∀ it ∈ s.items, 0 ≤ it.2.1 ∧ it.2.1 + it.2.2.length ≤ 4194304
  len : s.items.length ≤ n
  ops : 0 ≤ s.ops ∧ s.ops ≤ n
  wrote : 0 ≤ s.wrote ∧ s.wrote ≤ n
  all : s.now = allL s.safe s.items
theorem wrN_ok : ∀ (k : Nat) (s : DF) (at_ : Int) (xs : List Int), s.now.length ≤ 4194304 → (∀ it ∈ s.items, 0 ≤ it.2.1 ∧ it.2.1 + it.2.2.length ≤ 4194304) → s.now = allL s.safe s.items → 0 ≤ at_ → at_ + xs.length ≤ 4194304 →
    (wrN k s at_ xs).now.length ≤ 4194304 ∧ (∀ it ∈ (wrN k s at_ xs).items, 0 ≤ it.2.1 ∧ it.2.1 + it.2.2.length ≤ 4194304) ∧ (wrN k s at_ xs).now = allL (wrN k s at_ xs).safe (wrN k s at_ xs).items ∧ (wrN k s at_ xs).items.length ≤ s.items.length + xs.length ∧
    (wrN k s at_ xs).safe = s.safe ∧ (wrN k s at_ xs).ops = s.ops ∧ (wrN k s at_ xs).wrote = s.wrote ∧ (wrN k s at_ xs).fail = s.fail ∧ (wrN k s at_ xs).stop = s.stop
  | 0, s, at_, xs, h1, h2, h3, _, _ => by rw [wrN]; exact ⟨h1, h2, h3, by omega, rfl, rfl, rfl, rfl, rfl⟩
  | k + 1, s, at_, xs, h1, h2, h3, h4, h5 => by
    rw [wrN]
    by_cases hx : xs = []
    · rw [if_pos hx]; exact ⟨h1, h2, h3, by omega, rfl, rfl, rfl, rfl, rfl⟩
    · rw [if_neg hx]
      have hl : 0 < xs.length := List.length_pos_iff.2 hx
      have hs1 : 0 < secN at_ xs.length := by unfold secN; omega
      have hs2 : secN at_ xs.length ≤ xs.length := by unfold secN; omega
      have hlt : (xs.take (secN at_ xs.length)).length = secN at_ xs.length := by rw [List.length_take]; omega
      obtain ⟨a1, a2, a3, a4, a5, a6, a7, a8, a9⟩ := wrN_ok k { s with now := layL s.now false at_ (xs.take (secN at_ xs.length)), items := s.items ++ [(false, at_, xs.take (secN at_ xs.length))] } (at_ + secN at_ xs.length) (xs.drop (secN at_ xs.length))
        (show (layL s.now false at_ (xs.take (secN at_ xs.length))).length ≤ 4194304 by rw [layL_len _ _ _ h4, hlt]; omega)
        (fun it hit => by
          rcases List.mem_append.1 hit with hit | hit
          · exact h2 it hit
          · simp only [List.mem_singleton] at hit; subst hit; simp only [hlt]; omega)
        (show layL s.now false at_ (xs.take (secN at_ xs.length)) = allL s.safe (s.items ++ [(false, at_, xs.take (secN at_ xs.length))]) by rw [allL_append, ← h3]) (by omega) (by rw [List.length_drop]; omega)
      refine ⟨a1, a2, a3, ?_, a5, a6, a7, a8, a9⟩
      have e : (s.items ++ [(false, at_, xs.take (secN at_ xs.length))]).length = s.items.length + 1 := by simp
      have a4' : (wrN k { s with now := layL s.now false at_ (xs.take (secN at_ xs.length)), items := s.items ++ [(false, at_, xs.take (secN at_ xs.length))] } (at_ + secN at_ xs.length) (xs.drop (secN at_ xs.length))).items.length ≤ (s.items ++ [(false, at_, xs.take (secN at_ xs.length))]).length + (xs.drop (secN at_ xs.length)).length := a4
      rw [e, List.length_drop] at a4'
      omega
theorem DF.Ok.ask {s : DF} {n : Int} (h : s.Ok n) : s.asked.Ok (n + 1) :=
  ⟨h.safe, h.now, h.its, by have := h.len; show (s.items.length : Int) ≤ _; omega, by have := h.ops; show 0 ≤ s.ops + 1 ∧ s.ops + 1 ≤ _; omega, by have := h.wrote; show 0 ≤ s.wrote ∧ s.wrote ≤ _; omega, h.all⟩
theorem DF.Ok.mono {s : DF} {n m : Int} (h : s.Ok n) (hm : n ≤ m) : s.Ok m :=
  ⟨h.safe, h.now, h.its, by have := h.len; omega, by have := h.ops; omega, by have := h.wrote; omega, h.all⟩
theorem DF.Ok.write {s : DF} {n : Int} (h : s.Ok n) {at_ : Int} {xs : List Int} (h0 : 0 ≤ at_) (h1 : xs.length ≤ 4194304 - at_) : (s.wrote1 at_ xs).Ok (n + 1 + xs.length) ∧ (s.wrote1 at_ xs).safe = s.safe ∧ (s.wrote1 at_ xs).ops = s.ops + 1 ∧ (s.wrote1 at_ xs).wrote = s.wrote + 1 ∧ (s.wrote1 at_ xs).fail = s.fail ∧ (s.wrote1 at_ xs).stop = s.stop := by
  obtain ⟨a1, a2, a3, a4, a5, a6, a7, a8, a9⟩ := wrN_ok xs.length { s with ops := s.ops + 1, wrote := s.wrote + 1 } at_ xs h.now h.its h.all h0 (by omega)
  refine ⟨⟨by rw [DF.wrote1, a5]; exact h.safe, a1, a2, ?_, ?_, ?_, a3⟩, a5, a6, a7, a8, a9⟩
  · have := h.len
    have a4' : (s.wrote1 at_ xs).items.length ≤ s.items.length + xs.length := a4
    omega
  · have := h.ops
    have a6' : (s.wrote1 at_ xs).ops = s.ops + 1 := a6
    omega
  · have := h.wrote
    have a7' : (s.wrote1 at_ xs).wrote = s.wrote + 1 := a7
    omega
theorem layL_cut_len (b : List Int) (n : Int) (h : 0 ≤ n) : (layL b true n []).length ≤ n.toNat := by
  unfold layL
  simp
  omega
theorem DF.Ok.cut {s : DF} {n : Int} (h : s.Ok n) {m : Int} (h0 : 0 ≤ m) (h1 : m ≤ 4194304) : (s.cutTo m).Ok (n + 1) := by
  refine ⟨h.safe, ?_, fun it hit => ?_, ?_, ?_, ?_, ?_⟩
  · have := layL_cut_len s.now m h0; show (layL s.now true m []).length ≤ _; omega
  · rcases List.mem_append.1 hit with hit | hit
    · exact h.its it hit
    · simp only [List.mem_singleton] at hit; subst hit; simp only [List.length_nil]; omega
  · have := h.len; show ((s.items ++ [_]).length : Int) ≤ _; rw [List.length_append, List.length_singleton]; omega
  · have := h.ops; show 0 ≤ s.ops + 1 ∧ s.ops + 1 ≤ _; omega
  · have := h.wrote; show 0 ≤ s.wrote + 1 ∧ s.wrote + 1 ≤ _; omega
  · show layL s.now true m [] = allL s.safe (s.items ++ [(true, m, [])]); rw [allL_append, ← h.all]
theorem DF.Ok.flush {s : DF} {n : Int} (h : s.Ok n) : s.flushed.Ok (n + 1) :=
  ⟨h.now, h.now, fun it hit => absurd hit (by simp [DF.flushed]), by have := h.len; show ((0 : Nat) : Int) ≤ _; omega, by have := h.ops; show 0 ≤ s.ops + 1 ∧ s.ops + 1 ≤ _; omega, by have := h.wrote; show 0 ≤ s.wrote ∧ s.wrote ≤ _; omega, rfl⟩
def DF.live (s : DF) : Prop := s.fail = 0 ∧ s.stop = 0
theorem DF.live.not {s : DF} (h : s.live) : ¬ s.refused := by unfold DF.refused; rw [h.1, h.2]; omega
theorem DF.Did.ok {s s' : DF} {n : Int} {o : OpR} (h : s.Ok n) (hl : s.live) (hd : s.Did o s') : s'.Ok (n + 1 + o.b.length) ∧ s'.live ∧ (o.kind < 4 → s'.safe = s.safe) := by
  have ha : s.asked.Ok (n + 1 + o.b.length) ∧ s.asked.live ∧ (o.kind < 4 → s.asked.safe = s.safe) := ⟨h.ask.mono (by omega), hl, fun _ => rfl⟩
  rcases hd with ⟨_, rfl⟩ | ⟨_, h1⟩ | ⟨_, h1⟩ | ⟨h4, h1⟩ | ⟨_, rfl⟩
  · exact ha
  · rcases h1 with ⟨_, rfl⟩ | ⟨_, _, rfl⟩ | ⟨_, _, _, rfl⟩ | ⟨_, h2, h3, rfl⟩
    · exact ha
    · exact ha
    · exact ha
    · obtain ⟨b1, b2, b3, b4, b5, b6⟩ := h.write h2 h3
      exact ⟨b1, ⟨by rw [b5]; exact hl.1, by rw [b6]; exact hl.2⟩, fun _ => b2⟩
  · rcases h1 with ⟨_, rfl⟩ | ⟨_, _, rfl⟩ | ⟨_, h2, h3, rfl⟩
    · exact ha
    · exact ha
    · exact ⟨(h.cut h2 h3).mono (by omega), hl, fun _ => rfl⟩
  · rcases h1 with ⟨_, rfl⟩ | ⟨_, rfl⟩
    · exact ha
    · exact ⟨h.flush.mono (by omega), hl, fun h => by omega⟩
  · exact ⟨h.mono (by omega), hl, fun _ => rfl⟩
theorem DF.Ok.zero {b : List Int} (h : b.length ≤ 4194304) : (DF.mk0 b).Ok 0 :=
  ⟨h, h, fun it hit => absurd hit (by simp [DF.mk0]), Int.le_refl _, ⟨Int.le_refl _, Int.le_refl _⟩, ⟨Int.le_refl _, Int.le_refl _⟩, rfl⟩
end Go.Proofs.Ytjccknmgmommcaa.Sx

