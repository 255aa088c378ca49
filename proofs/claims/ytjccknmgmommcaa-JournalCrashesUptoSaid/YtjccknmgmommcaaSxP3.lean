import Derived.Test.YtjccknmgmommcaaSxP2
set_option linter.unusedVariables false
set_option linter.unusedSimpArgs false
set_option maxRecDepth 10000
namespace Go.Proofs.Ytjccknmgmommcaa.Sx
theorem DF.live.refB {s : DF} (h : s.live) : ¬ s.refB = true := fun e => h.not ((DF.refB_iff s).1 e)
theorem calm_wr {s : DF} (c : s.live) {at_ : Int} {xs : List Int} (h0 : 0 ≤ at_) (h1 : at_ + xs.length ≤ 4194304) (h2 : at_.toNat ≤ s.now.length) : s.doOp (.wr at_ xs) = (0, { s with now := putG s.now at_.toNat xs, items := s.items ++ segs xs.length at_ xs, ops := s.ops + 1, wrote := s.wrote + 1 }) := by
  rw [DF.doOp_wr, if_neg c.refB, if_neg (by omega), if_neg (by omega), wrote1_put s at_ xs h0 h2]
theorem calm_fl {s : DF} (c : s.live) : s.doOp .fl = (0, s.flushed) := by
  rw [DF.doOp_fl, if_neg c.refB]
/-- What a write and a flush make of a file that isn't refused. -/
theorem calm_two {s : DF} (c : s.live) {at_ : Int} {xs : List Int} (h0 : 0 ≤ at_) (h1 : at_ + xs.length ≤ 4194304) (h2 : at_.toNat ≤ s.now.length) : ∃ s', s.run [.wr at_ xs, .fl] = (0, s') ∧ s'.live ∧ s'.now = putG s.now at_.toNat xs ∧ s'.safe = s'.now ∧ s'.items = [] := by
  rw [s.run2, calm_wr c h0 h1 h2]
  simp only [if_true]
  refine ⟨_, calm_fl ?_, ?_, rfl, rfl, rfl⟩
  · exact c
  · exact c
theorem putG_two {b : List Int} {p n : Nat} {A B : List Int} (hA : A.length = n) (h : p + n ≤ b.length) : putG (putG b (p + n) B) p A = putG b p (A ++ B) := by
  subst hA
  have e1 : putG b (p + A.length) B = b.take (p + A.length) ++ (B ++ b.drop (p + A.length + B.length)) := rfl
  unfold putG at e1 ⊢
  rw [List.length_append]
  have t : (b.take (p + A.length) ++ (B ++ b.drop (p + A.length + B.length))).take p = b.take p := by
    rw [List.take_append_of_le_length (by simp only [List.length_take]; omega), List.take_take]; congr 1; omega
  have d : (b.take (p + A.length) ++ (B ++ b.drop (p + A.length + B.length))).drop (p + A.length) = B ++ b.drop (p + A.length + B.length) := by
    have hl : (b.take (p + A.length)).length = p + A.length := by simp only [List.length_take]; omega
    exact List.drop_left' hl
  rw [t, d, List.append_assoc, ← Nat.add_assoc]
theorem commit_calm {j : JR} {s : DF} {rs : List RecR} {r : Int × JR × DF} (h : comRel j s rs r) (c : s.live) (hj : j.Ok) (ho : ∀ q ∈ rs, j.out q.1 q.2.length) (hf : (encL rs).length ≤ j.size - 512) (hn : j.pos + j.size ≤ s.now.length) (hm : s.now.length ≤ 4194304) :
    r.1 = 0 ∧ r.2.1 = j.next ∧ r.2.2.live ∧ r.2.2.now = putG s.now j.pos.toNat (signL j.next.seq rs.length (encL rs) ++ encL rs) ∧ r.2.2.safe = r.2.2.now ∧ r.2.2.items = [] := by
  obtain ⟨j1, j2, j3, j4, j5, j6⟩ := hj
  rcases h with ⟨h1, _⟩ | ⟨_, h1, _⟩ | ⟨_, _, x, hx, h1⟩
  · exact absurd ho h1
  · omega
  · obtain ⟨s1, e1, c1, n1, n2, n3⟩ := calm_two c (at_ := j.pos + 512) (xs := encL rs) (by omega) (by omega) (by omega)
    rw [e1] at hx
    subst hx
    have hsl : ∀ a n b, (signL a n b).length = 512 := fun a n b => by rw [signL_eq, List.length_append, List.length_append, headL_length, leB_length]; rw [List.length_replicate]
    rcases h1 with ⟨h1, _⟩ | ⟨_, sg, hsg, y, hy, h2⟩
    · exact absurd rfl h1
    · have hsl := hsl j.next.seq rs.length (encL rs)
      rw [← hsg] at hsl
      have l1 : s1.now.length = s.now.length := by rw [n1, putG_length (by omega)]; omega
      obtain ⟨s2, e2, c2, k1, k2, k3⟩ := calm_two c1 (at_ := j.pos) (xs := sg) (by omega) (by omega) (by omega)
      simp only at hy
      rw [e2] at hy
      subst hy
      subst h2
      refine ⟨rfl, rfl, c2, ?_, k2, k3⟩
      show s2.now = _
      rw [k1, n1, ← hsg, show (j.pos + 512).toNat = j.pos.toNat + 512 by omega]
      exact putG_two hsl (by omega)
theorem part_put {b : List Int} {p sz : Nat} {A : List Int} (h : p + sz ≤ b.length) (hA : A.length ≤ sz) : ((putG b p A).drop p).take sz = A ++ ((b.drop (p + A.length)).take (sz - A.length)) := by
  have hl : (b.take p).length = p := by simp only [List.length_take]; omega
  have e : (putG b p A).drop p = A ++ b.drop (p + A.length) := by
    exact List.drop_left' hl
  rw [e, List.take_append, List.take_of_length_le hA]
/-- What is pending in a file as a commit leaves it. -/
theorem pend_put {j : JR} {b : List Int} {seq : Int} {rs : List RecR} {t : DF} (ht : t.now = putG b j.pos.toNat (signL seq rs.length (encL rs) ++ encL rs)) (hj : j.Ok) (hs : 0 ≤ seq ∧ seq < 18446744073709551616) (ho : ∀ q ∈ rs, j.out q.1 q.2.length) (hr : ∀ q ∈ rs, recP q) (hf : (encL rs).length ≤ j.size - 512) (hn : j.pos + j.size ≤ b.length) :
    pendB j (j.part t) = some rs ∧ le8 (j.part t) 4 = seq := by
  obtain ⟨j1, j2, j3, j4, j5, j6⟩ := hj
  have hsl : (signL seq rs.length (encL rs)).length = 512 := by rw [signL_eq, List.length_append, List.length_append, headL_length, leB_length, List.length_replicate]
  unfold JR.part
  rw [ht, part_put (by omega) (by rw [List.length_append, hsl]; omega), List.append_assoc]
  exact pend_signed j seq rs _ (by omega) hs ho hr hf
theorem DF.pend_some {j : JR} {s : DF} (c : s.live) (hn : j.pos + j.size ≤ s.now.length) {rs : List RecR} (h : pendB j (j.part s) = some rs) : s.pend j = (0, some rs, { j with seq := le8 (j.part s) 4 }) := by
  unfold DF.pend
  rw [if_neg c.refB, if_neg (by omega), h]
def abc : List Int := [97, 98, 99]
def rsB : List RecR := [(2048, abc)]
def jB : JR := ⟨512, 1024, 0⟩
theorem encB : (encL rsB).length = 15 := by simp [encL, rsB, enc1, leB_length, abc]
theorem jB_ok : jB.Ok := by unfold JR.Ok jB; simp
theorem outB : ∀ q ∈ rsB, jB.out q.1 q.2.length := by
  intro q hq
  unfold rsB at hq
  rw [List.mem_singleton] at hq
  subst hq
  unfold JR.out jB abc
  simp
theorem recB : ∀ q ∈ rsB, recP q := by
  intro q hq
  unfold rsB at hq
  rw [List.mem_singleton] at hq
  subst hq
  unfold recP abc
  simp
theorem B8_abc : B8 abc := by
  intro x hx
  simp [abc] at hx
  omega
/-- The example of the journal's laws. -/
theorem begunP {z zz l : List Int} (hz : z.length = 4096) {r : Int × JR × DF} (h : comRel jB (DF.mk0 z) rsB r) (hl : l = crashL r.2.2.safe r.2.2.items []) (hzz : zz.length = 512) :
    r.1 = 0 ∧ l.length = 4096 ∧ newE (DF.mk0 l) 512 1024 = 0 ∧ ((DF.mk0 l).replay jB zz).1 = 1 ∧ ((DF.mk0 l).replay jB zz).2.1 = 0 ∧ (((DF.mk0 l).replay jB zz).2.2.2.now.drop 2048).take 3 = abc ∧ ((DF.mk0 l).replay jB zz).2.2.2.now.length = 4096 := by
  have c : (DF.mk0 z).live := ⟨rfl, rfl⟩
  have hf : ((encL rsB).length : Int) ≤ jB.size - 512 := by rw [encB]; show (15 : Int) ≤ 1024 - 512; omega
  have hn : jB.pos + jB.size ≤ (DF.mk0 z).now.length := by show (512 : Int) + 1024 ≤ z.length; omega
  obtain ⟨k1, k2, k3, k4, k5, k6⟩ := commit_calm h c jB_ok outB hf hn (by show z.length ≤ _; omega)
  rw [k6, k5] at hl
  have hl : l = r.2.2.now := by rw [hl]; rfl
  rw [k4] at hl
  have hsl : ∀ a n b, (signL a n b).length = 512 := fun a n b => by rw [signL_eq, List.length_append, List.length_append, headL_length, leB_length, List.length_replicate]
  have hll : l.length = 4096 := by
    rw [hl, putG_length (by show (512 : Nat) ≤ z.length; omega), List.length_append, hsl, encB]
    show max z.length ((512 : Nat) + (512 + 15)) = 4096
    omega
  have hp := pend_put (t := DF.mk0 l) (j := jB) (b := z) (seq := jB.next.seq) (rs := rsB) hl jB_ok (by show (0:Int) ≤ (0 + 1) % 18446744073709551616 ∧ (0 + 1) % 18446744073709551616 < (18446744073709551616 : Int); omega) outB recB hf hn
  have c2 : (DF.mk0 l).live := ⟨rfl, rfl⟩
  have hn2 : jB.pos + jB.size ≤ (DF.mk0 l).now.length := by show (512 : Int) + 1024 ≤ l.length; omega
  have hpd := DF.pend_some c2 hn2 hp.1
  have c3 : (DF.mk0 l).asked.live := c2
  obtain ⟨s1, e1, c4, n1, n2, n3⟩ := calm_two c3 (at_ := 2048) (xs := abc) (by omega) (by decide) (by show 2048 ≤ l.length; omega)
  have l1 : s1.now.length = 4096 := by rw [n1, putG_length (by show 2048 ≤ l.length; omega)]; show max l.length (2048 + 3) = 4096; omega
  obtain ⟨s2, e2, c5, m1, m2, m3⟩ := calm_two c4 (at_ := 512) (xs := zz) (by omega) (by omega) (by show 512 ≤ s1.now.length; omega)
  have hrun : (DF.mk0 l).asked.run (applyOps jB zz rsB) = (0, s2) := by
    have : applyOps jB zz rsB = [.wr 2048 abc, .fl] ++ [.wr 512 zz, .fl] := rfl
    rw [this, DF.run_good e1, e2]
  have hrep : (DF.mk0 l).replay jB zz = ((rsB.length : Int), 0, { jB with seq := le8 (jB.part (DF.mk0 l)) 4 }, s2) := by
    unfold DF.replay
    rw [hpd]
    simp only
    rw [hrun]
  rw [hrep]
  refine ⟨k1, hll, ?_, rfl, rfl, ?_, ?_⟩
  · unfold newE
    rw [if_neg (by decide), if_neg]
    show ¬ ((1024 : Int) < 1024 ∨ (l.length : Int) < 512 ∨ (l.length : Int) - 512 < 1024)
    omega
  · show (s2.now.drop 2048).take 3 = abc
    rw [m1, n1]
    have d1 : (putG (putG l 2048 abc) 512 zz).drop 2048 = (putG l 2048 abc).drop 2048 := by
      have hA : ((putG l 2048 abc).take 512).length = 512 := by simp only [List.length_take, putG_length (show 2048 ≤ l.length by omega)]; omega
      show ((putG l 2048 abc).take 512 ++ (zz ++ (putG l 2048 abc).drop (512 + zz.length))).drop 2048 = _
      rw [← List.append_assoc, List.drop_append, List.drop_eq_nil_of_le (by rw [List.length_append, hA]; omega), List.nil_append, List.drop_drop, List.length_append, hA, hzz]
    have d2 : (putG l 2048 abc).drop 2048 = abc ++ l.drop (2048 + abc.length) := List.drop_left' (by simp only [List.length_take]; omega)
    show ((putG (putG l 2048 abc) 512 zz).drop 2048).take 3 = abc
    rw [d1, d2]
    exact List.take_left' rfl
  · show s2.now.length = 4096
    rw [m1, putG_length (by show 512 ≤ s1.now.length; omega)]
    show max s1.now.length (512 + zz.length) = 4096
    omega
end Go.Proofs.Ytjccknmgmommcaa.Sx

