import Derived.Test.YtcfmlnddmpiemaaSxU6
import Derived.Test.YtcfmlnddmpiemaaSxU7
import Derived.Test.YtcfmlnddmpiemaaSxEc
import Derived.Test.YtcfmlnddmpiemaaSxU1
import Derived.Test.YtcfmlnddmpiemaaSxU3
set_option linter.unusedVariables false
set_option linter.unusedSimpArgs false
set_option maxRecDepth 10000
namespace Go.Proofs.Ytcfmlnddmpiemaa.Sx
/-! ### Which sectors are changed -/
def TR.ks (t : TR) : List Int := t.dirty.map (fun x => x.1)
theorem upS_key (n k : Int) (v : List Int) (d : List (Int × List Int)) : k ∈ (upS n v d).map (fun x => x.1) ↔ k ∈ d.map (fun x => x.1) ∨ k = n := by
  rw [upS_keys]
  by_cases h : n ∈ d.map (fun x => x.1)
  · rw [if_pos h]
    exact ⟨.inl, fun q => by rcases q with q | q; exact q; exact q ▸ h⟩
  · rw [if_neg h, List.mem_append, List.mem_singleton]
theorem wr1_ks (t : TR) (now : List Int) (a : Nat) (xs : List Int) (k : Int) : k ∈ (t.wr1 now a xs).ks ↔ k ∈ t.ks ∨ k = ((a / 512 : Nat) : Int) := upS_key _ _ _ _
theorem putF_mono : ∀ (f : Nat) (t : TR) (now : List Int) (a : Nat) (p : List Int) (k : Int), k ∈ t.ks → k ∈ (TR.putF f t now a p).ks
  | 0, t, now, a, p, k, h => h
  | f + 1, t, now, a, p, k, h => by
    by_cases h0 : p.length = 0
    · rw [putF_nil _ _ _ _ _ h0]; exact h
    · have e : TR.putF (f + 1) t now a p = TR.putF f (t.wr1 now a (p.take (min p.length (512 - a % 512)))) now (a + min p.length (512 - a % 512)) (p.drop (min p.length (512 - a % 512))) := by
        show (if _ then _ else _) = _; rw [if_neg h0]
      rw [e]
      exact putF_mono f _ _ _ _ k ((wr1_ks _ _ _ _ _).2 (.inl h))
theorem putF_ks : ∀ (f : Nat) (t : TR) (now : List Int) (a : Nat) (p : List Int) (m : Nat), 0 < p.length → p.length ≤ f → a < 512 * m + 512 → 512 * m < a + p.length → (m : Int) ∈ (TR.putF f t now a p).ks
  | 0, t, now, a, p, m, h0, hp, h1, h2 => by omega
  | f + 1, t, now, a, p, m, h00, hp, h1, h2 => by
    have h0 : ¬ p.length = 0 := by omega
    have e : TR.putF (f + 1) t now a p = TR.putF f (t.wr1 now a (p.take (min p.length (512 - a % 512)))) now (a + min p.length (512 - a % 512)) (p.drop (min p.length (512 - a % 512))) := by
      show (if _ then _ else _) = _; rw [if_neg h0]
    rw [e]
    generalize hk : min p.length (512 - a % 512) = d
    have hdl : (p.drop d).length = p.length - d := List.length_drop ..
    by_cases c : m = a / 512
    · subst c
      exact putF_mono f _ _ _ _ _ ((wr1_ks _ _ _ _ _).2 (.inr rfl))
    · exact putF_ks f _ now (a + d) (p.drop d) m (by omega) (by omega) (by omega) (by omega)
theorem put_ks (t : TR) (now : List Int) (a : Nat) (p : List Int) (k : Int) : k ∈ (t.put now a p).ks ↔ k ∈ t.ks ∨ 0 < p.length ∧ ∃ m : Nat, k = (m : Int) ∧ a < 512 * m + 512 ∧ 512 * m < a + p.length := by
  constructor
  · intro h
    by_cases h0 : p.length = 0
    · unfold TR.put at h
      rw [putF_nil _ _ _ _ _ h0] at h
      exact .inl h
    · rcases put_keys t now a p k h with h | h
      · exact .inl h
      · exact .inr ⟨by omega, h⟩
  · rintro (h | ⟨h0, m, rfl, h1, h2⟩)
    · exact putF_mono _ _ _ _ _ _ h
    · exact putF_ks _ _ _ _ _ _ h0 (Nat.le_refl _) h1 h2
theorem ks_iff {t : TR} {k : Int} : k ∈ t.ks ↔ ∃ l, lkS k t.dirty = some l := ⟨lkS_of_mem, fun ⟨_, h⟩ => lkS_key h⟩
theorem fresh_ks {t : TR} (h : t.Ok) {a : Nat} {p : List Int} {c : Nat} (h1 : a + p.length ≤ 4194304) (hc : t.fresh.length + 1 ≤ c) (hn : t.fresh.length + 1 ≤ 1073741824) (m : Nat) : (m : Int) ∈ (t.freshT a p c).ks ↔ (m : Int) ∈ t.ks := by
  have hO : (t.addF ((a : Int), p) c).Ok := by
    refine ⟨h.sec, ?_, ?_, ?_⟩
    · intro q hq
      rcases List.mem_append.1 (show q ∈ t.fresh ++ [((a : Int), p)] from hq) with hq | hq
      · exact h.frs q hq
      · obtain rfl := List.mem_singleton.1 hq
        exact ⟨by show (0 : Int) ≤ a; omega, by show (a : Int) ≤ _; omega, by show p.length ≤ _; omega⟩
    · show (t.fresh ++ [((a : Int), p)]).length ≤ c; rw [List.length_append]; exact hc
    · show (t.fresh ++ [((a : Int), p)]).length ≤ _; rw [List.length_append]; exact hn
  have e := (layN_all ((p.length + 511) / 512) (t.addF ((a : Int), p) c) ((a : Int), p) (a / 512) hO).2.2.2.2.2 m
  have e : lkS (m : Int) (t.freshT a p c).dirty = if a / 512 ≤ m ∧ m < a / 512 + (p.length + 511) / 512 then (lkS (m : Int) t.dirty).map (fun l => layR ((m : Int) * 512) l ((a : Int), p)) else lkS (m : Int) t.dirty := e
  rw [ks_iff, ks_iff, e]
  cases hq : lkS (m : Int) t.dirty with
  | none => split <;> simp
  | some l => split <;> simp
end Go.Proofs.Ytcfmlnddmpiemaa.Sx


set_option maxRecDepth 10000
namespace Go.Proofs.Ytcfmlnddmpiemaa.Sx
open Go.RowKit Go.Proofs.Ytcfmlnddmpiemaa.Sx.Tb
/-! ### The law's need -/
end Go.Proofs.Ytcfmlnddmpiemaa.Sx


set_option maxRecDepth 10000
namespace Go.Proofs.Ytcfmlnddmpiemaa.Sx
/-! ### The law TxCrashes, plain -/
/-- A replay of a file in whose journal nothing is pending. -/
theorem replay_none {j : JR} {C z : List Int} {s : DF} (h2 : s.now = C) (hl : s.live) (hf : j.pos + j.size ≤ C.length) (hp : pendB j (j.partL C) = none) : s.replay j z = (0, 0, j, s.asked) := by
  have hpp : j.part s = j.partL C := by unfold JR.part JR.partL; rw [h2]
  have q : s.pend j = (0, none, j) := by
    unfold DF.pend
    rw [if_neg hl.refB, if_neg (show ¬ ((s.now.length : Int) < j.pos + j.size) by rw [h2]; omega), hpp, hp]
  unfold DF.replay
  rw [q]
theorem doneL_V : ∀ (rs : List RecR) (C : List Int) (i : Nat), (∀ r ∈ rs, r.1.toNat + r.2.length ≤ C.length) → (doneL rs C).getD i 0 = doneV rs (fun i => C.getD i 0) i
  | [], _, _, _ => rfl
  | r :: rs, C, i, h => by
    have h1 := h r (List.mem_cons_self ..)
    have hl : (putG C r.1.toNat r.2).length = C.length := by rw [putG_length (by omega)]; omega
    show (doneL rs (putG C r.1.toNat r.2)).getD i 0 = _
    rw [doneL_V rs _ i (fun q hq => by rw [hl]; exact h q (List.mem_cons_of_mem _ hq)), doneV_cons]
    refine doneV_congr rs _ _ i ?_
    show (putG C r.1.toNat r.2).getD i 0 = wrV (fun i => C.getD i 0) r.1.toNat r.2 i
    rw [putG_get (by omega)]; rfl
theorem crashL_none (b : List Int) (ks : List Bool) : crashL b [] ks = b := by cases ks <;> rfl
/-- A commit that was not cut off: all that was put is safe. -/
theorem tcrash_done {t : TR} {j : JR} {s : DF} {z b : List Int} {x : Int × TR × JR × DF} (h : tcomRel t j s z x) (ho : t.over = false) (hs : s.safe = b) (hn : s.now = b) (hi : s.items = []) (hj : j.Ok) (hal : j.pos % 512 = 0) (hf : j.pos + j.size ≤ b.length) (hm : b.length ≤ 4194304) (h8 : B8 b) (h0 : ∀ i, i < 512 → b.getD (j.pos.toNat + i) 0 = 0)
    (hT : t.Ok) (hI : t.In j) (hF : ∀ r ∈ t.fresh, r.1.toNat + r.2.length ≤ b.length) (hD : ∀ q ∈ t.dirty, q.1 * 512 + 512 ≤ b.length) (hz : z = List.replicate 512 0) {rs : List RecR} (hr : RecRel t rs) (hfit : (encL rs).length ≤ j.size - 512) (he : x.1 = 0) :
    x.2.2.2.items = [] ∧ x.2.2.2.now = x.2.2.2.safe ∧ B8 x.2.2.2.safe ∧ j.eqJ x.2.2.2.safe (doneL rs (doneL t.fresh b)) ∧ pendB j (j.partL x.2.2.2.safe) = none := by
  obtain ⟨hJ, -⟩ := tcrash h ho hs hn hi hj hal hf hm h8 h0 hT hI hF hD hz hr hfit
  have hin : ∀ r ∈ t.fresh, 0 ≤ r.1 ∧ r.1.toNat + r.2.length ≤ b.length := fun r hr => ⟨(hI.frs r hr).1, hF r hr⟩
  have hl1 := doneL_in hin
  obtain ⟨j1, j2, j3, j4, j5, j6⟩ := hj
  have hj : j.Ok := ⟨j1, j2, j3, j4, j5, j6⟩
  have hz1 : ∀ i, i < 512 → (doneL t.fresh b).getD (j.pos.toNat + i) 0 = 0 := fun i hi => by
    rw [doneL_off t.fresh b _ (fun r hm => by have := hin r hm; omega) (fun r hm hc => ?_)]
    · exact h0 i hi
    · have := hI.frs r hm
      have hc : r.1.toNat ≤ j.pos.toNat + i ∧ j.pos.toNat + i < r.1.toNat + r.2.length := hc
      omega
  rcases h with ⟨h, _⟩ | ⟨_, rs', hr', h⟩
  · rw [ho] at h; cases h
  obtain rfl := hr.unique hr'
  rcases h with ⟨h, _⟩ | ⟨_, y, hy, h⟩
  · omega
  obtain ⟨w1, w2, w3, w4⟩ := wrs_items t.fresh s (fun r hm => by rw [hn]; exact hin r hm)
  have ends : y.1 = 0 → y.2.safe = doneL t.fresh b ∧ y.2.now = doneL t.fresh b ∧ y.2.items = [] := by
    rw [hy]
    unfold frOps
    by_cases hA : (s.run (wrs t.fresh)).1 = 0
    · by_cases hL : t.fresh.length = 0
      · have hf0 : t.fresh = [] := List.eq_nil_of_length_eq_zero hL
        rw [if_pos hL, List.append_nil, hf0]
        exact fun _ => ⟨hs, hn, hi⟩
      · rw [if_neg hL]
        have e1 : s.run (wrs t.fresh) = (0, (s.run (wrs t.fresh)).2) := Prod.ext hA rfl
        rw [DF.run_good e1, DF.run1]
        have w4 := w4 hA
        rw [hn] at w4
        intro hB
        rw [DF.doOp_fled hB]
        exact ⟨w4, w4, rfl⟩
    · rw [DF.run_bad hA]
      exact fun h => absurd h hA
  rcases h with ⟨h1, rfl⟩ | ⟨h1, h2, rfl⟩ | ⟨h1, h2, q, hq, h3⟩
  · exact absurd he h1
  · obtain ⟨e1, e2, e3⟩ := ends h1
    have hrs : rs = [] := List.eq_nil_of_length_eq_zero h2
    subst hrs
    have hB : B8 (doneL t.fresh b) := doneL_B8 _ _ h8 (fun r hm => (hI.frs r hm).2.2.2)
    refine ⟨e3, e2.trans e1.symm, by rw [e1]; exact hB, by rw [e1]; exact JR.eqJ.refl _, ?_⟩
    show pendB j (j.partL y.2.safe) = none
    rw [e1]
    exact zero_none hj (by rw [hl1]; omega) (fun i hi => hz1 i (by omega))
  · obtain ⟨e1, e2, e3⟩ := ends h1
    obtain ⟨k1, k2⟩ := commit_cr hJ hz1 e1 e2 e3 hq
    rcases h3 with ⟨h3, rfl⟩ | ⟨h3, u, hu, rfl⟩
    · exact absurd he h3
    · obtain ⟨n1, n2, n3, n4, n5⟩ := k2 h3
      have hap := (apply_cr hJ hz n4 n5 rfl n3 n2).2
      have he : u.1 = 0 := he
      rw [hu, n1] at he ⊢
      exact hap he
end Go.Proofs.Ytcfmlnddmpiemaa.Sx


set_option maxRecDepth 10000
namespace Go.Proofs.Ytcfmlnddmpiemaa.Sx
/-! ### What stands behind a crash within a commit and a replay, whole -/
structure CrashAll (j : JR) (t : TR) (b : List Int) (e : Int) (y : Int × Int × JR × DF) : Prop where
  err : y.2.1 = 0
  live : y.2.2.2.live
  b8 : B8 y.2.2.2.now
  len : y.2.2.2.now.length = b.length
  jr : y.2.2.1.pos = j.pos ∧ y.2.2.1.size = j.size
  items : y.2.2.2.items = [] ∧ y.2.2.2.now = y.2.2.2.safe
  view : (∀ i, ¬ j.inJ i → y.2.2.2.now.getD i 0 = t.V b i) ∨ e ≠ 0 ∧ ∀ i, ¬ j.inJ i → (∀ r ∈ t.fresh, ¬ covers r i) → y.2.2.2.now.getD i 0 = b.getD i 0
theorem replay_jr (j : JR) (s : DF) (z : List Int) : (s.replay j z).2.2.1.pos = j.pos ∧ (s.replay j z).2.2.1.size = j.size := by
  unfold DF.replay
  cases hq : (s.pend j).2.1 with
  | none => exact ⟨rfl, rfl⟩
  | some ss =>
    show (s.pend j).2.2.pos = j.pos ∧ (s.pend j).2.2.size = j.size
    unfold DF.pend
    repeat' split
    all_goals exact ⟨rfl, rfl⟩
theorem tcrash_all {t : TR} {j : JR} {s : DF} {z b : List Int} {x : Int × TR × JR × DF} (h : tcomRel t j s z x) (ho : t.over = false) (hs : s.safe = b) (hn : s.now = b) (hi : s.items = []) (hj : j.Ok) (hal : j.pos % 512 = 0) (hf : j.pos + j.size ≤ b.length) (hm : b.length ≤ 4194304) (h8 : B8 b) (h0 : ∀ i, i < 512 → b.getD (j.pos.toNat + i) 0 = 0)
    (hT : t.Ok) (hI : t.In j) (hF : ∀ r ∈ t.fresh, r.1.toNat + r.2.length ≤ b.length) (hD : ∀ q ∈ t.dirty, q.1 * 512 + 512 ≤ b.length) (hz : z = List.replicate 512 0) {rs : List RecR} (hr : RecRel t rs) (hfit : (encL rs).length ≤ j.size - 512) (ks : List Bool) :
    B8 (crashL x.2.2.2.safe x.2.2.2.items ks) ∧ (crashL x.2.2.2.safe x.2.2.2.items ks).length = b.length ∧ ∀ y, y = (DF.mk0 (crashL x.2.2.2.safe x.2.2.2.items ks)).replay j z → CrashAll j t b x.1 y := by
  obtain ⟨hJ, hk⟩ := tcrash h ho hs hn hi hj hal hf hm h8 h0 hT hI hF hD hz hr hfit
  have hin : ∀ r ∈ t.fresh, 0 ≤ r.1 ∧ r.1.toNat + r.2.length ≤ b.length := fun r hr => ⟨(hI.frs r hr).1, hF r hr⟩
  have hl1 := doneL_in hin
  obtain ⟨hV, hcov⟩ := hr.S hT (fun q hq => (hI.keys q hq).1)
  have hrin : ∀ r ∈ rs, r.1.toNat + r.2.length ≤ b.length := fun r hm => by
    obtain ⟨c1, c2, c3⟩ := hcov r hm
    obtain ⟨q, hq, e⟩ := List.mem_map.1 (c3 (r.1.toNat + r.2.length - 1) (by omega) (by omega))
    have := hD q hq
    omega
  have hl2 : (doneL rs (doneL t.fresh b)).length = b.length := by
    rw [doneL_in (fun r hm => ⟨(hcov r hm).1, by rw [hl1]; exact hrin r hm⟩), hl1]
  have hend : endL rs (doneL t.fresh b).length = b.length := by
    rw [← doneL_length rs _ (fun r hm => by rw [hl1]; have := hrin r hm; omega), hl2]
  have hview : ∀ i, (doneL rs (doneL t.fresh b)).getD i 0 = t.V b i := fun i => by
    rw [doneL_V rs _ i (fun r hm => by rw [hl1]; exact hrin r hm), ← hn, ← hV s i]
    refine doneV_congr rs _ _ i ?_
    rw [doneL_V t.fresh _ i (fun r hm => by rw [hn]; exact (hin r hm).2)]
    rfl
  have none : ∀ C, B8 C → C.length = b.length → pendB j (j.partL C) = none → ∀ y, y = (DF.mk0 C).replay j z → ((∀ i, ¬ j.inJ i → C.getD i 0 = t.V b i) ∨ x.1 ≠ 0 ∧ ∀ i, ¬ j.inJ i → (∀ r ∈ t.fresh, ¬ covers r i) → C.getD i 0 = b.getD i 0) → CrashAll j t b x.1 y := fun C c8 cl cp y hy hv => by
    rw [replay_none (s := DF.mk0 C) rfl ⟨rfl, rfl⟩ (by show j.pos + j.size ≤ (C.length : Int); rw [cl]; exact hf) cp] at hy
    subst hy
    exact ⟨rfl, ⟨rfl, rfl⟩, c8, cl, ⟨rfl, rfl⟩, ⟨rfl, rfl⟩, hv⟩
  by_cases he : x.1 = 0
  · obtain ⟨d1, d2, d3, d4, d5⟩ := tcrash_done h ho hs hn hi hj hal hf hm h8 h0 hT hI hF hD hz hr hfit he
    rw [d1, crashL_none]
    have dl : x.2.2.2.safe.length = b.length := d4.1.trans hl2
    exact ⟨d3, dl, fun y hy => none _ d3 dl d5 y hy (.inl (fun i hi => (d4.2 i hi).trans (hview i)))⟩
  generalize hC : crashL x.2.2.2.safe x.2.2.2.items ks = C
  have hk := hk ks
  rw [hC] at hk
  rcases hk with hk | hk
  · exact ⟨hk.2.1, hk.1, fun y hy => none C hk.2.1 hk.1 (hk.pend hj hf h0) y hy (.inr ⟨he, fun i _ hc => hk.2.2.2 i hc⟩)⟩
  · have hlen := hk.len hJ
    rw [hend, hl1] at hlen
    refine ⟨hk.1, Nat.le_antisymm hlen.2 hlen.1, fun y hy => ?_⟩
    obtain ⟨n1, n2, n3, n4, n5, n6, n7⟩ := replay_end (s := DF.mk0 C) hJ hz hk rfl rfl rfl ⟨rfl, rfl⟩
    have hjr := replay_jr j (DF.mk0 C) z
    rw [← hy] at n1 n2 n3 n4 n5 n6 hjr
    rcases n6 with n6 | n6
    · refine ⟨n1, n2, by rw [n4]; exact n5, by rw [n4]; exact n6.1.trans hl1, hjr, ⟨n3, n4⟩, .inr ⟨he, fun i hi hc => ?_⟩⟩
      rw [n4, n6.2 i hi]
      exact doneL_off t.fresh b i (fun r hm => by have := hin r hm; omega) hc
    · refine ⟨n1, n2, by rw [n4]; exact n5, by rw [n4]; exact n6.1.trans hl2, hjr, ⟨n3, n4⟩, .inl (fun i hi => ?_)⟩
      rw [n4, n6.2 i hi]
      exact hview i
end Go.Proofs.Ytcfmlnddmpiemaa.Sx


set_option maxRecDepth 10000
namespace Go.Proofs.Ytcfmlnddmpiemaa.Sx
open Go.RowKit Go.Proofs.Ytcfmlnddmpiemaa.Sx.Tb
/-! ### The law MapsTables -/
theorem decV_encV {x : ER} (h : (encV x).2 = 0) : decV (encV x).1 = (x, 0) := by
  obtain ⟨a, b, c⟩ := x
  by_cases h1 : a = 0 ∨ a = 1
  · by_cases h2 : b ≠ 0 ∨ c = true
    · exfalso; simp [encV, h1, h2] at h
    · have e : encV ⟨a, b, c⟩ = (a, 0) := by unfold encV; rw [if_pos h1, if_neg h2]
      have hb : b = 0 := Decidable.not_not.1 (fun q => h2 (.inl q))
      have hc : c = false := by cases c; rfl; exact absurd (.inr rfl) h2
      rw [e]; unfold decV; rw [if_pos h1, hb, hc]
  · by_cases h2 : a ≠ 2 ∨ b < 1 ∨ 8192 ≤ b
    · exfalso; simp [encV, h1, h2] at h
    · have ha : a = 2 := by omega
      cases c with
      | true =>
        have e : encV ⟨a, b, true⟩ = (9223372036854775808 + b * 256, 0) := by unfold encV; rw [if_neg h1, if_neg h2, if_pos rfl]
        rw [e]
        have d : decE (9223372036854775808 + b * 256) = ⟨a, b, true⟩ := by
          unfold decE
          rw [if_neg (by omega), ha, show (9223372036854775808 + b * 256 - 9223372036854775808) / 256 = b by omega, decide_eq_true (by omega)]
        unfold decV; rw [if_neg (by simp only; omega), d, e, if_pos rfl]
      | false =>
        have e : encV ⟨a, b, false⟩ = (b * 256, 0) := by unfold encV; rw [if_neg h1, if_neg h2, if_neg (fun q => by cases q)]
        rw [e]
        have d : decE (b * 256) = ⟨a, b, false⟩ := by
          unfold decE
          rw [if_pos (by omega), ha, show b * 256 / 256 = b by omega, decide_eq_false (by omega)]
        unfold decV; rw [if_neg (by simp only; omega), d, e, if_pos rfl]
/-- What stands in a table. -/
def TabV (t : TR) (now : List Int) (a : Nat) (M : List ER) : Prop := M.length = 64 ∧ ∀ i, i < 64 → (encV (M.getD i ⟨0, 0, false⟩)).2 = 0 ∧ t.rd now (a + 8 * i) 8 = leB 8 (encV (M.getD i ⟨0, 0, false⟩)).1
theorem TabV.dec {t : TR} {now : List Int} {a : Nat} {M : List ER} (h : TabV t now a M) (i : Nat) (hi : i < 64) : decV (leV (t.rd now (a + 8 * i) 8)) = (M.getD i ⟨0, 0, false⟩, 0) := by
  obtain ⟨h1, h2⟩ := h.2 i hi
  have b := encV_b (M.getD i ⟨0, 0, false⟩)
  rw [h2, leV_leB 8 _ b.1 (by simpa using b.2)]
  exact decV_encV h1
theorem TabV.put {t : TR} {now : List Int} {a : Nat} {M : List ER} (h : TabV t now a M) (ht : t.Ok) (i : Nat) (hi : i < 64) {x : ER} (hx : (encV x).2 = 0) : TabV (t.put now (a + 8 * i) (leB 8 (encV x).1)) now a (M.set i x) := by
  refine ⟨by rw [List.length_set]; exact h.1, fun q hq => ?_⟩
  by_cases hqi : q = i
  · subst hqi
    have e : (M.set q x).getD q ⟨0, 0, false⟩ = x := by
      rw [List.getD_eq_getElem?_getD, List.getElem?_set_self (by rw [h.1]; exact hq)]; rfl
    rw [e]
    refine ⟨hx, ?_⟩
    have := put_rd ht now (a + 8 * q) (leB 8 (encV x).1)
    rw [leB_length] at this
    exact this
  · have e : (M.set i x).getD q ⟨0, 0, false⟩ = M.getD q ⟨0, 0, false⟩ := by
      rw [List.getD_eq_getElem?_getD, List.getElem?_set_ne (fun e => hqi e.symm), List.getD_eq_getElem?_getD]
    rw [e]
    refine ⟨(h.2 q hq).1, ?_⟩
    rw [← (h.2 q hq).2]
    refine rd_congr (fun b hb => ?_)
    rw [(put_V ht now _ _).2.2.2.2, leB_length, if_neg (by omega)]
theorem TabV.zero {now : List Int} (hz : ∀ x ∈ now, x = 0) (a : Nat) : TabV TR.zero now a (List.replicate 64 ⟨0, 0, false⟩) := by
  have z : ∀ i, TR.zero.V now i = 0 := by
    intro i
    rw [zero_V, List.getD_eq_getElem?_getD]
    cases e : now[i]? with
    | none => rfl
    | some v => exact hz _ (List.mem_of_getElem? e)
  refine ⟨List.length_replicate .., fun i hi => ?_⟩
  have e : (List.replicate 64 (⟨0, 0, false⟩ : ER)).getD i ⟨0, 0, false⟩ = ⟨0, 0, false⟩ := by
    rw [List.getD_eq_getElem?_getD, List.getElem?_replicate]; split <;> rfl
  rw [e]
  refine ⟨rfl, ?_⟩
  show List.map _ _ = _
  have : (fun q => TR.zero.V now (a + 8 * i + q)) = fun _ => 0 := funext (fun q => z _)
  rw [this]
  decide
/-- A list of a table's entries, decoded. -/
theorem TabV.list {t : TR} {now : List Int} {a : Nat} {M : List ER} (h : TabV t now a M) {r : List ER × Int} (hr : LRel (t.rd now a 512) r) : r = (M, 0) := by
  have hl : (t.rd now a 512).length = 512 := TR.rd_length ..
  have w : ∀ q, q < 64 → decV (word (t.rd now a 512) q) = (M.getD q ⟨0, 0, false⟩, 0) := by
    intro q hq
    rw [← h.dec q hq]
    unfold word
    refine congrArg decV (congrArg leV ?_)
    refine ext_getD (by rw [List.length_take, List.length_drop, hl, TR.rd_length]; omega) (fun i hi => ?_)
    rw [List.length_take, List.length_drop, hl] at hi
    rw [TR.rd_get _ _ _ _ _ (by omega), List.getD_eq_getElem?_getD, List.getElem?_take, if_pos (by omega), List.getElem?_drop, ← List.getD_eq_getElem?_getD, TR.rd_get _ _ _ _ _ (by omega), show a + (8 * q + i) = a + 8 * q + i by omega]
  obtain ⟨es, e⟩ := r
  rcases hr with ⟨e1, e2, -⟩ | ⟨-, -, q, q1, q2⟩
  · have e1 : e = 0 := e1
    have e2 : es = decT _ := e2
    subst e1
    refine Prod.ext ?_ rfl
    show es = M
    refine Eq.trans e2 ?_
    unfold decT
    rw [hl]
    apply List.ext_getElem?
    intro q
    by_cases hq : q < 64
    · rw [List.getElem?_map, List.getElem?_range (by omega)]
      show some (decV _).1 = _
      rw [w q hq, List.getD_eq_getElem?_getD, List.getElem?_eq_getElem (by rw [h.1]; exact hq)]; rfl
    · rw [List.getElem?_eq_none (by rw [List.length_map, List.length_range]; omega), List.getElem?_eq_none (by rw [h.1]; omega)]
  · rw [hl] at q1
    rw [w q (by omega)] at q2
    exact absurd rfl q2
end Go.Proofs.Ytcfmlnddmpiemaa.Sx


set_option maxRecDepth 10000
namespace Go.Proofs.Ytcfmlnddmpiemaa.Sx
/-! ### The law TopTables, plain -/
abbrev hT : HD := HD.r 120
theorem hT_clus : hT.clus = 512 := by unfold HD.clus; rw [if_neg (by decide)]; rfl
theorem hT_refs : hT.refs = 1 := by unfold HD.refs; rw [hT_clus]; decide
theorem hT_jend : hT.jend = 15360 := by unfold HD.jend; rw [hT_clus]; decide
theorem hT_rend : hT.rend = 15872 := by unfold HD.rend; rw [hT_clus, hT_refs, hT_jend]; decide
theorem hT_first : hT.first = 33 := by unfold HD.first; rw [hT_clus, hT_rend]; decide
theorem hT_check : hT.checkV = 0 := by
  have g : hT.guest = 64 := by unfold HD.guest; rw [hT_clus]; decide
  have l : hT.least = 28 := by unfold HD.least; rw [hT_clus, hT_refs]; decide
  unfold HD.checkV
  rw [hT_clus, g, l, hT_first]; decide
theorem hT_hR : hR hT := ⟨by simp [HD.r, inR], by simp [HD.r, inR], by simp [HD.r, inR], by simp [HD.r, inR]⟩
abbrev eZ : ER := ⟨0, 0, false⟩
/-- What a table of the law holds: so many clusters, given out one behind the other. -/
structure TMu (M : List ER) (u : Nat) : Prop where
  len : M.length = 64
  rng : ∀ i, i < 64 → (M.getD i eZ).kind = 2 → 33 ≤ (M.getD i eZ).cl ∧ (M.getD i eZ).cl < 33 + u
  inj : ∀ i j, i < 64 → j < 64 → (M.getD i eZ).kind = 2 → (M.getD j eZ).kind = 2 → (M.getD i eZ).cl = (M.getD j eZ).cl → i = j
  cnt : M.countP (fun x => decide (x.kind = 2)) = u
theorem getD_set_ne {M : List ER} {p i : Nat} {x : ER} (h : i ≠ p) : (M.set p x).getD i eZ = M.getD i eZ := by
  rw [List.getD_eq_getElem?_getD, List.getElem?_set_ne (fun e => h e.symm), ← List.getD_eq_getElem?_getD]
theorem getD_set_eq {M : List ER} {p : Nat} {x : ER} (h : p < M.length) : (M.set p x).getD p eZ = x := by
  rw [List.getD_eq_getElem?_getD, List.getElem?_set_self h]; rfl
theorem TMu.set {M : List ER} {u : Nat} (h : TMu M u) {p : Nat} (hp : p < 64) (hk : (M.getD p eZ).kind ≠ 2) : TMu (M.set p ⟨2, 33 + (u : Int), true⟩) (u + 1) := by
  obtain ⟨h1, h2, h3, h4⟩ := h
  have gs : (M.set p ⟨2, 33 + (u : Int), true⟩).getD p eZ = ⟨2, 33 + (u : Int), true⟩ := getD_set_eq (by omega)
  have gn : ∀ i, i ≠ p → (M.set p ⟨2, 33 + (u : Int), true⟩).getD i eZ = M.getD i eZ := fun i hi => getD_set_ne hi
  refine ⟨by rw [List.length_set]; exact h1, fun i hi => ?_, fun i j hi hj => ?_, ?_⟩
  · by_cases e : i = p
    · subst e; rw [gs]; intro _; show 33 ≤ 33 + (u : Int) ∧ 33 + (u : Int) < 33 + ((u + 1 : Nat) : Int); omega
    · rw [gn i e]; intro k2; have := h2 i hi k2; omega
  · by_cases e : i = p
    · by_cases e2 : j = p
      · omega
      · rw [gn j e2, e, gs]
        intro _ k2 k3
        have := h2 j hj k2
        have k3 : 33 + (u : Int) = (M.getD j eZ).cl := k3
        omega
    · by_cases e2 : j = p
      · rw [gn i e, e2, gs]
        intro k1 _ k3
        have := h2 i hi k1
        have k3 : (M.getD i eZ).cl = 33 + (u : Int) := k3
        omega
      · rw [gn i e, gn j e2]; exact h3 i j hi hj
  · rw [List.countP_set (by omega), h4]
    have e : M[p]'(by omega) = M.getD p eZ := by rw [List.getD_eq_getElem?_getD, List.getElem?_eq_getElem (by omega)]; rfl
    have hk2 : decide ((M.getD p eZ).kind = 2) = false := decide_eq_false hk
    rw [e, hk2]
    rfl
structure TTI (b : List Int) (t : TR) (M : List ER) (u : Nat) : Prop where
  ok : t.Ok
  over : t.over = false
  fresh : t.fresh = []
  inn : t.In jR
  b8 : t.B b
  cnt : ∀ q : Nat, q < 120 → cntV t b hT q = if q < 33 + u then 1 else 0
  tab : TabV t b 16384 M
  keys : ∀ k ∈ t.ks, k = 30 ∨ k = 32
  tm : TMu M u
theorem TTI.step {b : List Int} {t : TR} {M : List ER} {u : Nat} (h : TTI b t M u) (hu : u < 87) {p : Nat} (hp : p < 64) (hk : (M.getD p eZ).kind ≠ 2) :
    TTI b ((t.put b (hT.jend + 2 * ((33 + u : Nat) : Int)).toNat (leB 2 1)).put b (16384 + 8 * p) (leB 8 (encV ⟨2, 33 + (u : Int), true⟩).1)) (M.set p ⟨2, 33 + (u : Int), true⟩) (u + 1) := by
  obtain ⟨a1, a2, a3, a4, a5, a6, a7, a8, a9⟩ := h
  have e1 : (hT.jend + 2 * ((33 + u : Nat) : Int)).toNat = 15360 + 2 * (33 + u) := by rw [hT_jend]; omega
  have l2 : (leB 2 1).length = 2 := leB_length 2 1
  have l8 : (leB 8 (encV ⟨2, 33 + (u : Int), true⟩).1).length = 8 := leB_length 8 _
  have ex : (encV ⟨2, 33 + (u : Int), true⟩).2 = 0 := by unfold encV; rw [if_neg (by simp), if_neg (by simp; omega)]; rfl
  have c1 := cnt_put a1 b (h := hT) (by rw [hT_jend]; decide) (33 + u) (c := 1)
  rw [e1] at c1 ⊢
  obtain ⟨p1, p2, p3, p4, p5⟩ := put_V a1 b (15360 + 2 * (33 + u)) (leB 2 1)
  have i1 := put_In a4 a1 a5 (a := 15360 + 2 * (33 + u)) (p := leB 2 1) (leB_B8 _ _) jR_al (by omega) (.inr (.inr (by show (512 : Int) + 14848 ≤ _; omega)))
  have b1 := a5.put a1 (15360 + 2 * (33 + u)) (leB_B8 2 1)
  obtain ⟨t1, ht1⟩ : ∃ t1, t1 = t.put b (15360 + 2 * (33 + u)) (leB 2 1) := ⟨_, rfl⟩
  have k1 := put_ks t b (15360 + 2 * (33 + u)) (leB 2 1)
  rw [← ht1] at c1 p1 p2 p3 p4 p5 i1 b1 k1 ⊢
  have tab1 : TabV t1 b 16384 M := ⟨a7.1, fun i hi => by
    refine ⟨(a7.2 i hi).1, ?_⟩
    rw [← (a7.2 i hi).2]
    refine rd_congr (fun q hq => ?_)
    rw [p5, l2, if_neg (by omega)]⟩
  obtain ⟨q1, q2, q3, q4, q5⟩ := put_V p1 b (16384 + 8 * p) (leB 8 (encV ⟨2, 33 + (u : Int), true⟩).1)
  refine ⟨q1, q3.trans (p3.trans a2), q2.trans (p2.trans a3), put_In i1 p1 b1 (leB_B8 _ _) jR_al (by omega) (.inr (.inr (by show (512 : Int) + 14848 ≤ _; omega))), b1.put p1 _ (leB_B8 _ _), fun q hq => ?_, tab1.put p1 p hp ex, fun k hk => ?_, a9.set hp hk⟩
  · have e2 : cntV (t1.put b (16384 + 8 * p) (leB 8 (encV ⟨2, 33 + (u : Int), true⟩).1)) b hT q = cntV t1 b hT q := by
      unfold cntV
      rw [hT_jend]
      refine congrArg leV (rd_congr (fun i hi => ?_))
      rw [q5, l8, if_neg (by show ¬ (16384 + 8 * p ≤ (15360 : Int).toNat + 2 * q + i ∧ _); have : (15360 : Int).toNat = 15360 := rfl; omega)]
    rw [e2, c1 q ⟨by decide, by decide⟩, a6 q hq]
    by_cases e3 : q = 33 + u
    · rw [if_pos e3, if_pos (by omega)]
    · rw [if_neg e3]
      by_cases e4 : q < 33 + u
      · rw [if_pos e4, if_pos (by omega)]
      · rw [if_neg e4, if_neg (by omega)]
  · rw [put_ks, k1] at hk
    rcases hk with (hk | ⟨-, m, rfl, m1, m2⟩) | ⟨-, m, rfl, m1, m2⟩
    · exact a8 k hk
    · omega
    · omega
theorem TTI.zero {b : List Int} (hb : RZ 33 b) : TTI b TR.zero (List.replicate 64 eZ) 0 := by
  have hz : ∀ i, TR.zero.V b i = oneAt 33 i := fun i => by rw [zero_V, hb.2]
  have e : ∀ i, (List.replicate 64 eZ).getD i eZ = eZ := fun i => by
    rw [List.getD_eq_getElem?_getD, List.getElem?_replicate]; split <;> rfl
  refine ⟨TR.zero_ok, rfl, rfl, TR.zero_In _, fun i => by rw [hz]; unfold oneAt; split <;> decide, fun q _ => hb.cnt hT_jend q, ⟨List.length_replicate .., fun i hi => ?_⟩, fun k hk => absurd hk List.not_mem_nil, ⟨List.length_replicate .., fun i _ => ?_, fun i j _ _ => ?_, ?_⟩⟩
  · rw [e]
    refine ⟨rfl, ?_⟩
    show List.map _ _ = _
    have : (fun q => TR.zero.V b (16384 + 8 * i + q)) = fun _ => 0 := funext (fun q => by rw [hz]; unfold oneAt; rw [if_neg (by omega)])
    rw [this]
    decide
  · rw [e]; intro h; cases h
  · rw [e]; intro h; cases h
  · rw [List.countP_replicate]; rfl
/-- What a file shows. -/
structure TTV (now : List Int) (M : List ER) (u : Nat) : Prop where
  cnt : cntL TR.zero now hT = (List.range 120).map (fun q => if q < 33 + u then 1 else 0)
  tab : TabV TR.zero now 16384 M
  tm : TMu M u
theorem TTI.toV {b : List Int} {t : TR} {M : List ER} {u : Nat} (h : TTI b t M u) {now : List Int} (hv : ∀ i, 15360 ≤ i → now.getD i 0 = t.V b i) : TTV now M u := by
  refine ⟨?_, ⟨h.tab.1, fun i hi => ⟨(h.tab.2 i hi).1, ?_⟩⟩, h.tm⟩
  · unfold cntL
    refine List.map_congr_left (fun q hq => ?_)
    have hq : q < 120 := List.mem_range.1 hq
    rw [← h.cnt q hq]
    unfold cntV
    rw [hT_jend]
    refine congrArg leV (rd_congr (fun i hi => ?_))
    rw [zero_V]
    exact hv _ (by show 15360 ≤ (15360 : Int).toNat + 2 * q + i; have : (15360 : Int).toNat = 15360 := rfl; omega)
  · rw [← (h.tab.2 i hi).2]
    refine rd_congr (fun q hq => ?_)
    rw [zero_V]
    exact hv _ (by omega)
theorem TTI.room {b : List Int} {t : TR} {M : List ER} {u : Nat} (h : TTI b t M u) {rs : List RecR} (hr : RecRel t rs) : t.dirty.length ≤ 2 ∧ (encL rs).length ≤ 1048 := by
  have hn : ((t.dirty.map (fun x => x.1)).map Int.toNat).Nodup := by
    rw [List.nodup_iff_pairwise_ne, List.pairwise_map]
    refine List.Pairwise.imp_of_mem ?_ (List.nodup_iff_pairwise_ne.1 h.inn.nodup)
    intro a b ha hb hne e
    have := h.keys a ha
    have := h.keys b hb
    omega
  have hl : t.dirty.length ≤ 2 := by
    have := sub_len (s := [30, 32]) hn (fun b hb => by
      obtain ⟨k, hk, rfl⟩ := List.mem_map.1 hb
      rcases h.keys k hk with rfl | rfl <;> simp)
    rwa [List.length_map, List.length_map] at this
  refine ⟨hl, ?_⟩
  have := (hr.B h.ok (B := 32) (fun q hq => by have := h.keys _ (List.mem_map.2 ⟨q, hq, rfl⟩); omega)).2.1
  omega
end Go.Proofs.Ytcfmlnddmpiemaa.Sx


set_option maxRecDepth 10000
namespace Go.Proofs.Ytcfmlnddmpiemaa.Sx
open Go.RowKit Go.Proofs.Ytcfmlnddmpiemaa.Sx.Tb
/-! ### The functions of TopTables -/
set_option maxHeartbeats 4000000 in
theorem pick_c (n b : Int) (k : K) (h0 : inR .i64 n ∧ 0 < b ∧ b ≤ 1099511627776) (hk : ∀ r : Int, r = n % 18446744073709551616 % b → k (.v (.int .i64 r)) []) : evFunc tab [6] [] Go.Proofs.Try.f13 [.v (.int .i64 n), .v (.int .i64 b)] [] k := by
  obtain ⟨h1, h2, h3⟩ := h0
  have w : IntKind.u64.wrap n = n % 18446744073709551616 := wrap_u64 n
  have g1 : 0 ≤ n % 18446744073709551616 % b := Int.emod_nonneg _ (by omega)
  have g2 : n % 18446744073709551616 % b < b := Int.emod_lt_of_pos _ h2
  have g3 : 0 ≤ IntKind.u64.wrap n := by rw [w]; exact Int.emod_nonneg _ (by decide)
  repeat' (first
    | (with_reducible first | exact True.intro | apply And.intro | apply If_true | apply If_false | apply If_not)
    | ((with_reducible apply VC.mk); exact vt)
    | ((with_reducible apply If_dec) <;> intro hc <;> (try (exfalso; omega)))
    | ((with_reducible apply If_any) <;> intro hc)
    | ((with_reducible first | apply PF.mk | apply DrawP.mk); (focus kernel_rfl))
    | ((with_reducible apply Same.mk); (focus rfl); (first | exact trivial | exact rfl))
    | (intro cap hcap)
    | ((fail_if_success (with_reducible apply st)); conv => whnf))
  · exact VC.mk (by rw [w]; simp only [inR]; omega)
  · exact Fin.vl (hk _ (by rw [w]))
def pickOk (x : Int × Int) : Prop := inR .i64 x.1 ∧ 0 < x.2 ∧ x.2 ≤ 1099511627776
def pickRel (x : Int × Int) (r : Int) : Prop := r = x.1 % 18446744073709551616 % x.2
theorem pick_K : ConOk Go.Proofs.Try.prog 13 (Con.of (Int × Int) (Int) (fun x => [.v (.int .i64 x.1), .v (.int .i64 x.2)]) (fun _ => []) pickOk pickRel (fun _ r => .v (.int .i64 r)) (fun _ _ => [])) := by
  refine conOk_rel (T := tab) mix Go.Proofs.Try.func13 (by decide +kernel) (by kernel_rfl) [6] [] (fun n => by rw [Go.Proofs.Try.ntmps13]; exact Nat.le_of_ble_eq_true rfl) (fun x r _ _ => ⟨by simp [AV.noF, noFs, Cont.noF, recsC_noF], (fun c hc => by cases hc), Nat.le_refl _⟩) (fun x _ c hc => by cases hc) ?_
  intro x k h0 hk
  exact pick_c x.1 x.2 k h0 (fun r hr => hk r hr)
theorem pick_at {avs : List AV} {H : List Chunk} {k : K} (n : Int) (b : Int) (h0 : inR .i64 n ∧ 0 < b ∧ b ≤ 1099511627776) (ha : argsM H [] [.v (.int .i64 n), .v (.int .i64 b)] avs) (hQ : ∀ r : Int, (r = n % 18446744073709551616 % b) → k (.v (.int .i64 r)) H) : CallP Go.Proofs.Try.prog 13 avs H k :=
  CallP.mk ⟨_, pick_K.real, Con.spec pick_K, (n, b), [], ⟨h0, rfl, trivial, ha⟩, fun r hr => (numK_eq H.length (fun N => k (AV.ren (fren [] N) (.v (.int .i64 r))) (putAll H [] []))).mpr (by simpa [putAll, AV.ren, rens, Cont.ren, recsC, recAV] using hQ r hr)⟩
def oPost (r : Int × Int × JR × DF) : List Chunk := [r.2.2.2.pk, r.2.2.1.blk 0, TR.zero.c0 1 3 4, TR.zero.c1, TR.zero.c2, rfb hT 2, mtb hT 32 2]
def openOk (s : DF) : Prop := s.Ok 0 ∧ B8 s.now ∧ 16896 ≤ s.now.length ∧ s.now.length ≤ 4194304 ∧ ∀ z : List Int, z = List.replicate 512 0 → (s.replay jR z).2.1 = 0
def openRel (s : DF) (r : Int × Int × JR × DF) : Prop := ∃ z : List Int, z = List.replicate 512 0 ∧ r = s.replay jR z
set_option maxHeartbeats 8000000 in
theorem opened_c (s : DF) (z : List Int) (k : K) (h0 : openOk s) (hz : z = List.replicate 512 0) (hk : ∀ r, r = s.replay jR z → k (.tup [.p 2 0 1 0, .p 5 0 1 0, .p 6 0 1 0, .v (.bool true)]) (oPost r)) : evFunc tab [] p12 Go.Proofs.Try.f12 [.p 0 0 1 0, .agg [.v (.int .i64 hT.bits), .v (.int .i64 hT.size), .v (.int .i64 hT.host), .v (.int .i64 hT.jr), .v (.bool hT.backed)]] [s.pk] k := by
  obtain ⟨h1, h2, h3, h4, h5⟩ := h0
  have h5 := h5 z hz
  repeat' (first
    | (with_reducible first | exact True.intro | apply And.intro | apply If_true | apply If_false | apply If_not)
    | ((with_reducible apply VC.mk); exact vt)
    | ((with_reducible apply If_dec) <;> intro hc <;> (try (exfalso; omega)))
    | ((with_reducible apply If_any) <;> intro hc)
    | ((with_reducible first | apply PF.mk | apply DrawP.mk); (focus kernel_rfl))
    | ((with_reducible apply Same.mk); (focus rfl); (first | exact trivial | exact rfl))
    | (intro cap hcap)
    | ((fail_if_success (with_reducible apply st)); conv => whnf))
  refine hjat_at hT hT_hR ⟨⟨rfl, rfl, rfl, rfl, rfl, trivial⟩, trivial⟩ ?_
  rintro ⟨ra, rb⟩ hr3
  have hr3 : (ra, rb) = (hT.clus, hT.jend) := hr3
  rw [hT_clus, hT_jend] at hr3
  obtain ⟨rfl, rfl⟩ : ra = 512 ∧ rb = 15360 := by cases hr3; exact ⟨rfl, rfl⟩
  dsimp only
  repeat' (first
    | (with_reducible first | exact True.intro | apply And.intro | apply If_true | apply If_false | apply If_not)
    | ((with_reducible apply VC.mk); exact vt)
    | ((with_reducible apply If_dec) <;> intro hc <;> (try (exfalso; omega)))
    | ((with_reducible apply If_any) <;> intro hc)
    | ((with_reducible first | apply PF.mk | apply DrawP.mk); (focus kernel_rfl))
    | ((with_reducible apply Same.mk); (focus rfl); (first | exact trivial | exact rfl))
    | (intro cap hcap)
    | ((fail_if_success (with_reducible apply st)); conv => whnf))
  refine hjat_at hT hT_hR ⟨⟨rfl, rfl, rfl, rfl, rfl, trivial⟩, trivial⟩ ?_
  rintro ⟨ra, rb⟩ hr3
  have hr3 : (ra, rb) = (hT.clus, hT.jend) := hr3
  rw [hT_clus, hT_jend] at hr3
  obtain ⟨rfl, rfl⟩ : ra = 512 ∧ rb = 15360 := by cases hr3; exact ⟨rfl, rfl⟩
  dsimp only
  repeat' (first
    | (with_reducible first | exact True.intro | apply And.intro | apply If_true | apply If_false | apply If_not)
    | ((with_reducible apply VC.mk); exact vt)
    | ((with_reducible apply If_dec) <;> intro hc <;> (try (exfalso; omega)))
    | ((with_reducible apply If_any) <;> intro hc)
    | ((with_reducible first | apply PF.mk | apply DrawP.mk); (focus kernel_rfl))
    | ((with_reducible apply Same.mk); (focus rfl); (first | exact trivial | exact rfl))
    | (intro cap hcap)
    | ((fail_if_success (with_reducible apply st)); conv => whnf))
  refine hjat_at hT hT_hR ⟨⟨rfl, rfl, rfl, rfl, rfl, trivial⟩, trivial⟩ ?_
  rintro ⟨ra, rb⟩ hr3
  have hr3 : (ra, rb) = (hT.clus, hT.jend) := hr3
  rw [hT_clus, hT_jend] at hr3
  obtain ⟨rfl, rfl⟩ : ra = 512 ∧ rb = 15360 := by cases hr3; exact ⟨rfl, rfl⟩
  dsimp only
  repeat' (first
    | (with_reducible first | exact True.intro | apply And.intro | apply If_true | apply If_false | apply If_not)
    | ((with_reducible apply VC.mk); exact vt)
    | ((with_reducible apply If_dec) <;> intro hc <;> (try (exfalso; omega)))
    | ((with_reducible apply If_any) <;> intro hc)
    | ((with_reducible first | apply PF.mk | apply DrawP.mk); (focus kernel_rfl))
    | ((with_reducible apply Same.mk); (focus rfl); (first | exact trivial | exact rfl))
    | (intro cap hcap)
    | ((fail_if_success (with_reducible apply st)); conv => whnf))
  have hE : newE s 512 14848 = 0 := by
    unfold newE
    rw [if_neg (by decide), if_neg]
    show ¬ ((14848 : Int) < 1024 ∨ (s.now.length : Int) < 512 ∨ (s.now.length : Int) - 512 < 14848)
    omega
  refine jnew_at s 512 14848 0 ⟨h4, by simp [inR], by simp [inR]⟩ rfl ⟨rfl, rfl, rfl, trivial⟩ (fun h => absurd hE h) (fun _ => ?_)
  repeat' (first
    | (with_reducible first | exact True.intro | apply And.intro | apply If_true | apply If_false | apply If_not)
    | ((with_reducible apply VC.mk); exact vt)
    | ((with_reducible apply If_dec) <;> intro hc <;> (try (exfalso; omega)))
    | ((with_reducible apply If_any) <;> intro hc)
    | ((with_reducible first | apply PF.mk | apply DrawP.mk); (focus kernel_rfl))
    | ((with_reducible apply Same.mk); (focus rfl); (first | exact trivial | exact rfl))
    | (intro cap hcap)
    | ((fail_if_success (with_reducible apply st)); conv => whnf))
  refine replay_at jR s 0 z 2 0 ⟨jR_ok, h1, by decide, h2, hz⟩ rfl rfl rfl ⟨rfl, trivial⟩ ?_
  intro x hx
  have hk2 := hk x hx
  rw [← hx] at h5
  clear hx hk
  repeat' (first
    | (with_reducible first | exact True.intro | apply And.intro | apply If_true | apply If_false | apply If_not)
    | ((with_reducible apply VC.mk); exact vt)
    | ((with_reducible apply If_dec) <;> intro hc <;> (try (exfalso; omega)))
    | ((with_reducible apply If_any) <;> intro hc)
    | ((with_reducible first | apply PF.mk | apply DrawP.mk); (focus kernel_rfl))
    | ((with_reducible apply Same.mk); (focus rfl); (first | exact trivial | exact rfl))
    | (intro cap hcap)
    | ((fail_if_success (with_reducible apply st)); conv => whnf))
  refine begin_at x.2.2.1 x.2.2.2 2 0 rfl rfl rfl ⟨rfl, trivial⟩ ?_
  repeat' (first
    | (with_reducible first | exact True.intro | apply And.intro | apply If_true | apply If_false | apply If_not)
    | ((with_reducible apply VC.mk); exact vt)
    | ((with_reducible apply If_dec) <;> intro hc <;> (try (exfalso; omega)))
    | ((with_reducible apply If_any) <;> intro hc)
    | ((with_reducible first | apply PF.mk | apply DrawP.mk); (focus kernel_rfl))
    | ((with_reducible apply Same.mk); (focus rfl); (first | exact trivial | exact rfl))
    | (intro cap hcap)
    | ((fail_if_success (with_reducible apply st)); conv => whnf))
  refine rnew_at TR.zero x.2.2.1 x.2.2.2 hT 3 4 5 2 0 hT_hR rfl rfl rfl rfl rfl rfl ⟨⟨rfl, rfl, rfl, rfl, rfl, trivial⟩, rfl, trivial⟩ (fun e => absurd hT_check e) (fun _ => ?_)
  repeat' (first
    | (with_reducible first | exact True.intro | apply And.intro | apply If_true | apply If_false | apply If_not)
    | ((with_reducible apply VC.mk); exact vt)
    | ((with_reducible apply If_dec) <;> intro hc <;> (try (exfalso; omega)))
    | ((with_reducible apply If_any) <;> intro hc)
    | ((with_reducible first | apply PF.mk | apply DrawP.mk); (focus kernel_rfl))
    | ((with_reducible apply Same.mk); (focus rfl); (first | exact trivial | exact rfl))
    | (intro cap hcap)
    | ((fail_if_success (with_reducible apply st)); conv => whnf))
  refine hfirst_at hT hT_hR ⟨⟨rfl, rfl, rfl, rfl, rfl, trivial⟩, trivial⟩ ?_
  intro r hr
  obtain rfl : r = 33 := hr.trans hT_first
  repeat' (first
    | (with_reducible first | exact True.intro | apply And.intro | apply If_true | apply If_false | apply If_not)
    | ((with_reducible apply VC.mk); exact vt)
    | ((with_reducible apply If_dec) <;> intro hc <;> (try (exfalso; omega)))
    | ((with_reducible apply If_any) <;> intro hc)
    | ((with_reducible first | apply PF.mk | apply DrawP.mk); (focus kernel_rfl))
    | ((with_reducible apply Same.mk); (focus rfl); (first | exact trivial | exact rfl))
    | (intro cap hcap)
    | ((fail_if_success (with_reducible apply st)); conv => whnf))
  have hm : matE hT 32 = 0 := by unfold matE; rw [if_neg (by decide)]; exact hT_check
  refine mat_at TR.zero x.2.2.1 x.2.2.2 hT 32 3 4 5 2 0 ⟨hT_hR, by simp [inR]⟩ rfl rfl rfl rfl rfl rfl ⟨⟨rfl, rfl, rfl, rfl, rfl, trivial⟩, rfl, rfl, trivial⟩ (fun e => absurd hm e) (fun _ => ?_)
  repeat' (first
    | (with_reducible first | exact True.intro | apply And.intro | apply If_true | apply If_false | apply If_not)
    | ((with_reducible apply VC.mk); exact vt)
    | ((with_reducible apply If_dec) <;> intro hc <;> (try (exfalso; omega)))
    | ((with_reducible apply If_any) <;> intro hc)
    | ((with_reducible first | apply PF.mk | apply DrawP.mk); (focus kernel_rfl))
    | ((with_reducible apply Same.mk); (focus rfl); (first | exact trivial | exact rfl))
    | (intro cap hcap)
    | ((fail_if_success (with_reducible apply st)); conv => whnf))
  refine Fin.ren [0, 2, 3, 4, 5, 6, 7] [] (.tup [.p 2 0 1 0, .p 5 0 1 0, .p 6 0 1 0, .v (.bool true)]) (oPost x) rfl rfl trivial ?_ ⟨VC.mk ⟨rfl, rfl, rfl, rfl⟩, VC.mk ⟨rfl, rfl, rfl, rfl⟩, VC.mk ⟨rfl, rfl, rfl, rfl⟩, VC.mk rfl, trivial⟩ hk2
  repeat' (first
    | (with_reducible first | exact True.intro | apply And.intro | apply If_true | apply If_false | apply If_not)
    | ((with_reducible apply VC.mk); exact vt)
    | ((with_reducible apply If_dec) <;> intro hc <;> (try (exfalso; omega)))
    | ((with_reducible apply If_any) <;> intro hc)
    | ((with_reducible first | apply PF.mk | apply DrawP.mk); (focus kernel_rfl))
    | ((with_reducible apply Same.mk); (focus rfl); (first | exact trivial | exact rfl))
    | (intro cap hcap)
    | ((fail_if_success (with_reducible apply st)); conv => whnf))
theorem oPost_noF (r : Int × Int × JR × DF) : ∀ c ∈ oPost r, ChunkNoF c := fun c hc => by
  simp [oPost] at hc
  rcases hc with rfl | rfl | rfl | rfl | rfl | rfl | rfl
  · exact DF.pk_noF _
  · exact JR.noF _ _
  · exact .blk ⟨trivial, trivial, trivial, trivial, trivial⟩
  · exact .mp trivial
  · exact .blk (recsC_noF _)
  · exact .blk ⟨trivial, trivial, trivial, trivial, trivial, trivial, trivial⟩
  · exact .blk ⟨trivial, trivial, trivial, trivial, trivial, trivial, trivial, trivial⟩
theorem opened_K : ConOk Go.Proofs.Try.prog 12 (Con.of DF (Int × Int × JR × DF) (fun _ => [.p 0 0 1 0, .agg [.v (.int .i64 hT.bits), .v (.int .i64 hT.size), .v (.int .i64 hT.host), .v (.int .i64 hT.jr), .v (.bool hT.backed)]]) (fun s => [s.pk]) openOk openRel (fun _ _ => .tup [.p 2 0 1 0, .p 5 0 1 0, .p 6 0 1 0, .v (.bool true)]) (fun _ r => oPost r)) := by
  refine conOk_rel (T := tab) mix Go.Proofs.Try.func12 (by decide +kernel) (by kernel_rfl) [] p12 (fun n => by rw [Go.Proofs.Try.ntmps12]; exact Nat.le_of_ble_eq_true rfl) (fun x r _ _ => ⟨⟨trivial, trivial, trivial, trivial, trivial⟩, oPost_noF r, (by show 1 ≤ 7; decide)⟩) (fun x _ c hc => ?_) (fun x k h0 hk => ?_)
  · simp at hc; subst hc; trivial
  · obtain ⟨z, hz⟩ : ∃ z : List Int, z = List.replicate 512 0 := ⟨_, rfl⟩
    exact opened_c x z k h0 hz (fun r hr => hk r ⟨z, hz, hr⟩)
theorem opened_at {avs : List AV} {H : List Chunk} {k : K} (s : DF) (i : Nat) (h0 : openOk s) (hc : nth H i = some s.pk) (ha : argsM H [i] [.p 0 0 1 0, .agg [.v (.int .i64 hT.bits), .v (.int .i64 hT.size), .v (.int .i64 hT.host), .v (.int .i64 hT.jr), .v (.bool hT.backed)]] avs)
    (hQ : ∀ r, openRel s r → k (.tup [.p (H.length + 1) 0 1 0, .p (H.length + 4) 0 1 0, .p (H.length + 5) 0 1 0, .v (.bool true)]) (H.set i r.2.2.2.pk ++ [r.2.2.1.blk i, TR.zero.c0 H.length (H.length + 2) (H.length + 3), TR.zero.c1, TR.zero.c2, rfb hT (H.length + 1), mtb hT 32 (H.length + 1)])) : CallP Go.Proofs.Try.prog 12 avs H k :=
  CallP.mk ⟨_, opened_K.real, Con.spec opened_K, s, [i], ⟨h0, rfl, ⟨hc, trivial⟩, ha⟩, fun r hr => (numK_eq _ _).mpr (by simpa [oPost, putAll, TR.c0_ren, TR.c1_ren, TR.c2_ren, JR.blk_ren, DF.pk_ren, rfb_ren, mtb_ren, AV.ren, rens, fren, nth] using hQ r hr)⟩
end Go.Proofs.Ytcfmlnddmpiemaa.Sx


set_option maxRecDepth 10000
namespace Go.Proofs.Ytcfmlnddmpiemaa.Sx
open Go.RowKit Go.Proofs.Ytcfmlnddmpiemaa.Sx.Tb
/-! ### The law TxCommits -/
def secL (a n : Nat) : List Int := (List.range n).map (fun i => ((a / 512 + i : Nat) : Int))
theorem secL_length (a n : Nat) : (secL a n).length = n := by unfold secL; rw [List.length_map, List.length_range]
theorem secL_mem (a n : Nat) (k : Int) : k ∈ secL a n ↔ ∃ m : Nat, k = (m : Int) ∧ a / 512 ≤ m ∧ m < a / 512 + n := by
  unfold secL
  rw [List.mem_map]
  constructor
  · rintro ⟨i, hi, rfl⟩
    rw [List.mem_range] at hi
    exact ⟨a / 512 + i, rfl, by omega, by omega⟩
  · rintro ⟨m, rfl, h1, h2⟩
    exact ⟨m - a / 512, List.mem_range.2 (by omega), by rw [show a / 512 + (m - a / 512) = m by omega]⟩
structure ComI (b : List Int) (i q : Nat) (t : TR) (m puts : List Int) : Prop where
  ok : t.Ok
  over : t.over = false
  frn : t.fresh.length ≤ i
  inn : t.In jX
  b8 : t.B b
  cst : cost (wrs t.fresh) ≤ 2000 * (i : Int)
  ops : q ≤ 4000 * i
  view : ∀ p, t.V b p = m.getD p 0
  len : b.length ≤ m.length ∧ m.length ≤ 20000
  key : ∀ k : Int, k ∈ t.ks ↔ k ∈ puts
  rng : ∀ k ∈ puts, 0 ≤ k ∧ k < 80
  pln : puts.length ≤ 100 * i
theorem ComI.next {b : List Int} {i q : Nat} {t : TR} {m puts : List Int} (h : ComI b i q t m puts) : ComI b (i + 1) q t m puts := by
  obtain ⟨a1, a2, a3, a4, a5, a6, a7, a8, a9, b1, b2, b3⟩ := h
  exact ⟨a1, a2, by omega, a4, a5, by omega, by omega, a8, a9, b1, b2, by omega⟩
theorem ComI.fresh {b : List Int} {i q : Nat} {t : TR} {m puts : List Int} (h : ComI b i q t m puts) (hi : i ≤ 25) {A c : Nat} {p w : List Int} (hA : 10752 ≤ A ∧ A < 16752 ∧ A % 512 = 0) (hp : p.length ≤ 1500) (h8 : B8 p) (hc : t.fresh.length + 1 ≤ c) (hwl : w.length = max m.length (A + p.length)) (hw : ∀ q, w.getD q 0 = wrV (fun q => m.getD q 0) A p q) : ComI b (i + 1) q (t.freshT A p c) w puts := by
  obtain ⟨a1, a2, a3, a4, a5, a6, a7, a8, a9, b1, b2, b3⟩ := h
  obtain ⟨p1, p2, p3, p4, p5, p6⟩ := fresh_V a1 (DF.mk0 b) (a := A) (p := p) (c := c) hA.2.2 (by omega) hc (by omega)
  have hI := p5 jX a4 h8 (.inr (.inr (by show (512 : Int) + 10240 ≤ A; omega))) (.inr (by show (512 : Int) + 10240 ≤ A; omega))
  have hv : ∀ r, (t.freshT A p c).V b r = w.getD r 0 := fun r => by
    rw [hw]
    refine (p6 r).trans ?_
    unfold wrV
    show (if _ then _ else t.V b r) = (if _ then _ else m.getD r 0)
    rw [a8]
  refine ⟨p1, p3.trans a2, by rw [p2, List.length_append]; show t.fresh.length + 1 ≤ i + 1; omega, hI, fun r => ?_, ?_, by omega, hv, by omega, fun k => ?_, b2, by omega⟩
  · refine (show _ = _ from p6 r) ▸ ?_
    unfold wrV
    split
    · exact h8.getD _
    · exact a5 r
  · rw [p2]
    unfold wrs
    rw [List.map_append, cost_append]
    show cost (wrs t.fresh) + (1 + (p.length : Int) + 0) ≤ 2000 * ((i + 1 : Nat) : Int)
    omega
  · rw [← b1]
    constructor
    · intro hk
      obtain ⟨x, hx, rfl⟩ := List.mem_map.1 hk
      have := (hI.keys x hx).1
      have e : x.1 = ((x.1.toNat : Nat) : Int) := by omega
      rw [e] at hk ⊢
      exact (fresh_ks a1 (by omega) hc (by omega) _).1 hk
    · intro hk
      obtain ⟨x, hx, rfl⟩ := List.mem_map.1 hk
      have := (a4.keys x hx).1
      have e : x.1 = ((x.1.toNat : Nat) : Int) := by omega
      rw [e] at hk ⊢
      exact (fresh_ks a1 (by omega) hc (by omega) _).2 hk
theorem ComI.put {b : List Int} {i q : Nat} {t : TR} {m puts : List Int} (h : ComI b i q t m puts) (hi : i ≤ 25) {A n d : Nat} {p w : List Int} (hA : 10752 ≤ A ∧ A < 16752) (hp : p.length ≤ 1500) (h8 : B8 p) (hd : d ≤ 1500) (hwl : w.length = max m.length (A + p.length)) (hw : ∀ q, w.getD q 0 = wrV (fun q => m.getD q 0) A p q)
    (hn1 : n = 0 ∨ 0 < p.length ∧ (A / 512 + n - 1) * 512 < A + p.length) (hn2 : ¬ (0 < p.length ∧ (A / 512 + n) * 512 < A + p.length)) : ComI b (i + 1) (q + d) (t.put b A p) w (puts ++ secL A n) := by
  obtain ⟨a1, a2, a3, a4, a5, a6, a7, a8, a9, b1, b2, b3⟩ := h
  obtain ⟨p1, p2, p3, p4, p5⟩ := put_V a1 b A p
  have hn4 : n ≤ 4 := by omega
  refine ⟨p1, p3.trans a2, by rw [p2]; omega, put_In a4 a1 a5 h8 jX_al (by omega) (.inr (.inr (by show (512 : Int) + 10240 ≤ A; omega))), a5.put a1 A h8, by rw [p2]; omega, by omega, fun r => ?_, by omega, fun k => ?_, fun k hk => ?_, by rw [List.length_append, secL_length]; omega⟩
  · rw [p5, hw]
    unfold wrV
    show (if _ then _ else t.V b r) = (if _ then _ else m.getD r 0)
    rw [a8]
  · rw [put_ks, List.mem_append, ← b1, secL_mem]
    constructor
    · rintro (h | ⟨h0, r, rfl, h1, h2⟩)
      · exact .inl h
      · exact .inr ⟨r, rfl, by omega, by omega⟩
    · rintro (h | ⟨r, rfl, h1, h2⟩)
      · exact .inl h
      · exact .inr ⟨by omega, r, rfl, by omega, by omega⟩
  · rcases List.mem_append.1 hk with hk | hk
    · exact b2 k hk
    · obtain ⟨r, rfl, h1, h2⟩ := (secL_mem _ _ _).1 hk
      omega
end Go.Proofs.Ytcfmlnddmpiemaa.Sx


set_option maxRecDepth 10000
namespace Go.Proofs.Ytcfmlnddmpiemaa.Sx
open Go.RowKit Go.Proofs.Ytcfmlnddmpiemaa.Sx.Tb
/-! ### The law TxCrashes -/
def runL (a n : Nat) : List Int := (List.range n).map (fun i => ((a + i : Nat) : Int))
theorem runL_length (a n : Nat) : (runL a n).length = n := by unfold runL; rw [List.length_map, List.length_range]
theorem runL_mem (a n : Nat) (k : Int) : k ∈ runL a n ↔ ∃ m : Nat, k = (m : Int) ∧ a ≤ m ∧ m < a + n := by
  unfold runL
  rw [List.mem_map]
  constructor
  · rintro ⟨i, hi, rfl⟩
    rw [List.mem_range] at hi
    exact ⟨a + i, rfl, by omega, by omega⟩
  · rintro ⟨m, rfl, h1, h2⟩
    exact ⟨m - a, List.mem_range.2 (by omega), by rw [show a + (m - a) = m by omega]⟩
structure CrI (b : List Int) (i q : Nat) (t : TR) (m fr : List Int) : Prop where
  ok : t.Ok
  over : t.over = false
  frn : t.fresh.length ≤ i
  inn : t.In jX
  b8 : t.B b
  cst : cost (wrs t.fresh) ≤ 2000 * (i : Int)
  ops : q ≤ 4000 * i
  view : ∀ p, t.V b p = m.getD p 0
  len : m.length = 18752
  key : ∀ k ∈ t.ks, 0 ≤ k ∧ k < 36
  frb : ∀ r ∈ t.fresh, r.1.toNat + r.2.length ≤ 18752
  all : ∀ r ∈ t.fresh, ∀ n : Nat, covers r n → (n : Int) ∈ fr
  frl : fr.length ≤ 1500 * i
  rng : ∀ x ∈ fr, 0 ≤ x ∧ x < 18752
theorem CrI.next {b : List Int} {i q : Nat} {t : TR} {m fr : List Int} (h : CrI b i q t m fr) : CrI b (i + 1) q t m fr := by
  obtain ⟨a1, a2, a3, a4, a5, a6, a7, a8, a9, b1, b2, b3, b4, b5⟩ := h
  exact ⟨a1, a2, by omega, a4, a5, by omega, by omega, a8, a9, b1, b2, b3, by omega, b5⟩
theorem CrI.fresh {b : List Int} {i q : Nat} {t : TR} {m fr : List Int} (h : CrI b i q t m fr) (hi : i ≤ 25) {A c : Nat} {p w : List Int} (hA : 10752 ≤ A ∧ A < 16752 ∧ A % 512 = 0) (hp : p.length ≤ 1500) (h8 : B8 p) (hc : t.fresh.length + 1 ≤ c) (hwl : w.length = max m.length (A + p.length)) (hw : ∀ q, w.getD q 0 = wrV (fun q => m.getD q 0) A p q) : CrI b (i + 1) q (t.freshT A p c) w (fr ++ runL A p.length) := by
  obtain ⟨a1, a2, a3, a4, a5, a6, a7, a8, a9, b1, b2, b3, b4, b5⟩ := h
  obtain ⟨p1, p2, p3, p4, p5, p6⟩ := fresh_V a1 (DF.mk0 b) (a := A) (p := p) (c := c) hA.2.2 (by omega) hc (by omega)
  have hI := p5 jX a4 h8 (.inr (.inr (by show (512 : Int) + 10240 ≤ A; omega))) (.inr (by show (512 : Int) + 10240 ≤ A; omega))
  have hv : ∀ r, (t.freshT A p c).V b r = w.getD r 0 := fun r => by
    rw [hw]
    refine (p6 r).trans ?_
    unfold wrV
    show (if _ then _ else t.V b r) = (if _ then _ else m.getD r 0)
    rw [a8]
  refine ⟨p1, p3.trans a2, by rw [p2, List.length_append]; show t.fresh.length + 1 ≤ i + 1; omega, hI, fun r => ?_, ?_, by omega, hv, by omega, fun k hk => ?_, fun r hr => ?_, fun r hr n hn => ?_, by rw [List.length_append, runL_length]; omega, fun x hx => ?_⟩
  · refine (show _ = _ from p6 r) ▸ ?_
    unfold wrV
    split
    · exact h8.getD _
    · exact a5 r
  · rw [p2]
    unfold wrs
    rw [List.map_append, cost_append]
    show cost (wrs t.fresh) + (1 + (p.length : Int) + 0) ≤ 2000 * ((i + 1 : Nat) : Int)
    omega
  · obtain ⟨x, hx, rfl⟩ := List.mem_map.1 hk
    have := (hI.keys x hx).1
    have e : x.1 = ((x.1.toNat : Nat) : Int) := by omega
    rw [e] at hk ⊢
    exact b1 _ ((fresh_ks a1 (by omega) hc (by omega) _).1 hk)
  · rw [p2] at hr
    rcases List.mem_append.1 hr with hr | hr
    · exact b2 r hr
    · rw [List.mem_singleton.1 hr]
      show (A : Int).toNat + p.length ≤ 18752
      omega
  · rw [p2] at hr
    rcases List.mem_append.1 hr with hr | hr
    · exact List.mem_append.2 (.inl (b3 r hr n hn))
    · rw [List.mem_singleton.1 hr] at hn
      have hn : (A : Int).toNat ≤ n ∧ n < (A : Int).toNat + p.length := hn
      exact List.mem_append.2 (.inr ((runL_mem _ _ _).2 ⟨n, rfl, by omega, by omega⟩))
  · rcases List.mem_append.1 hx with hx | hx
    · exact b5 x hx
    · obtain ⟨r, rfl, h1, h2⟩ := (runL_mem _ _ _).1 hx
      omega
theorem CrI.put {b : List Int} {i q : Nat} {t : TR} {m fr : List Int} (h : CrI b i q t m fr) (hi : i ≤ 25) {A d : Nat} {p w : List Int} (hA : 10752 ≤ A ∧ A < 16752) (hp : p.length ≤ 1500) (h8 : B8 p) (hd : d ≤ 1500) (hwl : w.length = max m.length (A + p.length)) (hw : ∀ q, w.getD q 0 = wrV (fun q => m.getD q 0) A p q) : CrI b (i + 1) (q + d) (t.put b A p) w fr := by
  obtain ⟨a1, a2, a3, a4, a5, a6, a7, a8, a9, b1, b2, b3, b4, b5⟩ := h
  obtain ⟨p1, p2, p3, p4, p5⟩ := put_V a1 b A p
  refine ⟨p1, p3.trans a2, by rw [p2]; omega, put_In a4 a1 a5 h8 jX_al (by omega) (.inr (.inr (by show (512 : Int) + 10240 ≤ A; omega))), a5.put a1 A h8, by rw [p2]; omega, by omega, fun r => ?_, by omega, fun k hk => ?_, by rw [p2]; exact b2, by rw [p2]; exact b3, by omega, b5⟩
  · rw [p5, hw]
    unfold wrV
    show (if _ then _ else t.V b r) = (if _ then _ else m.getD r 0)
    rw [a8]
  · rw [put_ks] at hk
    rcases hk with h | ⟨h0, r, rfl, h1, h2⟩
    · exact b1 k h
    · omega
end Go.Proofs.Ytcfmlnddmpiemaa.Sx


set_option maxRecDepth 10000
namespace Go.Proofs.Ytcfmlnddmpiemaa.Sx
open Go.RowKit Go.Proofs.Ytcfmlnddmpiemaa.Sx.Tb
/-! ### The law TopTables -/
set_option maxHeartbeats 64000000 in
theorem toptables_c (ps : List Int) (ops : Int) (ks : List Bool) (k : K) (h0 : (∀ v ∈ ps, inR .i64 v) ∧ ps.length ≤ 9223372036854775807 ∧ inR .i64 ops ∧ ks.length ≤ 9223372036854775807) (hk : k (.v (.bool true)) []) : evFunc tab [] p3 Go.Proofs.Try.f3 [.im true 1 ps.length (.ints .i64 ps), .v (.int .i64 ops), .im true 1 ks.length (boolsC ks)] [] k := by
  obtain ⟨hps, hpl, hops0, hkl⟩ := h0
  have fst : ∀ {avs : List AV} {Hp : List Chunk} {k : K}, argsM Hp [] [.agg [.v (.int .i64 hT.bits), .v (.int .i64 hT.size), .v (.int .i64 hT.host), .v (.int .i64 hT.jr), .v (.bool hT.backed)]] avs → k (.v (.int .i64 33)) Hp → CallP Go.Proofs.Try.prog 9 avs Hp k := fun ha hq => hfirst_at hT hT_hR ha (fun r e => by rw [e, hT_first]; exact hq)
  repeat' (first
    | (with_reducible first | exact True.intro | apply And.intro | apply If_true | apply If_false | apply If_not)
    | ((with_reducible apply VC.mk); exact vt)
    | ((with_reducible apply If_dec) <;> intro hc <;> (try (exfalso; omega)))
    | ((with_reducible apply If_any) <;> intro hc)
    | ((with_reducible first | apply PF.mk | apply DrawP.mk); (focus kernel_rfl))
    | ((with_reducible apply Same.mk); (focus rfl); (first | exact trivial | exact rfl))
    | (intro cap hcap)
    | ((fail_if_success (with_reducible apply st)); conv => whnf))
  refine hcheck_at hT hT_hR ⟨⟨rfl, rfl, rfl, rfl, rfl, trivial⟩, trivial⟩ ?_
  intro r hr
  obtain rfl : r = 0 := hr.trans hT_check
  repeat' (first
    | (with_reducible first | exact True.intro | apply And.intro | apply If_true | apply If_false | apply If_not)
    | ((with_reducible apply VC.mk); exact vt)
    | ((with_reducible apply If_dec) <;> intro hc <;> (try (exfalso; omega)))
    | ((with_reducible apply If_any) <;> intro hc)
    | ((with_reducible first | apply PF.mk | apply DrawP.mk); (focus kernel_rfl))
    | ((with_reducible apply Same.mk); (focus rfl); (first | exact trivial | exact rfl))
    | (intro cap hcap)
    | ((fail_if_success (with_reducible apply st)); conv => whnf))
  refine fst ⟨⟨rfl, rfl, rfl, rfl, rfl, trivial⟩, trivial⟩ ?_
  repeat' (first
    | (with_reducible first | exact True.intro | apply And.intro | apply If_true | apply If_false | apply If_not)
    | ((with_reducible apply VC.mk); exact vt)
    | ((with_reducible apply If_dec) <;> intro hc <;> (try (exfalso; omega)))
    | ((with_reducible apply If_any) <;> intro hc)
    | ((with_reducible first | apply PF.mk | apply DrawP.mk); (focus kernel_rfl))
    | ((with_reducible apply Same.mk); (focus rfl); (first | exact trivial | exact rfl))
    | (intro cap hcap)
    | ((fail_if_success (with_reducible apply st)); conv => whnf))
  · refine fst ⟨⟨rfl, rfl, rfl, rfl, rfl, trivial⟩, trivial⟩ ?_
    repeat' (first
    | (with_reducible first | exact True.intro | apply And.intro | apply If_true | apply If_false | apply If_not)
    | ((with_reducible apply VC.mk); exact vt)
    | ((with_reducible apply If_dec) <;> intro hc <;> (try (exfalso; omega)))
    | ((with_reducible apply If_any) <;> intro hc)
    | ((with_reducible first | apply PF.mk | apply DrawP.mk); (focus kernel_rfl))
    | ((with_reducible apply Same.mk); (focus rfl); (first | exact trivial | exact rfl))
    | (intro cap hcap)
    | ((fail_if_success (with_reducible apply st)); conv => whnf))
    exact Fin.bool (by decide) hk
  · refine fst ⟨⟨rfl, rfl, rfl, rfl, rfl, trivial⟩, trivial⟩ ?_
    repeat' (first
    | (with_reducible first | exact True.intro | apply And.intro | apply If_true | apply If_false | apply If_not)
    | ((with_reducible apply VC.mk); exact vt)
    | ((with_reducible apply If_dec) <;> intro hc <;> (try (exfalso; omega)))
    | ((with_reducible apply If_any) <;> intro hc)
    | ((with_reducible first | apply PF.mk | apply DrawP.mk); (focus kernel_rfl))
    | ((with_reducible apply Same.mk); (focus rfl); (first | exact trivial | exact rfl))
    | (intro cap hcap)
    | ((fail_if_success (with_reducible apply st)); conv => whnf))
    exact Fin.bool (by decide) hk
  have hp60 : ps.length ≤ 60 := by omega
  have hk200 : ks.length ≤ 200 := by omega
  refine fst ⟨⟨rfl, rfl, rfl, rfl, rfl, trivial⟩, trivial⟩ ?_
  repeat' (first
    | (with_reducible first | exact True.intro | apply And.intro | apply If_true | apply If_false | apply If_not)
    | ((with_reducible apply VC.mk); exact vt)
    | ((with_reducible apply If_dec) <;> intro hc <;> (try (exfalso; omega)))
    | ((with_reducible apply If_any) <;> intro hc)
    | ((with_reducible first | apply PF.mk | apply DrawP.mk); (focus kernel_rfl))
    | ((with_reducible apply Same.mk); (focus rfl); (first | exact trivial | exact rfl))
    | (intro cap hcap)
    | ((fail_if_success (with_reducible apply st)); conv => whnf))
  obtain ⟨z0, hz0⟩ : ∃ z0 : List Int, z0 = List.replicate (Int.toNat (33 * 512)) 0 := ⟨_, rfl⟩
  have hR0 : RZ 0 z0 := by rw [hz0]; exact RZ.zero
  rw [← hz0]
  refine LoopP.mk ⟨Nat × List Int, fun y => y.1 ≤ 33 ∧ RZ y.1 y.2, fun y => ([(0, .im true 1 ps.length (.ints .i64 ps)), (1, .v (.int .i64 ops)), (2, .im true 1 ks.length (boolsC ks)), (7, .p 0 0 1 0), (8, .s 1 0 1 16896 16896), (9, .v (.int .i64 ((y.1 : Nat) : Int)))], [.blk 25 (.lst [.v (.int .i64 hT.bits), .v (.int .i64 hT.size), .v (.int .i64 hT.host), .v (.int .i64 hT.jr), .v (.bool hT.backed)]) 5, .blk 5 (.ints .u8 y.2) 16896]), fun y => 33 - y.1, (0, z0), ⟨Nat.zero_le _, hR0⟩, Fit.ren [0, 1] [] rfl rfl trivial ?_ ?_, ?_⟩
  · repeat' (first
    | (with_reducible first | exact True.intro | apply And.intro | apply If_true | apply If_false | apply If_not)
    | ((with_reducible apply VC.mk); exact vo)
    | ((with_reducible apply If_dec) <;> intro hc <;> (try (exfalso; omega)))
    | ((with_reducible apply If_any) <;> intro hc)
    | ((with_reducible first | apply PF.mk | apply DrawP.mk); (focus kernel_rfl))
    | ((with_reducible apply Same.mk); (focus rfl); (first | exact trivial | exact rfl))
    | (intro cap hcap)
    | ((fail_if_success (with_reducible apply st)); conv => whnf))
  · repeat' (first
    | (with_reducible first | exact True.intro | apply And.intro | apply If_true | apply If_false | apply If_not)
    | ((with_reducible apply VC.mk); exact vo)
    | ((with_reducible apply If_dec) <;> intro hc <;> (try (exfalso; omega)))
    | ((with_reducible apply If_any) <;> intro hc)
    | ((with_reducible first | apply PF.mk | apply DrawP.mk); (focus kernel_rfl))
    | ((with_reducible apply Same.mk); (focus rfl); (first | exact trivial | exact rfl))
    | (intro cap hcap)
    | ((fail_if_success (with_reducible apply st)); conv => whnf))
  intro y hy
  obtain ⟨g1, g2⟩ := hy
  have g3 := g2.1
  repeat' (first
    | (with_reducible first | exact True.intro | apply And.intro | apply If_true | apply If_false | apply If_not)
    | ((with_reducible apply VC.mk); exact vo)
    | ((with_reducible apply If_dec) <;> intro hc <;> (try (exfalso; omega)))
    | ((with_reducible apply If_any) <;> intro hc)
    | ((with_reducible first | apply PF.mk | apply DrawP.mk); (focus kernel_rfl))
    | ((with_reducible apply Same.mk); (focus rfl); (first | exact trivial | exact rfl))
    | (intro cap hcap)
    | ((fail_if_success (with_reducible apply st)); conv => whnf))
  refine fst ⟨⟨rfl, rfl, rfl, rfl, rfl, trivial⟩, trivial⟩ ?_
  repeat' (first
    | (with_reducible first | exact True.intro | apply And.intro | apply If_true | apply If_false | apply If_not)
    | ((with_reducible apply VC.mk); exact vo)
    | ((with_reducible apply If_dec) <;> intro hc <;> (try (exfalso; omega)))
    | ((with_reducible apply If_any) <;> intro hc)
    | ((with_reducible first | apply PF.mk | apply DrawP.mk); (focus kernel_rfl))
    | ((with_reducible apply Same.mk); (focus rfl); (first | exact trivial | exact rfl))
    | (intro cap hcap)
    | ((fail_if_success (with_reducible apply st)); conv => whnf))
  · refine hrat_at hT hT_hR ⟨⟨rfl, rfl, rfl, rfl, rfl, trivial⟩, trivial⟩ ?_
    rintro ⟨ra, rb⟩ hr3
    have hr3 : (ra, rb) = (hT.jend, hT.rend) := hr3
    rw [hT_jend, hT_rend] at hr3
    obtain ⟨rfl, rfl⟩ : ra = 15360 ∧ rb = 15872 := by cases hr3; exact ⟨rfl, rfl⟩
    dsimp only
    have e1 : (15360 + 2 * ((y.1 : Nat) : Int)).toNat = 15360 + 2 * y.1 := by omega
    repeat' (first
    | (with_reducible first | exact True.intro | apply And.intro | apply If_true | apply If_false | apply If_not)
    | ((with_reducible apply VC.mk); exact vo)
    | ((with_reducible apply If_dec) <;> intro hc <;> (try (exfalso; omega)))
    | ((with_reducible apply If_any) <;> intro hc)
    | ((with_reducible first | apply PF.mk | apply DrawP.mk); (focus kernel_rfl))
    | ((with_reducible apply Same.mk); (focus rfl); (first | exact trivial | exact rfl))
    | (intro cap hcap)
    | ((fail_if_success (with_reducible apply st)); conv => whnf))
    refine Round.mk ⟨(y.1 + 1, y.2.set (15360 + 2 * y.1) 1), ⟨by show y.1 + 1 ≤ 33; omega, g2.set (by omega)⟩, by show 33 - (y.1 + 1) < 33 - y.1; omega, Fit.ren [0, 1] [] rfl rfl trivial ?_ ?_⟩
    · repeat' (first
    | (with_reducible first | exact True.intro | apply And.intro | apply If_true | apply If_false | apply If_not)
    | ((with_reducible apply VC.mk); exact vo)
    | ((with_reducible apply If_dec) <;> intro hc <;> (try (exfalso; omega)))
    | ((with_reducible apply If_any) <;> intro hc)
    | ((with_reducible first | apply PF.mk | apply DrawP.mk); (focus kernel_rfl))
    | ((with_reducible apply Same.mk); (focus rfl); (first | exact trivial | exact rfl))
    | (intro cap hcap)
    | ((fail_if_success (with_reducible apply st)); conv => whnf))
      all_goals (refine VC.mk ⟨rfl, ?_⟩; simp [e1])
    · repeat' (first
    | (with_reducible first | exact True.intro | apply And.intro | apply If_true | apply If_false | apply If_not)
    | ((with_reducible apply VC.mk); exact vo)
    | ((with_reducible apply If_dec) <;> intro hc <;> (try (exfalso; omega)))
    | ((with_reducible apply If_any) <;> intro hc)
    | ((with_reducible first | apply PF.mk | apply DrawP.mk); (focus kernel_rfl))
    | ((with_reducible apply Same.mk); (focus rfl); (first | exact trivial | exact rfl))
    | (intro cap hcap)
    | ((fail_if_success (with_reducible apply st)); conv => whnf))
  have h33 : y.1 = 33 := by omega
  rw [h33] at g2
  refine new_at y.2 (by omega) ⟨⟨by show 0 + 16896 ≤ y.2.length; omega, rfl, by omega, ?_, rfl, Nat.one_pos⟩, trivial⟩ (fun h => absurd h (by omega)) (fun _ => ?_)
  · simp only [Cont.low, Cont.ren, Int.toNat_zero, List.drop_zero, List.take_take, Nat.min_self]
    simp [Cont.same, List.take_of_length_le, g3]
  obtain ⟨b, hb⟩ : ∃ b, y.2 = b := ⟨_, rfl⟩
  rw [hb] at g2 g3 ⊢
  clear hb
  repeat' (first
    | (with_reducible first | exact True.intro | apply And.intro | apply If_true | apply If_false | apply If_not)
    | ((with_reducible apply VC.mk); exact vo)
    | ((with_reducible apply If_dec) <;> intro hc <;> (try (exfalso; omega)))
    | ((with_reducible apply If_any) <;> intro hc)
    | ((with_reducible first | apply PF.mk | apply DrawP.mk); (focus kernel_rfl))
    | ((with_reducible apply Same.mk); (focus rfl); (first | exact trivial | exact rfl))
    | (intro cap hcap)
    | ((fail_if_success (with_reducible apply st)); conv => whnf))
  have b8 : B8 b := fun x hx => by
    obtain ⟨i, hi, e⟩ := List.mem_iff_getElem.1 hx
    have := g2.2 i
    rw [List.getD_eq_getElem?_getD, List.getElem?_eq_getElem hi] at this
    have this : b[i] = oneAt 33 i := this
    rw [← e, this]; unfold oneAt; split <;> decide
  have hpn : pendB jR (jR.partL b) = none := zero_none jR_ok (by show (512 : Int).toNat + (14848 : Int).toNat ≤ b.length; have h1 : (512 : Int).toNat = 512 := rfl; have h2 : (14848 : Int).toNat = 14848 := rfl; omega) (fun i hi => by
    rw [g2.2]; unfold oneAt; rw [if_neg (by show ¬ (15360 ≤ (512 : Int).toNat + i ∧ _); have h1 : (512 : Int).toNat = 512 := rfl; omega)])
  have hrep : ∀ z : List Int, (DF.mk0 b).replay jR z = (0, 0, jR, (DF.mk0 b).tick 1) := fun z => replay_none (C := b) rfl ⟨rfl, rfl⟩ (by show (512 : Int) + 14848 ≤ (b.length : Int); omega) hpn
  refine opened_at (DF.mk0 b) 2 ⟨DF.Ok.zero (by omega), b8, by show 16896 ≤ b.length; omega, by show b.length ≤ _; omega, fun z _ => by rw [hrep]⟩ rfl ⟨rfl, ⟨rfl, rfl, rfl, rfl, rfl, trivial⟩, trivial⟩ ?_
  rintro r ⟨z, -, hr⟩
  rw [hrep] at hr
  subst hr
  dsimp only
  repeat' (first
    | (with_reducible first | exact True.intro | apply And.intro | apply If_true | apply If_false | apply If_not)
    | ((with_reducible apply VC.mk); exact vo)
    | ((with_reducible apply If_dec) <;> intro hc <;> (try (exfalso; omega)))
    | ((with_reducible apply If_any) <;> intro hc)
    | ((with_reducible first | apply PF.mk | apply DrawP.mk); (focus kernel_rfl))
    | ((with_reducible apply Same.mk); (focus rfl); (first | exact trivial | exact rfl))
    | (intro cap hcap)
    | ((fail_if_success (with_reducible apply st)); conv => whnf))
  refine LoopP.mk ⟨Nat × Nat × TR × List ER × List Int × Nat, fun y => y.1 ≤ ps.length ∧ y.2.1 ≤ 20000 * y.1 + 1 ∧ TTI b y.2.2.1 y.2.2.2.1 y.2.2.2.2.1.length ∧ y.2.2.2.2.1.length ≤ y.1, fun y => ([(0, .im true 1 ps.length (.ints .i64 ps)), (1, .v (.int .i64 ops)), (2, .im true 1 ks.length (boolsC ks)), (7, .p 7 0 1 0), (10, .p 4 0 1 0), (12, .p 0 0 1 0), (13, .p 5 0 1 0), (14, .p 6 0 1 0), (16, .s 8 0 1 (y.2.2.2.2.1).length (y.2.2.2.2.2)), (17, .v (.int .i64 ((y.1 : Nat) : Int)))], tpre (y.2.2.1) jR ((DF.mk0 b).tick (y.2.1)) ++ [rfb hT 0, mtb hT 32 0, .blk 25 (.lst [.v (.int .i64 hT.bits), .v (.int .i64 hT.size), .v (.int .i64 hT.host), .v (.int .i64 hT.jr), .v (.bool hT.backed)]) 5, .blk 2 (.ints .i64 (y.2.2.2.2.1)) (y.2.2.2.2.2 * 1)]), fun y => ps.length - y.1, (0, 1, TR.zero, List.replicate 64 eZ, [], 0), ⟨Nat.zero_le _, Nat.le_refl _, TTI.zero g2, Nat.le_refl _⟩, Fit.ren [4, 5, 6, 3, 2, 7, 8, 0, 9] [] rfl rfl trivial (T5.leG (cs := [rfb hT 0, mtb hT 32 0, .blk 25 (.lst [.v (.int .i64 hT.bits), .v (.int .i64 hT.size), .v (.int .i64 hT.host), .v (.int .i64 hT.jr), .v (.bool hT.backed)]) 5, .blk 2 (.ints .i64 ([])) (0 * 1)]) rfl rfl rfl rfl rfl rfl rfl rfl rfl ⟨rfl, rfl, rfl, rfl, rfl⟩ ?_) ?_, ?_⟩
  · repeat' (first
    | (with_reducible first | exact True.intro | apply And.intro | apply If_true | apply If_false | apply If_not)
    | ((with_reducible apply VC.mk); exact vo)
    | ((with_reducible apply If_dec) <;> intro hc <;> (try (exfalso; omega)))
    | ((with_reducible apply If_any) <;> intro hc)
    | ((with_reducible first | apply PF.mk | apply DrawP.mk); (focus kernel_rfl))
    | ((with_reducible apply Same.mk); (focus rfl); (first | exact trivial | exact rfl))
    | (intro cap hcap)
    | ((fail_if_success (with_reducible apply st)); conv => whnf))
  · repeat' (first
    | (with_reducible first | exact True.intro | apply And.intro | apply If_true | apply If_false | apply If_not)
    | ((with_reducible apply VC.mk); exact vo)
    | ((with_reducible apply If_dec) <;> intro hc <;> (try (exfalso; omega)))
    | ((with_reducible apply If_any) <;> intro hc)
    | ((with_reducible first | apply PF.mk | apply DrawP.mk); (focus kernel_rfl))
    | ((with_reducible apply Same.mk); (focus rfl); (first | exact trivial | exact rfl))
    | (intro cap hcap)
    | ((fail_if_success (with_reducible apply st)); conv => whnf))
  intro y hy
  obtain ⟨g4, g5, gI, g6⟩ := hy
  have e : ((y.1 : Nat) : Int).toNat = y.1 := Int.toNat_natCast y.1
  have hops : ∀ m : Nat, m ≤ 2000000 → 0 ≤ ((DF.mk0 b).tick m).ops ∧ ((DF.mk0 b).tick m).ops ≤ 137438953472 := by
    intro m hm
    show 0 ≤ 0 + (m : Int) ∧ 0 + (m : Int) ≤ _
    omega
  repeat' (first
    | (with_reducible first | exact True.intro | apply And.intro | apply If_true | apply If_false | apply If_not)
    | ((with_reducible apply VC.mk); exact vo)
    | ((with_reducible apply If_dec) <;> intro hc <;> (try (exfalso; omega)))
    | ((with_reducible apply If_any) <;> intro hc)
    | ((with_reducible first | apply PF.mk | apply DrawP.mk); (focus kernel_rfl))
    | ((with_reducible apply Same.mk); (focus rfl); (first | exact trivial | exact rfl))
    | (intro cap hcap)
    | ((fail_if_success (with_reducible apply st)); conv => whnf))
  · have hlt : y.1 < ps.length := by omega
    have hv : inR .i64 (ps.getD ((y.1 : Nat) : Int).toNat 0) := by
      rw [e, show ps.getD y.1 0 = ps[y.1] by simp [List.getD_eq_getElem?_getD, hlt]]; exact hps _ (List.getElem_mem hlt)
    refine pick_at (ps.getD ((y.1 : Nat) : Int).toNat 0) 64 ⟨hv, by decide, by decide⟩ ⟨rfl, rfl, trivial⟩ ?_
    intro p hp
    obtain ⟨P, hP⟩ : ∃ P : Nat, p = P := ⟨p.toNat, by omega⟩
    subst hP
    have hP : P < 64 := by omega
    clear hp
    have h2 : ∀ m : Nat, ((DF.mk0 b).tick m).live := fun m => ⟨rfl, rfl⟩
    have hTab : ∀ (t : TR) (m : Nat), t.Ok → t.B b → m ≤ 2000000 → TabOk t ((DF.mk0 b).tick m) hT 32 := fun t m o1 o2 o3 => ⟨o1, h2 m, hT_hR, o2, ⟨by decide, by decide, by rw [hT_clus]; decide⟩, (hops m o3).1, by have := (hops m o3).2; omega, by show b.length ≤ _; omega⟩
    have hRef : ∀ (t : TR) (m : Nat), t.Ok → t.B b → m ≤ 2000000 → RefOk t ((DF.mk0 b).tick m) hT := fun t m o1 o2 o3 => ⟨o1, h2 m, hT_hR, o2, ⟨by decide, by decide, by rw [hT_jend]; decide⟩, (hops m o3).1, by have := (hops m o3).2; omega, by show b.length ≤ _; omega⟩
    have hM := gI.tm.len
    repeat' (first
    | (with_reducible first | exact True.intro | apply And.intro | apply If_true | apply If_false | apply If_not)
    | ((with_reducible apply VC.mk); exact vo)
    | ((with_reducible apply If_dec) <;> intro hc <;> (try (exfalso; omega)))
    | ((with_reducible apply If_any) <;> intro hc)
    | ((with_reducible first | apply PF.mk | apply DrawP.mk); (focus kernel_rfl))
    | ((with_reducible apply Same.mk); (focus rfl); (first | exact trivial | exact rfl))
    | (intro cap hcap)
    | ((fail_if_success (with_reducible apply st)); conv => whnf))
    refine mget_at y.2.2.1 jR ((DF.mk0 b).tick y.2.1) hT 32 (P : Int) 0 1 2 3 4 6 ⟨hTab _ _ gI.ok gI.b8 (by omega), by simp only [inR]; omega⟩ rfl rfl rfl rfl rfl rfl rfl ⟨rfl, rfl, trivial⟩ ?_
    rintro ⟨⟨x, e3⟩, m3⟩ ⟨q1, q2⟩
    have q3 : getR y.2.2.1 b hT 32 (P : Int) = (y.2.2.2.1.getD P eZ, 0) := by
      unfold getR
      rw [hT_clus, if_pos ⟨by omega, by omega⟩, show (32 * 512 + 8 * (P : Int)).toNat = 16384 + 8 * P by omega]
      exact gI.tab.dec P hP
    obtain ⟨hx, rfl⟩ : x = y.2.2.2.1.getD P eZ ∧ e3 = 0 := by (have q4 := q1.trans q3; cases q4; exact ⟨rfl, rfl⟩)
    have q2 : m3 ≤ 8 := q2
    clear q1 q3
    dsimp only
    simp only [tick_tick]
    repeat' (first
    | (with_reducible first | exact True.intro | apply And.intro | apply If_true | apply If_false | apply If_not)
    | ((with_reducible apply VC.mk); exact vo)
    | ((with_reducible apply If_dec) <;> intro hc <;> (try (exfalso; omega)))
    | ((with_reducible apply If_any) <;> intro hc)
    | ((with_reducible first | apply PF.mk | apply DrawP.mk); (focus kernel_rfl))
    | ((with_reducible apply Same.mk); (focus rfl); (first | exact trivial | exact rfl))
    | (intro cap hcap)
    | ((fail_if_success (with_reducible apply st)); conv => whnf))
    · refine Round.mk ⟨(y.1 + 1, y.2.1 + m3, y.2.2.1, y.2.2.2.1, y.2.2.2.2.1, y.2.2.2.2.2), ⟨by show y.1 + 1 ≤ _; omega, by show y.2.1 + m3 ≤ 20000 * (y.1 + 1) + 1; omega, gI, by show y.2.2.2.2.1.length ≤ y.1 + 1; omega⟩, by show ps.length - (y.1 + 1) < ps.length - y.1; omega, Fit.ren [0, 1, 2, 3, 4, 5, 6, 7, 8] [] rfl rfl trivial (T5.leG (cs := [rfb hT 0, mtb hT 32 0, .blk 25 (.lst [.v (.int .i64 hT.bits), .v (.int .i64 hT.size), .v (.int .i64 hT.host), .v (.int .i64 hT.jr), .v (.bool hT.backed)]) 5, .blk 2 (.ints .i64 (y.2.2.2.2.1)) (y.2.2.2.2.2 * 1)]) rfl rfl rfl rfl rfl rfl rfl rfl rfl ⟨rfl, rfl, rfl, rfl, rfl⟩ ?_) ?_⟩
      · repeat' (first
    | (with_reducible first | exact True.intro | apply And.intro | apply If_true | apply If_false | apply If_not)
    | ((with_reducible apply VC.mk); exact vo)
    | ((with_reducible apply If_dec) <;> intro hc <;> (try (exfalso; omega)))
    | ((with_reducible apply If_any) <;> intro hc)
    | ((with_reducible first | apply PF.mk | apply DrawP.mk); (focus kernel_rfl))
    | ((with_reducible apply Same.mk); (focus rfl); (first | exact trivial | exact rfl))
    | (intro cap hcap)
    | ((fail_if_success (with_reducible apply st)); conv => whnf))
      · repeat' (first
    | (with_reducible first | exact True.intro | apply And.intro | apply If_true | apply If_false | apply If_not)
    | ((with_reducible apply VC.mk); exact vo)
    | ((with_reducible apply If_dec) <;> intro hc <;> (try (exfalso; omega)))
    | ((with_reducible apply If_any) <;> intro hc)
    | ((with_reducible first | apply PF.mk | apply DrawP.mk); (focus kernel_rfl))
    | ((with_reducible apply Same.mk); (focus rfl); (first | exact trivial | exact rfl))
    | (intro cap hcap)
    | ((fail_if_success (with_reducible apply st)); conv => whnf))
    have hkn : (y.2.2.2.1.getD P eZ).kind ≠ 2 := by rw [← hx]; assumption
    refine cnaloc_at y.2.2.1 jR ((DF.mk0 b).tick (y.2.1 + m3)) hT 0 1 2 3 4 5 ⟨hRef _ _ gI.ok gI.b8 (by omega), gI.over, (hops _ (by omega)).2, by rw [hT_first]; decide, by rw [hT_first]; decide⟩ rfl rfl rfl rfl rfl rfl rfl ⟨rfl, trivial⟩ ?_
    rintro ⟨cl, e4, t1, m4⟩ ⟨ha, hm4⟩
    have hm4 : m4 ≤ 16386 := hm4
    have hul : y.2.2.2.2.1.length < 87 := by omega
    rcases ha with ⟨i, i1, i2, i3, i4, i5, i6, i7⟩ | ⟨i1, -⟩
    rotate_left
    · exfalso
      refine i1 (33 + y.2.2.2.2.1.length) (by rw [hT_first]; omega) (by show ((33 + y.2.2.2.2.1.length : Nat) : Int) < 120; omega) ?_
      show cntV y.2.2.1 b hT _ = 0
      rw [gI.cnt _ (by omega), if_neg (by omega)]
    have hi : i = 33 + y.2.2.2.2.1.length := by
      rw [hT_first] at i1 i4
      have i2 : (i : Int) < 120 := i2
      have i3 : cntV y.2.2.1 b hT i = 0 := i3
      rw [gI.cnt _ (by omega)] at i3
      by_cases hlt : 33 + y.2.2.2.2.1.length < i
      · exfalso
        refine i4 (33 + y.2.2.2.2.1.length) (by omega) hlt ?_
        show cntV y.2.2.1 b hT _ = 0
        rw [gI.cnt _ (by omega), if_neg (by omega)]
      · by_cases hlt2 : i < 33 + y.2.2.2.2.1.length
        · rw [if_pos hlt2] at i3; cases i3
        · omega
    subst hi
    have i5 : cl = 33 + (y.2.2.2.2.1.length : Int) := by have i5 : cl = ((33 + y.2.2.2.2.1.length : Nat) : Int) := i5; omega
    have i6 : e4 = 0 := i6
    have j7 : t1 = y.2.2.1.put b (hT.jend + 2 * ((33 + y.2.2.2.2.1.length : Nat) : Int)).toNat (leB 2 1) := i7
    clear i7
    subst i5 i6
    have hst := gI.step hul hP hkn
    rw [← j7] at hst
    have p1 := put_V gI.ok b (hT.jend + 2 * ((33 + y.2.2.2.2.1.length : Nat) : Int)).toNat (leB 2 1)
    have O1 : t1.Ok := by rw [j7]; exact p1.1
    have V1 : t1.over = false := by rw [j7, p1.2.2.1]; exact gI.over
    have B1 : t1.B b := by rw [j7]; exact TR.B.put gI.b8 gI.ok _ (leB_B8 _ _)
    clear j7 p1 i1 i2 i3 i4
    dsimp only
    simp only [tick_tick]
    repeat' (first
    | (with_reducible first | exact True.intro | apply And.intro | apply If_true | apply If_false | apply If_not)
    | ((with_reducible apply VC.mk); exact vo)
    | ((with_reducible apply If_dec) <;> intro hc <;> (try (exfalso; omega)))
    | ((with_reducible apply If_any) <;> intro hc)
    | ((with_reducible first | apply PF.mk | apply DrawP.mk); (focus kernel_rfl))
    | ((with_reducible apply Same.mk); (focus rfl); (first | exact trivial | exact rfl))
    | (intro cap hcap)
    | ((fail_if_success (with_reducible apply st)); conv => whnf))
    refine mset_at t1 jR ((DF.mk0 b).tick (y.2.1 + m3 + m4)) hT 32 (P : Int) ⟨2, 33 + (y.2.2.2.2.1.length : Int), true⟩ 0 1 2 3 4 6 ⟨hTab _ _ O1 B1 (by omega), by simp only [inR]; omega, by simp [inR], by simp only [inR]; omega, V1⟩ rfl rfl rfl rfl rfl rfl rfl ⟨rfl, rfl, ⟨rfl, rfl, rfl, trivial⟩, trivial⟩ ?_
    rintro ⟨e5, t2, m5⟩ hs
    have ex : (encV ⟨2, 33 + (y.2.2.2.2.1.length : Int), true⟩).2 = 0 := by unfold encV; rw [if_neg (by simp), if_neg (by simp; omega)]; rfl
    unfold SetRel at hs
    rw [hT_clus] at hs
    rcases hs with ⟨s1, s2⟩ | ⟨s1, s2, s3⟩ | ⟨s1, s2, s3, s4, s5⟩
    · exact absurd ⟨by omega, by omega⟩ s1
    · exact absurd ex s2
    have s3 : e5 = 0 := s3
    have j4 : t2 = t1.put b (16384 + 8 * P) (leB 8 (encV ⟨2, 33 + (y.2.2.2.2.1.length : Int), true⟩).1) := by
      rw [show 16384 + 8 * P = (32 * 512 + 8 * (P : Int)).toNat by omega]; exact s4
    clear s4
    have s5 : m5 ≤ 8 := s5
    subst s3
    rw [← j4] at hst
    clear j4 s1 s2
    dsimp only
    simp only [tick_tick]
    repeat' (first
    | (with_reducible first | exact True.intro | apply And.intro | apply If_true | apply If_false | apply If_not)
    | ((with_reducible apply VC.mk); exact vo)
    | ((with_reducible apply If_dec) <;> intro hc <;> (try (exfalso; omega)))
    | ((with_reducible apply If_any) <;> intro hc)
    | ((with_reducible first | apply PF.mk | apply DrawP.mk); (focus kernel_rfl))
    | ((with_reducible apply Same.mk); (focus rfl); (first | exact trivial | exact rfl))
    | (intro cap hcap)
    | ((fail_if_success (with_reducible apply st)); conv => whnf))
    refine Round.mk ⟨(y.1 + 1, y.2.1 + m3 + m4 + m5, t2, y.2.2.2.1.set P ⟨2, 33 + (y.2.2.2.2.1.length : Int), true⟩, y.2.2.2.2.1 ++ [(P : Int)], cap), ⟨by show y.1 + 1 ≤ _; omega, by show y.2.1 + m3 + m4 + m5 ≤ 20000 * (y.1 + 1) + 1; omega, by show TTI b t2 _ (y.2.2.2.2.1 ++ [(P : Int)]).length; rw [List.length_append]; exact hst, by show (y.2.2.2.2.1 ++ [(P : Int)]).length ≤ y.1 + 1; rw [List.length_append]; show _ + 1 ≤ _; omega⟩, by show ps.length - (y.1 + 1) < ps.length - y.1; omega, Fit.ren [0, 1, 2, 3, 4, 5, 6, 7, 11] [] rfl rfl trivial (T5.leG (cs := [rfb hT 0, mtb hT 32 0, .blk 25 (.lst [.v (.int .i64 hT.bits), .v (.int .i64 hT.size), .v (.int .i64 hT.host), .v (.int .i64 hT.jr), .v (.bool hT.backed)]) 5, .blk 2 (.ints .i64 (y.2.2.2.2.1 ++ [(P : Int)])) (cap * 1)]) rfl rfl rfl rfl rfl rfl rfl rfl rfl ⟨rfl, rfl, rfl, rfl, rfl⟩ ?_) ?_⟩
    · repeat' (first
    | (with_reducible first | exact True.intro | apply And.intro | apply If_true | apply If_false | apply If_not)
    | ((with_reducible apply VC.mk); exact vo)
    | ((with_reducible apply If_dec) <;> intro hc <;> (try (exfalso; omega)))
    | ((with_reducible apply If_any) <;> intro hc)
    | ((with_reducible first | apply PF.mk | apply DrawP.mk); (focus kernel_rfl))
    | ((with_reducible apply Same.mk); (focus rfl); (first | exact trivial | exact rfl))
    | (intro cap hcap)
    | ((fail_if_success (with_reducible apply st)); conv => whnf))
    · repeat' (first
    | (with_reducible first | exact True.intro | apply And.intro | apply If_true | apply If_false | apply If_not)
    | ((with_reducible apply VC.mk); exact vo)
    | ((with_reducible apply If_dec) <;> intro hc <;> (try (exfalso; omega)))
    | ((with_reducible apply If_any) <;> intro hc)
    | ((with_reducible first | apply PF.mk | apply DrawP.mk); (focus kernel_rfl))
    | ((with_reducible apply Same.mk); (focus rfl); (first | exact trivial | exact rfl))
    | (intro cap hcap)
    | ((fail_if_success (with_reducible apply st)); conv => whnf))
  obtain ⟨zz, hzz⟩ : ∃ zz : List Int, zz = List.replicate 512 0 := ⟨_, rfl⟩
  have hzl : zz.length = 512 := by rw [hzz]; exact List.length_replicate ..
  have okS : ((DF.mk0 b).tick y.2.1).Ok (0 + y.2.1) := (DF.mk0_ok (by omega) 0 (Int.le_refl _)).tick y.2.1
  refine pick_at ops 40 ⟨hops0, by decide, by decide⟩ ⟨rfl, rfl, trivial⟩ ?_
  intro sp hsp
  have hsp : 0 ≤ sp := by rw [hsp]; exact Int.emod_nonneg _ (by decide)
  repeat' (first
    | (with_reducible first | exact True.intro | apply And.intro | apply If_true | apply If_false | apply If_not)
    | ((with_reducible apply VC.mk); exact vo)
    | ((with_reducible apply If_dec) <;> intro hc <;> (try (exfalso; omega)))
    | ((with_reducible apply If_any) <;> intro hc)
    | ((with_reducible first | apply PF.mk | apply DrawP.mk); (focus kernel_rfl))
    | ((with_reducible apply Same.mk); (focus rfl); (first | exact trivial | exact rfl))
    | (intro cap hcap)
    | ((fail_if_success (with_reducible apply st)); conv => whnf))
  refine stop_at ((DF.mk0 b).tick y.2.1) (1 + sp) 4 ⟨(hops _ (by omega)).1, by have := (hops y.2.1 (by omega)).2; omega⟩ rfl ⟨rfl, rfl, trivial⟩ (fun _ => ?_)
  obtain ⟨s1, hs1⟩ : ∃ s1 : DF, s1 = { (DF.mk0 b).tick y.2.1 with stop := if 0 < 1 + sp ∧ 1 + sp ≤ 65536 then ((DF.mk0 b).tick y.2.1).ops + (1 + sp) else 0 } := ⟨_, rfl⟩
  rw [← hs1]
  have a1 : s1.safe = b := by rw [hs1]; rfl
  have a2 : s1.now = b := by rw [hs1]; rfl
  have a4 : s1.items = [] := by rw [hs1]; rfl
  have okS : s1.Ok (0 + y.2.1) := by rw [hs1]; exact ⟨okS.safe, okS.now, okS.its, okS.len, okS.ops, okS.wrote, okS.all⟩
  clear hs1
  repeat' (first
    | (with_reducible first | exact True.intro | apply And.intro | apply If_true | apply If_false | apply If_not)
    | ((with_reducible apply VC.mk); exact vo)
    | ((with_reducible apply If_dec) <;> intro hc <;> (try (exfalso; omega)))
    | ((with_reducible apply If_any) <;> intro hc)
    | ((with_reducible first | apply PF.mk | apply DrawP.mk); (focus kernel_rfl))
    | ((with_reducible apply Same.mk); (focus rfl); (first | exact trivial | exact rfl))
    | (intro cap hcap)
    | ((fail_if_success (with_reducible apply st)); conv => whnf))
  have hdl : y.2.2.1.dirty.length ≤ 1048576 := by have := gI.inn.count; omega
  refine tcommit_at y.2.2.1 jR s1 (0 + y.2.1) zz 0 1 2 3 4 ⟨gI.ok, ⟨by omega, fun q hq => ⟨(gI.inn.keys q hq).1, by have := (gI.inn.keys q hq).2.1; omega, (gI.inn.keys q hq).2.2.2⟩⟩, by rw [gI.fresh]; simp [wrs, cost], jR_ok, okS, by omega, hzz⟩ rfl rfl rfl rfl rfl rfl ⟨rfl, trivial⟩ ?_
  rintro ⟨e3, t3, j3, s3⟩ hr
  obtain ⟨rs, hrs⟩ : ∃ rs, RecRel y.2.2.1 rs := by
    rcases hr with ⟨h, -⟩ | ⟨-, rs, h, -⟩
    · rw [gI.over] at h; cases h
    · exact ⟨rs, h⟩
  obtain ⟨-, hel⟩ := gI.room hrs
  have hend := tcrash_all hr gI.over a1 a2 a4 jR_ok (by decide) (by show (512 : Int) + 14848 ≤ (b.length : Int); omega) (by omega) b8 (fun i hi => by rw [g2.2]; unfold oneAt; rw [if_neg (by show ¬ (15360 ≤ (512 : Int).toNat + i ∧ _); have h1 : (512 : Int).toNat = 512 := rfl; omega)]) gI.ok gI.inn (fun r hr => by rw [gI.fresh] at hr; cases hr) (fun q hq => by have := gI.keys _ (List.mem_map.2 ⟨q, hq, rfl⟩); omega) hzz hrs (by show _ ≤ (14848 : Int) - 512; omega) ks
  have okE := tcomRel_ok hr okS hzl (by show (14848 : Int) ≤ _; omega)
  have hfr0 := gI.fresh
  rw [hfr0] at okE
  clear hr
  dsimp only at hend okE ⊢
  repeat' (first
    | (with_reducible first | exact True.intro | apply And.intro | apply If_true | apply If_false | apply If_not)
    | ((with_reducible apply VC.mk); exact vo)
    | ((with_reducible apply If_dec) <;> intro hc <;> (try (exfalso; omega)))
    | ((with_reducible apply If_any) <;> intro hc)
    | ((with_reducible first | apply PF.mk | apply DrawP.mk); (focus kernel_rfl))
    | ((with_reducible apply Same.mk); (focus rfl); (first | exact trivial | exact rfl))
    | (intro cap hcap)
    | ((fail_if_success (with_reducible apply st)); conv => whnf))
  have okO : s3.items.length ≤ 1099511627776 := by have h1 := okE.len; simp [wrs, cost] at h1; omega
  refine crash_at s3 ks 4 ⟨okE.safe, by omega, okO, okE.its⟩ rfl ⟨rfl, ⟨rfl, rfl, ⟨rfl, rfl, fun _ _ => rfl⟩⟩, trivial⟩ ?_
  intro C hC
  rw [← hC] at hend
  obtain ⟨C8, Cl, hend⟩ := hend
  clear hC
  repeat' (first
    | (with_reducible first | exact True.intro | apply And.intro | apply If_true | apply If_false | apply If_not)
    | ((with_reducible apply VC.mk); exact vo)
    | ((with_reducible apply If_dec) <;> intro hc <;> (try (exfalso; omega)))
    | ((with_reducible apply If_any) <;> intro hc)
    | ((with_reducible first | apply PF.mk | apply DrawP.mk); (focus kernel_rfl))
    | ((with_reducible apply Same.mk); (focus rfl); (first | exact trivial | exact rfl))
    | (intro cap hcap)
    | ((fail_if_success (with_reducible apply st)); conv => whnf))
  refine new_at C (by omega) ⟨⟨rfl, rfl, rfl⟩, trivial⟩ (fun h => absurd h (by omega)) (fun _ => ?_)
  repeat' (first
    | (with_reducible first | exact True.intro | apply And.intro | apply If_true | apply If_false | apply If_not)
    | ((with_reducible apply VC.mk); exact vo)
    | ((with_reducible apply If_dec) <;> intro hc <;> (try (exfalso; omega)))
    | ((with_reducible apply If_any) <;> intro hc)
    | ((with_reducible first | apply PF.mk | apply DrawP.mk); (focus kernel_rfl))
    | ((with_reducible apply Same.mk); (focus rfl); (first | exact trivial | exact rfl))
    | (intro cap hcap)
    | ((fail_if_success (with_reducible apply st)); conv => whnf))
  refine opened_at (DF.mk0 C) 9 ⟨DF.Ok.zero (by omega), C8, by show 16896 ≤ C.length; omega, by show C.length ≤ _; omega, fun z hz => (hend _ (by rw [hz, ← hzz])).err⟩ rfl ⟨rfl, ⟨rfl, rfl, rfl, rfl, rfl, trivial⟩, trivial⟩ ?_
  rintro r ⟨z, hz, hr⟩
  have hz : z = zz := hz.trans hzz.symm
  subst hz
  have hA := hend r hr
  have okR := (replay_ok (z := z) (DF.Ok.zero (b := C) (by omega)) C8 jR_ok hzl).1
  rw [← hr] at okR
  clear hr hend
  obtain ⟨M, u, hV, hu⟩ : ∃ M u, TTV r.2.2.2.now M u ∧ (u = y.2.2.2.2.1.length ∨ u = 0 ∧ e3 ≠ 0) := by
    have nJ : ∀ i, 15360 ≤ i → ¬ jR.inJ i := fun i hi hj => by
      have hj : (512 : Int).toNat ≤ i ∧ i < (512 : Int).toNat + (14848 : Int).toNat := hj
      have h1 : (512 : Int).toNat = 512 := rfl
      have h2 : (14848 : Int).toNat = 14848 := rfl
      omega
    rcases hA.view with h | ⟨h1, h2⟩
    · exact ⟨_, _, gI.toV (fun i hi => h i (nJ i hi)), .inl rfl⟩
    · exact ⟨_, _, (TTI.zero g2).toV (fun i hi => (h2 i (nJ i hi) (fun r hr => by rw [hfr0] at hr; cases hr)).trans (zero_V b i).symm), .inr ⟨rfl, h1⟩⟩
  obtain ⟨f, hf⟩ : ∃ f, f = r.2.2.2 := ⟨_, rfl⟩
  obtain ⟨jr, hjr⟩ : ∃ jr, jr = r.2.2.1 := ⟨_, rfl⟩
  have fl := hA.live
  have fB := TR.zero_B hA.b8
  have fn : f.now.length ≤ 4194304 := by rw [hf, hA.len]; omega
  rw [← hf] at hV fl fB okR ⊢
  rw [← hjr]
  have fo := okR.ops
  repeat' (first
    | (with_reducible first | exact True.intro | apply And.intro | apply If_true | apply If_false | apply If_not)
    | ((with_reducible apply VC.mk); exact vo)
    | ((with_reducible apply If_dec) <;> intro hc <;> (try (exfalso; omega)))
    | ((with_reducible apply If_any) <;> intro hc)
    | ((with_reducible first | apply PF.mk | apply DrawP.mk); (focus kernel_rfl))
    | ((with_reducible apply Same.mk); (focus rfl); (first | exact trivial | exact rfl))
    | (intro cap hcap)
    | ((fail_if_success (with_reducible apply st)); conv => whnf))
  refine cnall_at TR.zero jr f hT 11 12 13 10 9 14 ⟨TR.zero_ok, fl, hT_hR, fB, ⟨by decide, by decide, by rw [hT_jend]; decide⟩, fo.1, by have := fo.2; omega, fn⟩ rfl rfl rfl rfl rfl rfl rfl ⟨rfl, trivial⟩ ?_
  rintro ⟨L, m6⟩ ⟨l1, l2⟩
  have l1 : L = cntL TR.zero f.now hT := l1
  have l2 : m6 ≤ 16384 := l2
  have Ll : L.length = 120 := by rw [l1, hV.cnt, List.length_map, List.length_range]
  have Lg : ∀ q, q < 120 → L.getD q 0 = if q < 33 + u then 1 else 0 := fun q hq => by
    rw [l1, hV.cnt, List.getD_eq_getElem?_getD, List.getElem?_map, List.getElem?_range hq]; rfl
  clear l1
  dsimp only
  repeat' (first
    | (with_reducible first | exact True.intro | apply And.intro | apply If_true | apply If_false | apply If_not)
    | ((with_reducible apply VC.mk); exact vo)
    | ((with_reducible apply If_dec) <;> intro hc <;> (try (exfalso; omega)))
    | ((with_reducible apply If_any) <;> intro hc)
    | ((with_reducible first | apply PF.mk | apply DrawP.mk); (focus kernel_rfl))
    | ((with_reducible apply Same.mk); (focus rfl); (first | exact trivial | exact rfl))
    | (intro cap hcap)
    | ((fail_if_success (with_reducible apply st)); conv => whnf))
  refine mall_at TR.zero jr (f.tick m6) hT 32 11 12 13 10 9 15 ⟨TR.zero_ok, fl, hT_hR, fB, ⟨by decide, by decide, by rw [hT_clus]; decide⟩, by show 0 ≤ f.ops + (m6 : Int); omega, by show f.ops + (m6 : Int) ≤ _; have := fo.2; omega, fn⟩ rfl rfl rfl rfl rfl rfl rfl ⟨rfl, trivial⟩ ?_
  rintro ⟨⟨E, eE⟩, m7⟩ ⟨q1, q2⟩
  have q1 : LRel (TR.zero.rd f.now 16384 512) (E, eE) := by
    have q1 : LRel (TR.zero.rd f.now (32 * hT.clus).toNat hT.clus.toNat) (E, eE) := q1
    rw [hT_clus] at q1; exact q1
  have q3 := hV.tab.list q1
  obtain ⟨rfl, rfl⟩ : E = M ∧ eE = 0 := by cases q3; exact ⟨rfl, rfl⟩
  clear q1 q2 q3
  have hM := hV.tm
  have hMl := hM.len
  dsimp only
  repeat' (first
    | (with_reducible first | exact True.intro | apply And.intro | apply If_true | apply If_false | apply If_not)
    | ((with_reducible apply VC.mk); exact vo)
    | ((with_reducible apply If_dec) <;> intro hc <;> (try (exfalso; omega)))
    | ((with_reducible apply If_any) <;> intro hc)
    | ((with_reducible first | apply PF.mk | apply DrawP.mk); (focus kernel_rfl))
    | ((with_reducible apply Same.mk); (focus rfl); (first | exact trivial | exact rfl))
    | (intro cap hcap)
    | ((fail_if_success (with_reducible apply st)); conv => whnf))
  obtain ⟨us, hus⟩ : ∃ us, us = y.2.2.2.2.1 := ⟨_, rfl⟩
  obtain ⟨uc, huc⟩ : ∃ uc, uc = y.2.2.2.2.2 := ⟨_, rfl⟩
  have hus60 : us.length ≤ 60 := by rw [hus]; omega
  rw [← hus] at hu ⊢
  rw [← huc]
  have hcs : ∀ i : Nat, i < 64 → (E.take (i + 1)).countP (fun x => decide (x.kind = 2)) = (E.take i).countP (fun x => decide (x.kind = 2)) + if (E.getD i eZ).kind = 2 then 1 else 0 := fun i hi => by
    rw [List.take_add_one, List.getElem?_eq_getElem (by omega), List.countP_append, List.getD_eq_getElem?_getD, List.getElem?_eq_getElem (by omega)]
    simp only [Option.toList, Option.getD_some, List.countP_cons, List.countP_nil, decide_eq_true_eq, Nat.zero_add]
  refine LoopP.mk ⟨Nat, fun i => i ≤ 64, fun i => ([(7, .p 0 0 1 0), (16, .s 1 0 1 us.length uc), (22, .v (.bool (decide (e3 = 0)))), (23, .im true 1 L.length (.ints .i64 L)), (24, .im true 3 E.length (entsC E)), (26, .v (.int .i64 (((E.take i).countP (fun x => decide (x.kind = 2)) : Nat) : Int))), (27, .v (.int .i64 ((i : Nat) : Int)))], [.blk 25 (.lst [.v (.int .i64 hT.bits), .v (.int .i64 hT.size), .v (.int .i64 hT.host), .v (.int .i64 hT.jr), .v (.bool hT.backed)]) 5, .blk 2 (.ints .i64 us) (uc * 1)]), fun i => 64 - i, 0, Nat.zero_le _, Fit.ren [7, 8] [] rfl rfl trivial ?_ ?_, ?_⟩
  · repeat' (first
    | (with_reducible first | exact True.intro | apply And.intro | apply If_true | apply If_false | apply If_not)
    | ((with_reducible apply VC.mk); exact vo)
    | ((with_reducible apply If_dec) <;> intro hc <;> (try (exfalso; omega)))
    | ((with_reducible apply If_any) <;> intro hc)
    | ((with_reducible first | apply PF.mk | apply DrawP.mk); (focus kernel_rfl))
    | ((with_reducible apply Same.mk); (focus rfl); (first | exact trivial | exact rfl))
    | (intro cap hcap)
    | ((fail_if_success (with_reducible apply st)); conv => whnf))
  · repeat' (first
    | (with_reducible first | exact True.intro | apply And.intro | apply If_true | apply If_false | apply If_not)
    | ((with_reducible apply VC.mk); exact vo)
    | ((with_reducible apply If_dec) <;> intro hc <;> (try (exfalso; omega)))
    | ((with_reducible apply If_any) <;> intro hc)
    | ((with_reducible first | apply PF.mk | apply DrawP.mk); (focus kernel_rfl))
    | ((with_reducible apply Same.mk); (focus rfl); (first | exact trivial | exact rfl))
    | (intro cap hcap)
    | ((fail_if_success (with_reducible apply st)); conv => whnf))
  intro i hi
  have hi : i ≤ 64 := hi
  have ei : ((i : Nat) : Int).toNat = i := Int.toNat_natCast i
  have hrg : i < 64 → (E.getD ((i : Nat) : Int).toNat ⟨0, 0, false⟩).kind = 2 → 33 ≤ (E.getD ((i : Nat) : Int).toNat ⟨0, 0, false⟩).cl ∧ (E.getD ((i : Nat) : Int).toNat ⟨0, 0, false⟩).cl < 33 + u := by rw [ei]; exact hM.rng i
  have hcc : (E.take i).countP (fun x => decide (x.kind = 2)) ≤ 64 := Nat.le_trans List.countP_le_length (by rw [List.length_take]; omega)
  have hu60 : u ≤ 60 := by omega
  have hL1 : i < 64 → (E.getD ((i : Nat) : Int).toNat ⟨0, 0, false⟩).kind = 2 → L.getD (E.getD ((i : Nat) : Int).toNat ⟨0, 0, false⟩).cl.toNat 0 = 1 := fun h1 h2 => by
    have := hrg h1 h2
    rw [Lg _ (by omega), if_pos (by omega)]
  repeat' (first
    | (with_reducible first | exact True.intro | apply And.intro | apply If_true | apply If_false | apply If_not)
    | ((with_reducible apply VC.mk); exact vo)
    | ((with_reducible apply If_dec) <;> intro hc <;> (try (exfalso; omega)))
    | ((with_reducible apply If_any) <;> intro hc)
    | ((with_reducible first | apply PF.mk | apply DrawP.mk); (focus kernel_rfl))
    | ((with_reducible apply Same.mk); (focus rfl); (first | exact trivial | exact rfl))
    | (intro cap hcap)
    | ((fail_if_success (with_reducible apply st)); conv => whnf))
  · have hi64 : i < 64 := by omega
    have h5 := hcs i hi64
    rw [if_neg (by rw [← ei]; assumption), Nat.add_zero] at h5
    refine Round.mk ⟨i + 1, by show i + 1 ≤ 64; omega, by show 64 - (i + 1) < 64 - i; omega, Fit.ren [0, 1] [] rfl rfl trivial ?_ ?_⟩
    · repeat' (first
    | (with_reducible first | exact True.intro | apply And.intro | apply If_true | apply If_false | apply If_not)
    | ((with_reducible apply VC.mk); exact vo)
    | ((with_reducible apply If_dec) <;> intro hc <;> (try (exfalso; omega)))
    | ((with_reducible apply If_any) <;> intro hc)
    | ((with_reducible first | apply PF.mk | apply DrawP.mk); (focus kernel_rfl))
    | ((with_reducible apply Same.mk); (focus rfl); (first | exact trivial | exact rfl))
    | (intro cap hcap)
    | ((fail_if_success (with_reducible apply st)); conv => whnf))
    · repeat' (first
    | (with_reducible first | exact True.intro | apply And.intro | apply If_true | apply If_false | apply If_not)
    | ((with_reducible apply VC.mk); exact vo)
    | ((with_reducible apply If_dec) <;> intro hc <;> (try (exfalso; omega)))
    | ((with_reducible apply If_any) <;> intro hc)
    | ((with_reducible first | apply PF.mk | apply DrawP.mk); (focus kernel_rfl))
    | ((with_reducible apply Same.mk); (focus rfl); (first | exact trivial | exact rfl))
    | (intro cap hcap)
    | ((fail_if_success (with_reducible apply st)); conv => whnf))
      all_goals (refine VC.mk (congrArg (Value.int .i64) ?_); rw [h5])
  · have hi64 : i < 64 := by omega
    have hk2 : (E.getD ((i : Nat) : Int).toNat ⟨0, 0, false⟩).kind = 2 := by omega
    have h5 := hcs i hi64
    rw [if_pos (by rw [← ei]; exact hk2)] at h5
    have hcl := hrg hi64 hk2
    refine fst ⟨⟨rfl, rfl, rfl, rfl, rfl, trivial⟩, trivial⟩ ?_
    repeat' (first
    | (with_reducible first | exact True.intro | apply And.intro | apply If_true | apply If_false | apply If_not)
    | ((with_reducible apply VC.mk); exact vo)
    | ((with_reducible apply If_dec) <;> intro hc <;> (try (exfalso; omega)))
    | ((with_reducible apply If_any) <;> intro hc)
    | ((with_reducible first | apply PF.mk | apply DrawP.mk); (focus kernel_rfl))
    | ((with_reducible apply Same.mk); (focus rfl); (first | exact trivial | exact rfl))
    | (intro cap hcap)
    | ((fail_if_success (with_reducible apply st)); conv => whnf))
    refine LoopP.mk ⟨Nat, fun v => v ≤ i, fun v => ([(7, .p 0 0 1 0), (16, .s 1 0 1 us.length uc), (22, .v (.bool (decide (e3 = 0)))), (23, .im true 1 L.length (.ints .i64 L)), (24, .im true 3 E.length (entsC E)), (26, .v (.int .i64 (((E.take (i + 1)).countP (fun x => decide (x.kind = 2)) : Nat) : Int))), (27, .v (.int .i64 ((i : Nat) : Int))), (28, .v (.int .i64 ((v : Nat) : Int)))], [.blk 25 (.lst [.v (.int .i64 hT.bits), .v (.int .i64 hT.size), .v (.int .i64 hT.host), .v (.int .i64 hT.jr), .v (.bool hT.backed)]) 5, .blk 2 (.ints .i64 us) (uc * 1)]), fun v => i - v, 0, Nat.zero_le _, Fit.ren [0, 1] [] rfl rfl trivial ?_ ?_, ?_⟩
    · repeat' (first
    | (with_reducible first | exact True.intro | apply And.intro | apply If_true | apply If_false | apply If_not)
    | ((with_reducible apply VC.mk); exact vo)
    | ((with_reducible apply If_dec) <;> intro hc <;> (try (exfalso; omega)))
    | ((with_reducible apply If_any) <;> intro hc)
    | ((with_reducible first | apply PF.mk | apply DrawP.mk); (focus kernel_rfl))
    | ((with_reducible apply Same.mk); (focus rfl); (first | exact trivial | exact rfl))
    | (intro cap hcap)
    | ((fail_if_success (with_reducible apply st)); conv => whnf))
    · repeat' (first
    | (with_reducible first | exact True.intro | apply And.intro | apply If_true | apply If_false | apply If_not)
    | ((with_reducible apply VC.mk); exact vo)
    | ((with_reducible apply If_dec) <;> intro hc <;> (try (exfalso; omega)))
    | ((with_reducible apply If_any) <;> intro hc)
    | ((with_reducible first | apply PF.mk | apply DrawP.mk); (focus kernel_rfl))
    | ((with_reducible apply Same.mk); (focus rfl); (first | exact trivial | exact rfl))
    | (intro cap hcap)
    | ((fail_if_success (with_reducible apply st)); conv => whnf))
      all_goals (refine VC.mk (congrArg (Value.int .i64) ?_); omega)
    intro v hv
    have hv : v ≤ i := hv
    have ev : ((v : Nat) : Int).toNat = v := Int.toNat_natCast v
    have hij : v < i → (E.getD ((v : Nat) : Int).toNat ⟨0, 0, false⟩).kind = 2 → (E.getD ((v : Nat) : Int).toNat ⟨0, 0, false⟩).cl ≠ (E.getD ((i : Nat) : Int).toNat ⟨0, 0, false⟩).cl := fun h1 h2 h3 => by
      rw [ei, ev] at h3
      rw [ei] at hk2
      rw [ev] at h2
      have := hM.inj v i (by omega) hi64 h2 hk2 h3
      omega
    repeat' (first
    | (with_reducible first | exact True.intro | apply And.intro | apply If_true | apply If_false | apply If_not)
    | ((with_reducible apply VC.mk); exact vo)
    | ((with_reducible apply If_dec) <;> intro hc <;> (try (exfalso; omega)))
    | ((with_reducible apply If_any) <;> intro hc)
    | ((with_reducible first | apply PF.mk | apply DrawP.mk); (focus kernel_rfl))
    | ((with_reducible apply Same.mk); (focus rfl); (first | exact trivial | exact rfl))
    | (intro cap hcap)
    | ((fail_if_success (with_reducible apply st)); conv => whnf))
    rotate_right
    · refine Round.mk ⟨i + 1, by show i + 1 ≤ 64; omega, by show 64 - (i + 1) < 64 - i; omega, Fit.ren [0, 1] [] rfl rfl trivial ?_ ?_⟩
      · repeat' (first
    | (with_reducible first | exact True.intro | apply And.intro | apply If_true | apply If_false | apply If_not)
    | ((with_reducible apply VC.mk); exact vo)
    | ((with_reducible apply If_dec) <;> intro hc <;> (try (exfalso; omega)))
    | ((with_reducible apply If_any) <;> intro hc)
    | ((with_reducible first | apply PF.mk | apply DrawP.mk); (focus kernel_rfl))
    | ((with_reducible apply Same.mk); (focus rfl); (first | exact trivial | exact rfl))
    | (intro cap hcap)
    | ((fail_if_success (with_reducible apply st)); conv => whnf))
      · repeat' (first
    | (with_reducible first | exact True.intro | apply And.intro | apply If_true | apply If_false | apply If_not)
    | ((with_reducible apply VC.mk); exact vo)
    | ((with_reducible apply If_dec) <;> intro hc <;> (try (exfalso; omega)))
    | ((with_reducible apply If_any) <;> intro hc)
    | ((with_reducible first | apply PF.mk | apply DrawP.mk); (focus kernel_rfl))
    | ((with_reducible apply Same.mk); (focus rfl); (first | exact trivial | exact rfl))
    | (intro cap hcap)
    | ((fail_if_success (with_reducible apply st)); conv => whnf))
    all_goals
      refine Round.mk ⟨v + 1, by show v + 1 ≤ i; omega, by show i - (v + 1) < i - v; omega, Fit.ren [0, 1] [] rfl rfl trivial ?_ ?_⟩
      · repeat' (first
    | (with_reducible first | exact True.intro | apply And.intro | apply If_true | apply If_false | apply If_not)
    | ((with_reducible apply VC.mk); exact vo)
    | ((with_reducible apply If_dec) <;> intro hc <;> (try (exfalso; omega)))
    | ((with_reducible apply If_any) <;> intro hc)
    | ((with_reducible first | apply PF.mk | apply DrawP.mk); (focus kernel_rfl))
    | ((with_reducible apply Same.mk); (focus rfl); (first | exact trivial | exact rfl))
    | (intro cap hcap)
    | ((fail_if_success (with_reducible apply st)); conv => whnf))
      · repeat' (first
    | (with_reducible first | exact True.intro | apply And.intro | apply If_true | apply If_false | apply If_not)
    | ((with_reducible apply VC.mk); exact vo)
    | ((with_reducible apply If_dec) <;> intro hc <;> (try (exfalso; omega)))
    | ((with_reducible apply If_any) <;> intro hc)
    | ((with_reducible first | apply PF.mk | apply DrawP.mk); (focus kernel_rfl))
    | ((with_reducible apply Same.mk); (focus rfl); (first | exact trivial | exact rfl))
    | (intro cap hcap)
    | ((fail_if_success (with_reducible apply st)); conv => whnf))
  have hi64 : i = 64 := by omega
  have hkE : (E.take i).countP (fun x => decide (x.kind = 2)) = u := by
    rw [hi64, List.take_of_length_le (by omega)]; exact hM.cnt
  refine LoopP.mk ⟨Nat, fun n => n ≤ 120, fun n => ([(16, .s 0 0 1 us.length uc), (22, .v (.bool (decide (e3 = 0)))), (23, .im true 1 L.length (.ints .i64 L)), (26, .v (.int .i64 ((u : Nat) : Int))), (29, .v (.int .i64 ((n - (33 + u) : Nat) : Int))), (30, .v (.int .i64 ((n : Nat) : Int)))], [.blk 2 (.ints .i64 us) (uc * 1)]), fun n => 120 - n, 0, Nat.zero_le _, Fit.ren [1] [] rfl rfl trivial ?_ ?_, ?_⟩
  · repeat' (first
    | (with_reducible first | exact True.intro | apply And.intro | apply If_true | apply If_false | apply If_not)
    | ((with_reducible apply VC.mk); exact vo)
    | ((with_reducible apply If_dec) <;> intro hc <;> (try (exfalso; omega)))
    | ((with_reducible apply If_any) <;> intro hc)
    | ((with_reducible first | apply PF.mk | apply DrawP.mk); (focus kernel_rfl))
    | ((with_reducible apply Same.mk); (focus rfl); (first | exact trivial | exact rfl))
    | (intro cap hcap)
    | ((fail_if_success (with_reducible apply st)); conv => whnf))
  · repeat' (first
    | (with_reducible first | exact True.intro | apply And.intro | apply If_true | apply If_false | apply If_not)
    | ((with_reducible apply VC.mk); exact vo)
    | ((with_reducible apply If_dec) <;> intro hc <;> (try (exfalso; omega)))
    | ((with_reducible apply If_any) <;> intro hc)
    | ((with_reducible first | apply PF.mk | apply DrawP.mk); (focus kernel_rfl))
    | ((with_reducible apply Same.mk); (focus rfl); (first | exact trivial | exact rfl))
    | (intro cap hcap)
    | ((fail_if_success (with_reducible apply st)); conv => whnf))
    all_goals (refine VC.mk (congrArg (Value.int .i64) ?_); first | omega | exact congrArg (fun n : Nat => (n : Int)) hkE)
  intro n hn
  have hn : n ≤ 120 := hn
  have en : ((n : Nat) : Int).toNat = n := Int.toNat_natCast n
  have hLn : n < 120 → L.getD ((n : Nat) : Int).toNat 0 = if n < 33 + u then 1 else 0 := fun h => by rw [en]; exact Lg n h
  repeat' (first
    | (with_reducible first | exact True.intro | apply And.intro | apply If_true | apply If_false | apply If_not)
    | ((with_reducible apply VC.mk); exact vo)
    | ((with_reducible apply If_dec) <;> intro hc <;> (try (exfalso; omega)))
    | ((with_reducible apply If_any) <;> intro hc)
    | ((with_reducible first | apply PF.mk | apply DrawP.mk); (focus kernel_rfl))
    | ((with_reducible apply Same.mk); (focus rfl); (first | exact trivial | exact rfl))
    | (intro cap hcap)
    | ((fail_if_success (with_reducible apply st)); conv => whnf))
  · have hn3 : ¬ n < 33 + u := fun h => by
      have := hLn (by omega)
      rw [if_pos h] at this
      omega
    refine Round.mk ⟨n + 1, by show n + 1 ≤ 120; omega, by show 120 - (n + 1) < 120 - n; omega, Fit.ren [0] [] rfl rfl trivial ?_ ?_⟩
    · repeat' (first
    | (with_reducible first | exact True.intro | apply And.intro | apply If_true | apply If_false | apply If_not)
    | ((with_reducible apply VC.mk); exact vo)
    | ((with_reducible apply If_dec) <;> intro hc <;> (try (exfalso; omega)))
    | ((with_reducible apply If_any) <;> intro hc)
    | ((with_reducible first | apply PF.mk | apply DrawP.mk); (focus kernel_rfl))
    | ((with_reducible apply Same.mk); (focus rfl); (first | exact trivial | exact rfl))
    | (intro cap hcap)
    | ((fail_if_success (with_reducible apply st)); conv => whnf))
    · repeat' (first
    | (with_reducible first | exact True.intro | apply And.intro | apply If_true | apply If_false | apply If_not)
    | ((with_reducible apply VC.mk); exact vo)
    | ((with_reducible apply If_dec) <;> intro hc <;> (try (exfalso; omega)))
    | ((with_reducible apply If_any) <;> intro hc)
    | ((with_reducible first | apply PF.mk | apply DrawP.mk); (focus kernel_rfl))
    | ((with_reducible apply Same.mk); (focus rfl); (first | exact trivial | exact rfl))
    | (intro cap hcap)
    | ((fail_if_success (with_reducible apply st)); conv => whnf))
      all_goals (refine VC.mk (congrArg (Value.int .i64) ?_); omega)
  · have hn3 : n < 33 + u := Decidable.byContradiction fun h => by
      have := hLn (by omega)
      rw [if_neg h] at this
      omega
    refine Round.mk ⟨n + 1, by show n + 1 ≤ 120; omega, by show 120 - (n + 1) < 120 - n; omega, Fit.ren [0] [] rfl rfl trivial ?_ ?_⟩
    · repeat' (first
    | (with_reducible first | exact True.intro | apply And.intro | apply If_true | apply If_false | apply If_not)
    | ((with_reducible apply VC.mk); exact vo)
    | ((with_reducible apply If_dec) <;> intro hc <;> (try (exfalso; omega)))
    | ((with_reducible apply If_any) <;> intro hc)
    | ((with_reducible first | apply PF.mk | apply DrawP.mk); (focus kernel_rfl))
    | ((with_reducible apply Same.mk); (focus rfl); (first | exact trivial | exact rfl))
    | (intro cap hcap)
    | ((fail_if_success (with_reducible apply st)); conv => whnf))
    · repeat' (first
    | (with_reducible first | exact True.intro | apply And.intro | apply If_true | apply If_false | apply If_not)
    | ((with_reducible apply VC.mk); exact vo)
    | ((with_reducible apply If_dec) <;> intro hc <;> (try (exfalso; omega)))
    | ((with_reducible apply If_any) <;> intro hc)
    | ((with_reducible first | apply PF.mk | apply DrawP.mk); (focus kernel_rfl))
    | ((with_reducible apply Same.mk); (focus rfl); (first | exact trivial | exact rfl))
    | (intro cap hcap)
    | ((fail_if_success (with_reducible apply st)); conv => whnf))
      all_goals (refine VC.mk (congrArg (Value.int .i64) ?_); omega)
  · exact Fin.bool rfl hk
  · have he3 : e3 ≠ 0 := by
      rcases hu with h | h
      · omega
      · exact h.2
    exact Fin.bool (by rw [decide_eq_false he3]; rfl) hk
end Go.Proofs.Ytcfmlnddmpiemaa.Sx

