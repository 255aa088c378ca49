import Derived.Test.YtjccknmgmommcaaSxP10
import Derived.Test.YtjccknmgmommcaaSxJ9
set_option linter.unusedVariables false
set_option linter.unusedSimpArgs false
set_option maxRecDepth 10000
namespace Go.Proofs.Ytjccknmgmommcaa.Sx
/-! ### Law 27, put together, plain -/
theorem endL_bound (M : Nat) : ∀ (rs : List RecR) (n : Nat), n ≤ M → (∀ r ∈ rs, r.1.toNat + r.2.length ≤ M) → endL rs n ≤ M
  | [], n, h, _ => h
  | r :: rs, n, h, hr => endL_bound M rs _ (by have := hr r (List.mem_cons_self ..); show max n (r.1.toNat + r.2.length) ≤ M; omega) (fun q hq => hr q (List.mem_cons_of_mem _ hq))
theorem comRel_ok {j : JR} {s : DF} {rs : List RecR} {r : Int × JR × DF} {n : Int} (h : comRel j s rs r) (hs : s.Ok n) (hz : j.size ≤ 4194304) : r.2.2.Ok (n + 5000000) ∧ (r.2.1 = j ∨ r.2.1 = j.next) := by
  rcases h with ⟨_, rfl⟩ | ⟨_, _, rfl⟩ | ⟨_, hl, x, hx, h⟩
  · exact ⟨hs.mono (by omega), .inl rfl⟩
  · exact ⟨hs.mono (by omega), .inl rfl⟩
  · have hxo : x.2.Ok (n + 4194306) := by
      rw [hx]
      refine (DF.run_ok _ hs).mono ?_
      simp only [cost, FOp.size]
      omega
    rcases h with ⟨_, rfl⟩ | ⟨_, sg, hsg, y, hy, rfl⟩
    · exact ⟨hxo.mono (by omega), .inl rfl⟩
    · refine ⟨?_, .inr rfl⟩
      show y.2.Ok _
      rw [hy]
      refine (DF.run_ok _ hxo).mono ?_
      have : sg.length = 512 := by rw [hsg]; exact signL_length _ _ _
      simp only [cost, FOp.size]
      omega
theorem replay_ok {j : JR} {s : DF} {z : List Int} {n : Int} (hs : s.Ok n) (h8 : B8 s.now) (hj : j.Ok) (hz : z.length = 512) : (s.replay j z).2.2.2.Ok (n + 5000000) ∧ (s.replay j z).2.2.1.Ok ∧ ∃ q, (s.replay j z).2.2.1 = { j with seq := q } := by
  obtain ⟨j1, j2, j3, j4, j5, j6⟩ := hj
  unfold DF.replay
  cases hq : (s.pend j).2.1 with
  | none => exact ⟨hs.ask.mono (by omega), ⟨j1, j2, j3, j4, j5, j6⟩, j.seq, rfl⟩
  | some ss =>
    obtain ⟨q1, q2, -, -⟩ := DF.pend_ok h8 hq
    have hb8 : B8 (j.part s) := (h8.drop _).take _
    obtain ⟨o1, o2, o3⟩ := pendB_ok hb8 q1
    have hpl : (j.part s).length ≤ 4194304 := by unfold JR.part; simp only [List.length_take, List.length_drop]; omega
    have hsq : 0 ≤ le8 (j.part s) 4 ∧ le8 (j.part s) 4 < 18446744073709551616 := leV_bound (hb8.drop _) 8
    refine ⟨?_, ?_, le8 (j.part s) 4, ?_⟩
    · show DF.Ok (s.asked.run (applyOps j z ss)).2 _
      refine (DF.run_ok _ hs.ask).mono ?_
      have := cost_wrs_le ss
      unfold applyOps
      rw [cost_append]
      simp only [cost, FOp.size]
      omega
    · show (s.pend j).2.2.Ok
      rw [q2]
      exact ⟨j1, j2, j3, j4, hsq.1, hsq.2⟩
    · show (s.pend j).2.2 = _
      rw [q2]
theorem replay_again {j : JR} {q : Int} {t : DF} {z : List Int} (hl : t.live) (hn : t.now = t.safe) (hp : pendB j (j.partL t.safe) = none) (hf : j.pos + j.size ≤ t.now.length) : t.replay { j with seq := q } z = (0, 0, { j with seq := q }, t.asked) := by
  have hp2 : pendB { j with seq := q } (JR.part { j with seq := q } t) = none := by
    show pendB j (j.part t) = none
    have : j.part t = j.partL t.safe := by unfold JR.part JR.partL; rw [hn]
    rw [this]; exact hp
  have no : t.pend { j with seq := q } = (0, none, { j with seq := q }) := by
    unfold DF.pend
    rw [if_neg hl.refB, if_neg (show ¬ ((t.now.length : Int) < j.pos + j.size) by omega), hp2]
  unfold DF.replay
  rw [no]
theorem eqJ_put {j : JR} {C D blank : List Int} (h : j.eqJ C D) (hl : j.pos.toNat + j.size.toNat ≤ C.length) (hb : blank.length = j.size.toNat) : putG C j.pos.toNat blank = putG D j.pos.toNat blank := by
  have hD : j.pos.toNat + j.size.toNat ≤ D.length := by rw [← h.1]; exact hl
  refine ext_getD (by rw [putG_length (by omega), putG_length (by omega), h.1]) (fun i _ => ?_)
  rw [putG_get (by omega), putG_get (by omega)]
  split
  · rfl
  · rename_i hi
    refine h.2 i (fun hj => hi ?_)
    have : j.pos.toNat ≤ i ∧ i < j.pos.toNat + j.size.toNat := hj
    omega
theorem putG_over {D z blank : List Int} {p : Nat} (hl : p + blank.length ≤ D.length) (hz : z.length ≤ blank.length) : putG (putG D p z) p blank = putG D p blank := by
  have h1 : (putG D p z).length = D.length := by rw [putG_length (by omega)]; omega
  refine ext_getD (by rw [putG_length (by omega), putG_length (b := D) (xs := blank) (by omega), h1]) (fun i _ => ?_)
  rw [putG_get (by omega), putG_get (b := D) (xs := blank) (by omega), putG_get (by omega)]
  split
  · rfl
  · rename_i hi
    rw [if_neg (by omega)]
end Go.Proofs.Ytjccknmgmommcaa.Sx

