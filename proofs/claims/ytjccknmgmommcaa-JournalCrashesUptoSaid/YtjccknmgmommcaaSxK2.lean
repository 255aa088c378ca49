import Derived.Test.YtjccknmgmommcaaSxK1
set_option linter.unusedVariables false
set_option linter.unusedSimpArgs false
set_option maxRecDepth 10000
namespace Go.Proofs.Ytjccknmgmommcaa.Sx
open Go.RowKit Go.Proofs.Ytjccknmgmommcaa.Sx.Tb
/-! ### The law's records -/
def mayP (p z : Int) (r : RecR) : Prop := 0 ≤ r.1 ∧ r.1 ≤ 4194304 ∧ r.1 + r.2.length ≤ 4194304 ∧ (r.1 + r.2.length ≤ p ∨ p + z ≤ r.1)
set_option maxHeartbeats 8000000 in
theorem recs_c (rs : List RecR) (p z : Int) (k : K) (h0 : (rs.length ≤ 1073741824 ∧ (encL rs).length ≤ 1099511627776 ∧ ∀ r ∈ rs, inR .i64 r.1 ∧ r.2.length ≤ 1099511627776) ∧ 0 ≤ p ∧ p ≤ 4194304 ∧ 0 ≤ z ∧ z ≤ 4194304) (hk : ∀ x : Bool × List RecR × Bool, ((x.1 = true ↔ ∀ r ∈ rs, mayP p z r) ∧ x.2.1 = rs ∧ (x.2.2 = true ↔ ((encL rs).length : Int) ≤ z - 512)) → k (.tup [.im true 2 x.2.1.length (recsC true x.2.1), .v (.bool x.1), .v (.bool x.2.2)]) []) : evFunc tab [] p72 Go.Proofs.Try.f72 [.im true 2 rs.length (recsC true rs), .v (.int .i64 p), .v (.int .i64 z)] [] k := by
  repeat' (first
 | (with_reducible first | exact True.intro | apply And.intro | apply If_true | apply If_false | apply If_not)
 | ((with_reducible apply VC.mk); (first | trivial | omega | (simp only [inR]; omega) | (exact ⟨rfl, List.prefix_rfl⟩) | (refine ⟨rfl, rfl, rfl, ?_, rfl⟩; (simp; done)) | (focus (repeat' (first | exact True.intro | apply And.intro | rfl | exact Nat.le_of_ble_eq_true rfl)); done) | (simp [inR, Cont.cells]; done) | (simp [inR, Cont.cells]; omega)))
 | ((with_reducible apply If_dec) <;> intro hc <;> (try (exfalso; omega)))
 | ((with_reducible apply If_any) <;> intro hc)
 | ((with_reducible first | apply PF.mk | apply DrawP.mk); (focus kernel_rfl))
 | ((with_reducible apply Same.mk); (focus rfl); (first | exact trivial | exact rfl))
 | (intro cap hcap)
 | ((fail_if_success (with_reducible first | apply Fin.mk | apply CallP.mk | apply LoopP.mk | apply VC.mk | apply falseMk | apply Round.mk | apply Eq.symm)); conv => whnf))
  refine LoopP.mk ⟨Nat × Bool × Nat × List RecR, fun y => y.1 ≤ rs.length ∧ (y.2.1 = true ↔ ∀ r ∈ y.2.2.2, mayP p z r) ∧ y.2.2.2 = rs.take y.1, fun y => ([(0, .im true 2 rs.length (recsC true rs)), (1, .v (.int .i64 p)), (2, .v (.int .i64 z)), (9, .s 0 0 2 y.2.2.2.length y.2.2.1), (10, .v (.bool y.2.1)), (11, .v (.int .i64 y.1))], [.blk 186 (recsC true y.2.2.2) (y.2.2.1 * 2)]), fun y => rs.length - y.1, (0, true, 0, []), ⟨Nat.zero_le _, by simp, rfl⟩, Fit.ren [0] [] rfl rfl trivial ?_ ?_, ?_⟩
  · repeat' (first
 | (with_reducible first | exact True.intro | apply And.intro | apply If_true | apply If_false | apply If_not)
 | ((with_reducible apply VC.mk); (first | trivial | omega | (simp only [inR]; omega) | (exact ⟨rfl, List.prefix_rfl⟩) | (refine ⟨rfl, rfl, rfl, ?_, rfl⟩; (simp; done)) | (focus (repeat' (first | exact True.intro | apply And.intro | rfl | exact Nat.le_of_ble_eq_true rfl)); done) | (simp [inR, Cont.cells]; done) | (simp [inR, Cont.cells]; omega)))
 | ((with_reducible apply If_dec) <;> intro hc <;> (try (exfalso; omega)))
 | ((with_reducible apply If_any) <;> intro hc)
 | ((with_reducible first | apply PF.mk | apply DrawP.mk); (focus kernel_rfl))
 | ((with_reducible apply Same.mk); (focus rfl); (first | exact trivial | exact rfl))
 | (intro cap hcap)
 | ((fail_if_success (with_reducible first | apply Fin.mk | apply CallP.mk | apply LoopP.mk | apply VC.mk | apply falseMk | apply Round.mk | apply Eq.symm)); conv => whnf))
  · repeat' (first
 | (with_reducible first | exact True.intro | apply And.intro | apply If_true | apply If_false | apply If_not)
 | ((with_reducible apply VC.mk); (first | trivial | omega | (simp only [inR]; omega) | (exact ⟨rfl, List.prefix_rfl⟩) | (refine ⟨rfl, rfl, rfl, ?_, rfl⟩; (simp; done)) | (focus (repeat' (first | exact True.intro | apply And.intro | rfl | exact Nat.le_of_ble_eq_true rfl)); done) | (simp [inR, Cont.cells]; done) | (simp [inR, Cont.cells]; omega)))
 | ((with_reducible apply If_dec) <;> intro hc <;> (try (exfalso; omega)))
 | ((with_reducible apply If_any) <;> intro hc)
 | ((with_reducible first | apply PF.mk | apply DrawP.mk); (focus kernel_rfl))
 | ((with_reducible apply Same.mk); (focus rfl); (first | exact trivial | exact rfl))
 | (intro cap hcap)
 | ((fail_if_success (with_reducible first | apply Fin.mk | apply CallP.mk | apply LoopP.mk | apply VC.mk | apply falseMk | apply Round.mk | apply Eq.symm)); conv => whnf))
  · intro y hy
    obtain ⟨g1, g2, g3⟩ := hy
    have e : ((y.1 : Nat) : Int).toNat = y.1 := Int.toNat_natCast _
    have hyl : y.2.2.2.length = y.1 := by rw [g3, List.length_take]; omega
    by_cases hlt : y.1 < rs.length
    · have hm : rs.getD y.1 (0, []) ∈ rs := by
        rw [show rs.getD y.1 (0, []) = rs[y.1] by simp [List.getD_eq_getElem?_getD, hlt]]; exact List.getElem_mem hlt
      have hok := h0.1.2.2 _ hm
      obtain ⟨r, hr⟩ : ∃ r, r = rs.getD y.1 (0, []) := ⟨_, rfl⟩
      have htk : y.2.2.2 ++ [r] = rs.take (y.1 + 1) := by
        rw [List.take_add_one, List.getElem?_eq_getElem hlt, g3, hr, List.getD_eq_getElem?_getD, List.getElem?_eq_getElem hlt]; rfl
      have hall : (∀ q ∈ y.2.2.2 ++ [r], mayP p z q) ↔ y.2.1 = true ∧ mayP p z r := by
        rw [g2]; constructor
        · exact fun h => ⟨fun q hq => h q (by simp [hq]), h r (by simp)⟩
        · intro h q hq
          rcases List.mem_append.1 hq with hq | hq
          · exact h.1 q hq
          · simp at hq; subst hq; exact h.2
      rw [← hr] at hm hok
      have rows : ∀ H f ph c c', c = Cont.recs 2 (y.2.2.2.length + 1) c' → (c' = fun i => if i < y.2.2.2.length then recAV true (y.2.2.2.getD i (0, [])) else recAV true r) → Cont.pre H [] f ph (recsC true (y.2.2.2 ++ [r])) c := by
        intro H f ph c c' h1 h2
        subst h1 h2
        refine ⟨VC.mk ⟨rfl, by show (y.2.2.2 ++ [r]).length ≤ _; simp⟩, ?_⟩
        refine snoc_le (fun r => recAV true r) (0, []) y.2.2.2 r _ ?_ ?_
        · intro j hj; simp only [if_pos hj]; exact ⟨VC.mk rfl, ⟨VC.mk ⟨rfl, rfl, rfl⟩, VC.mk ⟨rfl, rfl⟩⟩, trivial⟩
        · simp only [Nat.lt_irrefl, if_false]; exact ⟨VC.mk rfl, ⟨VC.mk ⟨rfl, rfl, rfl⟩, VC.mk ⟨rfl, rfl⟩⟩, trivial⟩
      repeat' (first
 | (with_reducible first | exact True.intro | apply And.intro | apply If_true | apply If_false | apply If_not)
 | ((with_reducible apply VC.mk); (first | trivial | omega | (simp only [inR]; omega) | (exact ⟨rfl, List.prefix_rfl⟩) | (refine ⟨rfl, rfl, rfl, ?_, rfl⟩; (simp; done)) | (focus (repeat' (first | exact True.intro | apply And.intro | rfl | exact Nat.le_of_ble_eq_true rfl)); done) | (simp [inR, Cont.cells]; done) | (simp [inR, Cont.cells]; omega)))
 | ((with_reducible apply If_dec) <;> intro hc <;> (try (exfalso; omega)))
 | ((with_reducible apply If_any) <;> intro hc)
 | ((with_reducible first | apply PF.mk | apply DrawP.mk); (focus kernel_rfl))
 | ((with_reducible apply Same.mk); (focus rfl); (first | exact trivial | exact rfl))
 | (intro cap hcap)
 | ((fail_if_success (with_reducible first | apply Fin.mk | apply CallP.mk | apply LoopP.mk | apply VC.mk | apply falseMk | apply Round.mk | apply Eq.symm)); conv => whnf))
      all_goals simp only [e, ← hr] at *
      · refine may_at r.1 r.2 p z ⟨⟨by omega, by omega, hok.2⟩, by omega, by omega, by omega, by omega⟩ ⟨⟨rfl, rfl, trivial⟩, rfl, rfl, trivial⟩ ?_
        intro b hb
        repeat' (first
 | (with_reducible first | exact True.intro | apply And.intro | apply If_true | apply If_false | apply If_not)
 | ((with_reducible apply VC.mk); (first | trivial | omega | (simp only [inR]; omega) | (exact ⟨rfl, List.prefix_rfl⟩) | (refine ⟨rfl, rfl, rfl, ?_, rfl⟩; (simp; done)) | (focus (repeat' (first | exact True.intro | apply And.intro | rfl | exact Nat.le_of_ble_eq_true rfl)); done) | (simp [inR, Cont.cells]; done) | (simp [inR, Cont.cells]; omega)))
 | ((with_reducible apply If_dec) <;> intro hc <;> (try (exfalso; omega)))
 | ((with_reducible apply If_any) <;> intro hc)
 | ((with_reducible first | apply PF.mk | apply DrawP.mk); (focus kernel_rfl))
 | ((with_reducible apply Same.mk); (focus rfl); (first | exact trivial | exact rfl))
 | (intro cap hcap)
 | ((fail_if_success (with_reducible first | apply Fin.mk | apply CallP.mk | apply LoopP.mk | apply VC.mk | apply falseMk | apply Round.mk | apply Eq.symm)); conv => whnf))
        refine Round.mk ⟨(y.1 + 1, b, cap, y.2.2.2 ++ [r]), ⟨by show y.1 + 1 ≤ _; omega, ?_, htk⟩, by show rs.length - (y.1 + 1) < rs.length - y.1; omega, Fit.ren [3] [] rfl rfl trivial ?_ ?_⟩
        · show b = true ↔ ∀ q ∈ y.2.2.2 ++ [r], mayP p z q
          rw [hall, hb]
          unfold mayP
          constructor
          · exact fun h => ⟨by assumption, by omega, by omega, by omega, by omega⟩
          · exact fun h => ⟨by omega, by omega⟩
        · refine ⟨⟨VC.mk ⟨rfl, rfl⟩, rows _ _ _ _ _ rfl rfl⟩, trivial⟩
        · repeat' (first
 | (with_reducible first | exact True.intro | apply And.intro | apply If_true | apply If_false | apply If_not)
 | ((with_reducible apply VC.mk); (first | trivial | omega | (simp only [inR]; omega) | (exact ⟨rfl, List.prefix_rfl⟩) | (refine ⟨rfl, rfl, rfl, ?_, rfl⟩; (simp; done)) | (focus (repeat' (first | exact True.intro | apply And.intro | rfl | exact Nat.le_of_ble_eq_true rfl)); done) | (simp [inR, Cont.cells]; done) | (simp [inR, Cont.cells]; omega)))
 | ((with_reducible apply If_dec) <;> intro hc <;> (try (exfalso; omega)))
 | ((with_reducible apply If_any) <;> intro hc)
 | ((with_reducible first | apply PF.mk | apply DrawP.mk); (focus kernel_rfl))
 | ((with_reducible apply Same.mk); (focus rfl); (first | exact trivial | exact rfl))
 | (intro cap hcap)
 | ((fail_if_success (with_reducible first | apply Fin.mk | apply CallP.mk | apply LoopP.mk | apply VC.mk | apply falseMk | apply Round.mk | apply Eq.symm)); conv => whnf))
      all_goals
        refine Round.mk ⟨(y.1 + 1, false, cap, y.2.2.2 ++ [r]), ⟨by show y.1 + 1 ≤ _; omega, ?_, htk⟩, by show rs.length - (y.1 + 1) < rs.length - y.1; omega, Fit.ren [3] [] rfl rfl trivial ?_ ?_⟩
        · show false = true ↔ ∀ q ∈ y.2.2.2 ++ [r], mayP p z q
          rw [hall]
          unfold mayP
          constructor
          · exact fun h => by cases h
          · intro h
            exfalso
            first | omega | simp_all
        · refine ⟨⟨VC.mk ⟨rfl, rfl⟩, rows _ _ _ _ _ rfl rfl⟩, trivial⟩
        · repeat' (first
 | (with_reducible first | exact True.intro | apply And.intro | apply If_true | apply If_false | apply If_not)
 | ((with_reducible apply VC.mk); (first | trivial | omega | (simp only [inR]; omega) | (exact ⟨rfl, List.prefix_rfl⟩) | (refine ⟨rfl, rfl, rfl, ?_, rfl⟩; (simp; done)) | (focus (repeat' (first | exact True.intro | apply And.intro | rfl | exact Nat.le_of_ble_eq_true rfl)); done) | (simp [inR, Cont.cells]; done) | (simp [inR, Cont.cells]; omega)))
 | ((with_reducible apply If_dec) <;> intro hc <;> (try (exfalso; omega)))
 | ((with_reducible apply If_any) <;> intro hc)
 | ((with_reducible first | apply PF.mk | apply DrawP.mk); (focus kernel_rfl))
 | ((with_reducible apply Same.mk); (focus rfl); (first | exact trivial | exact rfl))
 | (intro cap hcap)
 | ((fail_if_success (with_reducible first | apply Fin.mk | apply CallP.mk | apply LoopP.mk | apply VC.mk | apply falseMk | apply Round.mk | apply Eq.symm)); conv => whnf))
    · repeat' (first
 | (with_reducible first | exact True.intro | apply And.intro | apply If_true | apply If_false | apply If_not)
 | ((with_reducible apply VC.mk); (first | trivial | omega | (simp only [inR]; omega) | (exact ⟨rfl, List.prefix_rfl⟩) | (refine ⟨rfl, rfl, rfl, ?_, rfl⟩; (simp; done)) | (focus (repeat' (first | exact True.intro | apply And.intro | rfl | exact Nat.le_of_ble_eq_true rfl)); done) | (simp [inR, Cont.cells]; done) | (simp [inR, Cont.cells]; omega)))
 | ((with_reducible apply If_dec) <;> intro hc <;> (try (exfalso; omega)))
 | ((with_reducible apply If_any) <;> intro hc)
 | ((with_reducible first | apply PF.mk | apply DrawP.mk); (focus kernel_rfl))
 | ((with_reducible apply Same.mk); (focus rfl); (first | exact trivial | exact rfl))
 | (intro cap hcap)
 | ((fail_if_success (with_reducible first | apply Fin.mk | apply CallP.mk | apply LoopP.mk | apply VC.mk | apply falseMk | apply Round.mk | apply Eq.symm)); conv => whnf))
      have e5 : y.2.2.2 = rs := by rw [g3, List.take_of_length_le (by omega)]
      rw [e5] at g2 ⊢
      refine renc_at rs ⟨by omega, by omega, fun q hq => (h0.1.2.2 q hq).1⟩ ⟨⟨by show 0 + rs.length ≤ rs.length; omega, rfl, rfl, ⟨rfl, rfl, fun j _ => by simp only [Nat.zero_add]; rfl⟩, rfl, Nat.two_pos⟩, trivial⟩ ?_
      intro l hl
      repeat' (first
 | (with_reducible first | exact True.intro | apply And.intro | apply If_true | apply If_false | apply If_not)
 | ((with_reducible apply VC.mk); (first | trivial | omega | (simp only [inR]; omega) | (exact ⟨rfl, List.prefix_rfl⟩) | (refine ⟨rfl, rfl, rfl, ?_, rfl⟩; (simp; done)) | (focus (repeat' (first | exact True.intro | apply And.intro | rfl | exact Nat.le_of_ble_eq_true rfl)); done) | (simp [inR, Cont.cells]; done) | (simp [inR, Cont.cells]; omega)))
 | ((with_reducible apply If_dec) <;> intro hc <;> (try (exfalso; omega)))
 | ((with_reducible apply If_any) <;> intro hc)
 | ((with_reducible first | apply PF.mk | apply DrawP.mk); (focus kernel_rfl))
 | ((with_reducible apply Same.mk); (focus rfl); (first | exact trivial | exact rfl))
 | (intro cap hcap)
 | ((fail_if_success (with_reducible first | apply Fin.mk | apply CallP.mk | apply LoopP.mk | apply VC.mk | apply falseMk | apply Round.mk | apply Eq.symm)); conv => whnf))
      refine Fin.ren [] [0] (.tup [.im true 2 rs.length (recsC true rs), .v (.bool y.2.1), .v (.bool (decide ((l.length : Int) ≤ z - 512)))]) [] rfl rfl ⟨trivial, trivial⟩ trivial ⟨⟨VC.mk ⟨?_, rfl, rfl, rfl, Nat.two_pos⟩, VC.mk ⟨rfl, rfl⟩, fun j hj => ?_⟩, VC.mk rfl, VC.mk rfl, trivial⟩ ?_
      rotate_left 2
      · have hk2 := hk (y.2.1, rs, decide ((l.length : Int) ≤ z - 512))
        exact hk2 ⟨g2, rfl, by subst hl; exact ⟨of_decide_eq_true, decide_eq_true⟩⟩
      · omega
      · simp only [Nat.zero_add]; exact ⟨VC.mk rfl, ⟨VC.mk ⟨rfl, rfl, rfl⟩, VC.mk ⟨rfl, rfl⟩⟩, trivial⟩
def recsOk (x : List RecR × Int × Int) : Prop := (x.1.length ≤ 1073741824 ∧ (encL x.1).length ≤ 1099511627776 ∧ ∀ r ∈ x.1, inR .i64 r.1 ∧ r.2.length ≤ 1099511627776) ∧ 0 ≤ x.2.1 ∧ x.2.1 ≤ 4194304 ∧ 0 ≤ x.2.2 ∧ x.2.2 ≤ 4194304
def recsRel (x : List RecR × Int × Int) (r : Bool × List RecR × Bool) : Prop := (r.1 = true ↔ ∀ q ∈ x.1, mayP x.2.1 x.2.2 q) ∧ r.2.1 = x.1 ∧ (r.2.2 = true ↔ ((encL x.1).length : Int) ≤ x.2.2 - 512)
theorem recs_K : ConOk Go.Proofs.Try.prog 72 (Con.of (List RecR × Int × Int) (Bool × List RecR × Bool) (fun x => [.im true 2 x.1.length (recsC true x.1), .v (.int .i64 x.2.1), .v (.int .i64 x.2.2)]) (fun _ => []) recsOk recsRel (fun _ r => .tup [.im true 2 r.2.1.length (recsC true r.2.1), .v (.bool r.1), .v (.bool r.2.2)]) (fun _ _ => [])) := by
  refine conOk_rel (T := tab) mix Go.Proofs.Try.func72 (by decide +kernel) (by kernel_rfl) [] p72 (fun n => by rw [Go.Proofs.Try.ntmps72]; exact Nat.le_of_ble_eq_true rfl) (fun x r _ _ => ⟨by simp [AV.noF, noFs, Cont.noF, recsC_noF], (fun c hc => by cases hc), Nat.le_refl _⟩) (fun x _ c hc => by cases hc) ?_
  intro x k h0 hk
  exact recs_c x.1 x.2.1 x.2.2 k h0 (fun r hr => hk r hr)
theorem recs_at {avs : List AV} {H : List Chunk} {k : K} (rs : List RecR) (p : Int) (z : Int) (h0 : (rs.length ≤ 1073741824 ∧ (encL rs).length ≤ 1099511627776 ∧ ∀ r ∈ rs, inR .i64 r.1 ∧ r.2.length ≤ 1099511627776) ∧ 0 ≤ p ∧ p ≤ 4194304 ∧ 0 ≤ z ∧ z ≤ 4194304) (ha : argsM H [] [.im true 2 rs.length (recsC true rs), .v (.int .i64 p), .v (.int .i64 z)] avs) (h : ∀ r : Bool × List RecR × Bool, ((r.1 = true ↔ ∀ q ∈ rs, mayP p z q) ∧ r.2.1 = rs ∧ (r.2.2 = true ↔ ((encL rs).length : Int) ≤ z - 512)) → k (.tup [.im true 2 r.2.1.length (recsC true r.2.1), .v (.bool r.1), .v (.bool r.2.2)]) H) : CallP Go.Proofs.Try.prog 72 avs H k :=
  CallP.mk ⟨_, recs_K.real, Con.spec recs_K, (rs, p, z), [], ⟨h0, rfl, trivial, ha⟩, fun r hr => (numK_eq H.length (fun N => k (AV.ren (fren [] N) (.tup [.im true 2 r.2.1.length (recsC true r.2.1), .v (.bool r.1), .v (.bool r.2.2)])) (putAll H [] []))).mpr (by simpa [putAll, AV.ren, rens, Cont.ren, recsC, recAV] using h r hr)⟩
/-! ### The law's file -/
structure CaseR where
  n : Int
  fill : List Int
  pos : Int
  size : Int
  recs : List RecR
def caseAV (c : CaseR) : AV := .agg [.v (.int .i64 c.n), .im true 1 c.fill.length (.ints .u8 c.fill), .v (.int .i64 c.pos), .v (.int .i64 c.size), .im true 2 c.recs.length (recsC true c.recs)]
/-- What file gives: nothing, or bytes with a journal's part in them that begins with noughts. -/
def fileRel (c : CaseR) (r : List Int × Int × Int × Bool) : Prop :=
  r.2.2.2 = false ∧ r.1 = [] ∧ r.2.1 = 0 ∧ r.2.2.1 = 0 ∨
  r.2.2.2 = true ∧ c.recs.length ≤ 12 ∧ (∀ q ∈ c.recs, q.2.length ≤ 2000 ∧ ¬ (r.1.length < q.1 ∧ q.1 ≤ 4194304)) ∧ 0 ≤ r.2.1 ∧ r.2.1 % 512 = 0 ∧ r.2.2.1 % 512 = 0 ∧ 1024 ≤ r.2.2.1 ∧ r.2.1 + r.2.2.1 ≤ r.1.length ∧ r.1.length ≤ 24064 ∧ B8 r.1 ∧ ∀ i, i < 512 → r.1.getD (r.2.1.toNat + i) 0 = 0
set_option maxHeartbeats 8000000 in
theorem lfile_c (n : Int) (fill : List Int) (pos size : Int) (recs : List RecR) (k : K) (h0 : recs.length ≤ 9223372036854775807 ∧ fill.length ≤ 9223372036854775807 ∧ B8 fill ∧ inR .i64 n ∧ inR .i64 pos ∧ inR .i64 size ∧ ∀ q ∈ recs, q.2.length ≤ 9223372036854775807) (hk : ∀ x, fileRel ⟨n, fill, pos, size, recs⟩ x → k (.tup [.im true 1 x.1.length (.ints .u8 x.1), .v (.int .i64 x.2.1), .v (.int .i64 x.2.2.1), .v (.bool x.2.2.2)]) []) : evFunc tab [15, 21, 30] p71 Go.Proofs.Try.f71 [.agg [.v (.int .i64 n), .im true 1 fill.length (.ints .u8 fill), .v (.int .i64 pos), .v (.int .i64 size), .im true 2 recs.length (recsC true recs)]] [] k := by
  have w1 : 0 ≤ IntKind.u64.wrap n ∧ IntKind.u64.wrap n < 18446744073709551616 := by rw [wrap_u64]; omega
  have w2 : 0 ≤ IntKind.u64.wrap size ∧ IntKind.u64.wrap size < 18446744073709551616 := by rw [wrap_u64]; omega
  have w3 : 0 ≤ IntKind.u64.wrap pos ∧ IntKind.u64.wrap pos < 18446744073709551616 := by rw [wrap_u64]; omega
  have m1 := Int.emod_nonneg (IntKind.u64.wrap size) (b := 8 + IntKind.u64.wrap n % 40 - 2) (by omega)
  have m2 := Int.emod_lt_of_pos (IntKind.u64.wrap size) (b := 8 + IntKind.u64.wrap n % 40 - 2) (by omega)
  have m3 := Int.emod_nonneg (IntKind.u64.wrap pos) (b := 8 + IntKind.u64.wrap n % 40 - (2 + IntKind.u64.wrap size % (8 + IntKind.u64.wrap n % 40 - 2)) + 1) (by omega)
  have m4 := Int.emod_lt_of_pos (IntKind.u64.wrap pos) (b := 8 + IntKind.u64.wrap n % 40 - (2 + IntKind.u64.wrap size % (8 + IntKind.u64.wrap n % 40 - 2)) + 1) (by omega)
  have bad : ∀ H : List Chunk, Fin 0 (.tup [.v (.slice none 0 0), .v (.int .i64 0), .v (.int .i64 0), .v (.bool false)]) H k := fun H => Fin.ren [] [] (.tup [.im true 1 0 (.ints .u8 []), .v (.int .i64 0), .v (.int .i64 0), .v (.bool false)]) [] rfl rfl trivial trivial ⟨⟨VC.mk rfl, VC.mk rfl⟩, VC.mk rfl, VC.mk rfl, VC.mk rfl, trivial⟩ (hk ([], 0, 0, false) (.inl ⟨rfl, rfl, rfl, rfl⟩))
  repeat' (first
 | (with_reducible first | exact True.intro | apply And.intro | apply If_true | apply If_false | apply If_not)
 | ((with_reducible apply VC.mk); (first | trivial | omega | (simp only [inR]; omega) | (exact ⟨rfl, List.prefix_rfl⟩) | (refine ⟨rfl, rfl, rfl, ?_, rfl⟩; (simp; done)) | (focus (repeat' (first | exact True.intro | apply And.intro | rfl | exact Nat.le_of_ble_eq_true rfl)); done) | (simp [inR, Cont.cells]; done) | (simp [inR, Cont.cells]; omega)))
 | ((with_reducible apply If_dec) <;> intro hc <;> (try (exfalso; omega)))
 | ((with_reducible apply If_any) <;> intro hc)
 | ((with_reducible first | apply PF.mk | apply DrawP.mk); (focus kernel_rfl))
 | ((with_reducible apply Same.mk); (focus rfl); (first | exact trivial | exact rfl))
 | (intro cap hcap)
 | ((fail_if_success (with_reducible first | apply Fin.mk | apply CallP.mk | apply LoopP.mk | apply VC.mk | apply falseMk | apply Round.mk | apply Eq.symm)); conv => whnf))
  · exact bad _
  · exact bad _
  generalize IntKind.u64.wrap pos % (8 + IntKind.u64.wrap n % 40 - (2 + IntKind.u64.wrap size % (8 + IntKind.u64.wrap n % 40 - 2)) + 1) = F at *
  generalize IntKind.u64.wrap size % (8 + IntKind.u64.wrap n % 40 - 2) = S at *
  have w4 : 0 ≤ IntKind.u64.wrap n % 40 ∧ IntKind.u64.wrap n % 40 < 40 := by omega
  generalize IntKind.u64.wrap n % 40 = N at *
  refine zerosO_at (512 * (8 + N)) ⟨by omega, by omega⟩ ⟨rfl, trivial⟩ ?_
  intro z0 hz0
  have hzl : (z0.length : Int) = 512 * (8 + N) := by rw [hz0, List.length_replicate]; omega
  have hz8 : B8 z0 := by rw [hz0]; exact B8.replicate _
  clear hz0
  repeat' (first
 | (with_reducible first | exact True.intro | apply And.intro | apply If_true | apply If_false | apply If_not)
 | ((with_reducible apply VC.mk); (first | trivial | omega | (simp only [inR]; omega) | (exact ⟨rfl, List.prefix_rfl⟩) | (refine ⟨rfl, rfl, rfl, ?_, rfl⟩; (simp; done)) | (focus (repeat' (first | exact True.intro | apply And.intro | rfl | exact Nat.le_of_ble_eq_true rfl)); done) | (simp [inR, Cont.cells]; done) | (simp [inR, Cont.cells]; omega)))
 | ((with_reducible apply If_dec) <;> intro hc <;> (try (exfalso; omega)))
 | ((with_reducible apply If_any) <;> intro hc)
 | ((with_reducible first | apply PF.mk | apply DrawP.mk); (focus kernel_rfl))
 | ((with_reducible apply Same.mk); (focus rfl); (first | exact trivial | exact rfl))
 | (intro cap hcap)
 | ((fail_if_success (with_reducible first | apply Fin.mk | apply CallP.mk | apply LoopP.mk | apply VC.mk | apply falseMk | apply Round.mk | apply Eq.symm)); conv => whnf))
  refine LoopP.mk ⟨Nat × List Int, fun y => y.1 ≤ z0.length ∧ y.2.length = z0.length ∧ B8 y.2, fun y => ([(1, .p 0 0 1 0), (6, .v (.int .i64 (8 + N))), (7, .v (.int .i64 (2 + S))), (8, .v (.int .i64 F)), (9, .s 1 0 1 z0.length z0.length), (10, .v (.int .i64 y.1))], [.blk 119 (.lst [.v (.int .i64 n), .im true 1 fill.length (.ints .u8 fill), .v (.int .i64 pos), .v (.int .i64 size), .im true 2 recs.length (recsC true recs)]) 5, .blk 5 (.ints .u8 y.2) z0.length]), fun y => z0.length - y.1, (0, z0), ⟨Nat.zero_le _, rfl, hz8⟩, Fit.ren [0, 1] [] rfl rfl trivial ?_ ?_, ?_⟩
  · repeat' (first
 | (with_reducible first | exact True.intro | apply And.intro | apply If_true | apply If_false | apply If_not)
 | ((with_reducible apply VC.mk); (first | trivial | omega | (simp only [inR]; omega) | (exact ⟨rfl, List.prefix_rfl⟩) | (refine ⟨rfl, rfl, rfl, ?_, rfl⟩; (simp; done)) | (focus (repeat' (first | exact True.intro | apply And.intro | rfl | exact Nat.le_of_ble_eq_true rfl)); done) | (simp [inR, Cont.cells]; done) | (simp [inR, Cont.cells]; omega)))
 | ((with_reducible apply If_dec) <;> intro hc <;> (try (exfalso; omega)))
 | ((with_reducible apply If_any) <;> intro hc)
 | ((with_reducible first | apply PF.mk | apply DrawP.mk); (focus kernel_rfl))
 | ((with_reducible apply Same.mk); (focus rfl); (first | exact trivial | exact rfl))
 | (intro cap hcap)
 | ((fail_if_success (with_reducible first | apply Fin.mk | apply CallP.mk | apply LoopP.mk | apply VC.mk | apply falseMk | apply Round.mk | apply Eq.symm)); conv => whnf))
  · repeat' (first
 | (with_reducible first | exact True.intro | apply And.intro | apply If_true | apply If_false | apply If_not)
 | ((with_reducible apply VC.mk); (first | trivial | omega | (simp only [inR]; omega) | (exact ⟨rfl, List.prefix_rfl⟩) | (refine ⟨rfl, rfl, rfl, ?_, rfl⟩; (simp; done)) | (focus (repeat' (first | exact True.intro | apply And.intro | rfl | exact Nat.le_of_ble_eq_true rfl)); done) | (simp [inR, Cont.cells]; done) | (simp [inR, Cont.cells]; omega)))
 | ((with_reducible apply If_dec) <;> intro hc <;> (try (exfalso; omega)))
 | ((with_reducible apply If_any) <;> intro hc)
 | ((with_reducible first | apply PF.mk | apply DrawP.mk); (focus kernel_rfl))
 | ((with_reducible apply Same.mk); (focus rfl); (first | exact trivial | exact rfl))
 | (intro cap hcap)
 | ((fail_if_success (with_reducible first | apply Fin.mk | apply CallP.mk | apply LoopP.mk | apply VC.mk | apply falseMk | apply Round.mk | apply Eq.symm)); conv => whnf))
  · intro y hy
    obtain ⟨g1, g2, g3⟩ := hy
    have e : ((y.1 : Nat) : Int).toNat = y.1 := Int.toNat_natCast _
    have q1 : 0 ≤ (y.1 : Int) / 512 % (fill.length : Int) ∨ fill.length = 0 := by
      by_cases hf : fill.length = 0
      · exact .inr hf
      · exact .inl (Int.emod_nonneg _ (by omega))
    have q2 : (y.1 : Int) / 512 % (fill.length : Int) < fill.length ∨ fill.length = 0 := by
      by_cases hf : fill.length = 0
      · exact .inr hf
      · exact .inl (Int.emod_lt_of_pos _ (by omega))
    repeat' (first
 | (with_reducible first | exact True.intro | apply And.intro | apply If_true | apply If_false | apply If_not)
 | ((with_reducible apply VC.mk); (first | trivial | omega | (simp only [inR]; omega) | (exact ⟨rfl, List.prefix_rfl⟩) | (refine ⟨rfl, rfl, rfl, ?_, rfl⟩; (simp; done)) | (focus (repeat' (first | exact True.intro | apply And.intro | rfl | exact Nat.le_of_ble_eq_true rfl)); done) | (simp [inR, Cont.cells]; done) | (simp [inR, Cont.cells]; omega)))
 | ((with_reducible apply If_dec) <;> intro hc <;> (try (exfalso; omega)))
 | ((with_reducible apply If_any) <;> intro hc)
 | ((with_reducible first | apply PF.mk | apply DrawP.mk); (focus kernel_rfl))
 | ((with_reducible apply Same.mk); (focus rfl); (first | exact trivial | exact rfl))
 | (intro cap hcap)
 | ((fail_if_success (with_reducible first | apply Fin.mk | apply CallP.mk | apply LoopP.mk | apply VC.mk | apply falseMk | apply Round.mk | apply Eq.symm)); conv => whnf))
    · refine Round.mk ⟨(y.1 + 1, y.2.set (y.1) (fill.getD ((y.1 : Int) / 512 % (fill.length : Int)).toNat 0)), ⟨by show y.1 + 1 ≤ _; omega, by show (List.set _ _ _).length = _; rw [List.length_set]; exact g2, ?_⟩, by show z0.length - (y.1 + 1) < z0.length - y.1; omega, Fit.ren [0, 1] [] rfl rfl trivial ?_ ?_⟩
      · show B8 (List.set _ _ _)
        intro v hv
        rcases List.mem_or_eq_of_mem_set hv with hv | hv
        · exact g3 v hv
        · rw [hv]; exact h0.2.2.1.getD _
      · repeat' (first
 | (with_reducible first | exact True.intro | apply And.intro | apply If_true | apply If_false | apply If_not)
 | ((with_reducible apply VC.mk); (first | trivial | omega | (simp only [inR]; omega) | (exact ⟨rfl, List.prefix_rfl⟩) | (refine ⟨rfl, rfl, rfl, ?_, rfl⟩; (simp; done)) | (focus (repeat' (first | exact True.intro | apply And.intro | rfl | exact Nat.le_of_ble_eq_true rfl)); done) | (simp [inR, Cont.cells]; done) | (simp [inR, Cont.cells]; omega)))
 | ((with_reducible apply If_dec) <;> intro hc <;> (try (exfalso; omega)))
 | ((with_reducible apply If_any) <;> intro hc)
 | ((with_reducible first | apply PF.mk | apply DrawP.mk); (focus kernel_rfl))
 | ((with_reducible apply Same.mk); (focus rfl); (first | exact trivial | exact rfl))
 | (intro cap hcap)
 | ((fail_if_success (with_reducible first | apply Fin.mk | apply CallP.mk | apply LoopP.mk | apply VC.mk | apply falseMk | apply Round.mk | apply Eq.symm)); conv => whnf))
      · repeat' (first
 | (with_reducible first | exact True.intro | apply And.intro | apply If_true | apply If_false | apply If_not)
 | ((with_reducible apply VC.mk); (first | trivial | omega | (simp only [inR]; omega) | (exact ⟨rfl, List.prefix_rfl⟩) | (refine ⟨rfl, rfl, rfl, ?_, rfl⟩; (simp; done)) | (focus (repeat' (first | exact True.intro | apply And.intro | rfl | exact Nat.le_of_ble_eq_true rfl)); done) | (simp [inR, Cont.cells]; done) | (simp [inR, Cont.cells]; omega)))
 | ((with_reducible apply If_dec) <;> intro hc <;> (try (exfalso; omega)))
 | ((with_reducible apply If_any) <;> intro hc)
 | ((with_reducible first | apply PF.mk | apply DrawP.mk); (focus kernel_rfl))
 | ((with_reducible apply Same.mk); (focus rfl); (first | exact trivial | exact rfl))
 | (intro cap hcap)
 | ((fail_if_success (with_reducible first | apply Fin.mk | apply CallP.mk | apply LoopP.mk | apply VC.mk | apply falseMk | apply Round.mk | apply Eq.symm)); conv => whnf))
    all_goals
      have hy2 : (y.2.length : Int) = 512 * (8 + N) := by omega
      generalize y.2 = b0 at *
      refine zeros_at 512 ⟨by omega, by omega⟩ ⟨rfl, trivial⟩ ?_
      intro zz hzz
      have hzzl : zz.length = 512 := by rw [hzz]; rfl
      have hzz8 : B8 zz := by rw [hzz]; exact B8.replicate _
      repeat' (first
 | (with_reducible first | exact True.intro | apply And.intro | apply If_true | apply If_false | apply If_not)
 | ((with_reducible apply VC.mk); (first | trivial | omega | (simp only [inR]; omega) | (exact ⟨rfl, List.prefix_rfl⟩) | (refine ⟨rfl, rfl, rfl, ?_, rfl⟩; (simp; done)) | (focus (repeat' (first | exact True.intro | apply And.intro | rfl | exact Nat.le_of_ble_eq_true rfl)); done) | (simp [inR, Cont.cells]; done) | (simp [inR, Cont.cells]; omega)))
 | ((with_reducible apply If_dec) <;> intro hc <;> (try (exfalso; omega)))
 | ((with_reducible apply If_any) <;> intro hc)
 | ((with_reducible first | apply PF.mk | apply DrawP.mk); (focus kernel_rfl))
 | ((with_reducible apply Same.mk); (focus rfl); (first | exact trivial | exact rfl))
 | (intro cap hcap)
 | ((fail_if_success (with_reducible first | apply Fin.mk | apply CallP.mk | apply LoopP.mk | apply VC.mk | apply falseMk | apply Round.mk | apply Eq.symm)); conv => whnf))
      refine with_at b0 (512 * F).toNat zz ⟨by omega, by omega⟩ ⟨by rw [g2]; exact arg_ints rfl g2 rfl, by show _ = AV.v (.int .i64 _); rw [Int.toNat_of_nonneg (by omega)], ⟨rfl, rfl, rfl⟩, trivial⟩ ?_
      intro b hb
      have hbl : (b.length : Int) = 512 * (8 + N) := by rw [hb, putG_length (by omega)]; omega
      have hb8 : B8 b := by rw [hb]; exact putG_B8 g3 hzz8
      have hbz : ∀ i, i < 512 → b.getD ((512 * F).toNat + i) 0 = 0 := fun i hi => by
        rw [hb, putG_get (by omega), if_pos ⟨by omega, by omega⟩, hzz, List.getD_eq_getElem?_getD, List.getElem?_replicate]
        split <;> rfl
      clear hb hzz
      repeat' (first
 | (with_reducible first | exact True.intro | apply And.intro | apply If_true | apply If_false | apply If_not)
 | ((with_reducible apply VC.mk); (first | trivial | omega | (simp only [inR]; omega) | (exact ⟨rfl, List.prefix_rfl⟩) | (refine ⟨rfl, rfl, rfl, ?_, rfl⟩; (simp; done)) | (focus (repeat' (first | exact True.intro | apply And.intro | rfl | exact Nat.le_of_ble_eq_true rfl)); done) | (simp [inR, Cont.cells]; done) | (simp [inR, Cont.cells]; omega)))
 | ((with_reducible apply If_dec) <;> intro hc <;> (try (exfalso; omega)))
 | ((with_reducible apply If_any) <;> intro hc)
 | ((with_reducible first | apply PF.mk | apply DrawP.mk); (focus kernel_rfl))
 | ((with_reducible apply Same.mk); (focus rfl); (first | exact trivial | exact rfl))
 | (intro cap hcap)
 | ((fail_if_success (with_reducible first | apply Fin.mk | apply CallP.mk | apply LoopP.mk | apply VC.mk | apply falseMk | apply Round.mk | apply Eq.symm)); conv => whnf))
      refine LoopP.mk ⟨Nat, fun y => y ≤ recs.length ∧ ∀ q ∈ recs.take y, q.2.length ≤ 2000 ∧ ¬ ((b.length : Int) < q.1 ∧ q.1 ≤ 4194304), fun y => ([(1, .p 0 0 1 0), (7, .v (.int .i64 (2 + S))), (8, .v (.int .i64 F)), (9, .im true 1 b.length (.ints .u8 b)), (11, .v (.int .i64 y))], [.blk 119 (.lst [.v (.int .i64 n), .im true 1 fill.length (.ints .u8 fill), .v (.int .i64 pos), .v (.int .i64 size), .im true 2 recs.length (recsC true recs)]) 5]), fun y => recs.length - y, 0, ⟨Nat.zero_le _, by simp⟩, Fit.ren [0] [] rfl rfl trivial ?_ ?_, ?_⟩
      · repeat' (first
 | (with_reducible first | exact True.intro | apply And.intro | apply If_true | apply If_false | apply If_not)
 | ((with_reducible apply VC.mk); (first | trivial | omega | (simp only [inR]; omega) | (exact ⟨rfl, List.prefix_rfl⟩) | (refine ⟨rfl, rfl, rfl, ?_, rfl⟩; (simp; done)) | (focus (repeat' (first | exact True.intro | apply And.intro | rfl | exact Nat.le_of_ble_eq_true rfl)); done) | (simp [inR, Cont.cells]; done) | (simp [inR, Cont.cells]; omega)))
 | ((with_reducible apply If_dec) <;> intro hc <;> (try (exfalso; omega)))
 | ((with_reducible apply If_any) <;> intro hc)
 | ((with_reducible first | apply PF.mk | apply DrawP.mk); (focus kernel_rfl))
 | ((with_reducible apply Same.mk); (focus rfl); (first | exact trivial | exact rfl))
 | (intro cap hcap)
 | ((fail_if_success (with_reducible first | apply Fin.mk | apply CallP.mk | apply LoopP.mk | apply VC.mk | apply falseMk | apply Round.mk | apply Eq.symm)); conv => whnf))
      · repeat' (first
 | (with_reducible first | exact True.intro | apply And.intro | apply If_true | apply If_false | apply If_not)
 | ((with_reducible apply VC.mk); (first | trivial | omega | (simp only [inR]; omega) | (exact ⟨rfl, List.prefix_rfl⟩) | (refine ⟨rfl, rfl, rfl, ?_, rfl⟩; (simp; done)) | (focus (repeat' (first | exact True.intro | apply And.intro | rfl | exact Nat.le_of_ble_eq_true rfl)); done) | (simp [inR, Cont.cells]; done) | (simp [inR, Cont.cells]; omega)))
 | ((with_reducible apply If_dec) <;> intro hc <;> (try (exfalso; omega)))
 | ((with_reducible apply If_any) <;> intro hc)
 | ((with_reducible first | apply PF.mk | apply DrawP.mk); (focus kernel_rfl))
 | ((with_reducible apply Same.mk); (focus rfl); (first | exact trivial | exact rfl))
 | (intro cap hcap)
 | ((fail_if_success (with_reducible first | apply Fin.mk | apply CallP.mk | apply LoopP.mk | apply VC.mk | apply falseMk | apply Round.mk | apply Eq.symm)); conv => whnf))
      · intro y hy
        obtain ⟨g1, g2⟩ := hy
        have e : ((y : Nat) : Int).toNat = y := Int.toNat_natCast _
        by_cases hlt : y < recs.length
        · have hm : recs.getD y (0, []) ∈ recs := by
            rw [show recs.getD y (0, []) = recs[y] by simp [List.getD_eq_getElem?_getD, hlt]]; exact List.getElem_mem hlt
          have hok := h0.2.2.2.2.2.2 _ hm
          have htk : recs.take (y + 1) = recs.take y ++ [recs.getD y (0, [])] := by
            rw [List.take_add_one, List.getElem?_eq_getElem hlt, List.getD_eq_getElem?_getD, List.getElem?_eq_getElem hlt]; rfl
          repeat' (first
 | (with_reducible first | exact True.intro | apply And.intro | apply If_true | apply If_false | apply If_not)
 | ((with_reducible apply VC.mk); (first | trivial | omega | (simp only [inR]; omega) | (exact ⟨rfl, List.prefix_rfl⟩) | (refine ⟨rfl, rfl, rfl, ?_, rfl⟩; (simp; done)) | (focus (repeat' (first | exact True.intro | apply And.intro | rfl | exact Nat.le_of_ble_eq_true rfl)); done) | (simp [inR, Cont.cells]; done) | (simp [inR, Cont.cells]; omega)))
 | ((with_reducible apply If_dec) <;> intro hc <;> (try (exfalso; omega)))
 | ((with_reducible apply If_any) <;> intro hc)
 | ((with_reducible first | apply PF.mk | apply DrawP.mk); (focus kernel_rfl))
 | ((with_reducible apply Same.mk); (focus rfl); (first | exact trivial | exact rfl))
 | (intro cap hcap)
 | ((fail_if_success (with_reducible first | apply Fin.mk | apply CallP.mk | apply LoopP.mk | apply VC.mk | apply falseMk | apply Round.mk | apply Eq.symm)); conv => whnf))
          all_goals (try exact bad _)
          all_goals simp only [e] at *
          all_goals
            refine Round.mk ⟨y + 1, ⟨by show y + 1 ≤ _; omega, fun q hq => ?_⟩, by show recs.length - (y + 1) < recs.length - y; omega, Fit.ren [0] [] rfl rfl trivial ?_ ?_⟩
            · rw [htk] at hq
              rcases List.mem_append.1 hq with hq | hq
              · exact g2 q hq
              · rw [List.mem_singleton] at hq; subst hq; exact ⟨by omega, by omega⟩
            · repeat' (first
 | (with_reducible first | exact True.intro | apply And.intro | apply If_true | apply If_false | apply If_not)
 | ((with_reducible apply VC.mk); (first | trivial | omega | (simp only [inR]; omega) | (exact ⟨rfl, List.prefix_rfl⟩) | (refine ⟨rfl, rfl, rfl, ?_, rfl⟩; (simp; done)) | (focus (repeat' (first | exact True.intro | apply And.intro | rfl | exact Nat.le_of_ble_eq_true rfl)); done) | (simp [inR, Cont.cells]; done) | (simp [inR, Cont.cells]; omega)))
 | ((with_reducible apply If_dec) <;> intro hc <;> (try (exfalso; omega)))
 | ((with_reducible apply If_any) <;> intro hc)
 | ((with_reducible first | apply PF.mk | apply DrawP.mk); (focus kernel_rfl))
 | ((with_reducible apply Same.mk); (focus rfl); (first | exact trivial | exact rfl))
 | (intro cap hcap)
 | ((fail_if_success (with_reducible first | apply Fin.mk | apply CallP.mk | apply LoopP.mk | apply VC.mk | apply falseMk | apply Round.mk | apply Eq.symm)); conv => whnf))
            · repeat' (first
 | (with_reducible first | exact True.intro | apply And.intro | apply If_true | apply If_false | apply If_not)
 | ((with_reducible apply VC.mk); (first | trivial | omega | (simp only [inR]; omega) | (exact ⟨rfl, List.prefix_rfl⟩) | (refine ⟨rfl, rfl, rfl, ?_, rfl⟩; (simp; done)) | (focus (repeat' (first | exact True.intro | apply And.intro | rfl | exact Nat.le_of_ble_eq_true rfl)); done) | (simp [inR, Cont.cells]; done) | (simp [inR, Cont.cells]; omega)))
 | ((with_reducible apply If_dec) <;> intro hc <;> (try (exfalso; omega)))
 | ((with_reducible apply If_any) <;> intro hc)
 | ((with_reducible first | apply PF.mk | apply DrawP.mk); (focus kernel_rfl))
 | ((with_reducible apply Same.mk); (focus rfl); (first | exact trivial | exact rfl))
 | (intro cap hcap)
 | ((fail_if_success (with_reducible first | apply Fin.mk | apply CallP.mk | apply LoopP.mk | apply VC.mk | apply falseMk | apply Round.mk | apply Eq.symm)); conv => whnf))
        · repeat' (first
 | (with_reducible first | exact True.intro | apply And.intro | apply If_true | apply If_false | apply If_not)
 | ((with_reducible apply VC.mk); (first | trivial | omega | (simp only [inR]; omega) | (exact ⟨rfl, List.prefix_rfl⟩) | (refine ⟨rfl, rfl, rfl, ?_, rfl⟩; (simp; done)) | (focus (repeat' (first | exact True.intro | apply And.intro | rfl | exact Nat.le_of_ble_eq_true rfl)); done) | (simp [inR, Cont.cells]; done) | (simp [inR, Cont.cells]; omega)))
 | ((with_reducible apply If_dec) <;> intro hc <;> (try (exfalso; omega)))
 | ((with_reducible apply If_any) <;> intro hc)
 | ((with_reducible first | apply PF.mk | apply DrawP.mk); (focus kernel_rfl))
 | ((with_reducible apply Same.mk); (focus rfl); (first | exact trivial | exact rfl))
 | (intro cap hcap)
 | ((fail_if_success (with_reducible first | apply Fin.mk | apply CallP.mk | apply LoopP.mk | apply VC.mk | apply falseMk | apply Round.mk | apply Eq.symm)); conv => whnf))
          have e5 : recs.take y = recs := List.take_of_length_le (by omega)
          rw [e5] at g2
          refine Fin.ren [] [] (.tup [.im true 1 b.length (.ints .u8 b), .v (.int .i64 (512 * F)), .v (.int .i64 (512 * (2 + S))), .v (.bool true)]) [] rfl rfl trivial trivial ⟨⟨VC.mk ⟨rfl, rfl, rfl⟩, VC.mk ⟨rfl, rfl⟩⟩, VC.mk rfl, VC.mk rfl, VC.mk rfl, trivial⟩ (hk (b, 512 * F, 512 * (2 + S), true) (.inr ⟨rfl, ?_, g2, ?_, ?_, ?_, ?_, ?_, ?_, hb8, hbz⟩))
          all_goals simp only
          all_goals omega
end Go.Proofs.Ytjccknmgmommcaa.Sx

