import Derived.Test.YtcfmlnddmpiemaaSxEc
import Derived.Test.YtcfmlnddmpiemaaSxU2
import Derived.Test.YtcfmlnddmpiemaaSxU1
set_option linter.unusedVariables false
set_option linter.unusedSimpArgs false
set_option maxRecDepth 10000
namespace Go.Proofs.Ytcfmlnddmpiemaa.Sx
open Go.RowKit Go.Proofs.Ytcfmlnddmpiemaa.Sx.Tb
/-! ### Decode -/
def le8 (l : List Int) (at_ : Nat) : Int := leV ((l.drop at_).take 8)
def le4 (l : List Int) (at_ : Nat) : Int := leV ((l.drop at_).take 4)
def dec1 (l : List Int) (at_ : Nat) : Option RecR :=
  if at_ + 12 ≤ l.length ∧ (at_ : Int) + 12 + le4 l (at_ + 8) ≤ l.length ∧ le8 l at_ ≤ 4194304 then some (le8 l at_, (l.drop (at_ + 12)).take (le4 l (at_ + 8)).toNat) else none
def decF (l : List Int) : Nat → Option (List RecR × Nat)
  | 0 => some ([], 0)
  | i + 1 => match decF l i with
    | none => none
    | some y => match dec1 l y.2 with
      | none => none
      | some r => some (y.1 ++ [r], y.2 + 12 + r.2.length)
def decL (l : List Int) (n : Nat) : Option (List RecR) := match decF l n with
  | none => none
  | some y => if y.2 = l.length then some y.1 else none
theorem leV_bound {l : List Int} (h : B8 l) (n : Nat) : 0 ≤ leV (l.take n) ∧ leV (l.take n) < ((256 ^ n : Nat) : Int) := by
  refine ⟨leV_nonneg (h.take n), Int.lt_of_lt_of_le (leV_lt (h.take n)) ?_⟩
  have e : (256 : Int) ^ (l.take n).length = ((256 ^ (l.take n).length : Nat) : Int) := by simp
  rw [e]
  exact Int.ofNat_le.2 (Nat.pow_le_pow_right (by decide) (by simp; omega))
theorem got32_R {l : List Int} {p v : Int} {b : Bool} (h : got32 l p v b) (hl : B8 l) : 0 ≤ v ∧ v < 4294967296 := by
  rcases h with ⟨_, _, _, rfl⟩ | ⟨_, _, rfl⟩
  · exact leV_bound (hl.drop _) 4
  · omega
theorem got64_R {l : List Int} {p v : Int} {b : Bool} (h : got64 l p v b) (hl : B8 l) : 0 ≤ v ∧ v < 18446744073709551616 := by
  rcases h with ⟨_, _, _, rfl⟩ | ⟨_, _, rfl⟩
  · exact leV_bound (hl.drop _) 8
  · omega
theorem got64_t {l : List Int} {p : Nat} {v : Int} {b : Bool} (h : got64 l (p : Int) v b) : (b = true → v = le8 l p ∧ p + 8 ≤ l.length) ∧ (b = false → ¬ p + 8 ≤ l.length) := by
  rcases h with ⟨_, h, rfl, rfl⟩ | ⟨h, rfl, rfl⟩
  · exact ⟨fun _ => ⟨by rw [Int.toNat_natCast]; rfl, by omega⟩, fun h => by cases h⟩
  · exact ⟨fun h => (by cases h), fun _ => by omega⟩
theorem got32_t {l : List Int} {p : Nat} {v : Int} {b : Bool} (h : got32 l (p : Int) v b) : (b = true → v = le4 l p ∧ p + 4 ≤ l.length) ∧ (b = false → ¬ p + 4 ≤ l.length) := by
  rcases h with ⟨_, h, rfl, rfl⟩ | ⟨h, rfl, rfl⟩
  · exact ⟨fun _ => ⟨by rw [Int.toNat_natCast]; rfl, by omega⟩, fun h => by cases h⟩
  · exact ⟨fun h => (by cases h), fun _ => by omega⟩
theorem decF_none {l : List Int} {i : Nat} (h : decF l i = none) : ∀ n, i ≤ n → decF l n = none := by
  intro n hn
  obtain ⟨d, rfl⟩ : ∃ d, n = i + d := ⟨n - i, by omega⟩
  clear hn
  induction d with
  | zero => exact h
  | succ d ih => rw [← Nat.add_assoc, decF, ih]
theorem dec1_len {l : List Int} (hl : B8 l) {p : Nat} {r : RecR} (h : dec1 l p = some r) : p + 12 + r.2.length ≤ l.length ∧ 0 ≤ r.1 ∧ r.1 ≤ 4194304 ∧ B8 r.2 := by
  unfold dec1 at h
  split at h
  · rename_i hh
    cases h
    have h0 : 0 ≤ le4 l (p + 8) := leV_nonneg ((hl.drop _).take _)
    have h1 : 0 ≤ le8 l p := leV_nonneg ((hl.drop _).take _)
    refine ⟨?_, h1, hh.2.2, (hl.drop _).take _⟩
    simp only [List.length_take, List.length_drop]
    omega
  · cases h
set_option maxHeartbeats 16000000 in
theorem decode_c (l : List Int) (n : Int) (k : K) (h0 : B8 l ∧ l.length ≤ 1073741824 ∧ n ≤ 1099511627776) (hk : ∀ x : Int × List RecR, (x.1 = 0 ∧ decL l n.toNat = some x.2 ∨ x.1 = 11 ∧ decL l n.toNat = none ∧ x.2 = []) → k (.tup [.im true 2 x.2.length (recsC true x.2), .v (.int .i64 x.1)]) []) : evFunc tab [] [] Go.Proofs.Try.f104 [.im false 1 l.length (.ints .u8 l), .v (.int .i64 n)] [] k := by
  obtain ⟨h1, h2, h3⟩ := h0
  repeat' (first
    | (with_reducible first | exact True.intro | apply And.intro | apply If_true | apply If_false | apply If_not)
    | ((with_reducible apply VC.mk); exact vt)
    | ((with_reducible apply If_dec) <;> intro hc <;> (try (exfalso; omega)))
    | ((with_reducible apply If_any) <;> intro hc)
    | ((with_reducible first | apply PF.mk | apply DrawP.mk); (focus kernel_rfl))
    | ((with_reducible apply Same.mk); (focus rfl); (first | exact trivial | exact rfl))
    | (intro cap hcap)
    | ((fail_if_success (with_reducible apply st)); conv => whnf))
  refine LoopP.mk ⟨Nat × List RecR × Nat × Nat, fun y => y.1 ≤ n.toNat ∧ decF l y.1 = some (y.2.1, y.2.2.1) ∧ y.2.2.1 ≤ l.length ∧ y.2.1.length ≤ y.1, fun y => ([(0, .im false 1 l.length (.ints .u8 l)), (6, .s 0 0 2 y.2.1.length y.2.2.2), (7, .v (.int .i64 y.2.2.1)), (13, .v (.int .i64 n)), (14, .v (.int .i64 y.1))], [.blk 138 (recsC true y.2.1) (y.2.2.2 * 2)]), fun y => n.toNat - y.1, (0, [], 0, 0), ⟨Nat.zero_le _, rfl, Nat.zero_le _, Nat.le_refl _⟩, Fit.ren [0] [] rfl rfl trivial ?_ ?_, ?_⟩
  · repeat' (first
    | (with_reducible first | exact True.intro | apply And.intro | apply If_true | apply If_false | apply If_not)
    | ((with_reducible apply VC.mk); exact vt)
    | ((with_reducible apply If_dec) <;> intro hc <;> (try (exfalso; omega)))
    | ((with_reducible apply If_any) <;> intro hc)
    | ((with_reducible first | apply PF.mk | apply DrawP.mk); (focus kernel_rfl))
    | ((with_reducible apply Same.mk); (focus rfl); (first | exact trivial | exact rfl))
    | (intro cap hcap)
    | ((fail_if_success (with_reducible apply st)); conv => whnf))
  · repeat' (first
    | (with_reducible first | exact True.intro | apply And.intro | apply If_true | apply If_false | apply If_not)
    | ((with_reducible apply VC.mk); exact vt)
    | ((with_reducible apply If_dec) <;> intro hc <;> (try (exfalso; omega)))
    | ((with_reducible apply If_any) <;> intro hc)
    | ((with_reducible first | apply PF.mk | apply DrawP.mk); (focus kernel_rfl))
    | ((with_reducible apply Same.mk); (focus rfl); (first | exact trivial | exact rfl))
    | (intro cap hcap)
    | ((fail_if_success (with_reducible apply st)); conv => whnf))
  · intro y hy
    obtain ⟨g1, g2, g3, g4⟩ := hy
    have bad : ∀ m, m ≤ n.toNat → decF l m = none → k (.tup [.im true 2 0 (recsC true []), .v (.int .i64 11)]) [] := fun m hm h => by
      have e := decF_none h _ hm
      exact hk (11, []) (.inr ⟨rfl, by unfold decL; rw [e], rfl⟩)
    have nilF : ∀ H : List Chunk, k (.tup [.im true 2 0 (recsC true []), .v (.int .i64 11)]) [] → Fin 0 (.tup [.v (.slice none 0 0), .v (.int .i64 11)]) H k := fun H h =>
      Fin.ren [] [] (.tup [.im true 2 0 (recsC true []), .v (.int .i64 11)]) [] rfl rfl trivial trivial ⟨⟨VC.mk rfl, VC.mk rfl⟩, VC.mk rfl, trivial⟩ h
    have ds : decF l (y.1 + 1) = match dec1 l y.2.2.1 with
      | none => none
      | some r => some (y.2.1 ++ [r], y.2.2.1 + 12 + r.2.length) := by rw [decF, g2]
    repeat' (first
    | (with_reducible first | exact True.intro | apply And.intro | apply If_true | apply If_false | apply If_not)
    | ((with_reducible apply VC.mk); exact vt)
    | ((with_reducible apply If_dec) <;> intro hc <;> (try (exfalso; omega)))
    | ((with_reducible apply If_any) <;> intro hc)
    | ((with_reducible first | apply PF.mk | apply DrawP.mk); (focus kernel_rfl))
    | ((with_reducible apply Same.mk); (focus rfl); (first | exact trivial | exact rfl))
    | (intro cap hcap)
    | ((fail_if_success (with_reducible apply st)); conv => whnf))
    · refine U64_at l (y.2.2.1 : Int) ⟨by omega, h1, by omega⟩ ⟨⟨rfl, rfl, rfl⟩, rfl, trivial⟩ ?_
      intro v1 b1 hb1
      repeat' (first
    | (with_reducible first | exact True.intro | apply And.intro | apply If_true | apply If_false | apply If_not)
    | ((with_reducible apply VC.mk); exact vt)
    | ((with_reducible apply If_dec) <;> intro hc <;> (try (exfalso; omega)))
    | ((with_reducible apply If_any) <;> intro hc)
    | ((with_reducible first | apply PF.mk | apply DrawP.mk); (focus kernel_rfl))
    | ((with_reducible apply Same.mk); (focus rfl); (first | exact trivial | exact rfl))
    | (intro cap hcap)
    | ((fail_if_success (with_reducible apply st)); conv => whnf))
      refine U32_at l ((y.2.2.1 : Int) + 8) ⟨by omega, h1, by omega⟩ ⟨⟨rfl, rfl, rfl⟩, rfl, trivial⟩ ?_
      intro v2 b2 hb2
      obtain ⟨u1, u2⟩ := got32_R hb2 h1
      repeat' (first
    | (with_reducible first | exact True.intro | apply And.intro | apply If_true | apply If_false | apply If_not)
    | ((with_reducible apply VC.mk); exact vt)
    | ((with_reducible apply If_dec) <;> intro hc <;> (try (exfalso; omega)))
    | ((with_reducible apply If_any) <;> intro hc)
    | ((with_reducible first | apply PF.mk | apply DrawP.mk); (focus kernel_rfl))
    | ((with_reducible apply Same.mk); (focus rfl); (first | exact trivial | exact rfl))
    | (intro cap hcap)
    | ((fail_if_success (with_reducible apply st)); conv => whnf))
      all_goals obtain ⟨t1, t2⟩ := got64_t hb1
      all_goals obtain ⟨t3, t4⟩ := got32_t (p := y.2.2.1 + 8) hb2
      · exact nilF _ (bad (y.1 + 1) (by omega) (by rw [ds, dec1, if_neg (by have := t3 (by assumption); omega)]))
      · refine oslice_at l ((y.2.2.1 : Int) + 12) v2 ⟨by omega, by omega, by omega⟩ ⟨⟨rfl, rfl, rfl⟩, rfl, rfl, trivial⟩ ?_
        intro m b3 hb3
        have tt1 := t1 (by assumption)
        have tt3 := t3 (by assumption)
        repeat' (first
    | (with_reducible first | exact True.intro | apply And.intro | apply If_true | apply If_false | apply If_not)
    | ((with_reducible apply VC.mk); exact vt)
    | ((with_reducible apply If_dec) <;> intro hc <;> (try (exfalso; omega)))
    | ((with_reducible apply If_any) <;> intro hc)
    | ((with_reducible first | apply PF.mk | apply DrawP.mk); (focus kernel_rfl))
    | ((with_reducible apply Same.mk); (focus rfl); (first | exact trivial | exact rfl))
    | (intro cap hcap)
    | ((fail_if_success (with_reducible apply st)); conv => whnf))
        · exact nilF _ (bad (y.1 + 1) (by omega) (by rw [ds, dec1, if_neg (by omega)]))
        · exact VC.mk (by simp only [inR]; have := got64_R hb1 h1; omega)
        · rename_i hb3t cap hcap
          have hb3t : b3 = true := by assumption
          have hm : (y.2.2.1 : Int) + 12 + v2 ≤ l.length ∧ m = (l.drop (y.2.2.1 + 12)).take v2.toNat := by
            rcases hb3 with ⟨q1, q2, q3⟩ | ⟨q1, q2, q3⟩
            · exact ⟨q1.2.2, by rw [q3]; rfl⟩
            · rw [q2] at hb3t; cases hb3t
          have hd : dec1 l y.2.2.1 = some (v1, m) := by
            rw [dec1, if_pos ⟨by omega, by omega, by omega⟩, hm.2, tt1.1, tt3.1]
          have hml : (m.length : Int) = v2 := by rw [hm.2]; simp only [List.length_take, List.length_drop]; omega
          rw [hd] at ds
          refine Round.mk ⟨(y.1 + 1, y.2.1 ++ [(v1, m)], y.2.2.1 + 12 + m.length, cap), ⟨by show y.1 + 1 ≤ _; omega, ds, by show y.2.2.1 + 12 + m.length ≤ _; omega, by show (y.2.1 ++ [(v1, m)]).length ≤ y.1 + 1; rw [List.length_append, List.length_singleton]; omega⟩, by show n.toNat - (y.1 + 1) < n.toNat - y.1; omega, Fit.ren [2] [] rfl rfl trivial ?_ ?_⟩
          · refine ⟨⟨VC.mk ⟨rfl, rfl⟩, VC.mk ⟨rfl, by show (y.2.1 ++ [(v1, m)]).length ≤ _; simp⟩, ?_⟩, trivial⟩
            refine snoc_le (fun r => recAV true r) (0, []) y.2.1 (v1, m) _ ?_ ?_
            · intro j hj; simp only [if_pos hj]; exact ⟨VC.mk rfl, ⟨VC.mk ⟨rfl, rfl, rfl⟩, VC.mk ⟨rfl, rfl⟩⟩, trivial⟩
            · simp only [Nat.lt_irrefl, if_false]; exact ⟨VC.mk rfl, ⟨VC.mk ⟨rfl, rfl, rfl⟩, VC.mk ⟨rfl, rfl⟩⟩, trivial⟩
          · repeat' (first
    | (with_reducible first | exact True.intro | apply And.intro | apply If_true | apply If_false | apply If_not)
    | ((with_reducible apply VC.mk); exact vt)
    | ((with_reducible apply If_dec) <;> intro hc <;> (try (exfalso; omega)))
    | ((with_reducible apply If_any) <;> intro hc)
    | ((with_reducible first | apply PF.mk | apply DrawP.mk); (focus kernel_rfl))
    | ((with_reducible apply Same.mk); (focus rfl); (first | exact trivial | exact rfl))
    | (intro cap hcap)
    | ((fail_if_success (with_reducible apply st)); conv => whnf))
        · exact nilF _ (bad (y.1 + 1) (by omega) (by rw [ds, dec1, if_neg (by rcases hb3 with ⟨q1, q2, q3⟩ | ⟨q1, q2, q3⟩; · rw [q2] at hc; cases hc
                                                                              · omega)]))
      · exact nilF _ (bad (y.1 + 1) (by omega) (by rw [ds, dec1, if_neg (by have := t4 hc; omega)]))
      · exact nilF _ (bad (y.1 + 1) (by omega) (by rw [ds, dec1, if_neg (by have := t2 hc; omega)]))
    · refine nilF _ ?_
      have hy1 : y.1 = n.toNat := by omega
      exact hk (11, []) (.inr ⟨rfl, by unfold decL; rw [← hy1, g2]; simp only; rw [if_neg (by omega)], rfl⟩)
    · have hy1 : y.1 = n.toNat := by omega
      have hd : decL l n.toNat = some y.2.1 := by unfold decL; rw [← hy1, g2]; simp only; rw [if_pos (by omega)]
      refine Fin.ren [] [0] (.tup [.im true 2 y.2.1.length (recsC true y.2.1), .v (.int .i64 0)]) [] rfl rfl ⟨trivial, trivial⟩ trivial ⟨⟨VC.mk ⟨?_, rfl, rfl, rfl, Nat.two_pos⟩, VC.mk ⟨rfl, rfl⟩, fun j hj => ?_⟩, VC.mk rfl, trivial⟩ (hk (0, y.2.1) (.inl ⟨rfl, hd⟩))
      · omega
      · simp only [Nat.zero_add]; exact ⟨VC.mk rfl, ⟨VC.mk ⟨rfl, rfl, rfl⟩, VC.mk ⟨rfl, rfl⟩⟩, trivial⟩
def decRel (x : List Int × Int) (r : Int × List RecR) : Prop := r.1 = 0 ∧ decL x.1 x.2.toNat = some r.2 ∨ r.1 = 11 ∧ decL x.1 x.2.toNat = none ∧ r.2 = []
theorem decode_K : ConOk Go.Proofs.Try.prog 104 (Con.of (List Int × Int) (Int × List RecR) (fun x => [.im false 1 x.1.length (.ints .u8 x.1), .v (.int .i64 x.2)]) (fun _ => []) (fun x => B8 x.1 ∧ x.1.length ≤ 1073741824 ∧ x.2 ≤ 1099511627776) decRel (fun _ r => .tup [.im true 2 r.2.length (recsC true r.2), .v (.int .i64 r.1)]) (fun _ _ => [])) := by
  refine conOk_rel (T := tab) mix Go.Proofs.Try.func104 (by decide +kernel) (by kernel_rfl) [] [] (fun n => by rw [Go.Proofs.Try.ntmps104]; exact Nat.le_of_ble_eq_true rfl) (fun n z _ _ => ⟨⟨⟨rfl, fun j hj => ⟨trivial, ⟨rfl, trivial⟩, trivial⟩⟩, trivial, trivial⟩, (fun c hc => by cases hc), Nat.le_refl _⟩) (fun n _ c hc => by cases hc) ?_
  intro x k h0 hk
  exact decode_c x.1 x.2 k h0 (fun r hr => hk r hr)
theorem decode_at {avs : List AV} {H : List Chunk} {k : K} (l : List Int) (n : Int) (h0 : B8 l ∧ l.length ≤ 1073741824 ∧ n ≤ 1099511627776) (ha : argsM H [] [.im false 1 l.length (.ints .u8 l), .v (.int .i64 n)] avs) (h : ∀ r, decRel (l, n) r → k (.tup [.im true 2 r.2.length (recsC true r.2), .v (.int .i64 r.1)]) H) : CallP Go.Proofs.Try.prog 104 avs H k :=
  CallP.mk ⟨_, decode_K.real, Con.spec decode_K, (l, n), [], ⟨h0, rfl, trivial, ha⟩, fun r hr => (numK_eq H.length (fun N => k (AV.ren (fren [] N) (.tup [.im true 2 r.2.length (recsC true r.2), .v (.int .i64 r.1)])) (putAll H [] []))).mpr (by simpa [putAll, AV.ren, rens, Cont.ren, recsC, recAV] using h r hr)⟩
end Go.Proofs.Ytcfmlnddmpiemaa.Sx


set_option maxRecDepth 10000
namespace Go.Proofs.Ytcfmlnddmpiemaa.Sx
open Go.RowKit Go.Proofs.Ytcfmlnddmpiemaa.Sx.Tb
/-! ### Pending -/
instance (j : JR) (a n : Int) : Decidable (j.out a n) := by unfold JR.out; infer_instance
def pendOk (j : JR) (b : List Int) : Prop := le4 b 0 = 826954822 ∧ le4 b 24 = moreL 0 (b.take 24) ∧ le4 b 16 ≤ j.size - 512 ∧ le4 b 12 ≤ (j.size - 512) / 12 ∧ (∀ x ∈ (b.drop 28).take 484, x = 0) ∧ le4 b 20 = moreL 0 ((b.drop 512).take (le4 b 16).toNat)
instance (j : JR) (b : List Int) : Decidable (pendOk j b) := by unfold pendOk; infer_instance
def pendB (j : JR) (b : List Int) : Option (List RecR) :=
  if pendOk j b then match decL ((b.drop 512).take (le4 b 16).toNat) (le4 b 12).toNat with
    | some rs => if ∀ r ∈ rs, j.out r.1 r.2.length then some rs else none
    | none => none
  else none
def JR.part (j : JR) (s : DF) : List Int := (s.now.drop j.pos.toNat).take j.size.toNat
/-- What is pending: an error's number, the records, the number of the last. -/
def DF.pend (j : JR) (s : DF) : Int × Option (List RecR) × JR :=
  if s.refB = true then (5, none, j) else if (s.now.length : Int) < j.pos + j.size then (4, none, j) else match pendB j (j.part s) with
    | some rs => (0, some rs, { j with seq := le8 (j.part s) 4 })
    | none => (0, none, j)
def pendV (x : Int × Option (List RecR) × JR) : AV := .tup [.im true 2 (x.2.1.getD []).length (recsC true (x.2.1.getD [])), .v (.bool x.2.1.isSome), .v (.int .i64 x.1)]
theorem pendV_noF (x : Int × Option (List RecR) × JR) : (pendV x).noF := ⟨⟨rfl, fun j hj => ⟨trivial, ⟨rfl, trivial⟩, trivial⟩⟩, trivial, trivial, trivial⟩
theorem pendV_ren (f : Nat → Nat) (x : Int × Option (List RecR) × JR) : (pendV x).ren f = pendV x := rfl
theorem decF_ok {l : List Int} (hl : B8 l) : ∀ {n : Nat} {y : List RecR × Nat}, decF l n = some y → y.2 ≤ l.length ∧ y.1.length = n ∧ (encL y.1).length = y.2 ∧ ∀ r ∈ y.1, 0 ≤ r.1 ∧ r.1 ≤ 4194304 ∧ r.2.length ≤ l.length ∧ B8 r.2
  | 0, y, h => by cases h; exact ⟨Nat.zero_le _, rfl, rfl, fun r hr => by cases hr⟩
  | n + 1, y, h => by
    rw [decF] at h
    cases h1 : decF l n with
    | none => rw [h1] at h; cases h
    | some u =>
      rw [h1] at h
      simp only at h
      obtain ⟨i1, i2, i3, i4⟩ := decF_ok hl h1
      cases h2 : dec1 l u.2 with
      | none => rw [h2] at h; cases h
      | some r =>
        rw [h2] at h
        cases h
        obtain ⟨k1, k2, k3, k4⟩ := dec1_len hl h2
        refine ⟨k1, by simp [i2], ?_, fun q hq => ?_⟩
        · show (encL (u.1 ++ [r])).length = u.2 + 12 + r.2.length
          have : encL (u.1 ++ [r]) = encL u.1 ++ enc1 r := by simp [encL]
          rw [this, List.length_append, i3, enc1_length]; omega
        · rw [List.mem_append, List.mem_singleton] at hq
          rcases hq with hq | rfl
          · exact i4 q hq
          · exact ⟨k2, k3, by omega, k4⟩
theorem decL_ok {l : List Int} (hl : B8 l) {n : Nat} {rs : List RecR} (h : decL l n = some rs) : rs.length = n ∧ (encL rs).length = l.length ∧ ∀ r ∈ rs, 0 ≤ r.1 ∧ r.1 ≤ 4194304 ∧ r.2.length ≤ l.length ∧ B8 r.2 := by
  unfold decL at h
  cases h1 : decF l n with
  | none => rw [h1] at h; cases h
  | some u =>
    rw [h1] at h
    simp only at h
    split at h
    · rename_i hh
      cases h
      obtain ⟨i1, i2, i3, i4⟩ := decF_ok hl h1
      exact ⟨i2, by omega, i4⟩
    · cases h
set_option maxHeartbeats 16000000 in
theorem pending_c (j : JR) (s : DF) (n : Int) (k : K) (h0 : j.Ok ∧ s.Ok n ∧ n ≤ 274877906944 ∧ B8 s.now) (hk : ∀ x, x = s.pend j → k (pendV x) [x.2.2.blk 1, s.asked.pk]) : evFunc tab [] p80 Go.Proofs.Try.f80 [.p 0 0 1 0] [j.blk 1, s.pk] k := by
  obtain ⟨hj, h7, h8, h9⟩ := h0
  have hj0 := hj
  obtain ⟨j1, j2, j3, j4, j5, j6⟩ := hj0
  have a1 := h7.ops
  have a3 := h7.len
  have a4 := h7.now
  repeat' (first
    | (with_reducible first | exact True.intro | apply And.intro | apply If_true | apply If_false | apply If_not)
    | ((with_reducible apply VC.mk); exact vt)
    | ((with_reducible apply If_dec) <;> intro hc <;> (try (exfalso; omega)))
    | ((with_reducible apply If_any) <;> intro hc)
    | ((with_reducible first | apply PF.mk | apply DrawP.mk); (focus kernel_rfl))
    | ((with_reducible apply Same.mk); (focus rfl); (first | exact trivial | exact rfl))
    | (intro cap hcap)
    | ((fail_if_success (with_reducible apply st)); conv => whnf))
  refine read_at s j.pos j.size 1 ⟨a1.1, by omega, a4⟩ rfl ⟨rfl, rfl, rfl, trivial⟩ ?_
  intro r l hr
  repeat' (first
    | (with_reducible first | exact True.intro | apply And.intro | apply If_true | apply If_false | apply If_not)
    | ((with_reducible apply VC.mk); exact vt)
    | ((with_reducible apply If_dec) <;> intro hc <;> (try (exfalso; omega)))
    | ((with_reducible apply If_any) <;> intro hc)
    | ((with_reducible first | apply PF.mk | apply DrawP.mk); (focus kernel_rfl))
    | ((with_reducible apply Same.mk); (focus rfl); (first | exact trivial | exact rfl))
    | (intro cap hcap)
    | ((fail_if_success (with_reducible apply st)); conv => whnf))
  · have e : s.pend j = (r, none, j) := by
      unfold DF.pend
      rcases hr with ⟨q1, q2, q3⟩ | ⟨q1, q2, q3, q4⟩ | ⟨q1, q2, q3⟩
      · rw [if_pos ((DF.refB_iff s).2 q2), q1]
      · rw [if_neg (fun h => q2 ((DF.refB_iff s).1 h)), if_pos (by omega), q1]
      · exact absurd q1 hc
    refine Fin.ren [0, 1] [] (pendV (r, none, j)) [j.blk 1, s.asked.pk] rfl rfl trivial (two_le rfl (Nat.le_of_ble_eq_true rfl) rfl rfl) ⟨⟨VC.mk rfl, VC.mk rfl⟩, VC.mk rfl, VC.mk rfl, trivial⟩ (hk _ e.symm)
  have hrr : ¬ s.refused ∧ j.pos + j.size ≤ s.now.length ∧ l = j.part s := by
    rcases hr with ⟨q1, q2, q3⟩ | ⟨q1, q2, q3, q4⟩ | ⟨q1, q2, q3, q4, q5, q6, q7⟩
    · omega
    · omega
    · exact ⟨q2, by omega, q7⟩
  obtain ⟨r1, r2, r3⟩ := hrr
  have hl8 : B8 l := by rw [r3]; exact (h9.drop _).take _
  have hll : (l.length : Int) = j.size := by rw [r3]; unfold JR.part; simp only [List.length_take, List.length_drop]; omega
  have e0 : s.pend j = match pendB j l with
    | some rs => (0, some rs, { j with seq := le8 l 4 })
    | none => (0, none, j) := by
    unfold DF.pend
    rw [if_neg (fun h => r1 ((DF.refB_iff s).1 h)), if_neg (by omega), ← r3]
  have bad : ∀ H : List Chunk, Nat.ble 2 H.length = true → nth H 0 = some (j.blk 1) → nth H 1 = some s.asked.pk → pendB j l = none → Fin 2 (.tup [.v (.slice none 0 0), .v (.bool false), .v (.int .i64 0)]) H k := fun H q1 q2 q3 q4 =>
    Fin.ren [0, 1] [] (pendV (0, none, j)) [j.blk 1, s.asked.pk] rfl rfl trivial (two_le rfl (Nat.le_of_ble_eq_true q1) q2 q3) ⟨⟨VC.mk rfl, VC.mk rfl⟩, VC.mk rfl, VC.mk rfl, trivial⟩ (hk _ (by rw [e0, q4]))
  refine U32_at l 0 ⟨by omega, hl8, by omega⟩ ⟨⟨rfl, rfl, rfl⟩, rfl, trivial⟩ ?_
  intro v1 b1 hb1
  repeat' (first
    | (with_reducible first | exact True.intro | apply And.intro | apply If_true | apply If_false | apply If_not)
    | ((with_reducible apply VC.mk); exact vt)
    | ((with_reducible apply If_dec) <;> intro hc <;> (try (exfalso; omega)))
    | ((with_reducible apply If_any) <;> intro hc)
    | ((with_reducible first | apply PF.mk | apply DrawP.mk); (focus kernel_rfl))
    | ((with_reducible apply Same.mk); (focus rfl); (first | exact trivial | exact rfl))
    | (intro cap hcap)
    | ((fail_if_success (with_reducible apply st)); conv => whnf))
  refine U64_at l 4 ⟨by omega, hl8, by omega⟩ ⟨⟨rfl, rfl, rfl⟩, rfl, trivial⟩ ?_
  intro v2 b2 hb2
  repeat' (first
    | (with_reducible first | exact True.intro | apply And.intro | apply If_true | apply If_false | apply If_not)
    | ((with_reducible apply VC.mk); exact vt)
    | ((with_reducible apply If_dec) <;> intro hc <;> (try (exfalso; omega)))
    | ((with_reducible apply If_any) <;> intro hc)
    | ((with_reducible first | apply PF.mk | apply DrawP.mk); (focus kernel_rfl))
    | ((with_reducible apply Same.mk); (focus rfl); (first | exact trivial | exact rfl))
    | (intro cap hcap)
    | ((fail_if_success (with_reducible apply st)); conv => whnf))
  refine U32_at l 12 ⟨by omega, hl8, by omega⟩ ⟨⟨rfl, rfl, rfl⟩, rfl, trivial⟩ ?_
  intro v3 b3 hb3
  repeat' (first
    | (with_reducible first | exact True.intro | apply And.intro | apply If_true | apply If_false | apply If_not)
    | ((with_reducible apply VC.mk); exact vt)
    | ((with_reducible apply If_dec) <;> intro hc <;> (try (exfalso; omega)))
    | ((with_reducible apply If_any) <;> intro hc)
    | ((with_reducible first | apply PF.mk | apply DrawP.mk); (focus kernel_rfl))
    | ((with_reducible apply Same.mk); (focus rfl); (first | exact trivial | exact rfl))
    | (intro cap hcap)
    | ((fail_if_success (with_reducible apply st)); conv => whnf))
  refine U32_at l 16 ⟨by omega, hl8, by omega⟩ ⟨⟨rfl, rfl, rfl⟩, rfl, trivial⟩ ?_
  intro v4 b4 hb4
  repeat' (first
    | (with_reducible first | exact True.intro | apply And.intro | apply If_true | apply If_false | apply If_not)
    | ((with_reducible apply VC.mk); exact vt)
    | ((with_reducible apply If_dec) <;> intro hc <;> (try (exfalso; omega)))
    | ((with_reducible apply If_any) <;> intro hc)
    | ((with_reducible first | apply PF.mk | apply DrawP.mk); (focus kernel_rfl))
    | ((with_reducible apply Same.mk); (focus rfl); (first | exact trivial | exact rfl))
    | (intro cap hcap)
    | ((fail_if_success (with_reducible apply st)); conv => whnf))
  refine U32_at l 20 ⟨by omega, hl8, by omega⟩ ⟨⟨rfl, rfl, rfl⟩, rfl, trivial⟩ ?_
  intro v5 b5 hb5
  repeat' (first
    | (with_reducible first | exact True.intro | apply And.intro | apply If_true | apply If_false | apply If_not)
    | ((with_reducible apply VC.mk); exact vt)
    | ((with_reducible apply If_dec) <;> intro hc <;> (try (exfalso; omega)))
    | ((with_reducible apply If_any) <;> intro hc)
    | ((with_reducible first | apply PF.mk | apply DrawP.mk); (focus kernel_rfl))
    | ((with_reducible apply Same.mk); (focus rfl); (first | exact trivial | exact rfl))
    | (intro cap hcap)
    | ((fail_if_success (with_reducible apply st)); conv => whnf))
  refine U32_at l 24 ⟨by omega, hl8, by omega⟩ ⟨⟨rfl, rfl, rfl⟩, rfl, trivial⟩ ?_
  intro v6 b6 hb6
  have m1 : v1 = le4 l 0 := by
    cases b1 with
    | true => exact ((got32_t (p := 0) hb1).1 rfl).1
    | false => exact absurd ((got32_t (p := 0) hb1).2 rfl) (by omega)
  have m2 : v2 = le8 l 4 := by
    cases b2 with
    | true => exact ((got64_t (p := 4) hb2).1 rfl).1
    | false => exact absurd ((got64_t (p := 4) hb2).2 rfl) (by omega)
  have m3 : v3 = le4 l 12 := by
    cases b3 with
    | true => exact ((got32_t (p := 12) hb3).1 rfl).1
    | false => exact absurd ((got32_t (p := 12) hb3).2 rfl) (by omega)
  have m4 : v4 = le4 l 16 := by
    cases b4 with
    | true => exact ((got32_t (p := 16) hb4).1 rfl).1
    | false => exact absurd ((got32_t (p := 16) hb4).2 rfl) (by omega)
  have m5 : v5 = le4 l 20 := by
    cases b5 with
    | true => exact ((got32_t (p := 20) hb5).1 rfl).1
    | false => exact absurd ((got32_t (p := 20) hb5).2 rfl) (by omega)
  have m6 : v6 = le4 l 24 := by
    cases b6 with
    | true => exact ((got32_t (p := 24) hb6).1 rfl).1
    | false => exact absurd ((got32_t (p := 24) hb6).2 rfl) (by omega)
  have u3 := got32_R hb3 hl8
  have u4 := got32_R hb4 hl8
  have u2 := got64_R hb2 hl8
  have no : ¬ pendOk j l → pendB j l = none := fun h => by unfold pendB; rw [if_neg h]
  clear hb1 hb2 hb3 hb4 hb5 hb6
  obtain ⟨z, hz⟩ : ∃ z, z = l.take 24 := ⟨_, rfl⟩
  have hzl : z.length = 24 := by rw [hz]; simp only [List.length_take]; omega
  have hz8 : B8 z := by rw [hz]; exact hl8.take _
  have q1 : List.take (Int.toNat 24 - Int.toNat 0) (List.drop (Int.toNat 0) l) = z := hz.symm
  have q2 : Int.toNat 24 - Int.toNat 0 = z.length := by rw [hzl]; rfl
  repeat' (first
    | (with_reducible first | exact True.intro | apply And.intro | apply If_true | apply If_false | apply If_not)
    | ((with_reducible apply VC.mk); exact vt)
    | ((with_reducible apply If_dec) <;> intro hc <;> (try (exfalso; omega)))
    | ((with_reducible apply If_any) <;> intro hc)
    | ((with_reducible first | apply PF.mk | apply DrawP.mk); (focus kernel_rfl))
    | ((with_reducible apply Same.mk); (focus rfl); (first | exact trivial | exact rfl))
    | (intro cap hcap)
    | ((fail_if_success (with_reducible apply st)); conv => whnf))
  · exact bad _ rfl rfl rfl (no (fun h => hc (m1.trans h.1)))
  rw [q1]
  rw [q2]
  refine sum_at z ⟨hz8, by omega⟩ ⟨⟨by decide, rfl, rfl, ⟨rfl, rfl, fun j hj => by match j, hj with | 0, _ => rfl⟩, rfl, Nat.one_pos⟩, trivial⟩ ?_
  obtain ⟨w1, hw1⟩ : ∃ w1, w1 = moreL 0 z := ⟨_, rfl⟩
  rw [← hw1]
  repeat' (first
    | (with_reducible first | exact True.intro | apply And.intro | apply If_true | apply If_false | apply If_not)
    | ((with_reducible apply VC.mk); exact vt)
    | ((with_reducible apply If_dec) <;> intro hc <;> (try (exfalso; omega)))
    | ((with_reducible apply If_any) <;> intro hc)
    | ((with_reducible first | apply PF.mk | apply DrawP.mk); (focus kernel_rfl))
    | ((with_reducible apply Same.mk); (focus rfl); (first | exact trivial | exact rfl))
    | (intro cap hcap)
    | ((fail_if_success (with_reducible apply st)); conv => whnf))
  · exact bad _ rfl rfl rfl (no (fun h => hc (by rw [m6, hw1, hz]; exact h.2.1)))
  refine room_at j s.asked 0 1 hj rfl rfl rfl ⟨rfl, trivial⟩ ?_
  intro _ _
  repeat' (first
    | (with_reducible first | exact True.intro | apply And.intro | apply If_true | apply If_false | apply If_not)
    | ((with_reducible apply VC.mk); exact vt)
    | ((with_reducible apply If_dec) <;> intro hc <;> (try (exfalso; omega)))
    | ((with_reducible apply If_any) <;> intro hc)
    | ((with_reducible first | apply PF.mk | apply DrawP.mk); (focus kernel_rfl))
    | ((with_reducible apply Same.mk); (focus rfl); (first | exact trivial | exact rfl))
    | (intro cap hcap)
    | ((fail_if_success (with_reducible apply st)); conv => whnf))
  · exact bad _ rfl rfl rfl (no (fun h => absurd h.2.2.1 (by rw [← m4]; omega)))
  refine room_at j s.asked 0 1 hj rfl rfl rfl ⟨rfl, trivial⟩ ?_
  intro _ _
  repeat' (first
    | (with_reducible first | exact True.intro | apply And.intro | apply If_true | apply If_false | apply If_not)
    | ((with_reducible apply VC.mk); exact vt)
    | ((with_reducible apply If_dec) <;> intro hc <;> (try (exfalso; omega)))
    | ((with_reducible apply If_any) <;> intro hc)
    | ((with_reducible first | apply PF.mk | apply DrawP.mk); (focus kernel_rfl))
    | ((with_reducible apply Same.mk); (focus rfl); (first | exact trivial | exact rfl))
    | (intro cap hcap)
    | ((fail_if_success (with_reducible apply st)); conv => whnf))
  · exact bad _ rfl rfl rfl (no (fun h => absurd h.2.2.2.1 (by rw [← m3]; omega)))
  obtain ⟨zz, hzz⟩ : ∃ zz, zz = (l.drop 28).take 484 := ⟨_, rfl⟩
  have hzzl : zz.length = 484 := by rw [hzz]; simp only [List.length_take, List.length_drop]; omega
  have q3 : List.take (Int.toNat 512 - Int.toNat 28) (List.drop (Int.toNat 28) l) = zz := hzz.symm
  have q4 : Int.toNat 512 - Int.toNat 28 = zz.length := by rw [hzzl]; rfl
  repeat' (first
    | (with_reducible first | exact True.intro | apply And.intro | apply If_true | apply If_false | apply If_not)
    | ((with_reducible apply VC.mk); exact vt)
    | ((with_reducible apply If_dec) <;> intro hc <;> (try (exfalso; omega)))
    | ((with_reducible apply If_any) <;> intro hc)
    | ((with_reducible first | apply PF.mk | apply DrawP.mk); (focus kernel_rfl))
    | ((with_reducible apply Same.mk); (focus rfl); (first | exact trivial | exact rfl))
    | (intro cap hcap)
    | ((fail_if_success (with_reducible apply st)); conv => whnf))
  rw [q3]
  rw [q4]
  refine ozero_at zz (by omega) ⟨⟨rfl, rfl, rfl⟩, trivial⟩ ?_
  intro bz hbz
  have hz0 : bz = true ↔ ∀ x ∈ zz, x = 0 := by
    rw [hbz]
    constructor
    · intro h x hx
      obtain ⟨i, hi, rfl⟩ := List.getElem_of_mem hx
      have := h i hi
      rwa [List.getD_eq_getElem?_getD, List.getElem?_eq_getElem hi, Option.getD_some] at this
    · intro h i hi
      rw [List.getD_eq_getElem?_getD, List.getElem?_eq_getElem hi, Option.getD_some]
      exact h _ (List.getElem_mem hi)
  obtain ⟨body, hbody⟩ : ∃ body, body = (l.drop 512).take v4.toNat := ⟨_, rfl⟩
  have hbl : body.length = v4.toNat := by rw [hbody]; simp only [List.length_take, List.length_drop]; omega
  have hb8 : B8 body := by rw [hbody]; exact (hl8.drop _).take _
  repeat' (first
    | (with_reducible first | exact True.intro | apply And.intro | apply If_true | apply If_false | apply If_not)
    | ((with_reducible apply VC.mk); exact vt)
    | ((with_reducible apply If_dec) <;> intro hc <;> (try (exfalso; omega)))
    | ((with_reducible apply If_any) <;> intro hc)
    | ((with_reducible first | apply PF.mk | apply DrawP.mk); (focus kernel_rfl))
    | ((with_reducible apply Same.mk); (focus rfl); (first | exact trivial | exact rfl))
    | (intro cap hcap)
    | ((fail_if_success (with_reducible apply st)); conv => whnf))
  case g => exact bad _ rfl rfl rfl (no (fun h => by rw [hz0.2 (by rw [hzz]; exact h.2.2.2.2.1)] at hc; cases hc))
  have q5 : (512 + v4).toNat - Int.toNat 512 = body.length := by rw [hbl]; omega
  rw [q5]
  have q6 : List.take body.length (List.drop (Int.toNat 512) l) = body := by rw [hbl, hbody]; rfl
  rw [q6]
  refine sum_at body ⟨hb8, by omega⟩ ⟨⟨by decide, rfl, rfl, ⟨rfl, rfl, fun j hj => by match j, hj with | 0, _ => rfl⟩, rfl, Nat.one_pos⟩, trivial⟩ ?_
  obtain ⟨w2, hw2⟩ : ∃ w2, w2 = moreL 0 body := ⟨_, rfl⟩
  rw [← hw2]
  repeat' (first
    | (with_reducible first | exact True.intro | apply And.intro | apply If_true | apply If_false | apply If_not)
    | ((with_reducible apply VC.mk); exact vt)
    | ((with_reducible apply If_dec) <;> intro hc <;> (try (exfalso; omega)))
    | ((with_reducible apply If_any) <;> intro hc)
    | ((with_reducible first | apply PF.mk | apply DrawP.mk); (focus kernel_rfl))
    | ((with_reducible apply Same.mk); (focus rfl); (first | exact trivial | exact rfl))
    | (intro cap hcap)
    | ((fail_if_success (with_reducible apply st)); conv => whnf))
  · exact bad _ rfl rfl rfl (no (fun h => hc (by rw [m5, hw2, hbody, m4]; exact h.2.2.2.2.2)))
  have ok : pendOk j l := ⟨by rw [← m1]; omega, by rw [← m6, ← hz, ← hw1]; omega, by rw [← m4]; omega, by rw [← m3]; omega, by rw [← hzz]; exact hz0.1 (by assumption), by rw [← m5, ← m4, ← hbody, ← hw2]; omega⟩
  have e1 : pendB j l = match decL body v3.toNat with
    | some rs => if ∀ r ∈ rs, j.out r.1 r.2.length then some rs else none
    | none => none := by unfold pendB; rw [if_pos ok, ← m4, ← hbody, ← m3]
  refine decode_at body v3 ⟨hb8, by omega, by omega⟩ ⟨⟨rfl, rfl, rfl⟩, rfl, trivial⟩ ?_
  intro d hd
  unfold decRel at hd
  simp only at hd
  obtain ⟨rs, hrs⟩ : ∃ rs, rs = d.2 := ⟨_, rfl⟩
  obtain ⟨er, her⟩ : ∃ er, er = d.1 := ⟨_, rfl⟩
  rw [← hrs, ← her] at hd
  rw [← hrs, ← her]
  repeat' (first
    | (with_reducible first | exact True.intro | apply And.intro | apply If_true | apply If_false | apply If_not)
    | ((with_reducible apply VC.mk); exact vt)
    | ((with_reducible apply If_dec) <;> intro hc <;> (try (exfalso; omega)))
    | ((with_reducible apply If_any) <;> intro hc)
    | ((with_reducible first | apply PF.mk | apply DrawP.mk); (focus kernel_rfl))
    | ((with_reducible apply Same.mk); (focus rfl); (first | exact trivial | exact rfl))
    | (intro cap hcap)
    | ((fail_if_success (with_reducible apply st)); conv => whnf))
  · rcases hd with ⟨t1, t2⟩ | ⟨t1, t2, t3⟩
    · exact absurd t1 hc
    · exact bad _ rfl rfl rfl (by rw [e1, t2])
  have hd2 : decL body v3.toNat = some rs := by
    rcases hd with ⟨t1, t2⟩ | ⟨t1, t2, t3⟩
    · exact t2
    · exact absurd (by rw [t1]; decide) hc
  obtain ⟨d1, d2, d3⟩ := decL_ok hb8 hd2
  rw [hd2] at e1
  simp only at e1
  refine LoopP.mk ⟨Nat, fun y => y ≤ rs.length ∧ ∀ q ∈ rs.take y, j.out q.1 q.2.length, fun y => ([(0, .p 0 0 1 0), (9, .v (.int .u64 v2)), (20, .im true 2 rs.length (recsC true rs)), (124, .im true 2 rs.length (recsC true rs)), (125, .v (.int .i64 rs.length)), (126, .v (.int .i64 y))], [j.blk 1, s.asked.pk]), fun y => rs.length - y, 0, ⟨Nat.zero_le _, by simp⟩, Fit.ren [0, 1] [] rfl rfl trivial (two_le rfl (Nat.le_of_ble_eq_true rfl) rfl rfl) ?_, ?_⟩
  · repeat' (first
    | (with_reducible first | exact True.intro | apply And.intro | apply If_true | apply If_false | apply If_not)
    | ((with_reducible apply VC.mk); exact vt)
    | ((with_reducible apply If_dec) <;> intro hc <;> (try (exfalso; omega)))
    | ((with_reducible apply If_any) <;> intro hc)
    | ((with_reducible first | apply PF.mk | apply DrawP.mk); (focus kernel_rfl))
    | ((with_reducible apply Same.mk); (focus rfl); (first | exact trivial | exact rfl))
    | (intro cap hcap)
    | ((fail_if_success (with_reducible apply st)); conv => whnf))
  · intro y hy
    obtain ⟨g1, g2⟩ := hy
    have e : ((y : Nat) : Int).toNat = y := Int.toNat_natCast _
    by_cases hlt : y < rs.length
    · have hm : rs.getD y (0, []) ∈ rs := by
        rw [show rs.getD y (0, []) = rs[y] by simp [List.getD_eq_getElem?_getD, hlt]]; exact List.getElem_mem hlt
      have hok := (d3 _ hm).2.2.1
      repeat' (first
    | (with_reducible first | exact True.intro | apply And.intro | apply If_true | apply If_false | apply If_not)
    | ((with_reducible apply VC.mk); exact vt)
    | ((with_reducible apply If_dec) <;> intro hc <;> (try (exfalso; omega)))
    | ((with_reducible apply If_any) <;> intro hc)
    | ((with_reducible first | apply PF.mk | apply DrawP.mk); (focus kernel_rfl))
    | ((with_reducible apply Same.mk); (focus rfl); (first | exact trivial | exact rfl))
    | (intro cap hcap)
    | ((fail_if_success (with_reducible apply st)); conv => whnf))
      simp only [e] at *
      have ht : rs.take (y + 1) = rs.take y ++ [rs.getD y (0, [])] := by
        rw [List.take_add_one]; congr 1; simp [List.getD_eq_getElem?_getD, hlt]
      generalize rs.getD y (0, []) = r at *
      refine outside_at j s.asked r.1 (r.2.length : Int) 0 1 hj rfl rfl rfl ⟨rfl, rfl, rfl, trivial⟩ ?_
      intro b hb
      repeat' (first
    | (with_reducible first | exact True.intro | apply And.intro | apply If_true | apply If_false | apply If_not)
    | ((with_reducible apply VC.mk); exact vt)
    | ((with_reducible apply If_dec) <;> intro hc <;> (try (exfalso; omega)))
    | ((with_reducible apply If_any) <;> intro hc)
    | ((with_reducible first | apply PF.mk | apply DrawP.mk); (focus kernel_rfl))
    | ((with_reducible apply Same.mk); (focus rfl); (first | exact trivial | exact rfl))
    | (intro cap hcap)
    | ((fail_if_success (with_reducible apply st)); conv => whnf))
      · refine Round.mk ⟨y + 1, ⟨by show y + 1 ≤ _; omega, fun q hq => ?_⟩, by show rs.length - (y + 1) < rs.length - y; omega, Fit.ren [0, 1] [] rfl rfl trivial (two_le rfl (Nat.le_of_ble_eq_true rfl) rfl rfl) ?_⟩
        · rw [ht, List.mem_append] at hq
          rcases hq with hq | hq
          · exact g2 q hq
          · rw [List.mem_singleton] at hq; subst hq; exact hb.1 hc
        · repeat' (first
    | (with_reducible first | exact True.intro | apply And.intro | apply If_true | apply If_false | apply If_not)
    | ((with_reducible apply VC.mk); exact vt)
    | ((with_reducible apply If_dec) <;> intro hc <;> (try (exfalso; omega)))
    | ((with_reducible apply If_any) <;> intro hc)
    | ((with_reducible first | apply PF.mk | apply DrawP.mk); (focus kernel_rfl))
    | ((with_reducible apply Same.mk); (focus rfl); (first | exact trivial | exact rfl))
    | (intro cap hcap)
    | ((fail_if_success (with_reducible apply st)); conv => whnf))
      · exact bad _ rfl rfl rfl (by rw [e1, if_neg (fun h => by rw [hb.2 (h r hm)] at hc; cases hc)])
    · have e5 : rs.take y = rs := List.take_of_length_le (by omega)
      rw [e5] at g2
      rw [if_pos g2] at e1
      repeat' (first
    | (with_reducible first | exact True.intro | apply And.intro | apply If_true | apply If_false | apply If_not)
    | ((with_reducible apply VC.mk); exact vt)
    | ((with_reducible apply If_dec) <;> intro hc <;> (try (exfalso; omega)))
    | ((with_reducible apply If_any) <;> intro hc)
    | ((with_reducible first | apply PF.mk | apply DrawP.mk); (focus kernel_rfl))
    | ((with_reducible apply Same.mk); (focus rfl); (first | exact trivial | exact rfl))
    | (intro cap hcap)
    | ((fail_if_success (with_reducible apply st)); conv => whnf))
      refine Fin.ren [0, 1] [] (pendV (0, some rs, { j with seq := v2 })) [JR.blk { j with seq := v2 } 1, s.asked.pk] rfl rfl trivial (two_le rfl (Nat.le_of_ble_eq_true rfl) rfl rfl) ⟨⟨VC.mk ⟨rfl, rfl, rfl⟩, VC.mk ⟨rfl, rfl⟩, fun j hj => ⟨VC.mk rfl, ⟨VC.mk ⟨rfl, rfl, rfl⟩, VC.mk ⟨rfl, rfl⟩⟩, trivial⟩⟩, VC.mk rfl, VC.mk rfl, trivial⟩ (hk _ (by rw [e0, e1, ← m2]))
def pendingOk (x : JR × DF × Int) : Prop := x.1.Ok ∧ x.2.1.Ok x.2.2 ∧ x.2.2 ≤ 274877906944 ∧ B8 x.2.1.now
def pendingRel (x : JR × DF × Int) (r : Int × Option (List RecR) × JR) : Prop := r = DF.pend x.1 x.2.1
theorem pending_K : ConOk Go.Proofs.Try.prog 80 (Con.of (JR × DF × Int) (Int × Option (List RecR) × JR) (fun x => [.p 0 0 1 0]) (fun x => [x.1.blk 1, x.2.1.pk]) pendingOk pendingRel (fun x r => pendV r) (fun x r => [JR.blk (r.2.2) 1, DF.pk (x.2.1.asked)])) := by
  refine conOk_rel (T := tab) mix Go.Proofs.Try.func80 (by decide +kernel) (by kernel_rfl) [] p80 (fun n => by rw [Go.Proofs.Try.ntmps80]; exact Nat.le_of_ble_eq_true rfl) (fun x r _ _ => J2.good (pendV_noF r)) (fun x _ => J2.nd) ?_
  intro x k h0 hk
  exact pending_c x.1 x.2.1 x.2.2 k h0 (fun r hr => hk r hr)
theorem pending_at {avs : List AV} {H : List Chunk} {k : K} (j : JR) (s : DF) (n : Int) (a b : Nat) (h0 : j.Ok ∧ s.Ok n ∧ n ≤ 274877906944 ∧ B8 s.now) (hab : nodupN [a, b] = true) (ha0 : nth H a = some (j.blk b)) (hb0 : nth H b = some s.pk) (ha : argsM H [a, b] [.p 0 0 1 0] avs)
    (h : ∀ r : Int × Option (List RecR) × JR, (r = DF.pend j s) → k (pendV r) ((H.set a (JR.blk (r.2.2) b)).set b (DF.pk (s.asked)))) : CallP Go.Proofs.Try.prog 80 avs H k :=
  CallP.mk ⟨_, pending_K.real, Con.spec pending_K, (j, s, n), [a, b], ⟨h0, hab, ⟨ha0, hb0, trivial⟩, ha⟩, fun r hr => (numK_eq _ _).mpr (by simpa [putAll, AV.ren, rens, Cont.ren, Chunk.ren, DF.pk, JR.blk, fren, nth, pendV_ren] using h r hr)⟩
end Go.Proofs.Ytcfmlnddmpiemaa.Sx


set_option maxRecDepth 10000
namespace Go.Proofs.Ytcfmlnddmpiemaa.Sx
open Go.RowKit Go.Proofs.Ytcfmlnddmpiemaa.Sx.Tb
end Go.Proofs.Ytcfmlnddmpiemaa.Sx


set_option maxRecDepth 10000
namespace Go.Proofs.Ytcfmlnddmpiemaa.Sx
open Go.RowKit Go.Proofs.Ytcfmlnddmpiemaa.Sx.Tb
end Go.Proofs.Ytcfmlnddmpiemaa.Sx


set_option maxRecDepth 10000
namespace Go.Proofs.Ytcfmlnddmpiemaa.Sx
open Go.RowKit Go.Proofs.Ytcfmlnddmpiemaa.Sx.Tb
/-! ### Replay, New -/
theorem cost_wrs_le : ∀ (rs : List RecR), cost (wrs rs) ≤ (encL rs).length
  | [] => Int.le_refl _
  | r :: rs => by
    have := cost_wrs_le rs
    have e : encL (r :: rs) = enc1 r ++ encL rs := rfl
    have e2 : wrs (r :: rs) = .wr r.1 r.2 :: wrs rs := rfl
    rw [e, e2, cost, List.length_append, enc1_length]
    show 1 + (r.2.length : Int) + cost (wrs rs) ≤ _
    omega
theorem pendB_ok {j : JR} {b : List Int} (hb : B8 b) {rs : List RecR} (h : pendB j b = some rs) : (encL rs).length ≤ b.length ∧ (rs.length : Int) ≤ (j.size - 512) / 12 ∧ ∀ r ∈ rs, j.out r.1 r.2.length ∧ r.2.length ≤ b.length ∧ B8 r.2 := by
  unfold pendB at h
  split at h
  · rename_i hp
    cases hd : decL ((b.drop 512).take (le4 b 16).toNat) (le4 b 12).toNat with
    | none => rw [hd] at h; cases h
    | some u =>
      rw [hd] at h
      simp only at h
      split at h
      · rename_i hu
        cases h
        obtain ⟨d1, d2, d3⟩ := decL_ok ((hb.drop _).take _) hd
        have hl : ((b.drop 512).take (le4 b 16).toNat).length ≤ b.length := by simp only [List.length_take, List.length_drop]; omega
        have h12 := hp.2.2.2.1
        have h0 : 0 ≤ le4 b 12 := (leV_bound (hb.drop _) 4).1
        exact ⟨by omega, by omega, fun r hr => ⟨hu r hr, by have := (d3 r hr).2.2.1; omega, (d3 r hr).2.2.2⟩⟩
      · cases h
  · cases h
theorem DF.pend_ok {j : JR} {s : DF} (hs : B8 s.now) {rs : List RecR} (h : (s.pend j).2.1 = some rs) : pendB j (j.part s) = some rs ∧ s.pend j = (0, some rs, { j with seq := le8 (j.part s) 4 }) ∧ ¬ s.refB = true ∧ j.pos + j.size ≤ s.now.length := by
  unfold DF.pend at h
  split at h
  · cases h
  · rename_i h1
    split at h
    · cases h
    · rename_i h2
      cases hp : pendB j (j.part s) with
      | none => rw [hp] at h; cases h
      | some u =>
        rw [hp] at h
        cases h
        refine ⟨rfl, ?_, h1, by omega⟩
        unfold DF.pend
        rw [if_neg h1, if_neg h2, hp]
def applyOps (j : JR) (z : List Int) (rs : List RecR) : List FOp := wrs rs ++ [.fl, .wr j.pos z, .fl]
/-- A replay: how many, an error's number, the journal, the file. -/
def DF.replay (j : JR) (z : List Int) (s : DF) : Int × Int × JR × DF :=
  match (s.pend j).2.1 with
  | some rs => (rs.length, (s.asked.run (applyOps j z rs)).1, (s.pend j).2.2, (s.asked.run (applyOps j z rs)).2)
  | none => (0, (s.pend j).1, j, s.asked)
theorem DF.pend_none {j : JR} {s : DF} (h : (s.pend j).2.1 = none) : (s.pend j).2.2 = j := by
  unfold DF.pend at *
  split
  · rfl
  · rename_i h1
    rw [if_neg h1] at h
    split
    · rfl
    · rename_i h2
      rw [if_neg h2] at h
      cases hp : pendB j (j.part s) with
      | none => rfl
      | some u => rw [hp] at h; cases h
set_option maxHeartbeats 16000000 in
theorem replay_c (j : JR) (s : DF) (n : Int) (z : List Int) (k : K) (h0 : j.Ok ∧ s.Ok n ∧ n ≤ 68719476736 ∧ B8 s.now ∧ z = List.replicate 512 0) (hk : ∀ x, x = s.replay j z → k (.tup [.v (.int .i64 x.1), .v (.int .i64 x.2.1)]) [x.2.2.1.blk 1, x.2.2.2.pk]) : evFunc tab [] [] Go.Proofs.Try.f28 [.p 0 0 1 0] [j.blk 1, s.pk] k := by
  obtain ⟨hj, h7, h8, h9, hz⟩ := h0
  repeat' (first
    | (with_reducible first | exact True.intro | apply And.intro | apply If_true | apply If_false | apply If_not)
    | ((with_reducible apply VC.mk); exact vt)
    | ((with_reducible apply If_dec) <;> intro hc <;> (try (exfalso; omega)))
    | ((with_reducible apply If_any) <;> intro hc)
    | ((with_reducible first | apply PF.mk | apply DrawP.mk); (focus kernel_rfl))
    | ((with_reducible apply Same.mk); (focus rfl); (first | exact trivial | exact rfl))
    | (intro cap hcap)
    | ((fail_if_success (with_reducible apply st)); conv => whnf))
  refine pending_at j s n 0 1 ⟨hj, h7, by omega, h9⟩ rfl rfl rfl ⟨rfl, trivial⟩ ?_
  intro p hp
  unfold pendV
  have none : p.2.1 = none → (0, p.1, p.2.2, s.asked) = s.replay j z := fun h => by
    rw [hp] at h
    unfold DF.replay
    rw [h, hp, DF.pend_none h]
  have e12 : p.1 ≠ 0 → p.2.1 = Option.none := fun h => by
    cases hq : p.2.1 with
    | none => rfl
    | some rs =>
      rw [hp] at hq
      obtain ⟨-, q2, -⟩ := DF.pend_ok h9 hq
      rw [hp, q2] at h
      exact absurd rfl h
  repeat' (first
    | (with_reducible first | exact True.intro | apply And.intro | apply If_true | apply If_false | apply If_not)
    | ((with_reducible apply VC.mk); exact vt)
    | ((with_reducible apply If_dec) <;> intro hc <;> (try (exfalso; omega)))
    | ((with_reducible apply If_any) <;> intro hc)
    | ((with_reducible first | apply PF.mk | apply DrawP.mk); (focus kernel_rfl))
    | ((with_reducible apply Same.mk); (focus rfl); (first | exact trivial | exact rfl))
    | (intro cap hcap)
    | ((fail_if_success (with_reducible apply st)); conv => whnf))
  · exact J2.fin (j := p.2.2) (s := s.asked) rfl rfl rfl (hk _ (none (e12 hc)))
  · obtain ⟨rs, hrs⟩ : ∃ rs, p.2.1 = some rs := Option.isSome_iff_exists.1 hc
    have hq : (s.pend j).2.1 = some rs := by rw [← hp]; exact hrs
    obtain ⟨q1, q2, q3, q4⟩ := DF.pend_ok h9 hq
    have hb8 : B8 (j.part s) := (h9.drop _).take _
    obtain ⟨o1, o2, o3⟩ := pendB_ok hb8 q1
    obtain ⟨j1, j2, j3, j4, j5, j6⟩ := hj
    have hpl : (j.part s).length ≤ 4194304 := by unfold JR.part; simp only [List.length_take, List.length_drop]; omega
    have hcost := cost_wrs_le rs
    have hc0 := cost_nonneg (wrs rs)
    rw [q2] at hp
    subst hp
    simp only [Option.getD_some]
    have hsq : 0 ≤ le8 (j.part s) 4 ∧ le8 (j.part s) 4 < 18446744073709551616 := leV_bound (hb8.drop _) 8
    refine apply_at { j with seq := le8 (j.part s) 4 } s.asked (n + 1) z rs 0 1 ⟨⟨j1, j2, j3, j4, hsq.1, hsq.2⟩, h7.ask, by omega, by omega, fun r hr => by have := (o3 r hr).2.1; omega, by omega, hz⟩ rfl rfl rfl ⟨rfl, ⟨rfl, rfl, ⟨rfl, rfl, fun _ _ => rfl⟩⟩, trivial⟩ ?_
    intro x hx
    repeat' (first
    | (with_reducible first | exact True.intro | apply And.intro | apply If_true | apply If_false | apply If_not)
    | ((with_reducible apply VC.mk); exact vt)
    | ((with_reducible apply If_dec) <;> intro hc <;> (try (exfalso; omega)))
    | ((with_reducible apply If_any) <;> intro hc)
    | ((with_reducible first | apply PF.mk | apply DrawP.mk); (focus kernel_rfl))
    | ((with_reducible apply Same.mk); (focus rfl); (first | exact trivial | exact rfl))
    | (intro cap hcap)
    | ((fail_if_success (with_reducible apply st)); conv => whnf))
    have e : ((rs.length : Int), x.1, ({ j with seq := le8 (j.part s) 4 } : JR), x.2) = s.replay j z := by
      unfold DF.replay applyOps
      rw [q2]
      simp only
      rw [hx]
    exact J2.fin (j := { j with seq := le8 (j.part s) 4 }) (s := x.2) rfl rfl rfl (hk _ e)
  · exact J2.fin (j := p.2.2) (s := s.asked) rfl rfl rfl (hk _ (none (Option.isSome_eq_false_iff.1 hc |> Option.isNone_iff_eq_none.1)))
def replayOk (x : JR × DF × Int × List Int) : Prop := x.1.Ok ∧ x.2.1.Ok x.2.2.1 ∧ x.2.2.1 ≤ 68719476736 ∧ B8 x.2.1.now ∧ x.2.2.2 = List.replicate 512 0
def replayRel (x : JR × DF × Int × List Int) (r : Int × Int × JR × DF) : Prop := r = DF.replay x.1 x.2.2.2 x.2.1
theorem replay_K : ConOk Go.Proofs.Try.prog 28 (Con.of (JR × DF × Int × List Int) (Int × Int × JR × DF) (fun x => [.p 0 0 1 0]) (fun x => [x.1.blk 1, x.2.1.pk]) replayOk replayRel (fun x r => .tup [.v (.int .i64 r.1), .v (.int .i64 r.2.1)]) (fun x r => [JR.blk (r.2.2.1) 1, DF.pk (r.2.2.2)])) := by
  refine conOk_rel (T := tab) mix Go.Proofs.Try.func28 (by decide +kernel) (by kernel_rfl) [] [] (fun n => by rw [Go.Proofs.Try.ntmps28]; exact Nat.le_of_ble_eq_true rfl) (fun x r _ _ => J2.good (by simp [AV.noF, noFs, Cont.noF])) (fun x _ => J2.nd) ?_
  intro x k h0 hk
  exact replay_c x.1 x.2.1 x.2.2.1 x.2.2.2 k h0 (fun r hr => hk r hr)
theorem replay_at {avs : List AV} {H : List Chunk} {k : K} (j : JR) (s : DF) (n : Int) (z : List Int) (a b : Nat) (h0 : j.Ok ∧ s.Ok n ∧ n ≤ 68719476736 ∧ B8 s.now ∧ z = List.replicate 512 0) (hab : nodupN [a, b] = true) (ha0 : nth H a = some (j.blk b)) (hb0 : nth H b = some s.pk) (ha : argsM H [a, b] [.p 0 0 1 0] avs)
    (h : ∀ r : Int × Int × JR × DF, (r = DF.replay j z s) → k (.tup [.v (.int .i64 r.1), .v (.int .i64 r.2.1)]) ((H.set a (JR.blk (r.2.2.1) b)).set b (DF.pk (r.2.2.2)))) : CallP Go.Proofs.Try.prog 28 avs H k :=
  CallP.mk ⟨_, replay_K.real, Con.spec replay_K, (j, s, n, z), [a, b], ⟨h0, hab, ⟨ha0, hb0, trivial⟩, ha⟩, fun r hr => (numK_eq _ _).mpr (by simpa [putAll, AV.ren, rens, Cont.ren, Chunk.ren, DF.pk, JR.blk, fren, nth] using h r hr)⟩
def newE (s : DF) (pos size : Int) : Int := if pos < 0 ∨ pos % 512 ≠ 0 ∨ size % 512 ≠ 0 then 19 else if size < 1024 ∨ (s.now.length : Int) < pos ∨ (s.now.length : Int) - pos < size then 4 else 0
theorem tmod512 (a : Int) : a.tmod 512 = 0 ↔ a % 512 = 0 := by
  rw [← Int.dvd_iff_tmod_eq_zero, ← Int.dvd_iff_emod_eq_zero]
set_option maxHeartbeats 16000000 in
theorem jnew_c (s : DF) (pos size : Int) (k : K) (h0 : s.now.length ≤ 4194304 ∧ inR .i64 size ∧ inR .i64 pos) (hk1 : newE s pos size ≠ 0 → k (.tup [.v (.pointer none), .v (.int .i64 (newE s pos size))]) [s.pk]) (hk2 : newE s pos size = 0 → k (.tup [.p 1 0 1 0, .v (.int .i64 0)]) [s.pk, JR.blk ⟨pos, size, 0⟩ 0]) : evFunc tab [16, 21] [] Go.Proofs.Try.f23 [.p 0 0 1 0, .v (.int .i64 pos), .v (.int .i64 size)] [s.pk] k := by
  obtain ⟨h1, h2, h3⟩ := h0
  have t1 := tmod512 pos
  have t2 := tmod512 size
  repeat' (first
    | (with_reducible first | exact True.intro | apply And.intro | apply If_true | apply If_false | apply If_not)
    | ((with_reducible apply VC.mk); exact vt)
    | ((with_reducible apply If_dec) <;> intro hc <;> (try (exfalso; omega)))
    | ((with_reducible apply If_any) <;> intro hc)
    | ((with_reducible first | apply PF.mk | apply DrawP.mk); (focus kernel_rfl))
    | ((with_reducible apply Same.mk); (focus rfl); (first | exact trivial | exact rfl))
    | (intro cap hcap)
    | ((fail_if_success (with_reducible apply st)); conv => whnf))
  · have e : newE s pos size = 19 := by unfold newE; rw [if_pos (.inl hc)]
    exact Fin.same (by rw [← e]; exact hk1 (by rw [e]; decide))
  · have e : newE s pos size = 19 := by unfold newE; rw [if_pos (.inr (.inl (fun h => hc (t1.2 h))))]
    exact Fin.same (by rw [← e]; exact hk1 (by rw [e]; decide))
  · have e : newE s pos size = 19 := by unfold newE; rw [if_pos (.inr (.inr (fun h => hc (t2.2 h))))]
    exact Fin.same (by rw [← e]; exact hk1 (by rw [e]; decide))
  all_goals have c0 : ¬ (pos < 0 ∨ pos % 512 ≠ 0 ∨ size % 512 ≠ 0) := (by have y1 := t1.1 (Decidable.not_not.mp (by assumption)); have y2 := t2.1 (Decidable.not_not.mp (by assumption)); omega)
  · have e : newE s pos size = 4 := by unfold newE; rw [if_neg c0, if_pos (.inl hc)]
    exact Fin.same (by rw [← e]; exact hk1 (by rw [e]; decide))
  refine len_at s 0 (by omega) rfl ⟨rfl, trivial⟩ (fun _ => ?_)
  repeat' (first
    | (with_reducible first | exact True.intro | apply And.intro | apply If_true | apply If_false | apply If_not)
    | ((with_reducible apply VC.mk); exact vt)
    | ((with_reducible apply If_dec) <;> intro hc <;> (try (exfalso; omega)))
    | ((with_reducible apply If_any) <;> intro hc)
    | ((with_reducible first | apply PF.mk | apply DrawP.mk); (focus kernel_rfl))
    | ((with_reducible apply Same.mk); (focus rfl); (first | exact trivial | exact rfl))
    | (intro cap hcap)
    | ((fail_if_success (with_reducible apply st)); conv => whnf))
  · have e : newE s pos size = 4 := by unfold newE; rw [if_neg c0, if_pos (.inr (.inl hc))]
    exact Fin.same (by rw [← e]; exact hk1 (by rw [e]; decide))
  refine len_at s 0 (by omega) rfl ⟨rfl, trivial⟩ (fun _ => ?_)
  repeat' (first
    | (with_reducible first | exact True.intro | apply And.intro | apply If_true | apply If_false | apply If_not)
    | ((with_reducible apply VC.mk); exact vt)
    | ((with_reducible apply If_dec) <;> intro hc <;> (try (exfalso; omega)))
    | ((with_reducible apply If_any) <;> intro hc)
    | ((with_reducible first | apply PF.mk | apply DrawP.mk); (focus kernel_rfl))
    | ((with_reducible apply Same.mk); (focus rfl); (first | exact trivial | exact rfl))
    | (intro cap hcap)
    | ((fail_if_success (with_reducible apply st)); conv => whnf))
  · have e : newE s pos size = 4 := by unfold newE; rw [if_neg c0, if_pos (.inr (.inr hc))]
    exact Fin.same (by rw [← e]; exact hk1 (by rw [e]; decide))
  · have e : newE s pos size = 0 := by unfold newE; rw [if_neg c0, if_neg (by omega)]
    exact Fin.same (hk2 e)
end Go.Proofs.Ytcfmlnddmpiemaa.Sx


set_option maxRecDepth 10000
namespace Go.Proofs.Ytcfmlnddmpiemaa.Sx
open Go.RowKit Go.Proofs.Ytcfmlnddmpiemaa.Sx.Tb
theorem jnew_K : ConOk Go.Proofs.Try.prog 23 ⟨DF × Int × Int, fun x => [.p 0 0 1 0, .v (.int .i64 x.2.1), .v (.int .i64 x.2.2)], fun x => [x.1.pk], fun x => x.1.now.length ≤ 4194304 ∧ inR .i64 x.2.2 ∧ inR .i64 x.2.1, fun x k => (newE x.1 x.2.1 x.2.2 ≠ 0 → k (.tup [.v (.pointer none), .v (.int .i64 (newE x.1 x.2.1 x.2.2))]) [x.1.pk]) ∧ (newE x.1 x.2.1 x.2.2 = 0 → k (.tup [.p 1 0 1 0, .v (.int .i64 0)]) [x.1.pk, JR.blk ⟨x.2.1, x.2.2, 0⟩ 0])⟩ := by
  refine conOk_fin (T := tab) mix Go.Proofs.Try.func23 (by decide +kernel) (by kernel_rfl) [16, 21] [] ?_ ?_ ?_ ?_
  · intro x h0; rw [Go.Proofs.Try.ntmps23]; exact Nat.le_of_ble_eq_true rfl
  · intro x k h0 hk; exact ⟨fun h => ⟨hk.1 h, DF.goodP _ (by simp [AV.noF, noFs])⟩, fun h => ⟨hk.2 h, ⟨by simp [AV.noF, noFs], (fun c hc => by simp at hc; rcases hc with rfl | rfl; exact DF.pk_noF _; exact JR.noF _ _), Nat.le_of_ble_eq_true rfl⟩⟩⟩
  · intro x h0; exact DF.ndP x.1
  · intro x k h0 hk; exact jnew_c x.1 x.2.1 x.2.2 _ h0 (fun h => Fin.same (hk.1 h)) (fun h => Fin.same (hk.2 h))
theorem jnew_at {avs : List AV} {H : List Chunk} {k : K} (s : DF) (pos size : Int) (i : Nat) (h0 : s.now.length ≤ 4194304 ∧ inR .i64 size ∧ inR .i64 pos) (hc : nth H i = some s.pk) (ha : argsM H [i] [.p 0 0 1 0, .v (.int .i64 pos), .v (.int .i64 size)] avs) (h1 : newE s pos size ≠ 0 → k (.tup [.v (.pointer none), .v (.int .i64 (newE s pos size))]) (H.set i s.pk))
    (h2 : newE s pos size = 0 → k (.tup [.p H.length 0 1 0, .v (.int .i64 0)]) (H.set i s.pk ++ [JR.blk ⟨pos, size, 0⟩ i])) : CallP Go.Proofs.Try.prog 23 avs H k :=
  CallP.mk ⟨_, jnew_K.real, Con.spec jnew_K, (s, pos, size), [i], ⟨h0, rfl, ⟨hc, trivial⟩, ha⟩, fun h => (numK_eq _ _).mpr (by simpa [putAll, AV.ren, rens, DF.pk, Chunk.ren] using h1 h), fun h => (numK_eq _ _).mpr (by simpa [putAll, AV.ren, rens, fren, nth, Chunk.ren, Cont.ren, DF.pk, JR.blk] using h2 h)⟩
end Go.Proofs.Ytcfmlnddmpiemaa.Sx


set_option maxRecDepth 10000
namespace Go.Proofs.Ytcfmlnddmpiemaa.Sx
/-! ### What is signed is pending -/
theorem putB_mid (P Q R : List Int) (n : Nat) (v : Int) (h : Q.length = n) (p : Nat) (hp : P.length = p) : putB (P ++ (Q ++ R)) p n v = P ++ (leB n v ++ R) := by
  subst hp h
  rw [putB_eq _ _ _ _ (by simp)]
  have e1 : (P ++ (Q ++ R)).take P.length = P := by simp
  have e2 : (P ++ (Q ++ R)).drop (P.length + Q.length) = R := by rw [← List.append_assoc, ← List.length_append]; simp
  rw [e1, e2, List.append_assoc]
def headL (seq : Int) (n : Nat) (body : List Int) : List Int := leB 4 826954822 ++ (leB 8 seq ++ (leB 4 (n : Int) ++ (leB 4 (body.length : Int) ++ leB 4 (moreL 0 body))))
theorem headL_length (seq : Int) (n : Nat) (body : List Int) : (headL seq n body).length = 24 := by simp [headL, leB_length]
theorem signL_eq (seq : Int) (n : Nat) (body : List Int) : signL seq n body = headL seq n body ++ (leB 4 (moreL 0 (headL seq n body)) ++ List.replicate 484 0) := by
  have r : ∀ Z : List Int, Z = List.replicate 484 0 → List.replicate 512 (0:Int) = [] ++ (List.replicate 4 0 ++ (List.replicate 8 0 ++ (List.replicate 4 0 ++ (List.replicate 4 0 ++ (List.replicate 4 0 ++ (List.replicate 4 0 ++ Z)))))) := by
    intro Z hZ
    subst hZ
    simp only [List.replicate_append_replicate, List.nil_append]
  obtain ⟨Z, hZ⟩ : ∃ Z : List Int, Z = List.replicate 484 0 := ⟨_, rfl⟩
  have r := r Z hZ
  rw [← hZ]
  obtain ⟨W, hW⟩ : ∃ W : List Int, W = List.replicate 512 0 := ⟨_, rfl⟩
  unfold signL
  rw [← hW] at r ⊢
  clear hZ hW
  obtain ⟨sum, hsum⟩ : ∃ x, x = moreL 0 body := ⟨_, rfl⟩
  have h4 : (List.replicate 4 (0:Int)).length = 4 := rfl
  have h8 : (List.replicate 8 (0:Int)).length = 8 := rfl
  simp only
  rw [r, putB_mid [] _ _ 4 _ h4 0 rfl, List.nil_append]
  rw [putB_mid (leB 4 826954822) _ _ 8 _ h8 4 (leB_length _ _)]
  rw [← List.append_assoc (leB 4 826954822), putB_mid (leB 4 826954822 ++ leB 8 seq) _ _ 4 _ h4 12 (by simp [leB_length])]
  rw [← List.append_assoc (leB 4 826954822 ++ leB 8 seq), putB_mid _ _ _ 4 _ h4 16 (by simp [leB_length])]
  rw [← List.append_assoc (leB 4 826954822 ++ leB 8 seq ++ leB 4 (n : Int)), putB_mid _ _ _ 4 _ h4 20 (by simp [leB_length])]
  rw [← List.append_assoc (leB 4 826954822 ++ leB 8 seq ++ leB 4 (n : Int) ++ leB 4 (body.length : Int))]
  have hh : leB 4 826954822 ++ leB 8 seq ++ leB 4 (n : Int) ++ leB 4 (body.length : Int) ++ leB 4 (moreL 0 body) = headL seq n body := by simp [headL]
  rw [hh, putB_mid _ _ _ 4 _ h4 24 (headL_length _ _ _)]
  have ht : (headL seq n body ++ (List.replicate 4 0 ++ Z)).take 24 = headL seq n body := by
    rw [← headL_length seq n body]; simp
  rw [ht]
theorem le4_mid (P : List Int) (v : Int) (R : List Int) (p : Nat) (hp : P.length = p) (h : 0 ≤ v ∧ v < 4294967296) : le4 (P ++ (leB 4 v ++ R)) p = v := by
  subst hp
  unfold le4
  have e : ((P ++ (leB 4 v ++ R)).drop P.length).take 4 = leB 4 v := by
    rw [List.drop_left, List.take_append_of_le_length (by rw [leB_length]; exact Nat.le_refl _)]
    exact List.take_of_length_le (by rw [leB_length]; exact Nat.le_refl _)
  rw [e, leV_leB 4 v h.1 (by have := h.2; simpa using this)]
theorem le8_mid (P : List Int) (v : Int) (R : List Int) (p : Nat) (hp : P.length = p) (h : 0 ≤ v ∧ v < 18446744073709551616) : le8 (P ++ (leB 8 v ++ R)) p = v := by
  subst hp
  unfold le8
  have e : ((P ++ (leB 8 v ++ R)).drop P.length).take 8 = leB 8 v := by
    rw [List.drop_left, List.take_append_of_le_length (by rw [leB_length]; exact Nat.le_refl _)]
    exact List.take_of_length_le (by rw [leB_length]; exact Nat.le_refl _)
  rw [e, leV_leB 8 v h.1 (by have := h.2; simpa using this)]
def recP (r : RecR) : Prop := 0 ≤ r.1 ∧ r.1 ≤ 4194304 ∧ r.2.length < 4294967296
theorem dec1_mid (P : List Int) (r : RecR) (T : List Int) (p : Nat) (hp : P.length = p) (h : recP r) : dec1 (P ++ (enc1 r ++ T)) p = some r := by
  obtain ⟨h1, h2, h3⟩ := h
  have a8 : le8 (P ++ (enc1 r ++ T)) p = r.1 := by
    unfold enc1
    rw [List.append_assoc, List.append_assoc]
    exact le8_mid P r.1 _ p hp ⟨h1, by omega⟩
  have a4 : le4 (P ++ (enc1 r ++ T)) (p + 8) = (r.2.length : Int) := by
    unfold enc1
    rw [List.append_assoc, List.append_assoc, ← List.append_assoc P]
    exact le4_mid _ _ _ (p + 8) (by rw [List.length_append, leB_length, hp]) ⟨by omega, by omega⟩
  have e : ((P ++ (enc1 r ++ T)).drop (p + 12)).take (r.2.length : Int).toNat = r.2 := by
    have e1 : P ++ (enc1 r ++ T) = (P ++ (leB 8 r.1 ++ leB 4 (r.2.length : Int))) ++ (r.2 ++ T) := by unfold enc1; simp [List.append_assoc]
    have e2 : (P ++ (leB 8 r.1 ++ leB 4 (r.2.length : Int))).length = p + 12 := by simp [leB_length, hp]
    rw [e1, ← e2, List.drop_left, Int.toNat_natCast, List.take_left]
  unfold dec1
  rw [a4, a8, e, if_pos]
  refine ⟨?_, ?_, h2⟩ <;> rw [List.length_append, List.length_append, enc1_length, hp] <;> omega
theorem decF_enc (rs : List RecR) (h : ∀ r ∈ rs, recP r) : ∀ i, i ≤ rs.length → decF (encL rs) i = some (rs.take i, (encL (rs.take i)).length)
  | 0, _ => rfl
  | i + 1, hi => by
    have ih := decF_enc rs h i (by omega)
    have hm : rs[i] ∈ rs := List.getElem_mem (by omega)
    have e : encL rs = encL (rs.take i) ++ (enc1 rs[i] ++ encL (rs.drop (i + 1))) := by
      have : rs = rs.take i ++ (rs[i] :: rs.drop (i + 1)) := by rw [← List.drop_eq_getElem_cons]; exact (List.take_append_drop i rs).symm
      have e2 : ∀ a b : List RecR, encL (a ++ b) = encL a ++ encL b := fun a b => by simp [encL]
      have e3 : encL rs = encL (rs.take i ++ (rs[i] :: rs.drop (i + 1))) := congrArg encL this
      rw [e3, e2]
      rfl
    have hd : dec1 (encL rs) (encL (rs.take i)).length = some rs[i] := by rw [e]; exact dec1_mid _ _ _ _ rfl (h _ hm)
    have hs := encL_snoc rs i (by omega)
    have hg : rs.getD i (0, []) = rs[i] := by rw [List.getD_eq_getElem?_getD, List.getElem?_eq_getElem (by omega), Option.getD_some]
    rw [hg] at hs
    rw [decF, ih]
    simp only [hd]
    rw [hs, List.length_append, enc1_length, List.take_add_one, List.getElem?_eq_getElem (by omega)]
    simp [Nat.add_assoc]
theorem decL_enc (rs : List RecR) (h : ∀ r ∈ rs, recP r) : decL (encL rs) rs.length = some rs := by
  unfold decL
  rw [decF_enc rs h _ (Nat.le_refl _), List.take_length]
  simp
/-- The journal's part, signed. -/
theorem pend_signed (j : JR) (seq : Int) (rs : List RecR) (rest : List Int) (hj : j.size - 512 ≤ 4294967295) (hs : 0 ≤ seq ∧ seq < 18446744073709551616) (ho : ∀ r ∈ rs, j.out r.1 r.2.length) (hr : ∀ r ∈ rs, recP r) (hn : (encL rs).length ≤ j.size - 512) :
    pendB j (signL seq rs.length (encL rs) ++ (encL rs ++ rest)) = some rs ∧ le8 (signL seq rs.length (encL rs) ++ (encL rs ++ rest)) 4 = seq := by
  have hcnt : (rs.length : Int) * 12 ≤ (encL rs).length := by
    clear ho hr hn
    induction rs with
    | nil => simp [encL]
    | cons r rs ih =>
      have : encL (r :: rs) = enc1 r ++ encL rs := rfl
      rw [this, List.length_append, enc1_length, List.length_cons]; omega
  obtain ⟨body, hb⟩ : ∃ body, body = encL rs := ⟨_, rfl⟩
  rw [← hb] at hn hcnt ⊢
  obtain ⟨Z, hZ⟩ : ∃ Z : List Int, Z = List.replicate 484 0 := ⟨_, rfl⟩
  have hZl : Z.length = 484 := by rw [hZ]; exact List.length_replicate ..
  have hH := headL_length seq rs.length body
  have hsg := signL_eq seq rs.length body
  rw [← hZ] at hsg
  have R1 := moreL_R 0 body
  have R2 := moreL_R 0 (headL seq rs.length body)
  obtain ⟨l, hl⟩ : ∃ l, l = signL seq rs.length body ++ (body ++ rest) := ⟨_, rfl⟩
  rw [← hl]
  have l1 : l = leB 4 826954822 ++ (leB 8 seq ++ (leB 4 (rs.length : Int) ++ (leB 4 (body.length : Int) ++ (leB 4 (moreL 0 body) ++ (leB 4 (moreL 0 (headL seq rs.length body)) ++ (Z ++ (body ++ rest))))))) := by
    rw [hl, hsg]; simp only [headL, List.append_assoc]
  have l2 : l = headL seq rs.length body ++ (leB 4 (moreL 0 (headL seq rs.length body)) ++ (Z ++ (body ++ rest))) := by
    rw [hl, hsg]; simp only [List.append_assoc]
  have L4 := leB_length 4
  have L8 := leB_length 8
  have m0 : le4 l 0 = 826954822 := by rw [l1]; exact le4_mid [] _ _ 0 rfl (by decide)
  have m4 : le8 l 4 = seq := by rw [l1]; exact le8_mid (leB 4 826954822) _ _ 4 (L4 _) hs
  have m12 : le4 l 12 = (rs.length : Int) := by
    rw [l1, ← List.append_assoc]; exact le4_mid _ _ _ 12 (by simp [L4, L8]) ⟨by omega, by omega⟩
  have m16 : le4 l 16 = (body.length : Int) := by
    rw [l1, ← List.append_assoc, ← List.append_assoc]; exact le4_mid _ _ _ 16 (by simp [L4, L8]) ⟨by omega, by omega⟩
  have m20 : le4 l 20 = moreL 0 body := by
    rw [l1, ← List.append_assoc, ← List.append_assoc, ← List.append_assoc]; exact le4_mid _ _ _ 20 (by simp [L4, L8]) R1
  have m24 : le4 l 24 = moreL 0 (headL seq rs.length body) := by rw [l2]; exact le4_mid _ _ _ 24 hH R2
  have t24 : l.take 24 = headL seq rs.length body := by rw [l2, ← hH]; exact List.take_left ..
  have z28 : (l.drop 28).take 484 = Z := by
    rw [l2, ← List.append_assoc]
    have : (headL seq rs.length body ++ leB 4 (moreL 0 (headL seq rs.length body))).length = 28 := by rw [List.length_append, hH, L4]
    rw [← this, List.drop_left, ← hZl, List.take_left]
  have b512 : (l.drop 512).take body.length = body := by
    rw [hl]
    have : (signL seq rs.length body).length = 512 := by rw [hsg, List.length_append, List.length_append, hH, L4, hZl]
    rw [← this, List.drop_left, List.take_left]
  refine ⟨?_, m4⟩
  have ok : pendOk j l := by
    refine ⟨m0, by rw [m24, t24], by rw [m16]; exact hn, by rw [m12]; omega, ?_, by rw [m20, m16, Int.toNat_natCast, b512]⟩
    rw [z28, hZ]
    intro x hx
    exact (List.mem_replicate.1 hx).2
  unfold pendB
  rw [if_pos ok, m16, m12, Int.toNat_natCast, Int.toNat_natCast, b512, hb, decL_enc rs hr]
  simp only
  rw [if_pos ho]
end Go.Proofs.Ytcfmlnddmpiemaa.Sx


set_option maxRecDepth 10000
namespace Go.Proofs.Ytcfmlnddmpiemaa.Sx
/-! ### What a file's bytes become -/
/-- Bytes at a place that isn't behind the end. -/
def putG (b : List Int) (p : Nat) (xs : List Int) : List Int := b.take p ++ (xs ++ b.drop (p + xs.length))
theorem putG_nil (b : List Int) (p : Nat) : putG b p [] = b := by simp [putG]
theorem putG_length {b : List Int} {p : Nat} {xs : List Int} (h : p ≤ b.length) : (putG b p xs).length = max b.length (p + xs.length) := by
  simp only [putG, List.length_append, List.length_take, List.length_drop]; omega
theorem putG_append {b : List Int} {p : Nat} (xs ys : List Int) (h : p ≤ b.length) : putG (putG b p xs) (p + xs.length) ys = putG b p (xs ++ ys) := by
  have e1 : (b.take p ++ xs).length = p + xs.length := by simp only [List.length_append, List.length_take]; omega
  have e2 : putG b p xs = (b.take p ++ xs) ++ b.drop (p + xs.length) := by simp [putG]
  have e3 : (putG b p xs).take (p + xs.length) = b.take p ++ xs := by rw [e2, ← e1, List.take_left]
  have e4 : (putG b p xs).drop (p + xs.length + ys.length) = b.drop (p + (xs ++ ys).length) := by
    rw [← List.drop_drop, e2, ← e1, List.drop_left, e1, List.drop_drop, List.length_append]
    congr 1; omega
  unfold putG at e3 e4 ⊢
  rw [e3, e4]
  simp [List.append_assoc]
theorem putG_B8 {b : List Int} {p : Nat} {xs : List Int} (h : B8 b) (h1 : B8 xs) : B8 (putG b p xs) := (h.take _).append (h1.append (h.drop _))
theorem putG_get {b : List Int} {p : Nat} {xs : List Int} (h : p ≤ b.length) (i : Nat) : (putG b p xs).getD i 0 = if p ≤ i ∧ i < p + xs.length then xs.getD (i - p) 0 else b.getD i 0 := by
  have hl : (b.take p).length = p := by simp only [List.length_take]; omega
  unfold putG
  simp only [List.getD_eq_getElem?_getD]
  by_cases h1 : i < p
  · rw [if_neg (by omega), List.getElem?_append_left (by omega), List.getElem?_take, if_pos h1]
  · rw [List.getElem?_append_right (by omega), hl]
    by_cases h2 : i < p + xs.length
    · rw [if_pos ⟨by omega, h2⟩, List.getElem?_append_left (by omega)]
    · rw [if_neg (by omega), List.getElem?_append_right (by omega), List.getElem?_drop]
      congr 2; omega
theorem layL_putG {b : List Int} {at_ : Int} {xs : List Int} (h0 : 0 ≤ at_) (h : at_.toNat ≤ b.length) : layL b false at_ xs = putG b at_.toNat xs := by
  have e0 : (at_ + xs.length).toNat = at_.toNat + xs.length := by omega
  unfold layL putG
  simp only [Bool.false_eq_true, if_false, List.append_assoc]
  unfold layP
  rw [e0, List.take_append_of_le_length h]
  congr 2
  by_cases hb : at_.toNat + xs.length ≤ b.length
  · rw [show at_.toNat + xs.length - b.length = 0 by omega]; simp
  · have a1 : b.drop (at_.toNat + xs.length) = [] := List.drop_eq_nil_of_le (by omega)
    rw [a1]
    exact List.drop_eq_nil_of_le (by simp only [List.length_append, List.length_replicate]; omega)
/-- A write's items: one for each sector. -/
def segs : Nat → Int → List Int → List (Bool × Int × List Int)
  | 0, _, _ => []
  | n + 1, at_, xs => if xs = [] then [] else (false, at_, xs.take (secN at_ xs.length)) :: segs n (at_ + secN at_ xs.length) (xs.drop (secN at_ xs.length))
theorem wrN_put : ∀ (n : Nat) (s : DF) (at_ : Int) (xs : List Int), xs.length ≤ n → 0 ≤ at_ → at_.toNat ≤ s.now.length → wrN n s at_ xs = { s with now := putG s.now at_.toNat xs, items := s.items ++ segs n at_ xs }
  | 0, s, at_, xs, hn, h0, h1 => by
    have : xs = [] := List.eq_nil_of_length_eq_zero (by omega)
    subst this
    rw [wrN, putG_nil, segs, List.append_nil]
  | n + 1, s, at_, xs, hn, h0, h1 => by
    by_cases hx : xs = []
    · subst hx
      rw [wrN, if_pos rfl, putG_nil, segs, if_pos rfl, List.append_nil]
    · have hp : 0 < xs.length := List.length_pos_iff.2 hx
      obtain ⟨c1, c2⟩ : 0 < secN at_ xs.length ∧ secN at_ xs.length ≤ xs.length := by unfold secN; omega
      rw [wrN, if_neg hx, segs, if_neg hx]
      generalize secN at_ xs.length = d at c1 c2 ⊢
      have e0 : (at_ + d).toNat = at_.toNat + d := by omega
      have tl : (xs.take d).length = d := by simp only [List.length_take]; omega
      rw [wrN_put n _ _ _ (by simp only [List.length_drop]; omega) (by omega) (by simp only []; rw [layL_putG h0 h1, putG_length h1, tl, e0]; omega)]
      simp only
      rw [layL_putG h0 h1, e0]
      have := putG_append (b := s.now) (p := at_.toNat) (xs.take d) (xs.drop d) h1
      rw [tl, List.take_append_drop] at this
      rw [this]
      simp [List.append_assoc]
theorem wrote1_put (s : DF) (at_ : Int) (xs : List Int) (h0 : 0 ≤ at_) (h1 : at_.toNat ≤ s.now.length) : s.wrote1 at_ xs = { s with now := putG s.now at_.toNat xs, items := s.items ++ segs xs.length at_ xs, ops := s.ops + 1, wrote := s.wrote + 1 } := by
  unfold DF.wrote1
  exact wrN_put _ _ _ _ (Nat.le_refl _) h0 h1
end Go.Proofs.Ytcfmlnddmpiemaa.Sx


set_option maxRecDepth 10000
namespace Go.Proofs.Ytcfmlnddmpiemaa.Sx
theorem DF.live.refB {s : DF} (h : s.live) : ¬ s.refB = true := fun e => h.not ((DF.refB_iff s).1 e)
theorem calm_wr {s : DF} (c : s.live) {at_ : Int} {xs : List Int} (h0 : 0 ≤ at_) (h1 : at_ + xs.length ≤ 4194304) (h2 : at_.toNat ≤ s.now.length) : s.doOp (.wr at_ xs) = (0, { s with now := putG s.now at_.toNat xs, items := s.items ++ segs xs.length at_ xs, ops := s.ops + 1, wrote := s.wrote + 1 }) := by
  rw [DF.doOp_wr, if_neg c.refB, if_neg (by omega), if_neg (by omega), wrote1_put s at_ xs h0 h2]
theorem calm_fl {s : DF} (c : s.live) : s.doOp .fl = (0, s.flushed) := by
  rw [DF.doOp_fl, if_neg c.refB]
/-- What a write and a flush make of a file that isn't refused. -/
theorem calm_two {s : DF} (c : s.live) {at_ : Int} {xs : List Int} (h0 : 0 ≤ at_) (h1 : at_ + xs.length ≤ 4194304) (h2 : at_.toNat ≤ s.now.length) : ∃ s', s.run [.wr at_ xs, .fl] = (0, s') ∧ s'.live ∧ s'.now = putG s.now at_.toNat xs ∧ s'.safe = s'.now ∧ s'.items = [] := by
  rw [s.run2, calm_wr c h0 h1 h2]
  simp only [if_true]
  refine ⟨_, calm_fl ?_, ?_, rfl, rfl, rfl⟩
  · exact c
  · exact c
theorem putG_two {b : List Int} {p n : Nat} {A B : List Int} (hA : A.length = n) (h : p + n ≤ b.length) : putG (putG b (p + n) B) p A = putG b p (A ++ B) := by
  subst hA
  have e1 : putG b (p + A.length) B = b.take (p + A.length) ++ (B ++ b.drop (p + A.length + B.length)) := rfl
  unfold putG at e1 ⊢
  rw [List.length_append]
  have t : (b.take (p + A.length) ++ (B ++ b.drop (p + A.length + B.length))).take p = b.take p := by
    rw [List.take_append_of_le_length (by simp only [List.length_take]; omega), List.take_take]; congr 1; omega
  have d : (b.take (p + A.length) ++ (B ++ b.drop (p + A.length + B.length))).drop (p + A.length) = B ++ b.drop (p + A.length + B.length) := by
    have hl : (b.take (p + A.length)).length = p + A.length := by simp only [List.length_take]; omega
    exact List.drop_left' hl
  rw [t, d, List.append_assoc, ← Nat.add_assoc]
theorem part_put {b : List Int} {p sz : Nat} {A : List Int} (h : p + sz ≤ b.length) (hA : A.length ≤ sz) : ((putG b p A).drop p).take sz = A ++ ((b.drop (p + A.length)).take (sz - A.length)) := by
  have hl : (b.take p).length = p := by simp only [List.length_take]; omega
  have e : (putG b p A).drop p = A ++ b.drop (p + A.length) := by
    exact List.drop_left' hl
  rw [e, List.take_append, List.take_of_length_le hA]
/-- What is pending in a file as a commit leaves it. -/
theorem pend_put {j : JR} {b : List Int} {seq : Int} {rs : List RecR} {t : DF} (ht : t.now = putG b j.pos.toNat (signL seq rs.length (encL rs) ++ encL rs)) (hj : j.Ok) (hs : 0 ≤ seq ∧ seq < 18446744073709551616) (ho : ∀ q ∈ rs, j.out q.1 q.2.length) (hr : ∀ q ∈ rs, recP q) (hf : (encL rs).length ≤ j.size - 512) (hn : j.pos + j.size ≤ b.length) :
    pendB j (j.part t) = some rs ∧ le8 (j.part t) 4 = seq := by
  obtain ⟨j1, j2, j3, j4, j5, j6⟩ := hj
  have hsl : (signL seq rs.length (encL rs)).length = 512 := by rw [signL_eq, List.length_append, List.length_append, headL_length, leB_length, List.length_replicate]
  unfold JR.part
  rw [ht, part_put (by omega) (by rw [List.length_append, hsl]; omega), List.append_assoc]
  exact pend_signed j seq rs _ (by omega) hs ho hr hf
end Go.Proofs.Ytcfmlnddmpiemaa.Sx


set_option maxRecDepth 10000
namespace Go.Proofs.Ytcfmlnddmpiemaa.Sx
/-! ### Crashes, plainly -/
theorem getD_of_le {l : List Int} {i : Nat} (h : l.length ≤ i) : l.getD i 0 = 0 := by
  rw [List.getD_eq_getElem?_getD, List.getElem?_eq_none h]; rfl
theorem ext_getD {l m : List Int} (h : l.length = m.length) (h1 : ∀ i, i < l.length → l.getD i 0 = m.getD i 0) : l = m := by
  refine List.ext_getElem h (fun i hi hj => ?_)
  have := h1 i hi
  rwa [List.getD_eq_getElem?_getD, List.getElem?_eq_getElem hi, List.getD_eq_getElem?_getD, List.getElem?_eq_getElem hj] at this
theorem layP_get (b : List Int) (e : Int) (i : Nat) : (layP b e).getD i 0 = b.getD i 0 := by
  unfold layP
  by_cases h : i < b.length
  · rw [List.getD_eq_getElem?_getD, List.getElem?_append_left h, ← List.getD_eq_getElem?_getD]
  · rw [getD_of_le (l := b) (by omega)]
    rw [List.getD_eq_getElem?_getD, List.getElem?_append_right (by omega)]
    by_cases h2 : i - b.length < e.toNat - b.length
    · rw [List.getElem?_replicate, if_pos h2]; rfl
    · rw [List.getElem?_replicate, if_neg h2]; rfl
theorem layP_length (b : List Int) (e : Int) : (layP b e).length = max b.length e.toNat := by
  unfold layP; simp only [List.length_append, List.length_replicate]; omega
theorem layL_eq {b : List Int} {at_ : Int} {xs : List Int} (h0 : 0 ≤ at_) : layL b false at_ xs = putG (layP b (at_ + xs.length)) at_.toNat xs := by
  unfold layL putG
  simp only [Bool.false_eq_true, if_false, List.append_assoc]
theorem layL_length {b : List Int} {at_ : Int} {xs : List Int} (h0 : 0 ≤ at_) : (layL b false at_ xs).length = max b.length (at_.toNat + xs.length) := by
  rw [layL_eq h0, putG_length (by rw [layP_length]; omega), layP_length]; omega
theorem layL_at {b : List Int} {at_ : Int} {xs : List Int} (h0 : 0 ≤ at_) (i : Nat) : (layL b false at_ xs).getD i 0 = if at_.toNat ≤ i ∧ i < at_.toNat + xs.length then xs.getD (i - at_.toNat) 0 else b.getD i 0 := by
  rw [layL_eq h0, putG_get (by rw [layP_length]; omega), layP_get]
theorem crash_keeps (Q : List Int → Prop) : ∀ (its : List (Bool × Int × List Int)) (C : List Int) (ks : List Bool), (∀ it ∈ its, ∀ C, Q C → Q (layL C it.1 it.2.1 it.2.2)) → Q C → Q (crashL C its ks)
  | [], C, ks, h, hC => by simpa [crashL] using hC
  | it :: r, C, [], h, hC => by rw [crashL]; exact crash_keeps Q r C [] (fun x hx => h x (List.mem_cons_of_mem _ hx)) hC
  | it :: r, C, true :: ks, h, hC => by rw [crashL]; exact crash_keeps Q r _ ks (fun x hx => h x (List.mem_cons_of_mem _ hx)) (h it (List.mem_cons_self ..) C hC)
  | it :: r, C, false :: ks, h, hC => by rw [crashL]; exact crash_keeps Q r C ks (fun x hx => h x (List.mem_cons_of_mem _ hx)) hC
/-- A write's items lie within it. -/
theorem segs_in : ∀ (n : Nat) (at_ : Int) (xs : List Int) (it : Bool × Int × List Int), it ∈ segs n at_ xs → it.1 = false ∧ at_ ≤ it.2.1 ∧ it.2.1 + it.2.2.length ≤ at_ + xs.length ∧ (B8 xs → B8 it.2.2)
  | 0, at_, xs, it, h => by cases h
  | n + 1, at_, xs, it, h => by
    rw [segs] at h
    split at h
    · cases h
    · rename_i hx
      have hp : 0 < xs.length := List.length_pos_iff.2 hx
      obtain ⟨c1, c2⟩ : 0 < secN at_ xs.length ∧ secN at_ xs.length ≤ xs.length := by unfold secN; omega
      generalize secN at_ xs.length = d at c1 c2 h
      rcases List.mem_cons.1 h with rfl | h
      · refine ⟨rfl, Int.le_refl _, ?_, fun h8 => h8.take _⟩
        simp only [List.length_take]; omega
      · obtain ⟨i1, i2, i3, i4⟩ := segs_in n _ _ it h
        simp only [List.length_drop] at i3
        exact ⟨i1, by omega, by omega, fun h8 => i4 (h8.drop _)⟩
/-- A sector's write is one item. -/
theorem segs_one (at_ : Int) (xs : List Int) (h : xs.length = 512) (ha : at_ % 512 = 0) : segs xs.length at_ xs = [(false, at_, xs)] := by
  have hx : xs ≠ [] := fun e => by rw [e] at h; cases h
  have hs : secN at_ xs.length = 512 := by unfold secN; omega
  obtain ⟨n, hn⟩ : ∃ n, xs.length = n + 1 := ⟨xs.length - 1, by omega⟩
  rw [hn, segs, if_neg hx, hs, List.take_of_length_le (by omega), List.drop_eq_nil_of_le (by omega)]
  cases n with
  | zero => rfl
  | succ n => rw [segs, if_pos rfl]
/-! ### Records are done -/
def covers (r : RecR) (i : Nat) : Prop := r.1.toNat ≤ i ∧ i < r.1.toNat + r.2.length
instance (r : RecR) (i : Nat) : Decidable (covers r i) := by unfold covers; infer_instance
def doneL (rs : List RecR) (C : List Int) : List Int := rs.foldl (fun c r => putG c r.1.toNat r.2) C
def endL (rs : List RecR) (n : Nat) : Nat := rs.foldl (fun m r => max m (r.1.toNat + r.2.length)) n
theorem doneL_length : ∀ (rs : List RecR) (C : List Int), (∀ r ∈ rs, r.1.toNat ≤ C.length) → (doneL rs C).length = endL rs C.length
  | [], C, h => rfl
  | r :: rs, C, h => by
    have h1 := putG_length (xs := r.2) (h r (List.mem_cons_self ..))
    have h2 := doneL_length rs (putG C r.1.toNat r.2) (fun q hq => by have := h q (List.mem_cons_of_mem _ hq); omega)
    rw [h1] at h2
    exact h2
theorem endL_ge : ∀ (rs : List RecR) (n : Nat), n ≤ endL rs n
  | [], n => Nat.le_refl _
  | r :: rs, n => Nat.le_trans (by omega) (endL_ge rs (max n (r.1.toNat + r.2.length)))
theorem endL_mem : ∀ (rs : List RecR) (n : Nat), ∀ r ∈ rs, r.1.toNat + r.2.length ≤ endL rs n
  | q :: rs, n, r, h => by
    rcases List.mem_cons.1 h with rfl | h
    · exact Nat.le_trans (Nat.le_max_right n _) (endL_ge rs _)
    · exact endL_mem rs _ r h
theorem endL_idem : ∀ (rs : List RecR) (n m : Nat), n ≤ m → m ≤ endL rs n → endL rs m = endL rs n
  | [], n, m, h1, h2 => Nat.le_antisymm h2 h1
  | r :: rs, n, m, h1, h2 => by
    show endL rs (max m _) = endL rs (max n _)
    have h2 : m ≤ endL rs (max n (r.1.toNat + r.2.length)) := h2
    refine endL_idem rs _ _ (by omega) ?_
    have := endL_ge rs (max n (r.1.toNat + r.2.length))
    omega
/-- Where a record covers, the old bytes don't count. -/
theorem doneL_same : ∀ (rs : List RecR) (C D : List Int) (i : Nat), (∀ r ∈ rs, r.1.toNat ≤ C.length) → (∀ r ∈ rs, r.1.toNat ≤ D.length) → ((∀ r ∈ rs, ¬ covers r i) → C.getD i 0 = D.getD i 0) → (doneL rs C).getD i 0 = (doneL rs D).getD i 0
  | [], C, D, i, _, _, h => h (fun r hr => by cases hr)
  | r :: rs, C, D, i, hC, hD, h => by
    have c1 := hC r (List.mem_cons_self ..)
    have d1 := hD r (List.mem_cons_self ..)
    refine doneL_same rs _ _ i (fun q hq => by rw [putG_length c1]; have := hC q (List.mem_cons_of_mem _ hq); omega) (fun q hq => by rw [putG_length d1]; have := hD q (List.mem_cons_of_mem _ hq); omega) (fun hn => ?_)
    rw [putG_get c1, putG_get d1]
    by_cases hc : r.1.toNat ≤ i ∧ i < r.1.toNat + r.2.length
    · rw [if_pos hc, if_pos hc]
    · rw [if_neg hc, if_neg hc]
      exact h (fun q hq => by rcases List.mem_cons.1 hq with rfl | hq; exact hc; exact hn q hq)
theorem doneL_off : ∀ (rs : List RecR) (C : List Int) (i : Nat), (∀ r ∈ rs, r.1.toNat ≤ C.length) → (∀ r ∈ rs, ¬ covers r i) → (doneL rs C).getD i 0 = C.getD i 0
  | [], C, i, _, _ => rfl
  | r :: rs, C, i, hC, h => by
    have c1 := hC r (List.mem_cons_self ..)
    refine (doneL_off rs _ i (fun q hq => by rw [putG_length c1]; have := hC q (List.mem_cons_of_mem _ hq); omega) (fun q hq => h q (List.mem_cons_of_mem _ hq))).trans ?_
    rw [putG_get c1]
    exact if_neg (h r (List.mem_cons_self ..))
end Go.Proofs.Ytcfmlnddmpiemaa.Sx


set_option maxRecDepth 10000
namespace Go.Proofs.Ytcfmlnddmpiemaa.Sx
/-! ### What a file is between a commit and its end -/
def JR.inJ (j : JR) (i : Nat) : Prop := j.pos.toNat ≤ i ∧ i < j.pos.toNat + j.size.toNat
def JR.eqJ (j : JR) (C D : List Int) : Prop := C.length = D.length ∧ ∀ i, ¬ j.inJ i → C.getD i 0 = D.getD i 0
def JR.partL (j : JR) (C : List Int) : List Int := (C.drop j.pos.toNat).take j.size.toNat
/-- The case: a file's bytes, a journal of it, records that may be done. -/
structure JCase (j : JR) (b : List Int) (rs : List RecR) : Prop where
  ok : j.Ok
  al : j.pos % 512 = 0
  fit : j.pos + j.size ≤ b.length
  b8 : B8 b
  out : ∀ r ∈ rs, j.out r.1 r.2.length
  recs : ∀ r ∈ rs, recP r
  r8 : ∀ r ∈ rs, B8 r.2
  at_ : ∀ r ∈ rs, r.1.toNat ≤ b.length
  len : b.length ≤ 4194304
  room : (encL rs).length ≤ j.size - 512
/-- Some of the records' bytes may stand. -/
structure Mid (j : JR) (b : List Int) (rs : List RecR) (C : List Int) : Prop where
  lo : b.length ≤ C.length
  hi : C.length ≤ endL rs b.length
  b8 : B8 C
  off : ∀ i, ¬ j.inJ i → (∀ r ∈ rs, ¬ covers r i) → C.getD i 0 = b.getD i 0
theorem part_same {j : JR} {C D : List Int} (hC : j.pos.toNat + j.size.toNat ≤ C.length) (hD : j.pos.toNat + j.size.toNat ≤ D.length) (h : ∀ i, j.inJ i → C.getD i 0 = D.getD i 0) : j.partL C = j.partL D := by
  have g : ∀ (X : List Int) i, i < j.size.toNat → (j.partL X).getD i 0 = X.getD (j.pos.toNat + i) 0 := fun X i hi => by
    unfold JR.partL
    simp only [List.getD_eq_getElem?_getD, List.getElem?_take, if_pos hi, List.getElem?_drop]
  have lC : (j.partL C).length = j.size.toNat := by unfold JR.partL; simp only [List.length_take, List.length_drop]; omega
  have lD : (j.partL D).length = j.size.toNat := by unfold JR.partL; simp only [List.length_take, List.length_drop]; omega
  refine ext_getD (by rw [lC, lD]) (fun i hi => ?_)
  rw [lC] at hi
  rw [g C i hi, g D i hi]
  exact h _ ⟨by omega, by omega⟩
/-- A record's bytes, or some of them, keep Mid, and the journal's part. -/
theorem Mid.lay {j : JR} {b : List Int} {rs : List RecR} {C : List Int} (hc : JCase j b rs) (h : Mid j b rs C) {r : RecR} (hr : r ∈ rs) {at_ : Int} {xs : List Int} (h0 : r.1 ≤ at_) (h1 : at_ + xs.length ≤ r.1 + r.2.length) (hx : B8 xs) : Mid j b rs (layL C false at_ xs) ∧ j.partL (layL C false at_ xs) = j.partL C := by
  obtain ⟨o1, o2, o3, o4, o5⟩ := hc.out r hr
  obtain ⟨j1, j2, j3, j4, j5, j6⟩ := hc.ok
  have hf := hc.fit
  have hlo := h.lo
  have he := endL_mem rs b.length r hr
  have hh := h.hi
  have a0 : 0 ≤ at_ := by omega
  have hll := layL_length (b := C) (xs := xs) a0
  refine ⟨⟨by rw [hll]; omega, by rw [hll]; omega, ?_, fun i hi hn => ?_⟩, part_same (by rw [hll]; omega) (by omega) (fun i hi => ?_)⟩
  · rw [layL_eq a0]
    refine putG_B8 ?_ hx
    unfold layP
    exact h.b8.append (B8.replicate _)
  · rw [layL_at a0, if_neg (fun hq => hn r hr ⟨by omega, by omega⟩)]
    exact h.off i hi hn
  · rw [layL_at a0, if_neg]
    have : j.pos.toNat ≤ i ∧ i < j.pos.toNat + j.size.toNat := hi
    omega
theorem Mid.zero {j : JR} {b : List Int} {rs : List RecR} (hc : JCase j b rs) {C : List Int} (h : j.eqJ C b) (h8 : B8 C) : Mid j b rs C :=
  ⟨by rw [h.1]; exact Nat.le_refl _, by rw [h.1]; exact endL_ge _ _, h8, fun i hi _ => h.2 i hi⟩
/-- All records done, on whatever is between. -/
theorem Mid.done {j : JR} {b : List Int} {rs : List RecR} {C : List Int} (hc : JCase j b rs) (h : Mid j b rs C) : j.eqJ (doneL rs C) (doneL rs b) := by
  have ha : ∀ r ∈ rs, r.1.toNat ≤ C.length := fun r hr => Nat.le_trans (hc.at_ r hr) h.lo
  refine ⟨?_, fun i hi => ?_⟩
  · rw [doneL_length rs C ha, doneL_length rs b hc.at_]
    exact endL_idem rs _ _ h.lo h.hi
  · exact doneL_same rs C b i ha hc.at_ (fun hn => h.off i hi hn)
end Go.Proofs.Ytcfmlnddmpiemaa.Sx


set_option maxRecDepth 10000
namespace Go.Proofs.Ytcfmlnddmpiemaa.Sx
/-! ### What a crash may leave -/
theorem partL_get {j : JR} {C : List Int} {i : Nat} (hi : i < j.size.toNat) : (j.partL C).getD i 0 = C.getD (j.pos.toNat + i) 0 := by
  unfold JR.partL
  simp only [List.getD_eq_getElem?_getD, List.getElem?_take, if_pos hi, List.getElem?_drop]
theorem partL_length {j : JR} {C : List Int} (h : j.pos.toNat + j.size.toNat ≤ C.length) : (j.partL C).length = j.size.toNat := by
  unfold JR.partL; simp only [List.length_take, List.length_drop]; omega
/-- A journal that begins with noughts says nothing. -/
theorem zero_none {j : JR} (hj : j.Ok) {C : List Int} (hl : j.pos.toNat + j.size.toNat ≤ C.length) (h : ∀ i, i < 4 → C.getD (j.pos.toNat + i) 0 = 0) : pendB j (j.partL C) = none := by
  obtain ⟨j1, j2, j3, j4, j5, j6⟩ := hj
  have e : (j.partL C).take 4 = [0, 0, 0, 0] := by
    refine ext_getD (by rw [List.length_take, partL_length hl]; show min 4 _ = 4; omega) (fun i hi => ?_)
    rw [List.length_take, partL_length hl] at hi
    have : i < 4 := by omega
    rw [show ((j.partL C).take 4).getD i 0 = (j.partL C).getD i 0 by simp only [List.getD_eq_getElem?_getD, List.getElem?_take, if_pos this], partL_get (by omega), h i this]
    match i, this with
    | 0, _ => rfl
    | 1, _ => rfl
    | 2, _ => rfl
    | 3, _ => rfl
  unfold pendB
  rw [if_neg]
  intro ok
  have := ok.1
  unfold le4 at this
  rw [List.drop_zero, e] at this
  simp [leV] at this
/-- What a crash may leave, between a commit and its end. -/
def Cr (j : JR) (b : List Int) (rs : List RecR) (C : List Int) : Prop :=
  B8 C ∧ (j.eqJ C b ∧ pendB j (j.partL C) = none ∨ Mid j b rs C ∧ pendB j (j.partL C) = some rs ∨ j.eqJ C (doneL rs b) ∧ pendB j (j.partL C) = none)
theorem JR.eqJ.refl {j : JR} (C : List Int) : j.eqJ C C := ⟨rfl, fun _ _ => rfl⟩
theorem JR.eqJ.trans {j : JR} {C D E : List Int} (h : j.eqJ C D) (g : j.eqJ D E) : j.eqJ C E := ⟨h.1.trans g.1, fun i hi => (h.2 i hi).trans (g.2 i hi)⟩
/-- What is laid into the journal's part changes nothing else. -/
theorem eqJ_lay {j : JR} {C : List Int} {at_ : Int} {xs : List Int} (hj : j.Ok) (hl : j.pos.toNat + j.size.toNat ≤ C.length) (h0 : j.pos ≤ at_) (h1 : at_ + xs.length ≤ j.pos + j.size) : j.eqJ (layL C false at_ xs) C := by
  obtain ⟨j1, j2, j3, j4, j5, j6⟩ := hj
  have a0 : 0 ≤ at_ := by omega
  refine ⟨by rw [layL_length a0]; omega, fun i hi => ?_⟩
  rw [layL_at a0, if_neg]
  intro hq
  exact hi ⟨by omega, by omega⟩
theorem DF.doOp_err {s : DF} {op : FOp} (h : (s.doOp op).1 ≠ 0) : (s.doOp op).2 = s.asked := by
  cases op with
  | wr at_ xs =>
    rw [DF.doOp_wr] at h ⊢
    split
    · rfl
    · rename_i h1
      rw [if_neg h1] at h
      split
      · rfl
      · rename_i h2
        rw [if_neg h2] at h
        split
        · rfl
        · rename_i h3
          rw [if_neg h3] at h
          exact absurd rfl h
  | fl =>
    rw [DF.doOp_fl] at h ⊢
    split
    · rfl
    · rename_i h1
      rw [if_neg h1] at h
      exact absurd rfl h
theorem DF.doOp_did {s : DF} {at_ : Int} {xs : List Int} (h : (s.doOp (.wr at_ xs)).1 = 0) (h2 : at_.toNat ≤ s.now.length) : 0 ≤ at_ ∧ (s.doOp (.wr at_ xs)).2 = { s with now := putG s.now at_.toNat xs, items := s.items ++ segs xs.length at_ xs, ops := s.ops + 1, wrote := s.wrote + 1 } := by
  rw [DF.doOp_wr] at h ⊢
  split
  · rename_i h1; rw [if_pos h1] at h; exact absurd (show (5 : Int) = 0 from h) (by decide)
  · rename_i h1
    rw [if_neg h1] at h
    split
    · rename_i h3; rw [if_pos h3] at h; exact absurd (show (4 : Int) = 0 from h) (by decide)
    · rename_i h3
      rw [if_neg h3] at h
      split
      · rename_i h4; rw [if_pos h4] at h; exact absurd (show (3 : Int) = 0 from h) (by decide)
      · exact ⟨by omega, wrote1_put s at_ xs (by omega) h2⟩
theorem DF.doOp_fled {s : DF} (h : (s.doOp .fl).1 = 0) : (s.doOp .fl).2 = s.flushed := by
  rw [DF.doOp_fl] at h ⊢
  split
  · rename_i h1; rw [if_pos h1] at h; exact absurd (show (5 : Int) = 0 from h) (by decide)
  · rfl
/-- Whatever a crash keeps of a file. -/
def CrS (j : JR) (b : List Int) (rs : List RecR) (s : DF) : Prop := ∀ ks, Cr j b rs (crashL s.safe s.items ks)
theorem CrS.asked {j : JR} {b : List Int} {rs : List RecR} {s : DF} (h : CrS j b rs s) : CrS j b rs s.asked := h
/-- The sign is taken away. -/
theorem clear_cr {j : JR} {b : List Int} {rs : List RecR} {s : DF} {z : List Int} (hc : JCase j b rs) (hz : z = List.replicate 512 0) (hi : s.items = []) (hn : s.now = s.safe) (h8 : B8 s.safe) (he : j.eqJ s.safe (doneL rs b)) (hp : CrS j b rs s) :
    CrS j b rs (s.run [.wr j.pos z, .fl]).2 ∧ ((s.run [.wr j.pos z, .fl]).1 = 0 → (s.run [.wr j.pos z, .fl]).2.items = [] ∧ (s.run [.wr j.pos z, .fl]).2.now = (s.run [.wr j.pos z, .fl]).2.safe ∧ B8 (s.run [.wr j.pos z, .fl]).2.safe ∧ j.eqJ (s.run [.wr j.pos z, .fl]).2.safe (doneL rs b) ∧ pendB j (j.partL (s.run [.wr j.pos z, .fl]).2.safe) = none) := by
  have hj := hc.ok
  obtain ⟨j1, j2, j3, j4, j5, j6⟩ := hc.ok
  have hzl : z.length = 512 := by rw [hz]; exact List.length_replicate ..
  have hz8 : B8 z := by rw [hz]; exact B8.replicate _
  have hfit := hc.fit
  have hlen : j.pos.toNat + j.size.toNat ≤ s.safe.length := by rw [he.1, doneL_length rs b hc.at_]; have := endL_ge rs b.length; omega
  have hlay : layL s.safe false j.pos z = putG s.safe j.pos.toNat z := layL_putG j1 (by omega)
  have e2 : j.eqJ (putG s.safe j.pos.toNat z) (doneL rs b) := by
    rw [← hlay]; exact (eqJ_lay hj hlen (Int.le_refl _) (by omega)).trans he
  have l2 : j.pos.toNat + j.size.toNat ≤ (putG s.safe j.pos.toNat z).length := by rw [putG_length (by omega)]; omega
  have n2 : pendB j (j.partL (putG s.safe j.pos.toNat z)) = none := zero_none hj l2 (fun i hi => by
    rw [putG_get (by omega), if_pos ⟨by omega, by omega⟩, hz, List.getD_eq_getElem?_getD, List.getElem?_replicate]
    split <;> rfl)
  have b2 : B8 (putG s.safe j.pos.toNat z) := putG_B8 h8 hz8
  have c2 : Cr j b rs (putG s.safe j.pos.toNat z) := ⟨b2, .inr (.inr ⟨e2, n2⟩)⟩
  rw [s.run2]
  by_cases h1 : (s.doOp (.wr j.pos z)).1 = 0
  · rw [if_pos h1]
    obtain ⟨-, hd⟩ := DF.doOp_did h1 (by rw [hn]; omega)
    rw [hd, segs_one _ _ hzl hc.al, hi, List.nil_append]
    generalize ht : ({ s with now := putG s.now j.pos.toNat z, items := [(false, j.pos, z)], ops := s.ops + 1, wrote := s.wrote + 1 } : DF) = t
    have t1 : t.safe = s.safe := by rw [← ht]
    have t2 : t.items = [(false, j.pos, z)] := by rw [← ht]
    have t3 : t.now = putG s.safe j.pos.toNat z := by rw [← ht, hn]
    have ct : CrS j b rs t := by
      intro ks
      rw [t1, t2]
      have hs := hp []
      rw [hi] at hs
      have hs : Cr j b rs s.safe := hs
      cases ks with
      | nil => exact hs
      | cons k ks =>
        cases k with
        | true => show Cr j b rs (layL s.safe false j.pos z); rw [hlay]; exact c2
        | false => exact hs
    by_cases h2 : (t.doOp .fl).1 = 0
    · have hf := DF.doOp_fled h2
      rw [hf]
      refine ⟨fun ks => ?_, fun _ => ⟨rfl, rfl, ?_, ?_, ?_⟩⟩
      · show Cr j b rs t.now; rw [t3]; exact c2
      · show B8 t.now; rw [t3]; exact b2
      · show j.eqJ t.now _; rw [t3]; exact e2
      · show pendB j (j.partL t.now) = none; rw [t3]; exact n2
    · rw [DF.doOp_err h2]
      exact ⟨ct, fun h => absurd h h2⟩
  · rw [if_neg h1, DF.doOp_err h1]
    exact ⟨hp, fun h => absurd h h1⟩
end Go.Proofs.Ytcfmlnddmpiemaa.Sx


set_option maxRecDepth 10000
namespace Go.Proofs.Ytcfmlnddmpiemaa.Sx
/-! ### Apply, cut off anywhere -/
def recItem (rs : List RecR) (it : Bool × Int × List Int) : Prop := it.1 = false ∧ ∃ r ∈ rs, r.1 ≤ it.2.1 ∧ it.2.1 + it.2.2.length ≤ r.1 + r.2.length ∧ B8 it.2.2
theorem recs_cr {j : JR} {b : List Int} {rs : List RecR} {C : List Int} (hc : JCase j b rs) (hm : Mid j b rs C) (hp : pendB j (j.partL C) = some rs) {s : DF} (h1 : s.safe = C) (h2 : ∀ it ∈ s.items, recItem rs it) : CrS j b rs s := by
  intro ks
  have q : Mid j b rs (crashL s.safe s.items ks) ∧ j.partL (crashL s.safe s.items ks) = j.partL C := by
    refine crash_keeps (fun D => Mid j b rs D ∧ j.partL D = j.partL C) s.items s.safe ks (fun it hit D hD => ?_) (by rw [h1]; exact ⟨hm, rfl⟩)
    obtain ⟨i1, r, hr, i2, i3, i4⟩ := h2 it hit
    rw [i1]
    obtain ⟨k1, k2⟩ := hD.1.lay hc hr i2 i3 i4
    exact ⟨k1, k2.trans hD.2⟩
  exact ⟨q.1.b8, .inr (.inl ⟨q.1, by rw [q.2]; exact hp⟩)⟩
theorem doneL_append (rs ss : List RecR) (C : List Int) : doneL (rs ++ ss) C = doneL ss (doneL rs C) := by unfold doneL; rw [List.foldl_append]
theorem wrs_cr {j : JR} {b : List Int} {rs : List RecR} {C : List Int} (hc : JCase j b rs) (hm : Mid j b rs C) (hp : pendB j (j.partL C) = some rs) : ∀ (rest pre : List RecR) (s : DF), rs = pre ++ rest → s.safe = C → s.now = doneL pre C → (∀ it ∈ s.items, recItem rs it) →
    (s.run (wrs rest)).2.safe = C ∧ (∀ it ∈ (s.run (wrs rest)).2.items, recItem rs it) ∧ ((s.run (wrs rest)).1 = 0 → (s.run (wrs rest)).2.now = doneL rs C)
  | [], pre, s, e, h1, h2, h3 => by
    rw [List.append_nil] at e
    exact ⟨h1, h3, fun _ => by rw [e]; exact h2⟩
  | r :: rest, pre, s, e, h1, h2, h3 => by
    have hr : r ∈ rs := by rw [e]; simp
    have ha : ∀ q ∈ pre, q.1.toNat ≤ C.length := fun q hq => Nat.le_trans (hc.at_ q (by rw [e]; simp [hq])) hm.lo
    have hle : r.1.toNat ≤ s.now.length := by
      rw [h2, doneL_length pre C ha]
      have := endL_ge pre C.length
      have := hc.at_ r hr
      have := hm.lo
      omega
    rw [show wrs (r :: rest) = .wr r.1 r.2 :: wrs rest from rfl, DF.run]
    by_cases h0 : (s.doOp (.wr r.1 r.2)).1 = 0
    · rw [if_pos h0]
      obtain ⟨p0, hd⟩ := DF.doOp_did h0 hle
      rw [hd]
      refine wrs_cr hc hm hp rest (pre ++ [r]) _ (by rw [e]; simp) h1 ?_ ?_
      · show putG s.now r.1.toNat r.2 = _
        rw [doneL_append, h2]; rfl
      · intro it hit
        rcases List.mem_append.1 hit with hit | hit
        · exact h3 it hit
        · obtain ⟨i1, i2, i3, i4⟩ := segs_in _ _ _ it hit
          exact ⟨i1, r, hr, i2, i3, i4 (hc.r8 r hr)⟩
    · rw [if_neg h0, DF.doOp_err h0]
      exact ⟨h1, h3, fun h => absurd h h0⟩
theorem doneL_B8 : ∀ (rs : List RecR) (C : List Int), B8 C → (∀ r ∈ rs, B8 r.2) → B8 (doneL rs C)
  | [], C, h, _ => h
  | r :: rs, C, h, g => doneL_B8 rs _ (putG_B8 h (g r (List.mem_cons_self ..))) (fun q hq => g q (List.mem_cons_of_mem _ hq))
theorem Mid.doneM {j : JR} {b : List Int} {rs : List RecR} {C : List Int} (hc : JCase j b rs) (h : Mid j b rs C) : Mid j b rs (doneL rs C) ∧ j.partL (doneL rs C) = j.partL C := by
  obtain ⟨j1, j2, j3, j4, j5, j6⟩ := hc.ok
  have hf := hc.fit
  have ha : ∀ r ∈ rs, r.1.toNat ≤ C.length := fun r hr => Nat.le_trans (hc.at_ r hr) h.lo
  have hl := doneL_length rs C ha
  have e := endL_idem rs _ _ h.lo h.hi
  have hlo := h.lo
  have hge := endL_ge rs b.length
  refine ⟨⟨by rw [hl, e]; exact hge, by rw [hl, e]; exact Nat.le_refl _, doneL_B8 rs C h.b8 hc.r8, fun i hi hn => ?_⟩, part_same (by rw [hl, e]; omega) (by omega) (fun i hi => ?_)⟩
  · rw [doneL_off rs C i ha hn]; exact h.off i hi hn
  · refine doneL_off rs C i ha (fun r hr hcv => ?_)
    obtain ⟨o1, o2, o3, o4, o5⟩ := hc.out r hr
    have hi2 : j.pos.toNat ≤ i ∧ i < j.pos.toNat + j.size.toNat := hi
    have hc2 : r.1.toNat ≤ i ∧ i < r.1.toNat + r.2.length := hcv
    omega
/-- All of Apply, from a file whose journal says the records. -/
theorem apply_cr {j : JR} {b : List Int} {rs : List RecR} {C z : List Int} {s : DF} (hc : JCase j b rs) (hz : z = List.replicate 512 0) (hm : Mid j b rs C) (hp : pendB j (j.partL C) = some rs) (h1 : s.safe = C) (h2 : s.now = C) (h3 : s.items = []) :
    CrS j b rs (s.run (applyOps j z rs)).2 ∧ ((s.run (applyOps j z rs)).1 = 0 → (s.run (applyOps j z rs)).2.items = [] ∧ (s.run (applyOps j z rs)).2.now = (s.run (applyOps j z rs)).2.safe ∧ B8 (s.run (applyOps j z rs)).2.safe ∧ j.eqJ (s.run (applyOps j z rs)).2.safe (doneL rs b) ∧ pendB j (j.partL (s.run (applyOps j z rs)).2.safe) = none) := by
  obtain ⟨w1, w2, w3⟩ := wrs_cr hc hm hp rs [] s rfl h1 (by rw [h2]; rfl) (by rw [h3]; intro it hit; cases hit)
  unfold applyOps
  rw [DF.run_append]
  by_cases h0 : (s.run (wrs rs)).1 = 0
  · rw [if_pos h0]
    have w3 := w3 h0
    generalize (s.run (wrs rs)).2 = t at w1 w2 w3 ⊢
    rw [DF.run]
    by_cases h4 : (t.doOp .fl).1 = 0
    · rw [if_pos h4, DF.doOp_fled h4]
      obtain ⟨m1, m2⟩ := hm.doneM hc
      have hs : t.flushed.safe = doneL rs C := w3
      refine clear_cr hc hz rfl rfl ?_ ?_ ?_
      · rw [hs]; exact m1.b8
      · rw [hs]; exact hm.done hc
      · exact recs_cr hc m1 (by rw [m2]; exact hp) hs (fun it hit => by cases hit)
    · rw [if_neg h4, DF.doOp_err h4]
      exact ⟨recs_cr hc hm hp w1 w2, fun h => absurd h h4⟩
  · rw [if_neg h0]
    exact ⟨recs_cr hc hm hp w1 w2, fun h => absurd h h0⟩
end Go.Proofs.Ytcfmlnddmpiemaa.Sx


set_option maxRecDepth 10000
namespace Go.Proofs.Ytcfmlnddmpiemaa.Sx
/-! ### Commit, cut off anywhere -/
theorem signL_length (a : Int) (n : Nat) (b : List Int) : (signL a n b).length = 512 := by rw [signL_eq, List.length_append, List.length_append, headL_length, leB_length, List.length_replicate]
theorem signL_B (a : Int) (n : Nat) (b : List Int) : B8 (signL a n b) := by
  rw [signL_eq]
  refine B8.append ?_ ((leB_B8 _ _).append (B8.replicate _))
  unfold headL
  exact (leB_B8 _ _).append ((leB_B8 _ _).append ((leB_B8 _ _).append ((leB_B8 _ _).append (leB_B8 _ _))))
/-- The body is laid; the sign isn't. -/
theorem body_cr {j : JR} {b : List Int} {rs : List RecR} {s : DF} (hc : JCase j b rs) (h0 : ∀ i, i < 512 → b.getD (j.pos.toNat + i) 0 = 0) (h1 : s.safe = b) (h2 : ∀ it ∈ s.items, it.1 = false ∧ j.pos + 512 ≤ it.2.1 ∧ it.2.1 + it.2.2.length ≤ j.pos + j.size ∧ B8 it.2.2) : CrS j b rs s := by
  obtain ⟨j1, j2, j3, j4, j5, j6⟩ := hc.ok
  have hf := hc.fit
  intro ks
  have q : B8 (crashL s.safe s.items ks) ∧ j.eqJ (crashL s.safe s.items ks) b ∧ ∀ i, i < 512 → (crashL s.safe s.items ks).getD (j.pos.toNat + i) 0 = 0 := by
    refine crash_keeps (fun D => B8 D ∧ j.eqJ D b ∧ ∀ i, i < 512 → D.getD (j.pos.toNat + i) 0 = 0) s.items s.safe ks (fun it hit D hD => ?_) (by rw [h1]; exact ⟨hc.b8, .refl b, h0⟩)
    obtain ⟨d1, d2, d3⟩ := hD
    obtain ⟨i1, i2, i3, i4⟩ := h2 it hit
    rw [i1]
    have hl : j.pos.toNat + j.size.toNat ≤ D.length := by rw [d2.1]; omega
    refine ⟨?_, (eqJ_lay hc.ok hl (by omega) i3).trans d2, fun i hi => ?_⟩
    · rw [layL_eq (by omega)]
      refine putG_B8 ?_ i4
      unfold layP
      exact d1.append (B8.replicate _)
    · rw [layL_at (by omega), if_neg (by omega)]
      exact d3 i hi
  refine ⟨q.1, .inl ⟨q.2.1, zero_none hc.ok (by rw [q.2.1.1]; omega) (fun i hi => q.2.2 i (by omega))⟩⟩
/-- All of Commit. -/
theorem commit_cr {j : JR} {b : List Int} {rs : List RecR} {s : DF} {r : Int × JR × DF} (hc : JCase j b rs) (h0 : ∀ i, i < 512 → b.getD (j.pos.toNat + i) 0 = 0) (h1 : s.safe = b) (hn : s.now = b) (hi : s.items = []) (h : comRel j s rs r) :
    CrS j b rs r.2.2 ∧ (r.1 = 0 → r.2.1 = j.next ∧ r.2.2.items = [] ∧ r.2.2.now = r.2.2.safe ∧ Mid j b rs r.2.2.safe ∧ pendB j (j.partL r.2.2.safe) = some rs) := by
  obtain ⟨j1, j2, j3, j4, j5, j6⟩ := hc.ok
  have hf := hc.fit
  have hlen := hc.len
  have hroom := hc.room
  have c0 : CrS j b rs s := body_cr hc h0 h1 (by rw [hi]; intro it hit; cases hit)
  rcases h with ⟨_, h⟩ | ⟨_, _, h⟩ | ⟨_, _, x, hx, h⟩
  · subst h; exact ⟨c0, fun h => absurd (show (4 : Int) = 0 from h) (by decide)⟩
  · subst h; exact ⟨c0, fun h => absurd (show (15 : Int) = 0 from h) (by decide)⟩
  · obtain ⟨body, hb⟩ : ∃ body, body = encL rs := ⟨_, rfl⟩
    have hb8 : B8 body := by rw [hb]; exact encL_B8 hc.r8
    rw [← hb] at hx hroom h
    have a0 : 0 ≤ j.pos + 512 := by omega
    have lay1 : layL b false (j.pos + 512) body = putG b (j.pos + 512).toNat body := layL_putG a0 (by omega)
    have hlb : j.pos.toNat + j.size.toNat ≤ b.length := by omega
    obtain ⟨b1, hb1⟩ : ∃ b1, b1 = putG b (j.pos + 512).toNat body := ⟨_, rfl⟩
    have e1 : j.eqJ b1 b := by rw [hb1, ← lay1]; exact eqJ_lay hc.ok hlb (by omega) (by omega)
    have b18 : B8 b1 := by rw [hb1]; exact putG_B8 hc.b8 hb8
    have z1 : ∀ i, i < 512 → b1.getD (j.pos.toNat + i) 0 = 0 := fun i hi => by
      rw [hb1, ← lay1, layL_at a0, if_neg (by omega)]; exact h0 i hi
    have hl1 : j.pos.toNat + j.size.toNat ≤ b1.length := by rw [e1.1]; exact hlb
    have cr1 : Cr j b rs b1 := ⟨b18, .inl ⟨e1, zero_none hc.ok hl1 (fun i hi => z1 i (by omega))⟩⟩
    rw [s.run2] at hx
    by_cases hA : (s.doOp (.wr (j.pos + 512) body)).1 = 0
    · rw [if_pos hA] at hx
      obtain ⟨-, hd⟩ := DF.doOp_did hA (by rw [hn]; omega)
      rw [hd] at hx
      generalize ht : ({ s with now := putG s.now (j.pos + 512).toNat body, items := s.items ++ segs body.length (j.pos + 512) body, ops := s.ops + 1, wrote := s.wrote + 1 } : DF) = t at hx
      have t1 : t.safe = b := by rw [← ht]; exact h1
      have t2 : t.now = b1 := by rw [← ht, hb1, ← hn]
      have t3 : CrS j b rs t := body_cr hc h0 t1 (by
        rw [← ht, hi]
        intro it hit
        obtain ⟨i1, i2, i3, i4⟩ := segs_in _ _ _ it (by simpa using hit)
        exact ⟨i1, by omega, by omega, i4 hb8⟩)
      by_cases hF : (t.doOp .fl).1 = 0
      · rcases h with ⟨h, _⟩ | ⟨_, sg, hsg, y, hy, h⟩
        · rw [hx] at h; exact absurd hF h
        · have hu := DF.doOp_fled hF
          rw [hx, hu] at hy
          have sl : sg.length = 512 := by rw [hsg]; exact signL_length _ _ _
          have s8 : B8 sg := by rw [hsg]; exact signL_B _ _ _
          have lay2 : layL b1 false j.pos sg = putG b1 j.pos.toNat sg := layL_putG j1 (by omega)
          obtain ⟨b2, hb2⟩ : ∃ b2, b2 = putG b1 j.pos.toNat sg := ⟨_, rfl⟩
          have e2 : j.eqJ b2 b := by rw [hb2, ← lay2]; exact (eqJ_lay hc.ok hl1 (Int.le_refl _) (by omega)).trans e1
          have b28 : B8 b2 := by rw [hb2]; exact putG_B8 b18 s8
          have m2 : Mid j b rs b2 := Mid.zero hc e2 b28
          obtain ⟨-, -, -, -, q5, q6⟩ := JR.next_ok hc.ok
          have p2 : pendB j (j.partL b2) = some rs := (pend_put (t := DF.mk0 b2) (b := b) (j := j) (seq := j.next.seq) (rs := rs) (by
              show b2 = _
              rw [hb2, hb1, show (j.pos + 512).toNat = j.pos.toNat + 512 by omega, putG_two sl (by omega), hsg, hb]) hc.ok ⟨q5, q6⟩ hc.out hc.recs hc.room hc.fit).1
          have cr2 : Cr j b rs b2 := ⟨b28, .inr (.inl ⟨m2, p2⟩)⟩
          have un : t.flushed.now = b1 := t2
          have cu : CrS j b rs t.flushed := fun ks => by show Cr j b rs t.now; rw [t2]; exact cr1
          rw [t.flushed.run2] at hy
          subst h
          by_cases hB : (t.flushed.doOp (.wr j.pos sg)).1 = 0
          · rw [if_pos hB] at hy
            obtain ⟨-, hd2⟩ := DF.doOp_did hB (by rw [un]; omega)
            rw [hd2, segs_one _ _ sl hc.al] at hy
            generalize hv : ({ t.flushed with now := putG t.flushed.now j.pos.toNat sg, items := t.flushed.items ++ [(false, j.pos, sg)], ops := t.flushed.ops + 1, wrote := t.flushed.wrote + 1 } : DF) = v at hy
            have v1 : v.safe = b1 := by rw [← hv]; exact t2
            have v2 : v.items = [(false, j.pos, sg)] := by rw [← hv]; rfl
            have v3 : v.now = b2 := by rw [← hv, hb2, ← un]
            have cv : CrS j b rs v := fun ks => by
              rw [v1, v2]
              cases ks with
              | nil => exact cr1
              | cons k ks =>
                cases k with
                | true => show Cr j b rs (layL b1 false j.pos sg); rw [lay2, ← hb2]; exact cr2
                | false => exact cr1
            rw [hy]
            by_cases hG : (v.doOp .fl).1 = 0
            · rw [DF.doOp_fled hG]
              refine ⟨fun ks => by show Cr j b rs v.now; rw [v3]; exact cr2, fun _ => ⟨rfl, rfl, rfl, by show Mid j b rs v.now; rw [v3]; exact m2, by show pendB j (j.partL v.now) = _; rw [v3]; exact p2⟩⟩
            · simp only [DF.doOp_err hG]
              exact ⟨cv, fun h => absurd h hG⟩
          · rw [if_neg hB] at hy
            rw [hy]
            simp only [DF.doOp_err hB]
            exact ⟨cu, fun h => absurd h hB⟩
      · rcases h with ⟨h, hr⟩ | ⟨h, _⟩
        · subst hr
          rw [hx]
          simp only [DF.doOp_err hF]
          exact ⟨t3, fun h => absurd h hF⟩
        · rw [hx] at h; exact absurd h hF
    · rw [if_neg hA] at hx
      rcases h with ⟨h, hr⟩ | ⟨h, _⟩
      · subst hr
        rw [hx]
        simp only [DF.doOp_err hA]
        exact ⟨c0, fun h => absurd h hA⟩
      · rw [hx] at h; exact absurd h hA
end Go.Proofs.Ytcfmlnddmpiemaa.Sx


set_option maxRecDepth 10000
namespace Go.Proofs.Ytcfmlnddmpiemaa.Sx
/-! ### A replay, cut off anywhere -/
theorem Cr.len {j : JR} {b : List Int} {rs : List RecR} {C : List Int} (hc : JCase j b rs) (h : Cr j b rs C) : b.length ≤ C.length ∧ C.length ≤ endL rs b.length := by
  have := endL_ge rs b.length
  rcases h.2 with ⟨h, _⟩ | ⟨h, _⟩ | ⟨h, _⟩
  · rw [h.1]; exact ⟨Nat.le_refl _, this⟩
  · exact ⟨h.lo, h.hi⟩
  · rw [h.1, doneL_length rs b hc.at_]; exact ⟨this, Nat.le_refl _⟩
end Go.Proofs.Ytcfmlnddmpiemaa.Sx

