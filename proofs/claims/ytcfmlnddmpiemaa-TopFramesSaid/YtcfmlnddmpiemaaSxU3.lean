import Derived.Test.YtcfmlnddmpiemaaSxU2
import Derived.Test.YtcfmlnddmpiemaaSxEc
import Derived.Test.YtcfmlnddmpiemaaSxU1
set_option linter.unusedVariables false
set_option linter.unusedSimpArgs false
set_option maxRecDepth 10000
namespace Go.Proofs.Ytcfmlnddmpiemaa.Sx
/-! ### The law TopTables, plain -/
abbrev hT : HD := HD.r 120
theorem hT_clus : hT.clus = 512 := by unfold HD.clus; rw [if_neg (by decide)]; rfl
theorem hT_jend : hT.jend = 15360 := by unfold HD.jend; rw [hT_clus]; decide
abbrev eZ : ER := ⟨0, 0, false⟩
/-- What a table of the law holds: so many clusters, given out one behind the other. -/
structure TMu (M : List ER) (u : Nat) : Prop where
  len : M.length = 64
  rng : ∀ i, i < 64 → (M.getD i eZ).kind = 2 → 33 ≤ (M.getD i eZ).cl ∧ (M.getD i eZ).cl < 33 + u
  inj : ∀ i j, i < 64 → j < 64 → (M.getD i eZ).kind = 2 → (M.getD j eZ).kind = 2 → (M.getD i eZ).cl = (M.getD j eZ).cl → i = j
  cnt : M.countP (fun x => decide (x.kind = 2)) = u
theorem getD_set_ne {M : List ER} {p i : Nat} {x : ER} (h : i ≠ p) : (M.set p x).getD i eZ = M.getD i eZ := by
  rw [List.getD_eq_getElem?_getD, List.getElem?_set_ne (fun e => h e.symm), ← List.getD_eq_getElem?_getD]
theorem getD_set_eq {M : List ER} {p : Nat} {x : ER} (h : p < M.length) : (M.set p x).getD p eZ = x := by
  rw [List.getD_eq_getElem?_getD, List.getElem?_set_self h]; rfl
theorem TMu.set {M : List ER} {u : Nat} (h : TMu M u) {p : Nat} (hp : p < 64) (hk : (M.getD p eZ).kind ≠ 2) : TMu (M.set p ⟨2, 33 + (u : Int), true⟩) (u + 1) := by
  obtain ⟨h1, h2, h3, h4⟩ := h
  have gs : (M.set p ⟨2, 33 + (u : Int), true⟩).getD p eZ = ⟨2, 33 + (u : Int), true⟩ := getD_set_eq (by omega)
  have gn : ∀ i, i ≠ p → (M.set p ⟨2, 33 + (u : Int), true⟩).getD i eZ = M.getD i eZ := fun i hi => getD_set_ne hi
  refine ⟨by rw [List.length_set]; exact h1, fun i hi => ?_, fun i j hi hj => ?_, ?_⟩
  · by_cases e : i = p
    · subst e; rw [gs]; intro _; show 33 ≤ 33 + (u : Int) ∧ 33 + (u : Int) < 33 + ((u + 1 : Nat) : Int); omega
    · rw [gn i e]; intro k2; have := h2 i hi k2; omega
  · by_cases e : i = p
    · by_cases e2 : j = p
      · omega
      · rw [gn j e2, e, gs]
        intro _ k2 k3
        have := h2 j hj k2
        have k3 : 33 + (u : Int) = (M.getD j eZ).cl := k3
        omega
    · by_cases e2 : j = p
      · rw [gn i e, e2, gs]
        intro k1 _ k3
        have := h2 i hi k1
        have k3 : (M.getD i eZ).cl = 33 + (u : Int) := k3
        omega
      · rw [gn i e, gn j e2]; exact h3 i j hi hj
  · rw [List.countP_set (by omega), h4]
    have e : M[p]'(by omega) = M.getD p eZ := by rw [List.getD_eq_getElem?_getD, List.getElem?_eq_getElem (by omega)]; rfl
    have hk2 : decide ((M.getD p eZ).kind = 2) = false := decide_eq_false hk
    rw [e, hk2]
    rfl
structure TTI (b : List Int) (t : TR) (M : List ER) (u : Nat) : Prop where
  ok : t.Ok
  over : t.over = false
  fresh : t.fresh = []
  inn : t.In jR
  b8 : t.B b
  cnt : ∀ q : Nat, q < 120 → cntV t b hT q = if q < 33 + u then 1 else 0
  tab : TabV t b 16384 M
  keys : ∀ k ∈ t.ks, k = 30 ∨ k = 32
  tm : TMu M u
theorem TTI.step {b : List Int} {t : TR} {M : List ER} {u : Nat} (h : TTI b t M u) (hu : u < 87) {p : Nat} (hp : p < 64) (hk : (M.getD p eZ).kind ≠ 2) :
    TTI b ((t.put b (hT.jend + 2 * ((33 + u : Nat) : Int)).toNat (leB 2 1)).put b (16384 + 8 * p) (leB 8 (encV ⟨2, 33 + (u : Int), true⟩).1)) (M.set p ⟨2, 33 + (u : Int), true⟩) (u + 1) := by
  obtain ⟨a1, a2, a3, a4, a5, a6, a7, a8, a9⟩ := h
  have e1 : (hT.jend + 2 * ((33 + u : Nat) : Int)).toNat = 15360 + 2 * (33 + u) := by rw [hT_jend]; omega
  have l2 : (leB 2 1).length = 2 := leB_length 2 1
  have l8 : (leB 8 (encV ⟨2, 33 + (u : Int), true⟩).1).length = 8 := leB_length 8 _
  have ex : (encV ⟨2, 33 + (u : Int), true⟩).2 = 0 := by unfold encV; rw [if_neg (by simp), if_neg (by simp; omega)]; rfl
  have c1 := cnt_put a1 b (h := hT) (by rw [hT_jend]; decide) (33 + u) (c := 1)
  rw [e1] at c1 ⊢
  obtain ⟨p1, p2, p3, p4, p5⟩ := put_V a1 b (15360 + 2 * (33 + u)) (leB 2 1)
  have i1 := put_In a4 a1 a5 (a := 15360 + 2 * (33 + u)) (p := leB 2 1) (leB_B8 _ _) jR_al (by omega) (.inr (.inr (by show (512 : Int) + 14848 ≤ _; omega)))
  have b1 := a5.put a1 (15360 + 2 * (33 + u)) (leB_B8 2 1)
  obtain ⟨t1, ht1⟩ : ∃ t1, t1 = t.put b (15360 + 2 * (33 + u)) (leB 2 1) := ⟨_, rfl⟩
  have k1 := put_ks t b (15360 + 2 * (33 + u)) (leB 2 1)
  rw [← ht1] at c1 p1 p2 p3 p4 p5 i1 b1 k1 ⊢
  have tab1 : TabV t1 b 16384 M := ⟨a7.1, fun i hi => by
    refine ⟨(a7.2 i hi).1, ?_⟩
    rw [← (a7.2 i hi).2]
    refine rd_congr (fun q hq => ?_)
    rw [p5, l2, if_neg (by omega)]⟩
  obtain ⟨q1, q2, q3, q4, q5⟩ := put_V p1 b (16384 + 8 * p) (leB 8 (encV ⟨2, 33 + (u : Int), true⟩).1)
  refine ⟨q1, q3.trans (p3.trans a2), q2.trans (p2.trans a3), put_In i1 p1 b1 (leB_B8 _ _) jR_al (by omega) (.inr (.inr (by show (512 : Int) + 14848 ≤ _; omega))), b1.put p1 _ (leB_B8 _ _), fun q hq => ?_, tab1.put p1 p hp ex, fun k hk => ?_, a9.set hp hk⟩
  · have e2 : cntV (t1.put b (16384 + 8 * p) (leB 8 (encV ⟨2, 33 + (u : Int), true⟩).1)) b hT q = cntV t1 b hT q := by
      unfold cntV
      rw [hT_jend]
      refine congrArg leV (rd_congr (fun i hi => ?_))
      rw [q5, l8, if_neg (by show ¬ (16384 + 8 * p ≤ (15360 : Int).toNat + 2 * q + i ∧ _); have : (15360 : Int).toNat = 15360 := rfl; omega)]
    rw [e2, c1 q ⟨by decide, by decide⟩, a6 q hq]
    by_cases e3 : q = 33 + u
    · rw [if_pos e3, if_pos (by omega)]
    · rw [if_neg e3]
      by_cases e4 : q < 33 + u
      · rw [if_pos e4, if_pos (by omega)]
      · rw [if_neg e4, if_neg (by omega)]
  · rw [put_ks, k1] at hk
    rcases hk with (hk | ⟨-, m, rfl, m1, m2⟩) | ⟨-, m, rfl, m1, m2⟩
    · exact a8 k hk
    · omega
    · omega
theorem TTI.zero {b : List Int} (hb : RZ 33 b) : TTI b TR.zero (List.replicate 64 eZ) 0 := by
  have hz : ∀ i, TR.zero.V b i = oneAt 33 i := fun i => by rw [zero_V, hb.2]
  have e : ∀ i, (List.replicate 64 eZ).getD i eZ = eZ := fun i => by
    rw [List.getD_eq_getElem?_getD, List.getElem?_replicate]; split <;> rfl
  refine ⟨TR.zero_ok, rfl, rfl, TR.zero_In _, fun i => by rw [hz]; unfold oneAt; split <;> decide, fun q _ => hb.cnt hT_jend q, ⟨List.length_replicate .., fun i hi => ?_⟩, fun k hk => absurd hk List.not_mem_nil, ⟨List.length_replicate .., fun i _ => ?_, fun i j _ _ => ?_, ?_⟩⟩
  · rw [e]
    refine ⟨rfl, ?_⟩
    show List.map _ _ = _
    have : (fun q => TR.zero.V b (16384 + 8 * i + q)) = fun _ => 0 := funext (fun q => by rw [hz]; unfold oneAt; rw [if_neg (by omega)])
    rw [this]
    decide
  · rw [e]; intro h; cases h
  · rw [e]; intro h; cases h
  · rw [List.countP_replicate]; rfl
/-- What a file shows. -/
structure TTV (now : List Int) (M : List ER) (u : Nat) : Prop where
  cnt : cntL TR.zero now hT = (List.range 120).map (fun q => if q < 33 + u then 1 else 0)
  tab : TabV TR.zero now 16384 M
  tm : TMu M u
theorem TTI.room {b : List Int} {t : TR} {M : List ER} {u : Nat} (h : TTI b t M u) {rs : List RecR} (hr : RecRel t rs) : t.dirty.length ≤ 2 ∧ (encL rs).length ≤ 1048 := by
  have hn : ((t.dirty.map (fun x => x.1)).map Int.toNat).Nodup := by
    rw [List.nodup_iff_pairwise_ne, List.pairwise_map]
    refine List.Pairwise.imp_of_mem ?_ (List.nodup_iff_pairwise_ne.1 h.inn.nodup)
    intro a b ha hb hne e
    have := h.keys a ha
    have := h.keys b hb
    omega
  have hl : t.dirty.length ≤ 2 := by
    have := sub_len (s := [30, 32]) hn (fun b hb => by
      obtain ⟨k, hk, rfl⟩ := List.mem_map.1 hb
      rcases h.keys k hk with rfl | rfl <;> simp)
    rwa [List.length_map, List.length_map] at this
  refine ⟨hl, ?_⟩
  have := (hr.B h.ok (B := 32) (fun q hq => by have := h.keys _ (List.mem_map.2 ⟨q, hq, rfl⟩); omega)).2.1
  omega
end Go.Proofs.Ytcfmlnddmpiemaa.Sx


set_option maxRecDepth 10000
namespace Go.Proofs.Ytcfmlnddmpiemaa.Sx
open Go.RowKit Go.Proofs.Ytcfmlnddmpiemaa.Sx.Tb
/-! ### The functions of TopTables -/
set_option maxHeartbeats 4000000 in
theorem pick_c (n b : Int) (k : K) (h0 : inR .i64 n ∧ 0 < b ∧ b ≤ 1099511627776) (hk : ∀ r : Int, r = n % 18446744073709551616 % b → k (.v (.int .i64 r)) []) : evFunc tab [6] [] Go.Proofs.Try.f13 [.v (.int .i64 n), .v (.int .i64 b)] [] k := by
  obtain ⟨h1, h2, h3⟩ := h0
  have w : IntKind.u64.wrap n = n % 18446744073709551616 := wrap_u64 n
  have g1 : 0 ≤ n % 18446744073709551616 % b := Int.emod_nonneg _ (by omega)
  have g2 : n % 18446744073709551616 % b < b := Int.emod_lt_of_pos _ h2
  have g3 : 0 ≤ IntKind.u64.wrap n := by rw [w]; exact Int.emod_nonneg _ (by decide)
  repeat' (first
    | (with_reducible first | exact True.intro | apply And.intro | apply If_true | apply If_false | apply If_not)
    | ((with_reducible apply VC.mk); exact vt)
    | ((with_reducible apply If_dec) <;> intro hc <;> (try (exfalso; omega)))
    | ((with_reducible apply If_any) <;> intro hc)
    | ((with_reducible first | apply PF.mk | apply DrawP.mk); (focus kernel_rfl))
    | ((with_reducible apply Same.mk); (focus rfl); (first | exact trivial | exact rfl))
    | (intro cap hcap)
    | ((fail_if_success (with_reducible apply st)); conv => whnf))
  · exact VC.mk (by rw [w]; simp only [inR]; omega)
  · exact Fin.vl (hk _ (by rw [w]))
def pickOk (x : Int × Int) : Prop := inR .i64 x.1 ∧ 0 < x.2 ∧ x.2 ≤ 1099511627776
def pickRel (x : Int × Int) (r : Int) : Prop := r = x.1 % 18446744073709551616 % x.2
theorem pick_K : ConOk Go.Proofs.Try.prog 13 (Con.of (Int × Int) (Int) (fun x => [.v (.int .i64 x.1), .v (.int .i64 x.2)]) (fun _ => []) pickOk pickRel (fun _ r => .v (.int .i64 r)) (fun _ _ => [])) := by
  refine conOk_rel (T := tab) mix Go.Proofs.Try.func13 (by decide +kernel) (by kernel_rfl) [6] [] (fun n => by rw [Go.Proofs.Try.ntmps13]; exact Nat.le_of_ble_eq_true rfl) (fun x r _ _ => ⟨by simp [AV.noF, noFs, Cont.noF, recsC_noF], (fun c hc => by cases hc), Nat.le_refl _⟩) (fun x _ c hc => by cases hc) ?_
  intro x k h0 hk
  exact pick_c x.1 x.2 k h0 (fun r hr => hk r hr)
theorem pick_at {avs : List AV} {H : List Chunk} {k : K} (n : Int) (b : Int) (h0 : inR .i64 n ∧ 0 < b ∧ b ≤ 1099511627776) (ha : argsM H [] [.v (.int .i64 n), .v (.int .i64 b)] avs) (hQ : ∀ r : Int, (r = n % 18446744073709551616 % b) → k (.v (.int .i64 r)) H) : CallP Go.Proofs.Try.prog 13 avs H k :=
  CallP.mk ⟨_, pick_K.real, Con.spec pick_K, (n, b), [], ⟨h0, rfl, trivial, ha⟩, fun r hr => (numK_eq H.length (fun N => k (AV.ren (fren [] N) (.v (.int .i64 r))) (putAll H [] []))).mpr (by simpa [putAll, AV.ren, rens, Cont.ren, recsC, recAV] using hQ r hr)⟩
end Go.Proofs.Ytcfmlnddmpiemaa.Sx


set_option maxRecDepth 10000
namespace Go.Proofs.Ytcfmlnddmpiemaa.Sx
open Go.RowKit Go.Proofs.Ytcfmlnddmpiemaa.Sx.Tb
/-! ### octet.Same -/
def sameRel (p q : List Int) (r : Int) : Prop := ∃ n : Nat, r = n ∧ n ≤ p.length ∧ n ≤ q.length ∧ (∀ i, i < n → p.getD i 0 = q.getD i 0) ∧ (n = p.length ∨ n = q.length ∨ p.getD n 0 ≠ q.getD n 0)
set_option maxHeartbeats 4000000 in
theorem osame_c (p q : List Int) (k : K) (h0 : p.length ≤ 1099511627776 ∧ q.length ≤ 1099511627776) (hk : ∀ r : Int, sameRel p q r → k (.v (.int .i64 r)) []) : evFunc tab [] p50 Go.Proofs.Try.f50 [.im false 1 p.length (.ints .u8 p), .im false 1 q.length (.ints .u8 q)] [] k := by
  obtain ⟨h1, h2⟩ := h0
  repeat' (first
    | (with_reducible first | exact True.intro | apply And.intro | apply If_true | apply If_false | apply If_not)
    | ((with_reducible apply VC.mk); exact vt)
    | ((with_reducible apply If_dec) <;> intro hc <;> (try (exfalso; omega)))
    | ((with_reducible apply If_any) <;> intro hc)
    | ((with_reducible first | apply PF.mk | apply DrawP.mk); (focus kernel_rfl))
    | ((with_reducible apply Same.mk); (focus rfl); (first | exact trivial | exact rfl))
    | (intro cap hcap)
    | ((fail_if_success (with_reducible apply st)); conv => whnf))
  refine LoopP.mk ⟨Nat, fun n => n ≤ p.length ∧ n ≤ q.length ∧ ∀ i, i < n → p.getD i 0 = q.getD i 0, fun n => ([(0, .im false 1 p.length (.ints .u8 p)), (1, .im false 1 q.length (.ints .u8 q)), (5, .v (.int .i64 (n : Int)))], []), fun n => p.length - n, 0, ⟨Nat.zero_le _, Nat.zero_le _, fun i hi => absurd hi (Nat.not_lt_zero _)⟩, Fit.ren [] [] rfl rfl trivial trivial ?_, ?_⟩
  · repeat' (first
    | (with_reducible first | exact True.intro | apply And.intro | apply If_true | apply If_false | apply If_not)
    | ((with_reducible apply VC.mk); exact vt)
    | ((with_reducible apply If_dec) <;> intro hc <;> (try (exfalso; omega)))
    | ((with_reducible apply If_any) <;> intro hc)
    | ((with_reducible first | apply PF.mk | apply DrawP.mk); (focus kernel_rfl))
    | ((with_reducible apply Same.mk); (focus rfl); (first | exact trivial | exact rfl))
    | (intro cap hcap)
    | ((fail_if_success (with_reducible apply st)); conv => whnf))
  intro n hn
  obtain ⟨g1, g2, g3⟩ := hn
  have e : ((n : Nat) : Int).toNat = n := Int.toNat_natCast n
  repeat' (first
    | (with_reducible first | exact True.intro | apply And.intro | apply If_true | apply If_false | apply If_not)
    | ((with_reducible apply VC.mk); exact vt)
    | ((with_reducible apply If_dec) <;> intro hc <;> (try (exfalso; omega)))
    | ((with_reducible apply If_any) <;> intro hc)
    | ((with_reducible first | apply PF.mk | apply DrawP.mk); (focus kernel_rfl))
    | ((with_reducible apply Same.mk); (focus rfl); (first | exact trivial | exact rfl))
    | (intro cap hcap)
    | ((fail_if_success (with_reducible apply st)); conv => whnf))
  · refine Round.mk ⟨n + 1, ⟨by omega, by omega, fun i hi => ?_⟩, by show p.length - (n + 1) < p.length - n; omega, Fit.ren [] [] rfl rfl trivial trivial ?_⟩
    · by_cases h : i < n
      · exact g3 i h
      · rw [show i = n by omega]; rw [e] at hc; exact hc
    · repeat' (first
    | (with_reducible first | exact True.intro | apply And.intro | apply If_true | apply If_false | apply If_not)
    | ((with_reducible apply VC.mk); exact vt)
    | ((with_reducible apply If_dec) <;> intro hc <;> (try (exfalso; omega)))
    | ((with_reducible apply If_any) <;> intro hc)
    | ((with_reducible first | apply PF.mk | apply DrawP.mk); (focus kernel_rfl))
    | ((with_reducible apply Same.mk); (focus rfl); (first | exact trivial | exact rfl))
    | (intro cap hcap)
    | ((fail_if_success (with_reducible apply st)); conv => whnf))
  all_goals
    refine Fin.vl (hk _ ⟨n, rfl, g1, g2, g3, ?_⟩)
    first
      | exact .inl (by omega)
      | exact .inr (.inl (by omega))
      | exact .inr (.inr (by rw [e] at hc; exact hc))
def osameOk (x : List Int × List Int) : Prop := x.1.length ≤ 1099511627776 ∧ x.2.length ≤ 1099511627776
def osameRel (x : List Int × List Int) (r : Int) : Prop := sameRel x.1 x.2 r
theorem osame_K : ConOk Go.Proofs.Try.prog 50 (Con.of (List Int × List Int) (Int) (fun x => [.im false 1 x.1.length (.ints .u8 x.1), .im false 1 x.2.length (.ints .u8 x.2)]) (fun _ => []) osameOk osameRel (fun _ r => .v (.int .i64 r)) (fun _ _ => [])) := by
  refine conOk_rel (T := tab) mix Go.Proofs.Try.func50 (by decide +kernel) (by kernel_rfl) [] p50 (fun n => by rw [Go.Proofs.Try.ntmps50]; exact Nat.le_of_ble_eq_true rfl) (fun x r _ _ => ⟨by simp [AV.noF, noFs, Cont.noF, recsC_noF], (fun c hc => by cases hc), Nat.le_refl _⟩) (fun x _ c hc => by cases hc) ?_
  intro x k h0 hk
  exact osame_c x.1 x.2 k h0 (fun r hr => hk r hr)
theorem osame_at {avs : List AV} {H : List Chunk} {k : K} (p : List Int) (q : List Int) (h0 : p.length ≤ 1099511627776 ∧ q.length ≤ 1099511627776) (ha : argsM H [] [.im false 1 p.length (.ints .u8 p), .im false 1 q.length (.ints .u8 q)] avs) (hQ : ∀ r : Int, (sameRel p q r) → k (.v (.int .i64 r)) H) : CallP Go.Proofs.Try.prog 50 avs H k :=
  CallP.mk ⟨_, osame_K.real, Con.spec osame_K, (p, q), [], ⟨h0, rfl, trivial, ha⟩, fun r hr => (numK_eq H.length (fun N => k (AV.ren (fren [] N) (.v (.int .i64 r))) (putAll H [] []))).mpr (by simpa [putAll, AV.ren, rens, Cont.ren, recsC, recAV] using hQ r hr)⟩
set_option maxHeartbeats 4000000 in
theorem osliceO_c (l : List Int) (p n : Nat) (k : K) (h0 : p + n ≤ l.length ∧ l.length ≤ 1099511627776) (hk : ∀ r : List Int × Nat, r.1 = (l.drop p).take n ∧ r.1.length ≤ r.2 → k (.tup [.s 0 0 1 r.1.length r.2, .v (.bool true)]) [.blk 5 (.ints .u8 r.1) r.2]) :
    evFunc tab [] [] Go.Proofs.Try.f49 [.im false 1 l.length (.ints .u8 l), .v (.int .i64 p), .v (.int .i64 n)] [] k := by
  repeat' (first
    | (with_reducible first | exact True.intro | apply And.intro | apply If_true | apply If_false | apply If_not)
    | ((with_reducible apply VC.mk); exact vt)
    | ((with_reducible apply If_dec) <;> intro hc <;> (try (exfalso; omega)))
    | ((with_reducible apply If_any) <;> intro hc)
    | ((with_reducible first | apply PF.mk | apply DrawP.mk); (focus kernel_rfl))
    | ((with_reducible apply Same.mk); (focus rfl); (first | exact trivial | exact rfl))
    | (intro cap hcap)
    | ((fail_if_success (with_reducible apply st)); conv => whnf))
  refine oin_at l p n h0.2 ⟨⟨rfl, rfl, rfl⟩, rfl, rfl, trivial⟩ ?_
  intro r hr
  have hr : r = true := hr.2 ⟨by omega, by omega, by omega⟩
  subst hr
  repeat' (first
    | (with_reducible first | exact True.intro | apply And.intro | apply If_true | apply If_false | apply If_not)
    | ((with_reducible apply VC.mk); exact vt)
    | ((with_reducible apply If_dec) <;> intro hc <;> (try (exfalso; omega)))
    | ((with_reducible apply If_any) <;> intro hc)
    | ((with_reducible first | apply PF.mk | apply DrawP.mk); (focus kernel_rfl))
    | ((with_reducible apply Same.mk); (focus rfl); (first | exact trivial | exact rfl))
    | (intro cap hcap)
    | ((fail_if_success (with_reducible apply st)); conv => whnf))
  have e1 : ((p : Int) + (n : Int)).toNat - ((p : Nat) : Int).toNat = n := by omega
  have e2 : ((p : Nat) : Int).toNat = p := by omega
  have e3 : ((l.drop p).take n).length = n := by rw [List.length_take, List.length_drop]; omega
  rw [e1, e2]
  rw [e1] at hcap
  have hk2 := hk ((l.drop p).take n, cap) ⟨rfl, by rw [e3]; exact hcap⟩
  rw [e3] at hk2
  rw [Nat.mul_one]
  exact Fin.same hk2
theorem osliceO_K : ConOk Go.Proofs.Try.prog 49 (Con.of (List Int × Nat × Nat) (List Int × Nat) (fun x => [.im false 1 x.1.length (.ints .u8 x.1), .v (.int .i64 x.2.1), .v (.int .i64 x.2.2)]) (fun _ => []) (fun x => x.2.1 + x.2.2 ≤ x.1.length ∧ x.1.length ≤ 1099511627776) (fun x r => r.1 = (x.1.drop x.2.1).take x.2.2 ∧ r.1.length ≤ r.2) (fun _ r => .tup [.s 0 0 1 r.1.length r.2, .v (.bool true)]) (fun _ r => [.blk 5 (.ints .u8 r.1) r.2])) := by
  refine conOk_rel (T := tab) mix Go.Proofs.Try.func49 (by decide +kernel) (by kernel_rfl) [] [] (fun n => by rw [Go.Proofs.Try.ntmps49]; exact Nat.le_of_ble_eq_true rfl) (fun x r _ _ => ⟨⟨trivial, trivial, trivial⟩, (fun c hc => by simp at hc; subst hc; exact .blk trivial), Nat.zero_le _⟩) (fun x _ c hc => by cases hc) (fun x k h0 hk => osliceO_c x.1 x.2.1 x.2.2 k h0 (fun r hr => hk r hr))
theorem osliceO_at {avs : List AV} {H : List Chunk} {k : K} (l : List Int) (p n : Nat) (h0 : p + n ≤ l.length ∧ l.length ≤ 1099511627776) (ha : argsM H [] [.im false 1 l.length (.ints .u8 l), .v (.int .i64 p), .v (.int .i64 n)] avs)
    (h : ∀ (m : List Int) (cap : Nat), m = (l.drop p).take n → m.length ≤ cap → k (.tup [.s H.length 0 1 m.length cap, .v (.bool true)]) (H ++ [.blk 5 (.ints .u8 m) cap])) : CallP Go.Proofs.Try.prog 49 avs H k :=
  CallP.mk ⟨_, osliceO_K.real, Con.spec osliceO_K, (l, p, n), [], ⟨h0, rfl, trivial, ha⟩, fun r hr => (numK_eq _ _).mpr (by simpa [putAll, AV.ren, rens, fren, nth, Chunk.ren, Cont.ren] using h r.1 r.2 hr.1 hr.2)⟩
/-! ### The law TopFrames -/
def frm (p : List Int) : List Int := leB 4 (p.length : Int) ++ (leB 4 (moreL 0 p) ++ p)
def frms (l : List (List Int)) : List Int := l.flatMap frm
theorem frm_length (p : List Int) : (frm p).length = 8 + p.length := by unfold frm; simp [leB_length]; omega
theorem frms_snoc (l : List (List Int)) (i : Nat) (h : i < l.length) : frms (l.take (i + 1)) = frms (l.take i) ++ frm (l.getD i []) := by
  unfold frms
  rw [List.take_add_one, List.getElem?_eq_getElem h, List.flatMap_append, List.getD_eq_getElem?_getD, List.getElem?_eq_getElem h]
  simp
theorem frms_cut (l : List (List Int)) (i : Nat) (h : i < l.length) : frms l = frms (l.take i) ++ (frm (l.getD i []) ++ frms (l.drop (i + 1))) := by
  have e : l = l.take i ++ (l.getD i [] :: l.drop (i + 1)) := by
    rw [List.getD_eq_getElem?_getD, List.getElem?_eq_getElem h]
    show l = l.take i ++ (l[i] :: l.drop (i + 1))
    rw [← List.drop_eq_getElem_cons h, List.take_append_drop]
  unfold frms
  conv => lhs; rw [e]
  rw [List.flatMap_append, List.flatMap_cons]
theorem frms_read (l : List (List Int)) (i : Nat) (h : i < l.length) (hb : B8 (l.getD i [])) (hl : (l.getD i []).length ≤ 300) : le4 (frms l) (frms (l.take i)).length = ((l.getD i []).length : Int) ∧ le4 (frms l) ((frms (l.take i)).length + 4) = moreL 0 (l.getD i []) ∧ ((frms l).drop ((frms (l.take i)).length + 8)).take (l.getD i []).length = l.getD i [] ∧ (frms (l.take i)).length + 8 + (l.getD i []).length ≤ (frms l).length := by
  have hs := moreL_R 0 (l.getD i [])
  rw [frms_cut l i h]
  generalize frms (l.take i) = P
  generalize frms (l.drop (i + 1)) = R
  unfold frm
  refine ⟨?_, ?_, ?_, ?_⟩
  · rw [List.append_assoc]
    exact le4_mid P _ _ _ rfl ⟨by omega, by omega⟩
  · rw [List.append_assoc, List.append_assoc, ← List.append_assoc P]
    exact le4_mid _ _ _ _ (by rw [List.length_append, leB_length]) hs
  · rw [List.append_assoc, List.append_assoc, ← List.append_assoc P, ← List.append_assoc (P ++ leB 4 _)]
    rw [List.drop_left' (by simp [leB_length]), List.take_left]
  · simp [leB_length]; omega
theorem frms_le (l : List (List Int)) (h : ∀ p ∈ l, p.length ≤ 300) : (frms l).length ≤ 308 * l.length := by
  unfold frms
  induction l with
  | nil => simp
  | cons p l ih =>
    have h1 := ih (fun q hq => h q (List.mem_cons_of_mem _ hq))
    have h2 := h p List.mem_cons_self
    simp only [List.flatMap_cons, List.length_append, frm_length, List.length_cons]
    omega
theorem frms_B8 (l : List (List Int)) (h : ∀ p ∈ l, B8 p) : B8 (frms l) := by
  unfold frms
  intro x hx
  obtain ⟨p, hp, hx⟩ := List.mem_flatMap.1 hx
  exact ((leB_B8 4 _).append ((leB_B8 4 _).append (h p hp))) x hx
def joinRow3 (a b c : List Int) : Cont := .recs 1 3 (fun i => match i with | 0 => [.im true 1 a.length (.ints .u8 a)] | 1 => [.im true 1 b.length (.ints .u8 b)] | _ => [.im true 1 c.length (.ints .u8 c)])
theorem head8_eq (a b : Int) : putB (putB (List.replicate (Int.toNat 8) 0) (Int.toNat 0) 4 a) (Int.toNat 4) 4 b = leB 4 a ++ leB 4 b := by
  rw [putB_eq 4 _ _ b (by rw [putB_length]; decide), putB_eq 4 _ _ a (by decide)]
  have h1 : Int.toNat 0 = 0 := rfl
  have h2 : Int.toNat 4 = 4 := rfl
  have h3 : Int.toNat 8 = 8 := rfl
  rw [h1, h2, h3]
  simp only [List.take_zero, List.nil_append]
  have hl := leB_length 4 a
  rw [List.take_append_of_le_length (by omega), List.take_of_length_le (by omega), List.drop_append, List.drop_eq_nil_of_le (by omega), hl]
  simp
set_option maxHeartbeats 64000000 in
theorem topframes_c (ps : List (List Int)) (w a bt : Int) (k : K) (h0 : ps.length ≤ 9223372036854775807 ∧ (∀ p ∈ ps, B8 p ∧ p.length ≤ 9223372036854775807) ∧ inR .i64 w ∧ inR .i64 a ∧ 0 ≤ bt ∧ bt < 4294967296) (hk : k (.v (.bool true)) []) : evFunc tab [] p7 Go.Proofs.Try.f7 [.agg [.im true 1 ps.length (partsC true ps), .v (.int .i64 w), .v (.int .i64 a), .v (.int .u32 bt)]] [] k := by
  obtain ⟨hpl, hps, hw, ha, hb0, hb1⟩ := h0
  have sx : moreL 0 [49, 50, 51, 52, 53, 54, 55, 56, 57] = 3421780262 := by decide +kernel
  have s8 : B8 [49, 50, 51, 52, 53, 54, 55, 56, 57] := fun x hx => by simp at hx; omega
  repeat' (first
    | (with_reducible first | exact True.intro | apply And.intro | apply If_true | apply If_false | apply If_not)
    | ((with_reducible apply VC.mk); exact vo)
    | ((with_reducible apply If_dec) <;> intro hc <;> (try (exfalso; omega)))
    | ((with_reducible apply If_any) <;> intro hc)
    | ((with_reducible first | apply PF.mk | apply DrawP.mk); (focus kernel_rfl))
    | ((with_reducible apply Same.mk); (focus rfl); (first | exact trivial | exact rfl))
    | (intro cap hcap)
    | ((fail_if_success (with_reducible apply st)); conv => whnf))
  refine sum_at [49, 50, 51, 52, 53, 54, 55, 56, 57] ⟨s8, by decide⟩ ⟨⟨by decide, rfl, rfl, ⟨rfl, rfl, fun j hj => by match j, hj with | 0, _ => rfl⟩, rfl, Nat.one_pos⟩, trivial⟩ ?_
  rw [sx]
  repeat' (first
    | (with_reducible first | exact True.intro | apply And.intro | apply If_true | apply If_false | apply If_not)
    | ((with_reducible apply VC.mk); exact vo)
    | ((with_reducible apply If_dec) <;> intro hc <;> (try (exfalso; omega)))
    | ((with_reducible apply If_any) <;> intro hc)
    | ((with_reducible first | apply PF.mk | apply DrawP.mk); (focus kernel_rfl))
    | ((with_reducible apply Same.mk); (focus rfl); (first | exact trivial | exact rfl))
    | (intro cap hcap)
    | ((fail_if_success (with_reducible apply st)); conv => whnf))
  · refine sum_at [49, 50, 51, 52, 53, 54, 55, 56, 57] ⟨s8, by decide⟩ ⟨⟨by decide, rfl, rfl, ⟨rfl, rfl, fun j hj => by match j, hj with | 0, _ => rfl⟩, rfl, Nat.one_pos⟩, trivial⟩ ?_
    rw [sx]
    repeat' (first
    | (with_reducible first | exact True.intro | apply And.intro | apply If_true | apply If_false | apply If_not)
    | ((with_reducible apply VC.mk); exact vo)
    | ((with_reducible apply If_dec) <;> intro hc <;> (try (exfalso; omega)))
    | ((with_reducible apply If_any) <;> intro hc)
    | ((with_reducible first | apply PF.mk | apply DrawP.mk); (focus kernel_rfl))
    | ((with_reducible apply Same.mk); (focus rfl); (first | exact trivial | exact rfl))
    | (intro cap hcap)
    | ((fail_if_success (with_reducible apply st)); conv => whnf))
    exact Fin.bool rfl hk
  have hp20 : ps.length ≤ 20 := by omega
  have fl : ∀ i, i ≤ ps.length → (∀ j, j < i → (ps.getD j []).length ≤ 300) → (frms (ps.take i)).length ≤ 6200 := fun i hi h => by
    have := frms_le (ps.take i) (fun p hp => by
      obtain ⟨j, hj, e⟩ := List.mem_iff_getElem.1 hp
      rw [List.length_take] at hj
      rw [← e, List.getElem_take]
      have := h j (by omega)
      rwa [List.getD_eq_getElem?_getD, List.getElem?_eq_getElem (by omega)] at this)
    rw [List.length_take] at this
    omega
  refine LoopP.mk ⟨Nat × List Int, fun y => y.1 ≤ ps.length ∧ y.2 = frms (ps.take y.1) ∧ ∀ j, j < y.1 → (ps.getD j []).length ≤ 300, fun y => ([(3, .im true 1 ps.length (partsC true ps)), (4, .v (.int .i64 w)), (5, .v (.int .i64 a)), (6, .v (.int .u32 bt)), (7, .im true 1 y.2.length (.ints .u8 y.2)), (8, .v (.int .i64 ((y.1 : Nat) : Int)))], []), fun y => ps.length - y.1, (0, []), ⟨Nat.zero_le _, rfl, fun j hj => absurd hj (Nat.not_lt_zero _)⟩, Fit.ren [] [] rfl rfl trivial trivial ?_, ?_⟩
  · repeat' (first
    | (with_reducible first | exact True.intro | apply And.intro | apply If_true | apply If_false | apply If_not)
    | ((with_reducible apply VC.mk); exact vo)
    | ((with_reducible apply If_dec) <;> intro hc <;> (try (exfalso; omega)))
    | ((with_reducible apply If_any) <;> intro hc)
    | ((with_reducible first | apply PF.mk | apply DrawP.mk); (focus kernel_rfl))
    | ((with_reducible apply Same.mk); (focus rfl); (first | exact trivial | exact rfl))
    | (intro cap hcap)
    | ((fail_if_success (with_reducible apply st)); conv => whnf))
  intro y hy
  obtain ⟨g1, g2, g3⟩ := hy
  have e : ((y.1 : Nat) : Int).toNat = y.1 := Int.toNat_natCast _
  have yl := fl y.1 g1 g3
  rw [← g2] at yl
  repeat' (first
    | (with_reducible first | exact True.intro | apply And.intro | apply If_true | apply If_false | apply If_not)
    | ((with_reducible apply VC.mk); exact vo)
    | ((with_reducible apply If_dec) <;> intro hc <;> (try (exfalso; omega)))
    | ((with_reducible apply If_any) <;> intro hc)
    | ((with_reducible first | apply PF.mk | apply DrawP.mk); (focus kernel_rfl))
    | ((with_reducible apply Same.mk); (focus rfl); (first | exact trivial | exact rfl))
    | (intro cap hcap)
    | ((fail_if_success (with_reducible apply st)); conv => whnf))
  · exact Fin.bool rfl hk
  · have hlt : y.1 < ps.length := by omega
    have hpm : (ps.getD ((y.1 : Nat) : Int).toNat []) ∈ ps := by rw [e, show ps.getD y.1 [] = ps[y.1] by simp [List.getD_eq_getElem?_getD, hlt]]; exact List.getElem_mem hlt
    have hp3 : (ps.getD ((y.1 : Nat) : Int).toNat []).length ≤ 300 := by omega
    have hp8 := (hps _ hpm).1
    have hs8 := moreL_R 0 (ps.getD ((y.1 : Nat) : Int).toNat [])
    refine Put32_at (List.replicate (Int.toNat 8) 0) (Int.toNat 8) 0 ((ps.getD ((y.1 : Nat) : Int).toNat []).length : Int) 0 ⟨by decide, by decide, by decide⟩ rfl ⟨rfl, rfl, rfl, trivial⟩ ?_
    repeat' (first
    | (with_reducible first | exact True.intro | apply And.intro | apply If_true | apply If_false | apply If_not)
    | ((with_reducible apply VC.mk); exact vo)
    | ((with_reducible apply If_dec) <;> intro hc <;> (try (exfalso; omega)))
    | ((with_reducible apply If_any) <;> intro hc)
    | ((with_reducible first | apply PF.mk | apply DrawP.mk); (focus kernel_rfl))
    | ((with_reducible apply Same.mk); (focus rfl); (first | exact trivial | exact rfl))
    | (intro cap hcap)
    | ((fail_if_success (with_reducible apply st)); conv => whnf))
    refine sum_at (ps.getD ((y.1 : Nat) : Int).toNat []) ⟨hp8, by omega⟩ ⟨⟨by decide, rfl, rfl, ⟨rfl, rfl, fun j hj => by match j, hj with | 0, _ => rfl⟩, rfl, Nat.one_pos⟩, trivial⟩ ?_
    repeat' (first
    | (with_reducible first | exact True.intro | apply And.intro | apply If_true | apply If_false | apply If_not)
    | ((with_reducible apply VC.mk); exact vo)
    | ((with_reducible apply If_dec) <;> intro hc <;> (try (exfalso; omega)))
    | ((with_reducible apply If_any) <;> intro hc)
    | ((with_reducible first | apply PF.mk | apply DrawP.mk); (focus kernel_rfl))
    | ((with_reducible apply Same.mk); (focus rfl); (first | exact trivial | exact rfl))
    | (intro cap hcap)
    | ((fail_if_success (with_reducible apply st)); conv => whnf))
    refine Put32_at (putB (List.replicate (Int.toNat 8) 0) (Int.toNat 0) 4 ((ps.getD ((y.1 : Nat) : Int).toNat []).length : Int)) (Int.toNat 8) 4 (moreL 0 (ps.getD ((y.1 : Nat) : Int).toNat [])) 0 ⟨by decide, by rw [putB_length]; decide, by rw [putB_length]; decide⟩ rfl ⟨by show _ = AV.s _ _ _ _ _; rw [putB_length]; rfl, rfl, rfl, trivial⟩ ?_
    rw [head8_eq]
    obtain ⟨hd, hhd⟩ : ∃ hd, hd = leB 4 ((ps.getD ((y.1 : Nat) : Int).toNat []).length : Int) ++ leB 4 (moreL 0 (ps.getD ((y.1 : Nat) : Int).toNat [])) := ⟨_, rfl⟩
    have hhl : hd.length = 8 := by rw [hhd]; simp [leB_length]
    rw [← hhd]
    repeat' (first
    | (with_reducible first | exact True.intro | apply And.intro | apply If_true | apply If_false | apply If_not)
    | ((with_reducible apply VC.mk); exact vo)
    | ((with_reducible apply If_dec) <;> intro hc <;> (try (exfalso; omega)))
    | ((with_reducible apply If_any) <;> intro hc)
    | ((with_reducible first | apply PF.mk | apply DrawP.mk); (focus kernel_rfl))
    | ((with_reducible apply Same.mk); (focus rfl); (first | exact trivial | exact rfl))
    | (intro cap hcap)
    | ((fail_if_success (with_reducible apply st)); conv => whnf))
    refine CallP.fit [0, 1, 2] [0] (H' := [.dead, .dead, .blk 29 (joinRow3 y.2 hd (ps.getD ((y.1 : Nat) : Int).toNat [])) 3]) (avs' := [.s 2 0 1 3 3]) rfl rfl ⟨trivial, trivial⟩ ⟨trivial, trivial, ⟨VC.mk ⟨rfl, rfl⟩, VC.mk ⟨rfl, Nat.le_refl _⟩, fun j hj => ?_⟩, trivial⟩ ⟨VC.mk ⟨rfl, rfl, rfl, rfl, rfl⟩, trivial⟩ ?_
    · match j, hj with
      | 0, _ => exact ⟨⟨VC.mk ⟨rfl, rfl, rfl⟩, VC.mk ⟨rfl, rfl⟩⟩, trivial⟩
      | 1, _ => exact ⟨⟨VC.mk ⟨by show 0 + Int.toNat 8 ≤ hd.length; rw [hhl]; decide, rfl, rfl, by rw [hhl]; rfl, Nat.one_pos⟩, VC.mk ⟨rfl, by rw [List.drop_zero]; exact List.take_of_length_le (by rw [hhl]; decide)⟩⟩, trivial⟩
      | 2, _ => exact ⟨⟨VC.mk ⟨rfl, rfl, rfl⟩, VC.mk ⟨rfl, rfl⟩⟩, trivial⟩
    have hfl : [y.2, hd, (ps.getD ((y.1 : Nat) : Int).toNat [])].flatten = frms (ps.take (y.1 + 1)) := by
      rw [frms_snoc ps y.1 hlt, ← g2, hhd, e]; simp [frm]
    have g4 : ∀ j, j < y.1 + 1 → (ps.getD j []).length ≤ 300 := fun j hj => by
      by_cases h : j < y.1
      · exact g3 j h
      · rw [show j = y.1 by omega, ← e]; exact hp3
    have yl2 := fl (y.1 + 1) hlt g4
    refine join_at [y.2, hd, (ps.getD ((y.1 : Nat) : Int).toNat [])] ⟨by rw [hfl]; omega, by simp⟩ ⟨⟨by decide, rfl, rfl, ⟨rfl, rfl, fun j hj => ?_⟩, rfl, Nat.one_pos⟩, trivial⟩ ?_
    · match j, hj with
      | 0, _ => rfl
      | 1, _ => rfl
      | 2, _ => rfl
    intro l hl
    rw [hfl] at hl
    repeat' (first
    | (with_reducible first | exact True.intro | apply And.intro | apply If_true | apply If_false | apply If_not)
    | ((with_reducible apply VC.mk); exact vo)
    | ((with_reducible apply If_dec) <;> intro hc <;> (try (exfalso; omega)))
    | ((with_reducible apply If_any) <;> intro hc)
    | ((with_reducible first | apply PF.mk | apply DrawP.mk); (focus kernel_rfl))
    | ((with_reducible apply Same.mk); (focus rfl); (first | exact trivial | exact rfl))
    | (intro cap hcap)
    | ((fail_if_success (with_reducible apply st)); conv => whnf))
    refine Round.mk ⟨(y.1 + 1, l), ⟨hlt, hl, g4⟩, by show ps.length - (y.1 + 1) < ps.length - y.1; omega, Fit.ren [] [] rfl rfl trivial trivial ?_⟩
    repeat' (first
    | (with_reducible first | exact True.intro | apply And.intro | apply If_true | apply If_false | apply If_not)
    | ((with_reducible apply VC.mk); exact vo)
    | ((with_reducible apply If_dec) <;> intro hc <;> (try (exfalso; omega)))
    | ((with_reducible apply If_any) <;> intro hc)
    | ((with_reducible first | apply PF.mk | apply DrawP.mk); (focus kernel_rfl))
    | ((with_reducible apply Same.mk); (focus rfl); (first | exact trivial | exact rfl))
    | (intro cap hcap)
    | ((fail_if_success (with_reducible apply st)); conv => whnf))
  have hy : y.1 = ps.length := by omega
  rw [hy, List.take_length] at g2
  rw [hy] at g3
  have a8 : B8 y.2 := by rw [g2]; exact frms_B8 ps (fun p hp => (hps p hp).1)
  refine LoopP.mk ⟨Nat, fun v => v ≤ ps.length, fun v => ([(3, .im true 1 ps.length (partsC true ps)), (4, .v (.int .i64 w)), (5, .v (.int .i64 a)), (6, .v (.int .u32 bt)), (7, .im true 1 y.2.length (.ints .u8 y.2)), (10, .v (.int .i64 (((frms (ps.take v)).length : Nat) : Int))), (11, .v (.int .i64 ((v : Nat) : Int)))], []), fun v => ps.length - v, 0, Nat.zero_le _, Fit.ren [] [] rfl rfl trivial trivial ?_, ?_⟩
  · repeat' (first
    | (with_reducible first | exact True.intro | apply And.intro | apply If_true | apply If_false | apply If_not)
    | ((with_reducible apply VC.mk); exact vo)
    | ((with_reducible apply If_dec) <;> intro hc <;> (try (exfalso; omega)))
    | ((with_reducible apply If_any) <;> intro hc)
    | ((with_reducible first | apply PF.mk | apply DrawP.mk); (focus kernel_rfl))
    | ((with_reducible apply Same.mk); (focus rfl); (first | exact trivial | exact rfl))
    | (intro cap hcap)
    | ((fail_if_success (with_reducible apply st)); conv => whnf))
  intro v hv
  have hv : v ≤ ps.length := hv
  have ev : ((v : Nat) : Int).toNat = v := Int.toNat_natCast v
  repeat' (first
    | (with_reducible first | exact True.intro | apply And.intro | apply If_true | apply If_false | apply If_not)
    | ((with_reducible apply VC.mk); exact vo)
    | ((with_reducible apply If_dec) <;> intro hc <;> (try (exfalso; omega)))
    | ((with_reducible apply If_any) <;> intro hc)
    | ((with_reducible first | apply PF.mk | apply DrawP.mk); (focus kernel_rfl))
    | ((with_reducible apply Same.mk); (focus rfl); (first | exact trivial | exact rfl))
    | (intro cap hcap)
    | ((fail_if_success (with_reducible apply st)); conv => whnf))
  · have hlt : v < ps.length := by omega
    have hpm : (ps.getD ((v : Nat) : Int).toNat []) ∈ ps := by rw [ev, show ps.getD v [] = ps[v] by simp [List.getD_eq_getElem?_getD, hlt]]; exact List.getElem_mem hlt
    have hp3 : (ps.getD ((v : Nat) : Int).toNat []).length ≤ 300 := by rw [ev]; exact g3 v hlt
    have hp8 := (hps _ hpm).1
    have hsR := moreL_R 0 (ps.getD ((v : Nat) : Int).toNat [])
    have R := frms_read ps v hlt (by rw [← ev]; exact hp8) (by rw [← ev]; omega)
    rw [← g2] at R
    have r1 : le4 y.2 (frms (ps.take v)).length = ((ps.getD ((v : Nat) : Int).toNat []).length : Int) := by rw [ev]; exact R.1
    have r2 : le4 y.2 ((frms (ps.take v)).length + 4) = moreL 0 (ps.getD ((v : Nat) : Int).toNat []) := by rw [ev]; exact R.2.1
    have r3 : (y.2.drop ((frms (ps.take v)).length + 8)).take (ps.getD ((v : Nat) : Int).toNat []).length = (ps.getD ((v : Nat) : Int).toNat []) := by rw [ev]; exact R.2.2.1
    have r4 : (frms (ps.take v)).length + 8 + (ps.getD ((v : Nat) : Int).toNat []).length ≤ y.2.length := by rw [ev]; exact R.2.2.2
    have nx : (frms (ps.take (v + 1))).length = (frms (ps.take v)).length + 8 + (ps.getD ((v : Nat) : Int).toNat []).length := by
      rw [frms_snoc ps v hlt, List.length_append, frm_length, ev]; omega
    clear R
    refine U32_at y.2 (((frms (ps.take v)).length : Nat) : Int) ⟨by omega, a8, by omega⟩ ⟨⟨rfl, rfl, rfl⟩, rfl, trivial⟩ ?_
    intro n1 b1 hg
    rcases hg with ⟨-, -, rfl, hn1⟩ | ⟨h, -⟩
    rotate_left
    · exact absurd ⟨by omega, by omega⟩ h
    have hn1 : n1 = ((ps.getD ((v : Nat) : Int).toNat []).length : Int) := hn1.trans r1
    subst hn1
    repeat' (first
    | (with_reducible first | exact True.intro | apply And.intro | apply If_true | apply If_false | apply If_not)
    | ((with_reducible apply VC.mk); exact vo)
    | ((with_reducible apply If_dec) <;> intro hc <;> (try (exfalso; omega)))
    | ((with_reducible apply If_any) <;> intro hc)
    | ((with_reducible first | apply PF.mk | apply DrawP.mk); (focus kernel_rfl))
    | ((with_reducible apply Same.mk); (focus rfl); (first | exact trivial | exact rfl))
    | (intro cap hcap)
    | ((fail_if_success (with_reducible apply st)); conv => whnf))
    refine U32_at y.2 ((((frms (ps.take v)).length : Nat) : Int) + 4) ⟨by omega, a8, by omega⟩ ⟨⟨rfl, rfl, rfl⟩, rfl, trivial⟩ ?_
    intro n2 b2 hg
    rcases hg with ⟨-, -, rfl, hn2⟩ | ⟨h, -⟩
    rotate_left
    · exact absurd ⟨by omega, by omega⟩ h
    have hn2 : n2 = moreL 0 (ps.getD ((v : Nat) : Int).toNat []) := by
      rw [show ((((frms (ps.take v)).length : Nat) : Int) + 4).toNat = (frms (ps.take v)).length + 4 by omega] at hn2
      exact hn2.trans r2
    subst hn2
    repeat' (first
    | (with_reducible first | exact True.intro | apply And.intro | apply If_true | apply If_false | apply If_not)
    | ((with_reducible apply VC.mk); exact vo)
    | ((with_reducible apply If_dec) <;> intro hc <;> (try (exfalso; omega)))
    | ((with_reducible apply If_any) <;> intro hc)
    | ((with_reducible first | apply PF.mk | apply DrawP.mk); (focus kernel_rfl))
    | ((with_reducible apply Same.mk); (focus rfl); (first | exact trivial | exact rfl))
    | (intro cap hcap)
    | ((fail_if_success (with_reducible apply st)); conv => whnf))
    refine osliceO_at y.2 ((frms (ps.take v)).length + 8) (ps.getD ((v : Nat) : Int).toNat []).length ⟨by omega, by omega⟩ ⟨⟨rfl, rfl, rfl⟩, by show _ = AV.v (.int .i64 _); rw [show ((((frms (ps.take v)).length + 8 : Nat) : Int)) = (((frms (ps.take v)).length : Nat) : Int) + 8 by omega], rfl, trivial⟩ ?_
    intro p cp hp hcp
    have hp : p = (ps.getD ((v : Nat) : Int).toNat []) := hp.trans r3
    have hp8' : B8 p := by rw [hp]; exact hp8
    have hpl : p.length = (ps.getD ((v : Nat) : Int).toNat []).length := by rw [hp]
    repeat' (first
    | (with_reducible first | exact True.intro | apply And.intro | apply If_true | apply If_false | apply If_not)
    | ((with_reducible apply VC.mk); exact vo)
    | ((with_reducible apply If_dec) <;> intro hc <;> (try (exfalso; omega)))
    | ((with_reducible apply If_any) <;> intro hc)
    | ((with_reducible first | apply PF.mk | apply DrawP.mk); (focus kernel_rfl))
    | ((with_reducible apply Same.mk); (focus rfl); (first | exact trivial | exact rfl))
    | (intro cap hcap)
    | ((fail_if_success (with_reducible apply st)); conv => whnf))
    refine osame_at p (ps.getD ((v : Nat) : Int).toNat []) ⟨by omega, by omega⟩ ⟨⟨by show 0 + p.length ≤ p.length; omega, rfl, rfl, by simp [Cont.low, Cont.ren, Cont.same], rfl, Nat.one_pos⟩, ⟨rfl, rfl, rfl⟩, trivial⟩ ?_
    rintro r5 ⟨n, rfl, n1, n2, n3, n4⟩
    have hn : n = (ps.getD ((v : Nat) : Int).toNat []).length := by
      rcases n4 with h | h | h
      · omega
      · exact h
      · rw [hp] at h; exact absurd rfl h
    subst hn
    repeat' (first
    | (with_reducible first | exact True.intro | apply And.intro | apply If_true | apply If_false | apply If_not)
    | ((with_reducible apply VC.mk); exact vo)
    | ((with_reducible apply If_dec) <;> intro hc <;> (try (exfalso; omega)))
    | ((with_reducible apply If_any) <;> intro hc)
    | ((with_reducible first | apply PF.mk | apply DrawP.mk); (focus kernel_rfl))
    | ((with_reducible apply Same.mk); (focus rfl); (first | exact trivial | exact rfl))
    | (intro cap hcap)
    | ((fail_if_success (with_reducible apply st)); conv => whnf))
    have hsum : moreL 0 (p.take p.length) = moreL 0 (ps.getD ((v : Nat) : Int).toNat []) := by rw [List.take_length, hp]
    refine sum2_at p p.length cp [1, 0] ⟨hp8', Nat.le_refl _, by omega⟩ rfl ⟨rfl, rfl, trivial⟩ ⟨rfl, trivial⟩ ?_
    repeat' (first
    | (with_reducible first | exact True.intro | apply And.intro | apply If_true | apply If_false | apply If_not)
    | ((with_reducible apply VC.mk); exact vo)
    | ((with_reducible apply If_dec) <;> intro hc <;> (try (exfalso; omega)))
    | ((with_reducible apply If_any) <;> intro hc)
    | ((with_reducible first | apply PF.mk | apply DrawP.mk); (focus kernel_rfl))
    | ((with_reducible apply Same.mk); (focus rfl); (first | exact trivial | exact rfl))
    | (intro cap hcap)
    | ((fail_if_success (with_reducible apply st)); conv => whnf))
    refine pick_at w (ps.length : Int) ⟨hw, by omega, by omega⟩ ⟨rfl, rfl, trivial⟩ ?_
    intro wp hwp
    clear hwp
    repeat' (first
    | (with_reducible first | exact True.intro | apply And.intro | apply If_true | apply If_false | apply If_not)
    | ((with_reducible apply VC.mk); exact vo)
    | ((with_reducible apply If_dec) <;> intro hc <;> (try (exfalso; omega)))
    | ((with_reducible apply If_any) <;> intro hc)
    | ((with_reducible first | apply PF.mk | apply DrawP.mk); (focus kernel_rfl))
    | ((with_reducible apply Same.mk); (focus rfl); (first | exact trivial | exact rfl))
    | (intro cap hcap)
    | ((fail_if_success (with_reducible apply st)); conv => whnf))
    · have hp4 : 4 < p.length := by omega
      refine pick_at a (8 * (p.length : Int) - 32) ⟨ha, by omega, by omega⟩ ⟨rfl, rfl, trivial⟩ ?_
      intro kk hkk
      have k0 : 0 ≤ kk := by rw [hkk]; exact Int.emod_nonneg _ (by omega)
      have k1 : kk < 8 * (p.length : Int) - 32 := by rw [hkk]; exact Int.emod_lt_of_pos _ (by omega)
      obtain ⟨K, rfl⟩ : ∃ K : Nat, kk = K := ⟨kk.toNat, by omega⟩
      clear hkk
      obtain ⟨B, rfl⟩ : ∃ B : Nat, bt = B := ⟨bt.toNat, by omega⟩
      repeat' (first
    | (with_reducible first | exact True.intro | apply And.intro | apply If_true | apply If_false | apply If_not)
    | ((with_reducible apply VC.mk); exact vo)
    | ((with_reducible apply If_dec) <;> intro hc <;> (try (exfalso; omega)))
    | ((with_reducible apply If_any) <;> intro hc)
    | ((with_reducible first | apply PF.mk | apply DrawP.mk); (focus kernel_rfl))
    | ((with_reducible apply Same.mk); (focus rfl); (first | exact trivial | exact rfl))
    | (intro cap hcap)
    | ((fail_if_success (with_reducible apply st)); conv => whnf))
      refine LoopP.mk ⟨Nat × List Int, fun u => u.1 ≤ 32 ∧ u.2.length = p.length ∧ B8 u.2 ∧ cDif p u.2 = (B % 2 ^ u.1) <<< K, fun u => ([(3, .im true 1 ps.length (partsC true ps)), (4, .v (.int .i64 w)), (5, .v (.int .i64 a)), (6, .v (.int .u32 ((B : Nat) : Int))), (7, .im true 1 y.2.length (.ints .u8 y.2)), (10, .v (.int .i64 (((frms (ps.take v)).length : Nat) : Int))), (11, .v (.int .i64 ((v : Nat) : Int))), (12, .v (.int .u32 ((ps.getD ((v : Nat) : Int).toNat []).length : Int))), (14, .v (.int .u32 (moreL 0 (ps.getD ((v : Nat) : Int).toNat [])))), (16, .s 0 0 1 u.2.length cp), (18, .v (.int .i64 ((K : Nat) : Int))), (19, .v (.int .i64 ((u.1 : Nat) : Int)))], [.blk 5 (.ints .u8 u.2) cp]), fun u => 32 - u.1, (0, p), ⟨Nat.zero_le _, rfl, hp8', by rw [cDif_self, Nat.pow_zero, Nat.mod_one, Nat.zero_shiftLeft]⟩, Fit.ren [0] [] rfl rfl trivial ?_ ?_, ?_⟩
      · repeat' (first
    | (with_reducible first | exact True.intro | apply And.intro | apply If_true | apply If_false | apply If_not)
    | ((with_reducible apply VC.mk); exact vo)
    | ((with_reducible apply If_dec) <;> intro hc <;> (try (exfalso; omega)))
    | ((with_reducible apply If_any) <;> intro hc)
    | ((with_reducible first | apply PF.mk | apply DrawP.mk); (focus kernel_rfl))
    | ((with_reducible apply Same.mk); (focus rfl); (first | exact trivial | exact rfl))
    | (intro cap hcap)
    | ((fail_if_success (with_reducible apply st)); conv => whnf))
      · repeat' (first
    | (with_reducible first | exact True.intro | apply And.intro | apply If_true | apply If_false | apply If_not)
    | ((with_reducible apply VC.mk); exact vo)
    | ((with_reducible apply If_dec) <;> intro hc <;> (try (exfalso; omega)))
    | ((with_reducible apply If_any) <;> intro hc)
    | ((with_reducible first | apply PF.mk | apply DrawP.mk); (focus kernel_rfl))
    | ((with_reducible apply Same.mk); (focus rfl); (first | exact trivial | exact rfl))
    | (intro cap hcap)
    | ((fail_if_success (with_reducible apply st)); conv => whnf))
      intro u hu
      obtain ⟨u1, u2, u3, u4⟩ := hu
      have hB : B < 4294967296 := by omega
      have hba : u.1 < 32 → Go.bits .and .u32 (((B : Nat) : Int) / 2 ^ (min ((u.1 : Nat) : Int).toNat IntKind.u32.bits)) 1 = ((B / 2 ^ u.1 % 2 : Nat) : Int) := fun h => bit_and hB h
      have ei : 0 + ((((K : Nat) : Int) + ((u.1 : Nat) : Int)) / 8).toNat = (K + u.1) / 8 := by omega
      have er : (((K : Nat) : Int) + ((u.1 : Nat) : Int)) % 8 = (((K + u.1) % 8 : Nat) : Int) := by omega
      repeat' (first
    | (with_reducible first | exact True.intro | apply And.intro | apply If_true | apply If_false | apply If_not)
    | ((with_reducible apply VC.mk); exact vo)
    | ((with_reducible apply If_dec) <;> intro hc <;> (try (exfalso; omega)))
    | ((with_reducible apply If_any) <;> intro hc)
    | ((with_reducible first | apply PF.mk | apply DrawP.mk); (focus kernel_rfl))
    | ((with_reducible apply Same.mk); (focus rfl); (first | exact trivial | exact rfl))
    | (intro cap hcap)
    | ((fail_if_success (with_reducible apply st)); conv => whnf))
      · have hj : u.1 < 32 := by omega
        have hbit : B / 2 ^ u.1 % 2 = 1 := by have := hba hj; omega
        obtain ⟨t1, t2⟩ := turn_set u2 u3 u4 (by omega) hj hbit rfl rfl
        rw [← er, ← ei] at t1 t2
        refine Round.mk ⟨(u.1 + 1, u.2.set (0 + ((((K : Nat) : Int) + ((u.1 : Nat) : Int)) / 8).toNat) (Go.bits .xor .u8 (u.2.getD (0 + ((((K : Nat) : Int) + ((u.1 : Nat) : Int)) / 8).toNat) 0) (IntKind.u8.wrap (1 * 2 ^ (min ((((K : Nat) : Int) + ((u.1 : Nat) : Int)) % 8).toNat IntKind.u8.bits))))), ⟨by show u.1 + 1 ≤ 32; omega, by show (List.set _ _ _).length = _; rw [List.length_set]; exact u2, t1, t2⟩, by show 32 - (u.1 + 1) < 32 - u.1; omega, Fit.ren [0] [] rfl rfl trivial ?_ ?_⟩
        · repeat' (first
    | (with_reducible first | exact True.intro | apply And.intro | apply If_true | apply If_false | apply If_not)
    | ((with_reducible apply VC.mk); exact vo)
    | ((with_reducible apply If_dec) <;> intro hc <;> (try (exfalso; omega)))
    | ((with_reducible apply If_any) <;> intro hc)
    | ((with_reducible first | apply PF.mk | apply DrawP.mk); (focus kernel_rfl))
    | ((with_reducible apply Same.mk); (focus rfl); (first | exact trivial | exact rfl))
    | (intro cap hcap)
    | ((fail_if_success (with_reducible apply st)); conv => whnf))
        · repeat' (first
    | (with_reducible first | exact True.intro | apply And.intro | apply If_true | apply If_false | apply If_not)
    | ((with_reducible apply VC.mk); exact vo)
    | ((with_reducible apply If_dec) <;> intro hc <;> (try (exfalso; omega)))
    | ((with_reducible apply If_any) <;> intro hc)
    | ((with_reducible first | apply PF.mk | apply DrawP.mk); (focus kernel_rfl))
    | ((with_reducible apply Same.mk); (focus rfl); (first | exact trivial | exact rfl))
    | (intro cap hcap)
    | ((fail_if_success (with_reducible apply st)); conv => whnf))
          all_goals trace_state
      · have hj : u.1 < 32 := by omega
        have hbit : B / 2 ^ u.1 % 2 ≠ 1 := by have := hba hj; omega
        refine Round.mk ⟨(u.1 + 1, u.2), ⟨by show u.1 + 1 ≤ 32; omega, u2, u3, ?_⟩, by show 32 - (u.1 + 1) < 32 - u.1; omega, Fit.ren [0] [] rfl rfl trivial ?_ ?_⟩
        · show cDif p u.2 = (B % 2 ^ (u.1 + 1)) <<< K
          rw [← cRow_bit, if_neg hbit, Nat.xor_zero]; exact u4
        · repeat' (first
    | (with_reducible first | exact True.intro | apply And.intro | apply If_true | apply If_false | apply If_not)
    | ((with_reducible apply VC.mk); exact vo)
    | ((with_reducible apply If_dec) <;> intro hc <;> (try (exfalso; omega)))
    | ((with_reducible apply If_any) <;> intro hc)
    | ((with_reducible first | apply PF.mk | apply DrawP.mk); (focus kernel_rfl))
    | ((with_reducible apply Same.mk); (focus rfl); (first | exact trivial | exact rfl))
    | (intro cap hcap)
    | ((fail_if_success (with_reducible apply st)); conv => whnf))
        · repeat' (first
    | (with_reducible first | exact True.intro | apply And.intro | apply If_true | apply If_false | apply If_not)
    | ((with_reducible apply VC.mk); exact vo)
    | ((with_reducible apply If_dec) <;> intro hc <;> (try (exfalso; omega)))
    | ((with_reducible apply If_any) <;> intro hc)
    | ((with_reducible first | apply PF.mk | apply DrawP.mk); (focus kernel_rfl))
    | ((with_reducible apply Same.mk); (focus rfl); (first | exact trivial | exact rfl))
    | (intro cap hcap)
    | ((fail_if_success (with_reducible apply st)); conv => whnf))
      have hu32 : u.1 = 32 := by omega
      rw [hu32, Nat.mod_eq_of_lt (by omega)] at u4
      have hne := moreL_burst hp8' u3 u2.symm u4 (by omega) (by omega) (by omega)
      have hne2 : moreL 0 (u.2.take u.2.length) ≠ moreL 0 (ps.getD ((v : Nat) : Int).toNat []) := by rw [List.take_length, ← hp]; exact hne.symm
      refine sum2_at u.2 u.2.length cp [1, 0] ⟨u3, Nat.le_refl _, by omega⟩ rfl ⟨rfl, rfl, trivial⟩ ⟨rfl, trivial⟩ ?_
      repeat' (first
    | (with_reducible first | exact True.intro | apply And.intro | apply If_true | apply If_false | apply If_not)
    | ((with_reducible apply VC.mk); exact vo)
    | ((with_reducible apply If_dec) <;> intro hc <;> (try (exfalso; omega)))
    | ((with_reducible apply If_any) <;> intro hc)
    | ((with_reducible first | apply PF.mk | apply DrawP.mk); (focus kernel_rfl))
    | ((with_reducible apply Same.mk); (focus rfl); (first | exact trivial | exact rfl))
    | (intro cap hcap)
    | ((fail_if_success (with_reducible apply st)); conv => whnf))
      refine Round.mk ⟨v + 1, by show v + 1 ≤ ps.length; omega, by show ps.length - (v + 1) < ps.length - v; omega, Fit.ren [] [] rfl rfl trivial trivial ?_⟩
      repeat' (first
    | (with_reducible first | exact True.intro | apply And.intro | apply If_true | apply If_false | apply If_not)
    | ((with_reducible apply VC.mk); exact vo)
    | ((with_reducible apply If_dec) <;> intro hc <;> (try (exfalso; omega)))
    | ((with_reducible apply If_any) <;> intro hc)
    | ((with_reducible first | apply PF.mk | apply DrawP.mk); (focus kernel_rfl))
    | ((with_reducible apply Same.mk); (focus rfl); (first | exact trivial | exact rfl))
    | (intro cap hcap)
    | ((fail_if_success (with_reducible apply st)); conv => whnf))
      all_goals (refine VC.mk (congrArg (Value.int .i64) ?_); omega)
    all_goals
      refine Round.mk ⟨v + 1, by show v + 1 ≤ ps.length; omega, by show ps.length - (v + 1) < ps.length - v; omega, Fit.ren [] [] rfl rfl trivial trivial ?_⟩
      repeat' (first
    | (with_reducible first | exact True.intro | apply And.intro | apply If_true | apply If_false | apply If_not)
    | ((with_reducible apply VC.mk); exact vo)
    | ((with_reducible apply If_dec) <;> intro hc <;> (try (exfalso; omega)))
    | ((with_reducible apply If_any) <;> intro hc)
    | ((with_reducible first | apply PF.mk | apply DrawP.mk); (focus kernel_rfl))
    | ((with_reducible apply Same.mk); (focus rfl); (first | exact trivial | exact rfl))
    | (intro cap hcap)
    | ((fail_if_success (with_reducible apply st)); conv => whnf))
      all_goals (refine VC.mk (congrArg (Value.int .i64) ?_); omega)
  have hvl : v = ps.length := by omega
  exact Fin.bool (by rw [hvl, List.take_length, ← g2]; exact decide_eq_true rfl) hk
end Go.Proofs.Ytcfmlnddmpiemaa.Sx

