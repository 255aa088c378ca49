import Derived.Test.YtcfmlnddmpiemaaSxU5
import Derived.Test.YtcfmlnddmpiemaaSxEc
import Derived.Test.YtcfmlnddmpiemaaSxU4
import Derived.Test.YtcfmlnddmpiemaaSxU1
import Derived.Test.YtcfmlnddmpiemaaSxU3
set_option linter.unusedVariables false
set_option linter.unusedSimpArgs false
set_option maxRecDepth 10000
namespace Go.Proofs.Ytcfmlnddmpiemaa.Sx
/-! ### The law TopTables, plain -/
abbrev hT : HD := HD.r 120
theorem hT_clus : hT.clus = 512 := by unfold HD.clus; rw [if_neg (by decide)]; rfl
theorem hT_jend : hT.jend = 15360 := by unfold HD.jend; rw [hT_clus]; decide
abbrev eZ : ER := ⟨0, 0, false⟩
/-- What a table of the law holds: so many clusters, given out one behind the other. -/
structure TMu (M : List ER) (u : Nat) : Prop where
  len : M.length = 64
  rng : ∀ i, i < 64 → (M.getD i eZ).kind = 2 → 33 ≤ (M.getD i eZ).cl ∧ (M.getD i eZ).cl < 33 + u
  inj : ∀ i j, i < 64 → j < 64 → (M.getD i eZ).kind = 2 → (M.getD j eZ).kind = 2 → (M.getD i eZ).cl = (M.getD j eZ).cl → i = j
  cnt : M.countP (fun x => decide (x.kind = 2)) = u
theorem getD_set_ne {M : List ER} {p i : Nat} {x : ER} (h : i ≠ p) : (M.set p x).getD i eZ = M.getD i eZ := by
  rw [List.getD_eq_getElem?_getD, List.getElem?_set_ne (fun e => h e.symm), ← List.getD_eq_getElem?_getD]
theorem getD_set_eq {M : List ER} {p : Nat} {x : ER} (h : p < M.length) : (M.set p x).getD p eZ = x := by
  rw [List.getD_eq_getElem?_getD, List.getElem?_set_self h]; rfl
theorem TMu.set {M : List ER} {u : Nat} (h : TMu M u) {p : Nat} (hp : p < 64) (hk : (M.getD p eZ).kind ≠ 2) : TMu (M.set p ⟨2, 33 + (u : Int), true⟩) (u + 1) := by
  obtain ⟨h1, h2, h3, h4⟩ := h
  have gs : (M.set p ⟨2, 33 + (u : Int), true⟩).getD p eZ = ⟨2, 33 + (u : Int), true⟩ := getD_set_eq (by omega)
  have gn : ∀ i, i ≠ p → (M.set p ⟨2, 33 + (u : Int), true⟩).getD i eZ = M.getD i eZ := fun i hi => getD_set_ne hi
  refine ⟨by rw [List.length_set]; exact h1, fun i hi => ?_, fun i j hi hj => ?_, ?_⟩
  · by_cases e : i = p
    · subst e; rw [gs]; intro _; show 33 ≤ 33 + (u : Int) ∧ 33 + (u : Int) < 33 + ((u + 1 : Nat) : Int); omega
    · rw [gn i e]; intro k2; have := h2 i hi k2; omega
  · by_cases e : i = p
    · by_cases e2 : j = p
      · omega
      · rw [gn j e2, e, gs]
        intro _ k2 k3
        have := h2 j hj k2
        have k3 : 33 + (u : Int) = (M.getD j eZ).cl := k3
        omega
    · by_cases e2 : j = p
      · rw [gn i e, e2, gs]
        intro k1 _ k3
        have := h2 i hi k1
        have k3 : (M.getD i eZ).cl = 33 + (u : Int) := k3
        omega
      · rw [gn i e, gn j e2]; exact h3 i j hi hj
  · rw [List.countP_set (by omega), h4]
    have e : M[p]'(by omega) = M.getD p eZ := by rw [List.getD_eq_getElem?_getD, List.getElem?_eq_getElem (by omega)]; rfl
    have hk2 : decide ((M.getD p eZ).kind = 2) = false := decide_eq_false hk
    rw [e, hk2]
    rfl
structure TTI (b : List Int) (t : TR) (M : List ER) (u : Nat) : Prop where
  ok : t.Ok
  over : t.over = false
  fresh : t.fresh = []
  inn : t.In jR
  b8 : t.B b
  cnt : ∀ q : Nat, q < 120 → cntV t b hT q = if q < 33 + u then 1 else 0
  tab : TabV t b 16384 M
  keys : ∀ k ∈ t.ks, k = 30 ∨ k = 32
  tm : TMu M u
theorem TTI.step {b : List Int} {t : TR} {M : List ER} {u : Nat} (h : TTI b t M u) (hu : u < 87) {p : Nat} (hp : p < 64) (hk : (M.getD p eZ).kind ≠ 2) :
    TTI b ((t.put b (hT.jend + 2 * ((33 + u : Nat) : Int)).toNat (leB 2 1)).put b (16384 + 8 * p) (leB 8 (encV ⟨2, 33 + (u : Int), true⟩).1)) (M.set p ⟨2, 33 + (u : Int), true⟩) (u + 1) := by
  obtain ⟨a1, a2, a3, a4, a5, a6, a7, a8, a9⟩ := h
  have e1 : (hT.jend + 2 * ((33 + u : Nat) : Int)).toNat = 15360 + 2 * (33 + u) := by rw [hT_jend]; omega
  have l2 : (leB 2 1).length = 2 := leB_length 2 1
  have l8 : (leB 8 (encV ⟨2, 33 + (u : Int), true⟩).1).length = 8 := leB_length 8 _
  have ex : (encV ⟨2, 33 + (u : Int), true⟩).2 = 0 := by unfold encV; rw [if_neg (by simp), if_neg (by simp; omega)]; rfl
  have c1 := cnt_put a1 b (h := hT) (by rw [hT_jend]; decide) (33 + u) (c := 1)
  rw [e1] at c1 ⊢
  obtain ⟨p1, p2, p3, p4, p5⟩ := put_V a1 b (15360 + 2 * (33 + u)) (leB 2 1)
  have i1 := put_In a4 a1 a5 (a := 15360 + 2 * (33 + u)) (p := leB 2 1) (leB_B8 _ _) jR_al (by omega) (.inr (.inr (by show (512 : Int) + 14848 ≤ _; omega)))
  have b1 := a5.put a1 (15360 + 2 * (33 + u)) (leB_B8 2 1)
  obtain ⟨t1, ht1⟩ : ∃ t1, t1 = t.put b (15360 + 2 * (33 + u)) (leB 2 1) := ⟨_, rfl⟩
  have k1 := put_ks t b (15360 + 2 * (33 + u)) (leB 2 1)
  rw [← ht1] at c1 p1 p2 p3 p4 p5 i1 b1 k1 ⊢
  have tab1 : TabV t1 b 16384 M := ⟨a7.1, fun i hi => by
    refine ⟨(a7.2 i hi).1, ?_⟩
    rw [← (a7.2 i hi).2]
    refine rd_congr (fun q hq => ?_)
    rw [p5, l2, if_neg (by omega)]⟩
  obtain ⟨q1, q2, q3, q4, q5⟩ := put_V p1 b (16384 + 8 * p) (leB 8 (encV ⟨2, 33 + (u : Int), true⟩).1)
  refine ⟨q1, q3.trans (p3.trans a2), q2.trans (p2.trans a3), put_In i1 p1 b1 (leB_B8 _ _) jR_al (by omega) (.inr (.inr (by show (512 : Int) + 14848 ≤ _; omega))), b1.put p1 _ (leB_B8 _ _), fun q hq => ?_, tab1.put p1 p hp ex, fun k hk => ?_, a9.set hp hk⟩
  · have e2 : cntV (t1.put b (16384 + 8 * p) (leB 8 (encV ⟨2, 33 + (u : Int), true⟩).1)) b hT q = cntV t1 b hT q := by
      unfold cntV
      rw [hT_jend]
      refine congrArg leV (rd_congr (fun i hi => ?_))
      rw [q5, l8, if_neg (by show ¬ (16384 + 8 * p ≤ (15360 : Int).toNat + 2 * q + i ∧ _); have : (15360 : Int).toNat = 15360 := rfl; omega)]
    rw [e2, c1 q ⟨by decide, by decide⟩, a6 q hq]
    by_cases e3 : q = 33 + u
    · rw [if_pos e3, if_pos (by omega)]
    · rw [if_neg e3]
      by_cases e4 : q < 33 + u
      · rw [if_pos e4, if_pos (by omega)]
      · rw [if_neg e4, if_neg (by omega)]
  · rw [put_ks, k1] at hk
    rcases hk with (hk | ⟨-, m, rfl, m1, m2⟩) | ⟨-, m, rfl, m1, m2⟩
    · exact a8 k hk
    · omega
    · omega
theorem TTI.zero {b : List Int} (hb : RZ 33 b) : TTI b TR.zero (List.replicate 64 eZ) 0 := by
  have hz : ∀ i, TR.zero.V b i = oneAt 33 i := fun i => by rw [zero_V, hb.2]
  have e : ∀ i, (List.replicate 64 eZ).getD i eZ = eZ := fun i => by
    rw [List.getD_eq_getElem?_getD, List.getElem?_replicate]; split <;> rfl
  refine ⟨TR.zero_ok, rfl, rfl, TR.zero_In _, fun i => by rw [hz]; unfold oneAt; split <;> decide, fun q _ => hb.cnt hT_jend q, ⟨List.length_replicate .., fun i hi => ?_⟩, fun k hk => absurd hk List.not_mem_nil, ⟨List.length_replicate .., fun i _ => ?_, fun i j _ _ => ?_, ?_⟩⟩
  · rw [e]
    refine ⟨rfl, ?_⟩
    show List.map _ _ = _
    have : (fun q => TR.zero.V b (16384 + 8 * i + q)) = fun _ => 0 := funext (fun q => by rw [hz]; unfold oneAt; rw [if_neg (by omega)])
    rw [this]
    decide
  · rw [e]; intro h; cases h
  · rw [e]; intro h; cases h
  · rw [List.countP_replicate]; rfl
/-- What a file shows. -/
structure TTV (now : List Int) (M : List ER) (u : Nat) : Prop where
  cnt : cntL TR.zero now hT = (List.range 120).map (fun q => if q < 33 + u then 1 else 0)
  tab : TabV TR.zero now 16384 M
  tm : TMu M u
theorem TTI.room {b : List Int} {t : TR} {M : List ER} {u : Nat} (h : TTI b t M u) {rs : List RecR} (hr : RecRel t rs) : t.dirty.length ≤ 2 ∧ (encL rs).length ≤ 1048 := by
  have hn : ((t.dirty.map (fun x => x.1)).map Int.toNat).Nodup := by
    rw [List.nodup_iff_pairwise_ne, List.pairwise_map]
    refine List.Pairwise.imp_of_mem ?_ (List.nodup_iff_pairwise_ne.1 h.inn.nodup)
    intro a b ha hb hne e
    have := h.keys a ha
    have := h.keys b hb
    omega
  have hl : t.dirty.length ≤ 2 := by
    have := sub_len (s := [30, 32]) hn (fun b hb => by
      obtain ⟨k, hk, rfl⟩ := List.mem_map.1 hb
      rcases h.keys k hk with rfl | rfl <;> simp)
    rwa [List.length_map, List.length_map] at this
  refine ⟨hl, ?_⟩
  have := (hr.B h.ok (B := 32) (fun q hq => by have := h.keys _ (List.mem_map.2 ⟨q, hq, rfl⟩); omega)).2.1
  omega
end Go.Proofs.Ytcfmlnddmpiemaa.Sx


set_option maxRecDepth 10000
namespace Go.Proofs.Ytcfmlnddmpiemaa.Sx
open Go.RowKit Go.Proofs.Ytcfmlnddmpiemaa.Sx.Tb
/-! ### The functions of TopTables -/
set_option maxHeartbeats 4000000 in
theorem pick_c (n b : Int) (k : K) (h0 : inR .i64 n ∧ 0 < b ∧ b ≤ 1099511627776) (hk : ∀ r : Int, r = n % 18446744073709551616 % b → k (.v (.int .i64 r)) []) : evFunc tab [6] [] Go.Proofs.Try.f13 [.v (.int .i64 n), .v (.int .i64 b)] [] k := by
  obtain ⟨h1, h2, h3⟩ := h0
  have w : IntKind.u64.wrap n = n % 18446744073709551616 := wrap_u64 n
  have g1 : 0 ≤ n % 18446744073709551616 % b := Int.emod_nonneg _ (by omega)
  have g2 : n % 18446744073709551616 % b < b := Int.emod_lt_of_pos _ h2
  have g3 : 0 ≤ IntKind.u64.wrap n := by rw [w]; exact Int.emod_nonneg _ (by decide)
  repeat' (first
    | (with_reducible first | exact True.intro | apply And.intro | apply If_true | apply If_false | apply If_not)
    | ((with_reducible apply VC.mk); exact vt)
    | ((with_reducible apply If_dec) <;> intro hc <;> (try (exfalso; omega)))
    | ((with_reducible apply If_any) <;> intro hc)
    | ((with_reducible first | apply PF.mk | apply DrawP.mk); (focus kernel_rfl))
    | ((with_reducible apply Same.mk); (focus rfl); (first | exact trivial | exact rfl))
    | (intro cap hcap)
    | ((fail_if_success (with_reducible apply st)); conv => whnf))
  · exact VC.mk (by rw [w]; simp only [inR]; omega)
  · exact Fin.vl (hk _ (by rw [w]))
def pickOk (x : Int × Int) : Prop := inR .i64 x.1 ∧ 0 < x.2 ∧ x.2 ≤ 1099511627776
def pickRel (x : Int × Int) (r : Int) : Prop := r = x.1 % 18446744073709551616 % x.2
theorem pick_K : ConOk Go.Proofs.Try.prog 13 (Con.of (Int × Int) (Int) (fun x => [.v (.int .i64 x.1), .v (.int .i64 x.2)]) (fun _ => []) pickOk pickRel (fun _ r => .v (.int .i64 r)) (fun _ _ => [])) := by
  refine conOk_rel (T := tab) mix Go.Proofs.Try.func13 (by decide +kernel) (by kernel_rfl) [6] [] (fun n => by rw [Go.Proofs.Try.ntmps13]; exact Nat.le_of_ble_eq_true rfl) (fun x r _ _ => ⟨by simp [AV.noF, noFs, Cont.noF, recsC_noF], (fun c hc => by cases hc), Nat.le_refl _⟩) (fun x _ c hc => by cases hc) ?_
  intro x k h0 hk
  exact pick_c x.1 x.2 k h0 (fun r hr => hk r hr)
theorem pick_at {avs : List AV} {H : List Chunk} {k : K} (n : Int) (b : Int) (h0 : inR .i64 n ∧ 0 < b ∧ b ≤ 1099511627776) (ha : argsM H [] [.v (.int .i64 n), .v (.int .i64 b)] avs) (hQ : ∀ r : Int, (r = n % 18446744073709551616 % b) → k (.v (.int .i64 r)) H) : CallP Go.Proofs.Try.prog 13 avs H k :=
  CallP.mk ⟨_, pick_K.real, Con.spec pick_K, (n, b), [], ⟨h0, rfl, trivial, ha⟩, fun r hr => (numK_eq H.length (fun N => k (AV.ren (fren [] N) (.v (.int .i64 r))) (putAll H [] []))).mpr (by simpa [putAll, AV.ren, rens, Cont.ren, recsC, recAV] using hQ r hr)⟩
end Go.Proofs.Ytcfmlnddmpiemaa.Sx


set_option maxRecDepth 10000
namespace Go.Proofs.Ytcfmlnddmpiemaa.Sx
open Go.RowKit Go.Proofs.Ytcfmlnddmpiemaa.Sx.Tb
/-! ### Sets of bytes -/
def memE (l : List ExR) (z : Int) : Prop := ∃ x ∈ l, x.1 ≤ z ∧ z < x.2
theorem memE_nil (z : Int) : ¬ memE [] z := fun ⟨x, hx, _⟩ => by cases hx
theorem memE_append (l m : List ExR) (z : Int) : memE (l ++ m) z ↔ memE l z ∨ memE m z := by
  unfold memE
  constructor
  · rintro ⟨x, hx, h⟩
    rcases List.mem_append.1 hx with hx | hx
    · exact .inl ⟨x, hx, h⟩
    · exact .inr ⟨x, hx, h⟩
  · rintro (⟨x, hx, h⟩ | ⟨x, hx, h⟩)
    · exact ⟨x, List.mem_append.2 (.inl hx), h⟩
    · exact ⟨x, List.mem_append.2 (.inr hx), h⟩
theorem memE_one (x : ExR) (z : Int) : memE [x] z ↔ x.1 ≤ z ∧ z < x.2 := by
  unfold memE
  simp
theorem memE_perm {l m : List ExR} (h : l.Perm m) (z : Int) : memE l z ↔ memE m z := by
  unfold memE
  constructor
  · rintro ⟨x, hx, g⟩; exact ⟨x, h.mem_iff.1 hx, g⟩
  · rintro ⟨x, hx, g⟩; exact ⟨x, h.mem_iff.2 hx, g⟩
theorem take_snoc {α : Type} {l : List α} {i : Nat} (z : α) (h : i < l.length) : l.take (i + 1) = l.take i ++ [l.getD i z] := by
  rw [List.take_add_one, List.getElem?_eq_getElem h, List.getD_eq_getElem?_getD, List.getElem?_eq_getElem h]; rfl
/-- The parts that were put together so far. -/
structure NormI (r : List ExR) (i : Nat) (o : List ExR) : Prop where
  le : i ≤ r.length
  ol : o.length ≤ i
  mem : ∀ z, memE o z ↔ memE (r.take i) z
  ord : ∀ y ∈ o, ∀ j, i ≤ j → j < r.length → y.1 ≤ (r.getD j (0, 0)).1
  bnd : ∀ y ∈ o, inR .i64 y.1 ∧ inR .i64 y.2
theorem NormI.skip {r : List ExR} {i : Nat} {o : List ExR} (h : NormI r i o) (hi : i < r.length) (hx : (r.getD i (0, 0)).2 ≤ (r.getD i (0, 0)).1) : NormI r (i + 1) o := by
  refine ⟨hi, Nat.le_succ_of_le h.ol, fun z => ?_, fun y hy j hj => h.ord y hy j (by omega), h.bnd⟩
  rw [take_snoc (0, 0) hi, memE_append, memE_one, h.mem]
  constructor
  · exact .inl
  · rintro (g | g)
    · exact g
    · omega
theorem srt_get {r : List ExR} (hs : SrtE r) {i j : Nat} (hij : i ≤ j) (hj : j < r.length) : (r.getD i (0, 0)).1 ≤ (r.getD j (0, 0)).1 := by
  rw [List.getD_eq_getElem?_getD, List.getD_eq_getElem?_getD, List.getElem?_eq_getElem (by omega), List.getElem?_eq_getElem hj]
  by_cases e : i = j
  · subst e; exact Int.le_refl _
  · exact List.pairwise_iff_getElem.1 hs i j (by omega) hj (by omega)
theorem NormI.add {r : List ExR} {i : Nat} {o : List ExR} (h : NormI r i o) (hs : SrtE r) (hi : i < r.length) (hb : inR .i64 (r.getD i (0, 0)).1 ∧ inR .i64 (r.getD i (0, 0)).2) : NormI r (i + 1) (o ++ [r.getD i (0, 0)]) := by
  refine ⟨hi, by rw [List.length_append]; have := h.ol; show o.length + 1 ≤ _; omega, fun z => ?_, fun y hy j hj hjl => ?_, fun y hy => ?_⟩
  · rw [take_snoc (0, 0) hi, memE_append, memE_append, h.mem]
  · rcases List.mem_append.1 hy with hy | hy
    · exact h.ord y hy j (by omega) hjl
    · rw [List.mem_singleton.1 hy]; exact srt_get hs (by omega) hjl
  · rcases List.mem_append.1 hy with hy | hy
    · exact h.bnd y hy
    · rw [List.mem_singleton.1 hy]; exact hb
theorem NormI.merge {r : List ExR} {i n : Nat} {o : List ExR} (h : NormI r i o) (hs : SrtE r) (hi : i < r.length) (hn : n + 1 = o.length) (hx : (r.getD i (0, 0)).1 ≤ (o.getD n (0, 0)).2) (hb : inR .i64 (r.getD i (0, 0)).1 ∧ inR .i64 (r.getD i (0, 0)).2) : NormI r (i + 1) (o.set n ((o.getD n (0, 0)).1, max (o.getD n (0, 0)).2 (r.getD i (0, 0)).2)) := by
  have hcut : o = o.take n ++ [o.getD n (0, 0)] := by
    conv => lhs; rw [← List.take_length (l := o), ← hn]
    exact take_snoc (0, 0) (by omega)
  have hset : ∀ v : ExR, o.set n v = o.take n ++ [v] := fun v => by
    rw [List.set_eq_take_append_cons_drop, if_pos (by omega), List.drop_eq_nil_of_le (by omega)]
  have hmem : o.getD n (0, 0) ∈ o := by rw [List.getD_eq_getElem?_getD, List.getElem?_eq_getElem (by omega)]; exact List.getElem_mem _
  have hord := h.ord _ hmem i (Nat.le_refl _) hi
  refine ⟨hi, by rw [List.length_set]; have := h.ol; omega, fun z => ?_, fun y hy j hj hjl => ?_, fun y hy => ?_⟩
  · rw [hset, take_snoc (0, 0) hi, memE_append, memE_append, ← h.mem]
    conv => rhs; rw [hcut, memE_append]
    rw [memE_one, memE_one, memE_one]
    generalize o.getD n (0, 0) = a at *
    generalize r.getD i (0, 0) = b at *
    constructor
    · rintro (g | g)
      · exact .inl (.inl g)
      · have g : a.1 ≤ z ∧ z < max a.2 b.2 := g
        by_cases c : z < a.2
        · exact .inl (.inr ⟨g.1, c⟩)
        · exact .inr (by omega)
    · rintro ((g | g) | g)
      · exact .inl g
      · exact .inr (show a.1 ≤ z ∧ z < max a.2 b.2 by omega)
      · exact .inr (show a.1 ≤ z ∧ z < max a.2 b.2 by omega)
  · rw [hset] at hy
    rcases List.mem_append.1 hy with hy | hy
    · exact h.ord y (List.mem_of_mem_take hy) j (by omega) hjl
    · rw [List.mem_singleton.1 hy]
      exact h.ord _ hmem j (by omega) hjl
  · rw [hset] at hy
    rcases List.mem_append.1 hy with hy | hy
    · exact h.bnd y (List.mem_of_mem_take hy)
    · rw [List.mem_singleton.1 hy]
      have := h.bnd _ hmem
      refine ⟨this.1, ?_⟩
      show inR .i64 (max (o.getD n (0, 0)).2 (r.getD i (0, 0)).2)
      rw [Int.max_def]
      split
      · exact hb.2
      · exact this.2
theorem ex_les {H : List Chunk} {fz : List Nat} {f : Nat → Nat} {ph : Nat → Bool} {L : List AV} {q : ExR} (h : L = exAV q) : les H fz f ph (exAV q) L := by
  subst h
  exact ⟨VC.mk rfl, VC.mk rfl, trivial⟩
theorem ex_set {o : List ExR} {n m j : Nat} {v : Int} (hm : m = n) (hn : n < o.length) : (if j = m then (exAV (o.getD m (0, 0))).set 1 (.v (.int .i64 v)) else exAV (o.getD j (0, 0))) = exAV ((o.set n ((o.getD n (0, 0)).1, v)).getD j (0, 0)) := by
  subst hm
  by_cases h : j = m
  · subst h
    rw [if_pos rfl, List.getD_eq_getElem?_getD (l := o.set _ _), List.getElem?_set_self hn]; rfl
  · rw [if_neg h, List.getD_eq_getElem?_getD (l := o.set _ _), List.getElem?_set_ne (fun e => h e.symm), ← List.getD_eq_getElem?_getD]
theorem ex_snoc {o : List ExR} {x : ExR} {j : Nat} (hj : j < (o ++ [x]).length) : (if j < o.length then exAV (o.getD j (0, 0)) else exAV x) = exAV ((o ++ [x]).getD j (0, 0)) := by
  rw [List.length_append] at hj
  have hj : j < o.length + 1 := hj
  by_cases h : j < o.length
  · rw [if_pos h, List.getD_eq_getElem?_getD, List.getD_eq_getElem?_getD, List.getElem?_append_left h]
  · rw [if_neg h, List.getD_eq_getElem?_getD, List.getElem?_append_right (by omega), show j - o.length = 0 by omega]; rfl
theorem exC_noF (l : List ExR) : (exC l).noF := fun _ _ => ⟨trivial, trivial, trivial⟩
set_option maxHeartbeats 4000000 in
theorem eclone_c (l : List ExR) (k : K) (h0 : 0 < l.length ∧ l.length ≤ 1048576) (hk : ∀ r : Nat, l.length ≤ r → k (.s 0 0 2 l.length r) [.blk 31 (exC l) (r * 2)]) : evFunc tab [] [] Go.Proofs.Try.f75 [.im false 2 l.length (exC l)] [] k := by
  obtain ⟨h1, h2⟩ := h0
  repeat' (first
    | (with_reducible first | exact True.intro | apply And.intro | apply If_true | apply If_false | apply If_not)
    | ((with_reducible apply VC.mk); exact vt)
    | ((with_reducible apply If_dec) <;> intro hc <;> (try (exfalso; omega)))
    | ((with_reducible apply If_any) <;> intro hc)
    | ((with_reducible first | apply PF.mk | apply DrawP.mk); (focus kernel_rfl))
    | ((with_reducible apply Same.mk); (focus rfl); (first | exact trivial | exact rfl))
    | (intro cap hcap)
    | ((fail_if_success (with_reducible apply st)); conv => whnf))
  refine Fin.ren [1] [] (.s 0 0 2 l.length cap) [.blk 31 (exC l) (cap * 2)] rfl rfl trivial ⟨⟨VC.mk ⟨rfl, rfl⟩, VC.mk ⟨rfl, by omega⟩, fun j hj => ex_les (by simp)⟩, trivial⟩ (VC.mk ⟨rfl, rfl, rfl, by omega, rfl⟩) (hk cap (by omega))
theorem eclone_K : ConOk Go.Proofs.Try.prog 75 (Con.of (List ExR) Nat (fun l => [.im false 2 l.length (exC l)]) (fun _ => []) (fun l => 0 < l.length ∧ l.length ≤ 1048576) (fun l r => l.length ≤ r) (fun l r => .s 0 0 2 l.length r) (fun l r => [.blk 31 (exC l) (r * 2)])) := by
  refine conOk_rel (T := tab) mix Go.Proofs.Try.func75 (by decide +kernel) (by kernel_rfl) [] [] (fun n => by rw [Go.Proofs.Try.ntmps75]; exact Nat.le_of_ble_eq_true rfl) (fun x r _ _ => ⟨trivial, (fun c hc => by simp at hc; subst hc; exact .blk (exC_noF _)), Nat.zero_le _⟩) (fun x _ c hc => by cases hc) (fun x k h0 hk => eclone_c x k h0 (fun r hr => hk r hr))
theorem eclone_at {avs : List AV} {H : List Chunk} {k : K} (l : List ExR) (h0 : 0 < l.length ∧ l.length ≤ 1048576) (ha : argsM H [] [.im false 2 l.length (exC l)] avs)
    (h : ∀ cap, l.length ≤ cap → k (.s H.length 0 2 l.length cap) (H ++ [.blk 31 (exC l) (cap * 2)])) : CallP Go.Proofs.Try.prog 75 avs H k :=
  CallP.mk ⟨_, eclone_K.real, Con.spec eclone_K, l, [], ⟨h0, rfl, trivial, ha⟩, fun r hr => (numK_eq _ _).mpr (by simpa [putAll, AV.ren, rens, fren, nth, Chunk.ren, Cont.ren, exC, exAV] using h r hr)⟩
set_option maxHeartbeats 16000000 in
theorem enorm_c (l : List ExR) (k : K) (h0 : (0 < l.length ∧ l.length ≤ 1048576) ∧ ∀ x ∈ l, inR .i64 x.1 ∧ inR .i64 x.2) (hk : ∀ r : List ExR, (∀ z, memE r z ↔ memE l z) ∧ r.length ≤ l.length ∧ (∀ x ∈ r, inR .i64 x.1 ∧ inR .i64 x.2) → k (.im true 2 r.length (exC r)) []) : evFunc tab [] p24 Go.Proofs.Try.f24 [.im false 2 l.length (exC l)] [] k := by
  obtain ⟨h1, h2⟩ := h0
  repeat' (first
    | (with_reducible first | exact True.intro | apply And.intro | apply If_true | apply If_false | apply If_not)
    | ((with_reducible apply VC.mk); exact vt)
    | ((with_reducible apply If_dec) <;> intro hc <;> (try (exfalso; omega)))
    | ((with_reducible apply If_any) <;> intro hc)
    | ((with_reducible first | apply PF.mk | apply DrawP.mk); (focus kernel_rfl))
    | ((with_reducible apply Same.mk); (focus rfl); (first | exact trivial | exact rfl))
    | (intro cap hcap)
    | ((fail_if_success (with_reducible apply st)); conv => whnf))
  refine eclone_at l h1 ⟨⟨rfl, rfl, ⟨rfl, rfl, fun _ _ => rfl⟩⟩, trivial⟩ ?_
  intro c hc
  repeat' (first
    | (with_reducible first | exact True.intro | apply And.intro | apply If_true | apply If_false | apply If_not)
    | ((with_reducible apply VC.mk); exact vt)
    | ((with_reducible apply If_dec) <;> intro hc <;> (try (exfalso; omega)))
    | ((with_reducible apply If_any) <;> intro hc)
    | ((with_reducible first | apply PF.mk | apply DrawP.mk); (focus kernel_rfl))
    | ((with_reducible apply Same.mk); (focus rfl); (first | exact trivial | exact rfl))
    | (intro cap hcap)
    | ((fail_if_success (with_reducible apply st)); conv => whnf))
  refine esort_at l c 0 ⟨h1.1, by omega⟩ rfl ⟨rfl, rfl, trivial⟩ ?_
  rintro r ⟨hp, hs⟩
  have hrl : r.length = l.length := hp.length_eq
  have hrr : ∀ i, inR .i64 (r.getD i (0, 0)).1 ∧ inR .i64 (r.getD i (0, 0)).2 := fun i => by
    rw [List.getD_eq_getElem?_getD]
    cases hq : r[i]? with
    | none => simp [inR]
    | some x => exact h2 x (hp.mem_iff.1 (List.mem_of_getElem? hq))
  repeat' (first
    | (with_reducible first | exact True.intro | apply And.intro | apply If_true | apply If_false | apply If_not)
    | ((with_reducible apply VC.mk); exact vt)
    | ((with_reducible apply If_dec) <;> intro hc <;> (try (exfalso; omega)))
    | ((with_reducible apply If_any) <;> intro hc)
    | ((with_reducible first | apply PF.mk | apply DrawP.mk); (focus kernel_rfl))
    | ((with_reducible apply Same.mk); (focus rfl); (first | exact trivial | exact rfl))
    | (intro cap hcap)
    | ((fail_if_success (with_reducible apply st)); conv => whnf))
  refine LoopP.mk ⟨Nat × List ExR × Nat, fun y => NormI r y.1 y.2.1, fun y => ([(12, .s 0 0 2 r.length c), (13, .v (.int .i64 ((r.length : Nat) : Int))), (14, .v (.int .i64 ((y.1 : Nat) : Int))), (4, .s 1 0 2 y.2.1.length y.2.2)], [.blk 31 (exC r) (c * 2), .blk 31 (exC y.2.1) (y.2.2 * 2)]), fun y => r.length - y.1, (0, [], 0), ⟨Nat.zero_le _, Nat.le_refl _, fun z => Iff.rfl, fun y hy => (by cases hy), fun y hy => (by cases hy)⟩, Fit.ren [0, 1] [] rfl rfl trivial ?_ ?_, ?_⟩
  · exact ⟨⟨VC.mk ⟨rfl, rfl⟩, VC.mk ⟨rfl, Nat.le_refl _⟩, fun j hj => ex_les rfl⟩, ⟨VC.mk rfl, VC.mk rfl⟩, trivial⟩
  · repeat' (first
    | (with_reducible first | exact True.intro | apply And.intro | apply If_true | apply If_false | apply If_not)
    | ((with_reducible apply VC.mk); exact vt)
    | ((with_reducible apply If_dec) <;> intro hc <;> (try (exfalso; omega)))
    | ((with_reducible apply If_any) <;> intro hc)
    | ((with_reducible first | apply PF.mk | apply DrawP.mk); (focus kernel_rfl))
    | ((with_reducible apply Same.mk); (focus rfl); (first | exact trivial | exact rfl))
    | (intro cap hcap)
    | ((fail_if_success (with_reducible apply st)); conv => whnf))
    all_goals exact VC.mk ⟨rfl, rfl, rfl, hrl.symm, rfl⟩
  intro y hy
  have g1 := hy.le
  have g2 := hy.ol
  have e : ((y.1 : Nat) : Int).toNat = y.1 := Int.toNat_natCast y.1
  have ez : 0 + ((y.1 : Nat) : Int).toNat = y.1 := by omega
  have r1 := hrr (0 + ((y.1 : Nat) : Int).toNat)
  repeat' (first
    | (with_reducible first | exact True.intro | apply And.intro | apply If_true | apply If_false | apply If_not)
    | ((with_reducible apply VC.mk); exact vt)
    | ((with_reducible apply If_dec) <;> intro hc <;> (try (exfalso; omega)))
    | ((with_reducible apply If_any) <;> intro hc)
    | ((with_reducible first | apply PF.mk | apply DrawP.mk); (focus kernel_rfl))
    | ((with_reducible apply Same.mk); (focus rfl); (first | exact trivial | exact rfl))
    | (intro cap hcap)
    | ((fail_if_success (with_reducible apply st)); conv => whnf))
  · refine Round.mk ⟨(y.1 + 1, y.2.1, y.2.2), hy.skip (by omega) (by rw [← ez]; assumption), by show r.length - (y.1 + 1) < r.length - y.1; omega, Fit.ren [0, 1] [] rfl rfl trivial ?_ ?_⟩
    · exact ⟨⟨VC.mk ⟨rfl, rfl⟩, VC.mk ⟨rfl, Nat.le_refl _⟩, fun j hj => ex_les rfl⟩, ⟨VC.mk ⟨rfl, rfl⟩, VC.mk ⟨rfl, Nat.le_refl _⟩, fun j hj => ex_les rfl⟩, trivial⟩
    · repeat' (first
    | (with_reducible first | exact True.intro | apply And.intro | apply If_true | apply If_false | apply If_not)
    | ((with_reducible apply VC.mk); exact vt)
    | ((with_reducible apply If_dec) <;> intro hc <;> (try (exfalso; omega)))
    | ((with_reducible apply If_any) <;> intro hc)
    | ((with_reducible first | apply PF.mk | apply DrawP.mk); (focus kernel_rfl))
    | ((with_reducible apply Same.mk); (focus rfl); (first | exact trivial | exact rfl))
    | (intro cap hcap)
    | ((fail_if_success (with_reducible apply st)); conv => whnf))
  · obtain ⟨n, hn⟩ : ∃ n : Nat, n + 1 = y.2.1.length := ⟨y.2.1.length - 1, by omega⟩
    have en : 0 + (((y.2.1.length : Nat) : Int) - 1).toNat = n := by omega
    have hm := hy.merge hs (by omega) hn (by rw [← ez, ← en]; assumption) (hrr y.1)
    refine Round.mk ⟨(y.1 + 1, y.2.1.set n ((y.2.1.getD n (0, 0)).1, max (y.2.1.getD (0 + (((y.2.1.length : Nat) : Int) - 1).toNat) (0, 0)).2 (r.getD (0 + ((y.1 : Nat) : Int).toNat) (0, 0)).2), y.2.2), by rw [en, ez]; exact hm, by show r.length - (y.1 + 1) < r.length - y.1; omega, Fit.ren [0, 1] [] rfl rfl trivial ?_ ?_⟩
    · refine ⟨⟨VC.mk ⟨rfl, rfl⟩, VC.mk ⟨rfl, Nat.le_refl _⟩, fun j hj => ex_les rfl⟩, ⟨VC.mk ⟨rfl, rfl⟩, VC.mk ⟨rfl, by show (List.set _ _ _).length ≤ _; rw [List.length_set]; refine Nat.le_refl _⟩, fun j hj => ex_les (ex_set en (by omega))⟩, trivial⟩
    · repeat' (first
    | (with_reducible first | exact True.intro | apply And.intro | apply If_true | apply If_false | apply If_not)
    | ((with_reducible apply VC.mk); exact vt)
    | ((with_reducible apply If_dec) <;> intro hc <;> (try (exfalso; omega)))
    | ((with_reducible apply If_any) <;> intro hc)
    | ((with_reducible first | apply PF.mk | apply DrawP.mk); (focus kernel_rfl))
    | ((with_reducible apply Same.mk); (focus rfl); (first | exact trivial | exact rfl))
    | (intro cap hcap)
    | ((fail_if_success (with_reducible apply st)); conv => whnf))
      all_goals exact VC.mk ⟨rfl, rfl, rfl, by show _ = (List.set _ _ _).length; rw [List.length_set], rfl⟩
  iterate 2 (
    refine Round.mk ⟨(y.1 + 1, y.2.1 ++ [r.getD (0 + ((y.1 : Nat) : Int).toNat) (0, 0)], cap), by rw [ez]; exact hy.add hs (by omega) (hrr y.1), by show r.length - (y.1 + 1) < r.length - y.1; omega, Fit.ren [0, 4] [] rfl rfl trivial ?_ ?_⟩
    · refine ⟨⟨VC.mk ⟨rfl, rfl⟩, VC.mk ⟨rfl, Nat.le_refl _⟩, fun j hj => ex_les rfl⟩, ⟨VC.mk ⟨rfl, rfl⟩, VC.mk ⟨rfl, by show (_ ++ [_] : List ExR).length ≤ _; rw [List.length_append]; refine Nat.le_refl _⟩, fun j hj => ex_les (ex_snoc hj)⟩, trivial⟩
    · repeat' (first
    | (with_reducible first | exact True.intro | apply And.intro | apply If_true | apply If_false | apply If_not)
    | ((with_reducible apply VC.mk); exact vt)
    | ((with_reducible apply If_dec) <;> intro hc <;> (try (exfalso; omega)))
    | ((with_reducible apply If_any) <;> intro hc)
    | ((with_reducible first | apply PF.mk | apply DrawP.mk); (focus kernel_rfl))
    | ((with_reducible apply Same.mk); (focus rfl); (first | exact trivial | exact rfl))
    | (intro cap hcap)
    | ((fail_if_success (with_reducible apply st)); conv => whnf))
      all_goals exact VC.mk ⟨rfl, rfl, rfl, by show _ = (_ ++ [_] : List ExR).length; rw [List.length_append]; rfl, rfl⟩)
  have hyl : y.1 = r.length := by omega
  refine Fin.ren [] [1] (.im true 2 y.2.1.length (exC y.2.1)) [] rfl rfl ⟨trivial, trivial⟩ trivial ⟨VC.mk ⟨by omega, rfl, rfl, rfl, Nat.two_pos⟩, VC.mk ⟨rfl, rfl⟩, fun j hj => ex_les (by simp)⟩ (hk y.2.1 ⟨fun z => ?_, by omega, hy.bnd⟩)
  rw [hy.mem, hyl, List.take_length]
  exact memE_perm hp z
end Go.Proofs.Ytcfmlnddmpiemaa.Sx


set_option maxRecDepth 10000
namespace Go.Proofs.Ytcfmlnddmpiemaa.Sx
open Go.RowKit Go.Proofs.Ytcfmlnddmpiemaa.Sx.Tb
/-! ### Sets of bytes: Norm, Union, Has -/
theorem enorm_K : ConOk Go.Proofs.Try.prog 24 (Con.of (List ExR) (List ExR) (fun l => [.im false 2 l.length (exC l)]) (fun _ => []) (fun l => (0 < l.length ∧ l.length ≤ 1048576) ∧ ∀ x ∈ l, inR .i64 x.1 ∧ inR .i64 x.2) (fun l r => (∀ z, memE r z ↔ memE l z) ∧ r.length ≤ l.length ∧ (∀ x ∈ r, inR .i64 x.1 ∧ inR .i64 x.2)) (fun l r => .im true 2 r.length (exC r)) (fun l r => [])) := by
  refine conOk_rel (T := tab) mix Go.Proofs.Try.func24 (by decide +kernel) (by kernel_rfl) [] p24 (fun n => by rw [Go.Proofs.Try.ntmps24]; exact Nat.le_of_ble_eq_true rfl) (fun x r _ _ => ⟨⟨rfl, exC_noF _⟩, (fun c hc => by cases hc), Nat.zero_le _⟩) (fun x _ c hc => by cases hc) (fun x k h0 hk => enorm_c x k h0 (fun r hr => hk r hr))
theorem enorm_at {avs : List AV} {H : List Chunk} {k : K} (l : List ExR) (h0 : (0 < l.length ∧ l.length ≤ 1048576) ∧ ∀ x ∈ l, inR .i64 x.1 ∧ inR .i64 x.2) (ha : argsM H [] [.im false 2 l.length (exC l)] avs)
    (h : ∀ r, (∀ z, memE r z ↔ memE l z) ∧ r.length ≤ l.length ∧ (∀ x ∈ r, inR .i64 x.1 ∧ inR .i64 x.2) → k (.im true 2 r.length (exC r)) H) : CallP Go.Proofs.Try.prog 24 avs H k :=
  CallP.mk ⟨_, enorm_K.real, Con.spec enorm_K, l, [], ⟨h0, rfl, trivial, ha⟩, fun r hr => (numK_eq _ _).mpr (by simpa [putAll, AV.ren, rens, fren, nth, Chunk.ren, Cont.ren, exC, exAV] using h r hr)⟩
set_option maxHeartbeats 4000000 in
theorem ehas_c (l : List ExR) (z : Int) (k : K) (h0 : l.length ≤ 1048576) (hk : ∀ b : Bool, (b = true ↔ memE l z) → k (.v (.bool b)) []) : evFunc tab [] [] Go.Proofs.Try.f30 [.im false 2 l.length (exC l), .v (.int .i64 z)] [] k := by
  repeat' (first
    | (with_reducible first | exact True.intro | apply And.intro | apply If_true | apply If_false | apply If_not)
    | ((with_reducible apply VC.mk); exact vt)
    | ((with_reducible apply If_dec) <;> intro hc <;> (try (exfalso; omega)))
    | ((with_reducible apply If_any) <;> intro hc)
    | ((with_reducible first | apply PF.mk | apply DrawP.mk); (focus kernel_rfl))
    | ((with_reducible apply Same.mk); (focus rfl); (first | exact trivial | exact rfl))
    | (intro cap hcap)
    | ((fail_if_success (with_reducible apply st)); conv => whnf))
  refine LoopP.mk ⟨Nat, fun i => i ≤ l.length ∧ ¬ memE (l.take i) z, fun i => ([(7, .im false 2 l.length (exC l)), (1, .v (.int .i64 z)), (8, .v (.int .i64 ((l.length : Nat) : Int))), (9, .v (.int .i64 ((i : Nat) : Int)))], []), fun i => l.length - i, 0, ⟨Nat.zero_le _, memE_nil z⟩, Fit.ren [] [] rfl rfl trivial trivial ?_, ?_⟩
  · repeat' (first
    | (with_reducible first | exact True.intro | apply And.intro | apply If_true | apply If_false | apply If_not)
    | ((with_reducible apply VC.mk); exact vt)
    | ((with_reducible apply If_dec) <;> intro hc <;> (try (exfalso; omega)))
    | ((with_reducible apply If_any) <;> intro hc)
    | ((with_reducible first | apply PF.mk | apply DrawP.mk); (focus kernel_rfl))
    | ((with_reducible apply Same.mk); (focus rfl); (first | exact trivial | exact rfl))
    | (intro cap hcap)
    | ((fail_if_success (with_reducible apply st)); conv => whnf))
  intro i hi
  obtain ⟨g1, g2⟩ := hi
  have e : ((i : Nat) : Int).toNat = i := Int.toNat_natCast i
  have nx : i < l.length → ¬ ((l.getD ((i : Nat) : Int).toNat (0, 0)).1 ≤ z ∧ z < (l.getD ((i : Nat) : Int).toNat (0, 0)).2) → ¬ memE (l.take (i + 1)) z := fun h1 h2 h3 => by
    rw [take_snoc (0, 0) h1, memE_append, memE_one] at h3
    rw [e] at h2
    exact h3.elim g2 h2
  have yes : i < l.length → (l.getD ((i : Nat) : Int).toNat (0, 0)).1 ≤ z → z < (l.getD ((i : Nat) : Int).toNat (0, 0)).2 → memE l z := fun h1 h2 h3 => by
    rw [e] at h2 h3
    refine ⟨l.getD i (0, 0), ?_, h2, h3⟩
    rw [List.getD_eq_getElem?_getD, List.getElem?_eq_getElem h1]; exact List.getElem_mem h1
  repeat' (first
    | (with_reducible first | exact True.intro | apply And.intro | apply If_true | apply If_false | apply If_not)
    | ((with_reducible apply VC.mk); exact vt)
    | ((with_reducible apply If_dec) <;> intro hc <;> (try (exfalso; omega)))
    | ((with_reducible apply If_any) <;> intro hc)
    | ((with_reducible first | apply PF.mk | apply DrawP.mk); (focus kernel_rfl))
    | ((with_reducible apply Same.mk); (focus rfl); (first | exact trivial | exact rfl))
    | (intro cap hcap)
    | ((fail_if_success (with_reducible apply st)); conv => whnf))
  · exact Fin.vl (hk true ⟨fun _ => yes (by omega) (by assumption) (by assumption), fun _ => rfl⟩)
  iterate 2 (
    refine Round.mk ⟨i + 1, ⟨by omega, nx (by omega) (by omega)⟩, by show l.length - (i + 1) < l.length - i; omega, Fit.ren [] [] rfl rfl trivial trivial ?_⟩
    repeat' (first
    | (with_reducible first | exact True.intro | apply And.intro | apply If_true | apply If_false | apply If_not)
    | ((with_reducible apply VC.mk); exact vt)
    | ((with_reducible apply If_dec) <;> intro hc <;> (try (exfalso; omega)))
    | ((with_reducible apply If_any) <;> intro hc)
    | ((with_reducible first | apply PF.mk | apply DrawP.mk); (focus kernel_rfl))
    | ((with_reducible apply Same.mk); (focus rfl); (first | exact trivial | exact rfl))
    | (intro cap hcap)
    | ((fail_if_success (with_reducible apply st)); conv => whnf)))
  refine Fin.vl (hk false ⟨fun h => (by cases h), fun h => ?_⟩)
  rw [List.take_of_length_le (by omega)] at g2
  exact absurd h g2
theorem ehas_K : ConOk Go.Proofs.Try.prog 30 (Con.of (List ExR × Int) Bool (fun x => [.im false 2 x.1.length (exC x.1), .v (.int .i64 x.2)]) (fun _ => []) (fun x => x.1.length ≤ 1048576) (fun x b => (b = true ↔ memE x.1 x.2)) (fun _ b => .v (.bool b)) (fun _ _ => [])) := by
  refine conOk_rel (T := tab) mix Go.Proofs.Try.func30 (by decide +kernel) (by kernel_rfl) [] [] (fun n => by rw [Go.Proofs.Try.ntmps30]; exact Nat.le_of_ble_eq_true rfl) (fun x r _ _ => ⟨trivial, (fun c hc => by cases hc), Nat.zero_le _⟩) (fun x _ c hc => by cases hc) (fun x k h0 hk => ehas_c x.1 x.2 k h0 (fun r hr => hk r hr))
theorem ehas_at {avs : List AV} {H : List Chunk} {k : K} (l : List ExR) (z : Int) (h0 : l.length ≤ 1048576) (ha : argsM H [] [.im false 2 l.length (exC l), .v (.int .i64 z)] avs)
    (h : ∀ b : Bool, (b = true ↔ memE l z) → k (.v (.bool b)) H) : CallP Go.Proofs.Try.prog 30 avs H k :=
  CallP.mk ⟨_, ehas_K.real, Con.spec ehas_K, (l, z), [], ⟨h0, rfl, trivial, ha⟩, fun r hr => (numK_eq _ _).mpr (by simpa [putAll, AV.ren, rens] using h r hr)⟩
/-- Sets, one behind the other. -/
def setsC (g : Bool) (ss : List (List ExR)) : Cont := .recs 1 ss.length (fun i => [.im g 2 (ss.getD i []).length (exC (ss.getD i []))])
theorem ex_app {o m : List ExR} {j : Nat} (hj : j < (o ++ m).length) : (if j < o.length then exAV (o.getD j (0, 0)) else exAV (m.getD (j - o.length) (0, 0))) = exAV ((o ++ m).getD j (0, 0)) := by
  by_cases h : j < o.length
  · rw [if_pos h, List.getD_eq_getElem?_getD, List.getD_eq_getElem?_getD, List.getElem?_append_left h]
  · rw [if_neg h, List.getD_eq_getElem?_getD, List.getD_eq_getElem?_getD, List.getElem?_append_right (by omega)]
set_option maxHeartbeats 8000000 in
theorem eunion_c (ss : List (List ExR)) (k : K) (h0 : (0 < ss.flatten.length ∧ ss.flatten.length ≤ 1048576 ∧ ss.length ≤ 1048576) ∧ ∀ x ∈ ss.flatten, inR .i64 x.1 ∧ inR .i64 x.2) (hk : ∀ r : List ExR, (∀ z, memE r z ↔ memE ss.flatten z) ∧ r.length ≤ ss.flatten.length ∧ (∀ x ∈ r, inR .i64 x.1 ∧ inR .i64 x.2) → k (.im true 2 r.length (exC r)) []) : evFunc tab [] [] Go.Proofs.Try.f27 [.im false 1 ss.length (setsC false ss)] [] k := by
  obtain ⟨⟨h1, h2, h3⟩, h4⟩ := h0
  repeat' (first
    | (with_reducible first | exact True.intro | apply And.intro | apply If_true | apply If_false | apply If_not)
    | ((with_reducible apply VC.mk); exact vt)
    | ((with_reducible apply If_dec) <;> intro hc <;> (try (exfalso; omega)))
    | ((with_reducible apply If_any) <;> intro hc)
    | ((with_reducible first | apply PF.mk | apply DrawP.mk); (focus kernel_rfl))
    | ((with_reducible apply Same.mk); (focus rfl); (first | exact trivial | exact rfl))
    | (intro cap hcap)
    | ((fail_if_success (with_reducible apply st)); conv => whnf))
  refine LoopP.mk ⟨Nat × List ExR × Nat, fun y => y.1 ≤ ss.length ∧ y.2.1 = (ss.take y.1).flatten, fun y => ([(6, .im false 1 ss.length (setsC false ss)), (7, .v (.int .i64 ((ss.length : Nat) : Int))), (8, .v (.int .i64 ((y.1 : Nat) : Int))), (3, .s 0 0 2 y.2.1.length y.2.2)], [.blk 31 (exC y.2.1) (y.2.2 * 2)]), fun y => ss.length - y.1, (0, [], 0), ⟨Nat.zero_le _, rfl⟩, Fit.ren [0] [] rfl rfl trivial ?_ ?_, ?_⟩
  · exact ⟨⟨VC.mk rfl, VC.mk rfl⟩, trivial⟩
  · repeat' (first
    | (with_reducible first | exact True.intro | apply And.intro | apply If_true | apply If_false | apply If_not)
    | ((with_reducible apply VC.mk); exact vt)
    | ((with_reducible apply If_dec) <;> intro hc <;> (try (exfalso; omega)))
    | ((with_reducible apply If_any) <;> intro hc)
    | ((with_reducible first | apply PF.mk | apply DrawP.mk); (focus kernel_rfl))
    | ((with_reducible apply Same.mk); (focus rfl); (first | exact trivial | exact rfl))
    | (intro cap hcap)
    | ((fail_if_success (with_reducible apply st)); conv => whnf))
  intro y hy
  obtain ⟨g1, g2⟩ := hy
  have e : ((y.1 : Nat) : Int).toNat = y.1 := Int.toNat_natCast y.1
  have hfl : ∀ i, i < ss.length → (ss.take (i + 1)).flatten = (ss.take i).flatten ++ ss.getD i [] := fun i h => by
    rw [take_snoc [] h, List.flatten_append]; simp
  have hle : ∀ i, (ss.take i).flatten.length ≤ ss.flatten.length := fun i => by
    conv => rhs; rw [← List.take_append_drop i ss, List.flatten_append, List.length_append]
    omega
  have hl1 := hle y.1
  have hl2 := hle (y.1 + 1)
  rw [← g2] at hl1
  by_cases hlt : y.1 < ss.length
  · have hf := hfl y.1 hlt
    have hl3 : (ss.getD ((y.1 : Nat) : Int).toNat []).length + y.2.1.length ≤ 1048576 := by
      rw [e, g2]
      rw [hf, List.length_append] at hl2
      omega
    repeat' (first
    | (with_reducible first | exact True.intro | apply And.intro | apply If_true | apply If_false | apply If_not)
    | ((with_reducible apply VC.mk); exact vt)
    | ((with_reducible apply If_dec) <;> intro hc <;> (try (exfalso; omega)))
    | ((with_reducible apply If_any) <;> intro hc)
    | ((with_reducible first | apply PF.mk | apply DrawP.mk); (focus kernel_rfl))
    | ((with_reducible apply Same.mk); (focus rfl); (first | exact trivial | exact rfl))
    | (intro cap hcap)
    | ((fail_if_success (with_reducible apply st)); conv => whnf))
    · refine VC.mk ⟨⟨rfl, rfl, ?_, rfl⟩, trivial, by omega, by decide, by decide⟩
      simp [Cont.cells]
    refine Round.mk ⟨(y.1 + 1, y.2.1 ++ ss.getD ((y.1 : Nat) : Int).toNat [], cap), ⟨hlt, by show _ ++ _ = (ss.take (y.1 + 1)).flatten; rw [hf, ← g2, e]⟩, by show ss.length - (y.1 + 1) < ss.length - y.1; omega, Fit.ren [1] [] rfl rfl trivial ?_ ?_⟩
    · exact ⟨⟨VC.mk ⟨rfl, rfl⟩, VC.mk ⟨rfl, by show (_ ++ _ : List ExR).length ≤ _; rw [List.length_append]; exact Nat.le_refl _⟩, fun j hj => ex_les (ex_app hj)⟩, trivial⟩
    · repeat' (first
    | (with_reducible first | exact True.intro | apply And.intro | apply If_true | apply If_false | apply If_not)
    | ((with_reducible apply VC.mk); exact vt)
    | ((with_reducible apply If_dec) <;> intro hc <;> (try (exfalso; omega)))
    | ((with_reducible apply If_any) <;> intro hc)
    | ((with_reducible first | apply PF.mk | apply DrawP.mk); (focus kernel_rfl))
    | ((with_reducible apply Same.mk); (focus rfl); (first | exact trivial | exact rfl))
    | (intro cap hcap)
    | ((fail_if_success (with_reducible apply st)); conv => whnf))
      all_goals exact VC.mk ⟨rfl, rfl, rfl, by show _ = (_ ++ _ : List ExR).length; rw [List.length_append], rfl⟩
  · repeat' (first
    | (with_reducible first | exact True.intro | apply And.intro | apply If_true | apply If_false | apply If_not)
    | ((with_reducible apply VC.mk); exact vt)
    | ((with_reducible apply If_dec) <;> intro hc <;> (try (exfalso; omega)))
    | ((with_reducible apply If_any) <;> intro hc)
    | ((with_reducible first | apply PF.mk | apply DrawP.mk); (focus kernel_rfl))
    | ((with_reducible apply Same.mk); (focus rfl); (first | exact trivial | exact rfl))
    | (intro cap hcap)
    | ((fail_if_success (with_reducible apply st)); conv => whnf))
    have hy : y.1 = ss.length := by omega
    rw [hy, List.take_length] at g2
    refine enorm_at y.2.1 ⟨⟨by rw [g2]; exact h1, by omega⟩, fun x hx => h4 x (by rw [← g2]; exact hx)⟩ ⟨⟨?_, rfl, rfl, ?_, rfl, Nat.two_pos⟩, trivial⟩ ?_
    · show 0 + y.2.1.length ≤ y.2.1.length
      omega
    · exact ⟨rfl, rfl, fun j _ => by simp only [Nat.zero_add]; rfl⟩
    rintro r ⟨q1, q2, q3⟩
    repeat' (first
    | (with_reducible first | exact True.intro | apply And.intro | apply If_true | apply If_false | apply If_not)
    | ((with_reducible apply VC.mk); exact vt)
    | ((with_reducible apply If_dec) <;> intro hc <;> (try (exfalso; omega)))
    | ((with_reducible apply If_any) <;> intro hc)
    | ((with_reducible first | apply PF.mk | apply DrawP.mk); (focus kernel_rfl))
    | ((with_reducible apply Same.mk); (focus rfl); (first | exact trivial | exact rfl))
    | (intro cap hcap)
    | ((fail_if_success (with_reducible apply st)); conv => whnf))
    exact Fin.ren [] [] (.im true 2 r.length (exC r)) [] rfl rfl trivial trivial ⟨VC.mk ⟨rfl, rfl, rfl⟩, VC.mk ⟨rfl, rfl⟩, fun j hj => ex_les rfl⟩ (hk r ⟨fun z => by rw [q1, g2], by rw [← g2]; exact q2, q3⟩)
theorem eunion_K : ConOk Go.Proofs.Try.prog 27 (Con.of (List (List ExR)) (List ExR) (fun ss => [.im false 1 ss.length (setsC false ss)]) (fun _ => []) (fun ss => (0 < ss.flatten.length ∧ ss.flatten.length ≤ 1048576 ∧ ss.length ≤ 1048576) ∧ ∀ x ∈ ss.flatten, inR .i64 x.1 ∧ inR .i64 x.2) (fun ss r => (∀ z, memE r z ↔ memE ss.flatten z) ∧ r.length ≤ ss.flatten.length ∧ (∀ x ∈ r, inR .i64 x.1 ∧ inR .i64 x.2)) (fun _ r => .im true 2 r.length (exC r)) (fun _ _ => [])) := by
  refine conOk_rel (T := tab) mix Go.Proofs.Try.func27 (by decide +kernel) (by kernel_rfl) [] [] (fun n => by rw [Go.Proofs.Try.ntmps27]; exact Nat.le_of_ble_eq_true rfl) (fun x r _ _ => ⟨⟨rfl, exC_noF _⟩, (fun c hc => by cases hc), Nat.zero_le _⟩) (fun x _ c hc => by cases hc) (fun x k h0 hk => eunion_c x k h0 (fun r hr => hk r hr))
theorem eunion_at {avs : List AV} {H : List Chunk} {k : K} (ss : List (List ExR)) (h0 : (0 < ss.flatten.length ∧ ss.flatten.length ≤ 1048576 ∧ ss.length ≤ 1048576) ∧ ∀ x ∈ ss.flatten, inR .i64 x.1 ∧ inR .i64 x.2) (ha : argsM H [] [.im false 1 ss.length (setsC false ss)] avs)
    (h : ∀ r, (∀ z, memE r z ↔ memE ss.flatten z) ∧ r.length ≤ ss.flatten.length ∧ (∀ x ∈ r, inR .i64 x.1 ∧ inR .i64 x.2) → k (.im true 2 r.length (exC r)) H) : CallP Go.Proofs.Try.prog 27 avs H k :=
  CallP.mk ⟨_, eunion_K.real, Con.spec eunion_K, ss, [], ⟨h0, rfl, trivial, ha⟩, fun r hr => (numK_eq _ _).mpr (by simpa [putAll, AV.ren, rens, fren, nth, Chunk.ren, Cont.ren, exC, exAV] using h r hr)⟩
end Go.Proofs.Ytcfmlnddmpiemaa.Sx


set_option maxRecDepth 10000
namespace Go.Proofs.Ytcfmlnddmpiemaa.Sx
/-! ### The law TopAllOrNone, plain -/
theorem run_tail {s : DF} {l : List FOp} {p : Int} {z : List Int} (h : (s.run (l ++ [.wr p z, .fl])).1 = 0) (hp : p.toNat ≤ (s.run l).2.now.length) : (s.run (l ++ [.wr p z, .fl])).2.safe = putG (s.run l).2.now p.toNat z := by
  by_cases h1 : (s.run l).1 = 0
  · have e : s.run l = (0, (s.run l).2) := Prod.ext h1 rfl
    rw [DF.run_good e] at h ⊢
    generalize (s.run l).2 = t at h hp ⊢
    by_cases h2 : (t.doOp (.wr p z)).1 = 0
    · obtain ⟨-, hd⟩ := DF.doOp_did h2 hp
      have e2 : t.run [.wr p z, .fl] = (t.doOp (.wr p z)).2.doOp .fl := by
        rw [DF.run, if_pos h2, DF.run1]
      rw [e2] at h ⊢
      rw [DF.doOp_fled h, hd]
      rfl
    · have e2 : t.run [.wr p z, .fl] = t.doOp (.wr p z) := by rw [DF.run, if_neg h2]
      rw [e2] at h
      exact absurd h h2
  · rw [DF.run_bad h1] at h
    exact absurd h h1
theorem run_fl {s : DF} {l : List FOp} (h : (s.run (l ++ [.fl])).1 = 0) : (s.run l).1 = 0 ∧ (s.run (l ++ [.fl])).2.now = (s.run l).2.now := by
  by_cases h1 : (s.run l).1 = 0
  · have e : s.run l = (0, (s.run l).2) := Prod.ext h1 rfl
    rw [DF.run_good e, DF.run1] at h ⊢
    rw [DF.doOp_fled h]
    exact ⟨h1, rfl⟩
  · rw [DF.run_bad h1] at h
    exact absurd h h1
theorem run_pre {s : DF} {l m : List FOp} (h : (s.run (l ++ m)).1 = 0) : (s.run l).1 = 0 := by
  by_cases h1 : (s.run l).1 = 0
  · exact h1
  · rw [DF.run_bad h1] at h; exact h
/-- A commit that was not cut off leaves no sign. -/
theorem tcrash_sign {t : TR} {j : JR} {s : DF} {z b : List Int} {x : Int × TR × JR × DF} (h : tcomRel t j s z x) (ho : t.over = false) (hs : s.safe = b) (hn : s.now = b) (hi : s.items = []) (hj : j.Ok) (hal : j.pos % 512 = 0) (hf : j.pos + j.size ≤ b.length) (hm : b.length ≤ 4194304) (h8 : B8 b) (h0 : ∀ i, i < 512 → b.getD (j.pos.toNat + i) 0 = 0)
    (hT : t.Ok) (hI : t.In j) (hfr : t.fresh = []) (hD : ∀ q ∈ t.dirty, q.1 * 512 + 512 ≤ b.length) (hz : z = List.replicate 512 0) {rs : List RecR} (hr : RecRel t rs) (hfit : (encL rs).length ≤ j.size - 512) (he : x.1 = 0) :
    ∀ i, i < 512 → x.2.2.2.safe.getD (j.pos.toNat + i) 0 = 0 := by
  obtain ⟨hJ, -⟩ := tcrash h ho hs hn hi hj hal hf hm h8 h0 hT hI (fun r hr => by rw [hfr] at hr; cases hr) hD hz hr hfit
  rw [hfr] at hJ
  have hJ : JCase j b rs := hJ
  obtain ⟨hV, hcov⟩ := hr.S hT (fun q hq => (hI.keys q hq).1)
  have hrin : ∀ r ∈ rs, 0 ≤ r.1 ∧ r.1.toNat + r.2.length ≤ b.length := fun r hm => by
    obtain ⟨c1, c2, c3⟩ := hcov r hm
    obtain ⟨q, hq, e⟩ := List.mem_map.1 (c3 (r.1.toNat + r.2.length - 1) (by omega) (by omega))
    have := hD q hq
    omega
  obtain ⟨j1, j2, j3, j4, j5, j6⟩ := hj
  rcases h with ⟨h, _⟩ | ⟨_, rs', hr', h⟩
  · rw [ho] at h; cases h
  obtain rfl := hr.unique hr'
  rcases h with ⟨h, _⟩ | ⟨_, y, hy, h⟩
  · omega
  have hy2 : y = (0, s) := by
    rw [hy]; unfold frOps; rw [hfr]; rfl
  subst hy2
  rcases h with ⟨h1, rfl⟩ | ⟨h1, h2, rfl⟩ | ⟨h1, h2, q, hq, h3⟩
  · exact absurd rfl h1
  · show ∀ i, i < 512 → s.safe.getD _ 0 = 0
    rw [hs]; exact h0
  · obtain ⟨k1, k2⟩ := commit_cr hJ h0 hs hn hi hq
    rcases h3 with ⟨h3, rfl⟩ | ⟨h3, u, hu, rfl⟩
    · exact absurd he h3
    · obtain ⟨n1, n2, n3, n4, n5⟩ := k2 h3
      have he : u.1 = 0 := he
      show ∀ i, i < 512 → u.2.safe.getD _ 0 = 0
      rw [hu, n1] at he ⊢
      have lo := n4.lo
      have ea : applyOps j.next z rs = (wrs rs ++ [.fl]) ++ [.wr j.pos z, .fl] := by unfold applyOps; rw [List.append_assoc]; rfl
      have he2 : (q.2.2.run ((wrs rs ++ [.fl]) ++ [.wr j.pos z, .fl])).1 = 0 := by rw [← ea]; exact he
      obtain ⟨w0, w1⟩ := run_fl (run_pre he2)
      obtain ⟨-, v2, -, -⟩ := wrs_items rs q.2.2 (fun r hm => by rw [n3]; have := hrin r hm; omega)
      have hl : b.length ≤ (q.2.2.run (wrs rs ++ [.fl])).2.now.length := by rw [w1, v2, n3]; exact lo
      intro i hi
      have ht := run_tail he2 (by omega)
      show (q.2.2.run (applyOps j.next z rs)).2.safe.getD _ 0 = 0
      rw [ea, ht, putG_get (by omega), if_pos ⟨by omega, by rw [hz, List.length_replicate]; omega⟩, hz, List.getD_eq_getElem?_getD, List.getElem?_replicate]
      split <;> rfl
end Go.Proofs.Ytcfmlnddmpiemaa.Sx


set_option maxRecDepth 10000
namespace Go.Proofs.Ytcfmlnddmpiemaa.Sx
open Go.RowKit Go.Proofs.Ytcfmlnddmpiemaa.Sx.Tb
/-! ### load and Put of a file that may refuse -/
set_option maxHeartbeats 16000000 in
theorem loadS_c (t : TR) (j : JR) (s : DF) (n : Int) (k : K) (h0 : t.Ok ∧ (0 ≤ n ∧ n ≤ 1073741824) ∧ 0 ≤ s.ops ∧ s.ops ≤ 549755813888 ∧ s.now.length ≤ 4194304) (hk : ∀ x : Int × List Int × DF, (x.1 = 0 ∧ x.2.1 = t.sec s.now n ∧ (x.2.2 = s ∨ x.2.2 = s.asked) ∨ x.1 = 5 ∧ x.2.1.length = 512 ∧ x.2.2 = s.asked) → k (.tup [.arr .u8 x.2.1, .v (.int .i64 x.1)]) (tpre t j x.2.2)) : evFunc tab [] p79 Go.Proofs.Try.f79 [.p 0 0 1 0, .v (.int .i64 n)] (tpre t j s) k := by
  obtain ⟨h1, h3, h4, h5, h6⟩ := h0
  have fin : ∀ (l : List Int) (s' : DF) (H : List Chunk), l = t.sec s.now n → (s' = s ∨ s' = s.asked) → Nat.ble 5 H.length = true → nth H 0 = some (t.c0 3 1 2) → nth H 1 = some t.c1 → nth H 2 = some t.c2 → nth H 3 = some (j.blk 4) → nth H 4 = some s'.pk → Fin 5 (.tup [.arr .u8 l, .v (.int .i64 0)]) H k := by
    intro l s' H q1 q2 q3 q4 q5 q6 q7 q8
    exact T5.fin q3 q4 q5 q6 q7 q8 (hk (0, l, s') (.inl ⟨rfl, q1, q2⟩))
  repeat' (first
    | (with_reducible first | exact True.intro | apply And.intro | apply If_true | apply If_false | apply If_not)
    | ((with_reducible apply VC.mk); exact vt)
    | ((with_reducible apply If_dec) <;> intro hc <;> (try (exfalso; omega)))
    | ((with_reducible apply If_any) <;> intro hc)
    | ((with_reducible first | apply PF.mk | apply DrawP.mk); (focus kernel_rfl))
    | ((with_reducible apply Same.mk); (focus rfl); (first | exact trivial | exact rfl))
    | (intro cap hcap)
    | ((fail_if_success (with_reducible apply st)); conv => whnf))
  refine LookP.mk (fun v hv => ?_) (fun hn => ?_)
  · rw [lkm_map] at hv
    obtain ⟨l, hl, rfl⟩ : ∃ l, lkS n t.dirty = some l ∧ AV.arr .u8 l = v := by
      cases hq : lkS n t.dirty with
      | none => rw [hq] at hv; cases hv
      | some l => rw [hq] at hv; exact ⟨l, rfl, by simpa using hv⟩
    have hll := h1.sec _ (lkS_mem hl)
    have hl2 : l.length = 512 := hll
    have hs : l = t.sec s.now n := by unfold TR.sec; rw [hl]
    repeat' (first
    | (with_reducible first | exact True.intro | apply And.intro | apply If_true | apply If_false | apply If_not)
    | ((with_reducible apply VC.mk); exact vt)
    | ((with_reducible apply If_dec) <;> intro hc <;> (try (exfalso; omega)))
    | ((with_reducible apply If_any) <;> intro hc)
    | ((with_reducible first | apply PF.mk | apply DrawP.mk); (focus kernel_rfl))
    | ((with_reducible apply Same.mk); (focus rfl); (first | exact trivial | exact rfl))
    | (intro cap hcap)
    | ((fail_if_success (with_reducible apply st)); conv => whnf))
    have e : List.take 512 (List.drop (0 * 1 + 0) (List.take 512 (List.drop (0 * 1 + 0) l))) = l := by simp [List.take_of_length_le, hl2]
    rw [e]
    exact fin l s _ hs (.inl rfl) rfl rfl rfl rfl rfl rfl
  · rw [lkm_map] at hn
    have hn0 : lkS n t.dirty = none := by
      cases hq : lkS n t.dirty with
      | none => rfl
      | some l => rw [hq] at hn; cases hn
    have hsec : t.sec s.now n = t.fresh.foldl (layR (512 * n)) (secF s.now n) := by unfold TR.sec; rw [hn0]
    obtain ⟨z, hz⟩ : ∃ z : List Int, z = List.replicate 512 0 := ⟨_, rfl⟩
    have hzl : z.length = 512 := by rw [hz]; exact List.length_replicate ..
    repeat' (first
    | (with_reducible first | exact True.intro | apply And.intro | apply If_true | apply If_false | apply If_not)
    | ((with_reducible apply VC.mk); exact vt)
    | ((with_reducible apply If_dec) <;> intro hc <;> (try (exfalso; omega)))
    | ((with_reducible apply If_any) <;> intro hc)
    | ((with_reducible first | apply PF.mk | apply DrawP.mk); (focus kernel_rfl))
    | ((with_reducible apply Same.mk); (focus rfl); (first | exact trivial | exact rfl))
    | (intro cap hcap)
    | ((fail_if_success (with_reducible apply st)); conv => whnf))
    rw [← hz]
    refine len_at s 4 (by omega) rfl ⟨rfl, trivial⟩ (fun _ => ?_)
    repeat' (first
    | (with_reducible first | exact True.intro | apply And.intro | apply If_true | apply If_false | apply If_not)
    | ((with_reducible apply VC.mk); exact vt)
    | ((with_reducible apply If_dec) <;> intro hc <;> (try (exfalso; omega)))
    | ((with_reducible apply If_any) <;> intro hc)
    | ((with_reducible first | apply PF.mk | apply DrawP.mk); (focus kernel_rfl))
    | ((with_reducible apply Same.mk); (focus rfl); (first | exact trivial | exact rfl))
    | (intro cap hcap)
    | ((fail_if_success (with_reducible apply st)); conv => whnf))
    all_goals (try simp only [cond_true, cond_false] at *)
    · refine read_at s (n * 512) (min ((s.now.length : Int) - n * 512) 512) 4 ⟨h4, by omega, h6⟩ rfl ⟨rfl, rfl, rfl, trivial⟩ ?_
      intro r l hr
      by_cases hr5 : r = 5
      · subst hr5
        clear hr
        repeat' (first
    | (with_reducible first | exact True.intro | apply And.intro | apply If_true | apply If_false | apply If_not)
    | ((with_reducible apply VC.mk); exact vt)
    | ((with_reducible apply If_dec) <;> intro hc <;> (try (exfalso; omega)))
    | ((with_reducible apply If_any) <;> intro hc)
    | ((with_reducible first | apply PF.mk | apply DrawP.mk); (focus kernel_rfl))
    | ((with_reducible apply Same.mk); (focus rfl); (first | exact trivial | exact rfl))
    | (intro cap hcap)
    | ((fail_if_success (with_reducible apply st)); conv => whnf))
        exact T5.fin rfl rfl rfl rfl rfl rfl (hk (5, _, s.asked) (.inr ⟨rfl, by simp, rfl⟩))
      have hr2 : r = 0 ∧ l = (s.now.drop (n * 512).toNat).take (min ((s.now.length : Int) - n * 512) 512).toNat := by
        rcases hr with ⟨g, _⟩ | ⟨_, _, g, _⟩ | ⟨g, _, _, _, _, _, g2⟩
        · exact absurd g hr5
        · exact absurd ⟨by omega, by omega, by omega, by omega⟩ g
        · exact ⟨g, g2⟩
      obtain ⟨rfl, hl⟩ := hr2
      clear hr
      repeat' (first
    | (with_reducible first | exact True.intro | apply And.intro | apply If_true | apply If_false | apply If_not)
    | ((with_reducible apply VC.mk); exact vt)
    | ((with_reducible apply If_dec) <;> intro hc <;> (try (exfalso; omega)))
    | ((with_reducible apply If_any) <;> intro hc)
    | ((with_reducible first | apply PF.mk | apply DrawP.mk); (focus kernel_rfl))
    | ((with_reducible apply Same.mk); (focus rfl); (first | exact trivial | exact rfl))
    | (intro cap hcap)
    | ((fail_if_success (with_reducible apply st)); conv => whnf))
      refine LoopP.mk ⟨Nat × List Int, fun y => y.1 ≤ t.fresh.length ∧ y.2 = (t.fresh.take y.1).foldl (layR (512 * n)) (secF s.now n), fun y => ([(4, .p 5 0 1 0), (8, .p 6 0 1 0), (9, .v (.int .i64 (n * 512))), (64, .s 2 0 2 t.fresh.length t.cap), (65, .v (.int .i64 t.fresh.length)), (66, .v (.int .i64 y.1))], tpre t j (s.asked) ++ [.blk 154 (.ints .u8 z) 512, .blk 154 (.ints .u8 y.2) 512]), fun y => t.fresh.length - y.1, (0, secF s.now n), ⟨Nat.zero_le _, rfl⟩, Fit.ren [0, 1, 2, 3, 4, 5, 7] [] rfl rfl trivial ?_ ?_, ?_⟩
      · refine T5.leX rfl rfl rfl rfl rfl rfl rfl rfl rfl rfl ⟨⟨VC.mk ⟨rfl, rfl⟩, VC.mk ⟨rfl, List.prefix_rfl⟩⟩, ⟨VC.mk ⟨rfl, rfl⟩, VC.mk ⟨rfl, ?_⟩⟩, trivial⟩
        rw [show ((0, secF s.now n) : Nat × List Int).2 = secF s.now n from rfl, secF_read hl hz h3.1 (by assumption)]
        exact List.prefix_rfl
      · repeat' (first
    | (with_reducible first | exact True.intro | apply And.intro | apply If_true | apply If_false | apply If_not)
    | ((with_reducible apply VC.mk); exact vt)
    | ((with_reducible apply If_dec) <;> intro hc <;> (try (exfalso; omega)))
    | ((with_reducible apply If_any) <;> intro hc)
    | ((with_reducible first | apply PF.mk | apply DrawP.mk); (focus kernel_rfl))
    | ((with_reducible apply Same.mk); (focus rfl); (first | exact trivial | exact rfl))
    | (intro cap hcap)
    | ((fail_if_success (with_reducible apply st)); conv => whnf))
      · intro y hy
        obtain ⟨g1, g2⟩ := hy
        have e : ((y.1 : Nat) : Int).toNat = y.1 := Int.toNat_natCast _
        have g3 : y.2.length = 512 := by rw [g2]; exact lays_length _ (by omega) _ _ (secF_length _ _)
        by_cases hlt : y.1 < t.fresh.length
        · have hm : t.fresh.getD y.1 (0, []) ∈ t.fresh := by
            rw [show t.fresh.getD y.1 (0, []) = t.fresh[y.1] by simp [List.getD_eq_getElem?_getD, hlt]]; exact List.getElem_mem hlt
          have hok := h1.frs _ hm
          have hcl := h1.len
          have htk : t.fresh.take (y.1 + 1) = t.fresh.take y.1 ++ [t.fresh.getD y.1 (0, [])] := by
            rw [List.take_add_one, List.getElem?_eq_getElem hlt, List.getD_eq_getElem?_getD, List.getElem?_eq_getElem hlt]; rfl
          repeat' (first
    | (with_reducible first | exact True.intro | apply And.intro | apply If_true | apply If_false | apply If_not)
    | ((with_reducible apply VC.mk); exact vt)
    | ((with_reducible apply If_dec) <;> intro hc <;> (try (exfalso; omega)))
    | ((with_reducible apply If_any) <;> intro hc)
    | ((with_reducible first | apply PF.mk | apply DrawP.mk); (focus kernel_rfl))
    | ((with_reducible apply Same.mk); (focus rfl); (first | exact trivial | exact rfl))
    | (intro cap hcap)
    | ((fail_if_success (with_reducible apply st)); conv => whnf))
          simp only [e, Nat.zero_add]
          refine tlay_at y.2 (n * 512) (t.fresh.getD y.1 (0, [])) 6 ⟨⟨g3, by omega, by omega⟩, hok.1, by omega, by omega⟩ rfl ⟨rfl, rfl, ⟨rfl, rfl, trivial⟩, trivial⟩ ?_
          repeat' (first
    | (with_reducible first | exact True.intro | apply And.intro | apply If_true | apply If_false | apply If_not)
    | ((with_reducible apply VC.mk); exact vt)
    | ((with_reducible apply If_dec) <;> intro hc <;> (try (exfalso; omega)))
    | ((with_reducible apply If_any) <;> intro hc)
    | ((with_reducible first | apply PF.mk | apply DrawP.mk); (focus kernel_rfl))
    | ((with_reducible apply Same.mk); (focus rfl); (first | exact trivial | exact rfl))
    | (intro cap hcap)
    | ((fail_if_success (with_reducible apply st)); conv => whnf))
          refine Round.mk ⟨(y.1 + 1, layR (n * 512) y.2 (t.fresh.getD y.1 (0, []))), ⟨by show y.1 + 1 ≤ _; omega, ?_⟩, by show t.fresh.length - (y.1 + 1) < t.fresh.length - y.1; omega, Fit.ren [0, 1, 2, 3, 4, 5, 6] [] rfl rfl trivial ?_ ?_⟩
          · show _ = List.foldl _ _ (t.fresh.take (y.1 + 1))
            rw [htk, List.foldl_append, ← g2, Int.mul_comm]; rfl
          · exact T5.leX rfl rfl rfl rfl rfl rfl rfl rfl rfl rfl ⟨⟨VC.mk ⟨rfl, rfl⟩, VC.mk ⟨rfl, List.prefix_rfl⟩⟩, ⟨VC.mk ⟨rfl, rfl⟩, VC.mk ⟨rfl, List.prefix_rfl⟩⟩, trivial⟩
          · repeat' (first
    | (with_reducible first | exact True.intro | apply And.intro | apply If_true | apply If_false | apply If_not)
    | ((with_reducible apply VC.mk); exact vt)
    | ((with_reducible apply If_dec) <;> intro hc <;> (try (exfalso; omega)))
    | ((with_reducible apply If_any) <;> intro hc)
    | ((with_reducible first | apply PF.mk | apply DrawP.mk); (focus kernel_rfl))
    | ((with_reducible apply Same.mk); (focus rfl); (first | exact trivial | exact rfl))
    | (intro cap hcap)
    | ((fail_if_success (with_reducible apply st)); conv => whnf))
        · repeat' (first
    | (with_reducible first | exact True.intro | apply And.intro | apply If_true | apply If_false | apply If_not)
    | ((with_reducible apply VC.mk); exact vt)
    | ((with_reducible apply If_dec) <;> intro hc <;> (try (exfalso; omega)))
    | ((with_reducible apply If_any) <;> intro hc)
    | ((with_reducible first | apply PF.mk | apply DrawP.mk); (focus kernel_rfl))
    | ((with_reducible apply Same.mk); (focus rfl); (first | exact trivial | exact rfl))
    | (intro cap hcap)
    | ((fail_if_success (with_reducible apply st)); conv => whnf))
          have e9 : List.take 512 (List.drop (0 * 1 + 0) (List.take 512 (List.drop (0 * 1 + 0) y.2))) = y.2 := by simp [List.take_of_length_le, g3]
          rw [e9]
          rw [List.take_of_length_le (by omega), ← hsec] at g2
          exact fin y.2 _ _ g2 (.inr rfl) rfl rfl rfl rfl rfl rfl
    · refine LoopP.mk ⟨Nat × List Int, fun y => y.1 ≤ t.fresh.length ∧ y.2 = (t.fresh.take y.1).foldl (layR (512 * n)) (secF s.now n), fun y => ([(4, .p 5 0 1 0), (8, .p 6 0 1 0), (9, .v (.int .i64 (n * 512))), (64, .s 2 0 2 t.fresh.length t.cap), (65, .v (.int .i64 t.fresh.length)), (66, .v (.int .i64 y.1))], tpre t j (s) ++ [.blk 154 (.ints .u8 z) 512, .blk 154 (.ints .u8 y.2) 512]), fun y => t.fresh.length - y.1, (0, secF s.now n), ⟨Nat.zero_le _, rfl⟩, Fit.ren [0, 1, 2, 3, 4, 5, 7] [] rfl rfl trivial ?_ ?_, ?_⟩
      · refine T5.leX rfl rfl rfl rfl rfl rfl rfl rfl rfl rfl ⟨⟨VC.mk ⟨rfl, rfl⟩, VC.mk ⟨rfl, List.prefix_rfl⟩⟩, ⟨VC.mk ⟨rfl, rfl⟩, VC.mk ⟨rfl, ?_⟩⟩, trivial⟩
        rw [show ((0, secF s.now n) : Nat × List Int).2 = secF s.now n from rfl, secF_none hz h3.1 hc]
        exact List.prefix_rfl
      · repeat' (first
    | (with_reducible first | exact True.intro | apply And.intro | apply If_true | apply If_false | apply If_not)
    | ((with_reducible apply VC.mk); exact vt)
    | ((with_reducible apply If_dec) <;> intro hc <;> (try (exfalso; omega)))
    | ((with_reducible apply If_any) <;> intro hc)
    | ((with_reducible first | apply PF.mk | apply DrawP.mk); (focus kernel_rfl))
    | ((with_reducible apply Same.mk); (focus rfl); (first | exact trivial | exact rfl))
    | (intro cap hcap)
    | ((fail_if_success (with_reducible apply st)); conv => whnf))
      · intro y hy
        obtain ⟨g1, g2⟩ := hy
        have e : ((y.1 : Nat) : Int).toNat = y.1 := Int.toNat_natCast _
        have g3 : y.2.length = 512 := by rw [g2]; exact lays_length _ (by omega) _ _ (secF_length _ _)
        by_cases hlt : y.1 < t.fresh.length
        · have hm : t.fresh.getD y.1 (0, []) ∈ t.fresh := by
            rw [show t.fresh.getD y.1 (0, []) = t.fresh[y.1] by simp [List.getD_eq_getElem?_getD, hlt]]; exact List.getElem_mem hlt
          have hok := h1.frs _ hm
          have hcl := h1.len
          have htk : t.fresh.take (y.1 + 1) = t.fresh.take y.1 ++ [t.fresh.getD y.1 (0, [])] := by
            rw [List.take_add_one, List.getElem?_eq_getElem hlt, List.getD_eq_getElem?_getD, List.getElem?_eq_getElem hlt]; rfl
          repeat' (first
    | (with_reducible first | exact True.intro | apply And.intro | apply If_true | apply If_false | apply If_not)
    | ((with_reducible apply VC.mk); exact vt)
    | ((with_reducible apply If_dec) <;> intro hc <;> (try (exfalso; omega)))
    | ((with_reducible apply If_any) <;> intro hc)
    | ((with_reducible first | apply PF.mk | apply DrawP.mk); (focus kernel_rfl))
    | ((with_reducible apply Same.mk); (focus rfl); (first | exact trivial | exact rfl))
    | (intro cap hcap)
    | ((fail_if_success (with_reducible apply st)); conv => whnf))
          simp only [e, Nat.zero_add]
          refine tlay_at y.2 (n * 512) (t.fresh.getD y.1 (0, [])) 6 ⟨⟨g3, by omega, by omega⟩, hok.1, by omega, by omega⟩ rfl ⟨rfl, rfl, ⟨rfl, rfl, trivial⟩, trivial⟩ ?_
          repeat' (first
    | (with_reducible first | exact True.intro | apply And.intro | apply If_true | apply If_false | apply If_not)
    | ((with_reducible apply VC.mk); exact vt)
    | ((with_reducible apply If_dec) <;> intro hc <;> (try (exfalso; omega)))
    | ((with_reducible apply If_any) <;> intro hc)
    | ((with_reducible first | apply PF.mk | apply DrawP.mk); (focus kernel_rfl))
    | ((with_reducible apply Same.mk); (focus rfl); (first | exact trivial | exact rfl))
    | (intro cap hcap)
    | ((fail_if_success (with_reducible apply st)); conv => whnf))
          refine Round.mk ⟨(y.1 + 1, layR (n * 512) y.2 (t.fresh.getD y.1 (0, []))), ⟨by show y.1 + 1 ≤ _; omega, ?_⟩, by show t.fresh.length - (y.1 + 1) < t.fresh.length - y.1; omega, Fit.ren [0, 1, 2, 3, 4, 5, 6] [] rfl rfl trivial ?_ ?_⟩
          · show _ = List.foldl _ _ (t.fresh.take (y.1 + 1))
            rw [htk, List.foldl_append, ← g2, Int.mul_comm]; rfl
          · exact T5.leX rfl rfl rfl rfl rfl rfl rfl rfl rfl rfl ⟨⟨VC.mk ⟨rfl, rfl⟩, VC.mk ⟨rfl, List.prefix_rfl⟩⟩, ⟨VC.mk ⟨rfl, rfl⟩, VC.mk ⟨rfl, List.prefix_rfl⟩⟩, trivial⟩
          · repeat' (first
    | (with_reducible first | exact True.intro | apply And.intro | apply If_true | apply If_false | apply If_not)
    | ((with_reducible apply VC.mk); exact vt)
    | ((with_reducible apply If_dec) <;> intro hc <;> (try (exfalso; omega)))
    | ((with_reducible apply If_any) <;> intro hc)
    | ((with_reducible first | apply PF.mk | apply DrawP.mk); (focus kernel_rfl))
    | ((with_reducible apply Same.mk); (focus rfl); (first | exact trivial | exact rfl))
    | (intro cap hcap)
    | ((fail_if_success (with_reducible apply st)); conv => whnf))
        · repeat' (first
    | (with_reducible first | exact True.intro | apply And.intro | apply If_true | apply If_false | apply If_not)
    | ((with_reducible apply VC.mk); exact vt)
    | ((with_reducible apply If_dec) <;> intro hc <;> (try (exfalso; omega)))
    | ((with_reducible apply If_any) <;> intro hc)
    | ((with_reducible first | apply PF.mk | apply DrawP.mk); (focus kernel_rfl))
    | ((with_reducible apply Same.mk); (focus rfl); (first | exact trivial | exact rfl))
    | (intro cap hcap)
    | ((fail_if_success (with_reducible apply st)); conv => whnf))
          have e9 : List.take 512 (List.drop (0 * 1 + 0) (List.take 512 (List.drop (0 * 1 + 0) y.2))) = y.2 := by simp [List.take_of_length_le, g3]
          rw [e9]
          rw [List.take_of_length_le (by omega), ← hsec] at g2
          exact fin y.2 _ _ g2 (.inl rfl) rfl rfl rfl rfl rfl rfl
def loadSOk (x : TR × JR × DF × Int) : Prop := x.1.Ok ∧ (0 ≤ x.2.2.2 ∧ x.2.2.2 ≤ 1073741824) ∧ 0 ≤ x.2.2.1.ops ∧ x.2.2.1.ops ≤ 549755813888 ∧ x.2.2.1.now.length ≤ 4194304
def loadSRel (x : TR × JR × DF × Int) (r : Int × List Int × DF) : Prop := r.1 = 0 ∧ r.2.1 = x.1.sec x.2.2.1.now x.2.2.2 ∧ (r.2.2 = x.2.2.1 ∨ r.2.2 = x.2.2.1.asked) ∨ r.1 = 5 ∧ r.2.1.length = 512 ∧ r.2.2 = x.2.2.1.asked
theorem loadS_K : ConOk Go.Proofs.Try.prog 79 (Con.of (TR × JR × DF × Int) (Int × List Int × DF) (fun x => [.p 0 0 1 0, .v (.int .i64 x.2.2.2)]) (fun x => tpre x.1 x.2.1 x.2.2.1) loadSOk loadSRel (fun x r => .tup [.arr .u8 r.2.1, .v (.int .i64 r.1)]) (fun x r => tpre (x.1) (x.2.1) (r.2.2))) := by
  refine conOk_rel (T := tab) mix Go.Proofs.Try.func79 (by decide +kernel) (by kernel_rfl) [] p79 (fun n => by rw [Go.Proofs.Try.ntmps79]; exact Nat.le_of_ble_eq_true rfl) (fun x r _ _ => T5.good (by simp [AV.noF, noFs, Cont.noF])) (fun x _ => T5.nd) ?_
  intro x k h0 hk
  exact loadS_c x.1 x.2.1 x.2.2.1 x.2.2.2 k h0 (fun r hr => hk r hr)
theorem loadS_at {avs : List AV} {H : List Chunk} {k : K} (t : TR) (j : JR) (s : DF) (n : Int) (ta tb tc td te : Nat) (h0 : t.Ok ∧ (0 ≤ n ∧ n ≤ 1073741824) ∧ 0 ≤ s.ops ∧ s.ops ≤ 549755813888 ∧ s.now.length ≤ 4194304) (hn : nodupN [ta, tb, tc, td, te] = true) (ha0 : nth H ta = some (t.c0 td tb tc)) (hb0 : nth H tb = some t.c1) (hc0 : nth H tc = some t.c2) (hd0 : nth H td = some (j.blk te)) (he0 : nth H te = some s.pk) (ha : argsM H [ta, tb, tc, td, te] [.p 0 0 1 0, .v (.int .i64 n)] avs)
    (hQ : ∀ r : Int × List Int × DF, (r.1 = 0 ∧ r.2.1 = t.sec s.now n ∧ (r.2.2 = s ∨ r.2.2 = s.asked) ∨ r.1 = 5 ∧ r.2.1.length = 512 ∧ r.2.2 = s.asked) → k (.tup [.arr .u8 r.2.1, .v (.int .i64 r.1)]) (((((H.set ta (TR.c0 (t) td tb tc)).set tb (TR.c1 (t))).set tc (TR.c2 (t))).set td (JR.blk (j) te)).set te (DF.pk (r.2.2)))) : CallP Go.Proofs.Try.prog 79 avs H k :=
  CallP.mk ⟨_, loadS_K.real, Con.spec loadS_K, (t, j, s, n), [ta, tb, tc, td, te], ⟨h0, hn, ⟨ha0, hb0.trans (congrArg some (TR.c1_ren t _).symm), hc0, hd0, he0, trivial⟩, ha⟩, fun r hr => (numK_eq _ _).mpr (by simpa [tpre, putAll, TR.c0_ren, TR.c1_ren, TR.c2_ren, JR.blk_ren, DF.pk_ren, AV.ren, rens, Cont.ren, fren, nth] using hQ r hr)⟩
set_option maxHeartbeats 16000000 in
theorem tputS_c (t : TR) (j : JR) (s : DF) (at_ : Int) (p : List Int) (k : K) (h0 : t.Ok ∧ (inR .i64 at_ ∧ p.length ≤ 9223372036854775807) ∧ 0 ≤ s.ops ∧ s.ops ≤ 274877906944 ∧ s.now.length ≤ 4194304)
    (hk : ∀ x : Int × TR × Nat, (t.over = true ∧ x.1 = 6 ∧ x.2.1 = t ∧ x.2.2 = 0 ∨ t.over = false ∧ ¬ inB at_ p.length ∧ x.1 = 4 ∧ x.2.1 = t ∧ x.2.2 = 0 ∨ t.over = false ∧ inB at_ p.length ∧ x.1 = 0 ∧ x.2.1 = t.put s.now at_.toNat p ∧ x.2.2 ≤ p.length ∨ x.1 = 5 ∧ x.2.2 ≤ p.length) → k (.v (.int .i64 x.1)) (tpre x.2.1 j (s.tick x.2.2))) : evFunc tab [] p26 Go.Proofs.Try.f26 [.p 0 0 1 0, .v (.int .i64 at_), .im false 1 p.length (.ints .u8 p)] (tpre t j s) k := by
  obtain ⟨h1, h3, h4, h5, h6⟩ := h0
  have s0 : s.tick 0 = s := by unfold DF.tick; simp
  have bad : ∀ (e : Int) (H : List Chunk), (t.over = true ∧ e = 6 ∨ t.over = false ∧ ¬ inB at_ p.length ∧ e = 4) → Nat.ble 5 H.length = true → nth H 0 = some (t.c0 3 1 2) → nth H 1 = some t.c1 → nth H 2 = some t.c2 → nth H 3 = some (j.blk 4) → nth H 4 = some s.pk → Fin 5 (.v (.int .i64 e)) H k := by
    intro e H hb q3 q4 q5 q6 q7 q8
    refine T5.fin q3 q4 q5 q6 q7 q8 ?_
    have := hk (e, t, 0) (by rcases hb with ⟨a, b⟩ | ⟨a, b, c⟩; exact .inl ⟨a, b, rfl, rfl⟩; exact .inr (.inl ⟨a, b, c, rfl, rfl⟩))
    rw [show ((e, t, 0) : Int × TR × Nat).2.2 = 0 from rfl, s0] at this
    exact this
  repeat' (first
    | (with_reducible first | exact True.intro | apply And.intro | apply If_true | apply If_false | apply If_not)
    | ((with_reducible apply VC.mk); exact vt)
    | ((with_reducible apply If_dec) <;> intro hc <;> (try (exfalso; omega)))
    | ((with_reducible apply If_any) <;> intro hc)
    | ((with_reducible first | apply PF.mk | apply DrawP.mk); (focus kernel_rfl))
    | ((with_reducible apply Same.mk); (focus rfl); (first | exact trivial | exact rfl))
    | (intro cap hcap)
    | ((fail_if_success (with_reducible apply st)); conv => whnf))
  all_goals (try exact bad 6 _ (.inl ⟨by assumption, rfl⟩) rfl rfl rfl rfl rfl rfl)
  all_goals (try exact bad 4 _ (.inr ⟨by assumption, by unfold inB; omega, rfl⟩) rfl rfl rfl rfl rfl rfl)
  have hin : inB at_ p.length := by unfold inB; omega
  have hov : t.over = false := by assumption
  clear bad
  obtain ⟨A, hA⟩ : ∃ A : Nat, at_ = A := ⟨at_.toNat, by omega⟩
  subst hA
  rw [show ((A : Nat) : Int).toNat = A from Int.toNat_natCast _] at hk
  have hin2 : (A : Int) ≤ 4194304 ∧ (p.length : Int) ≤ 4194304 - A := ⟨hin.2.2.1, hin.2.2.2⟩
  refine LoopP.mk ⟨Nat × TR × Nat × List Int, fun y => y.1 ≤ p.length ∧ y.2.1.Ok ∧ y.2.1.over = t.over ∧ y.2.2.1 ≤ y.1 ∧ y.2.2.2 = p.drop y.1 ∧ ∃ f, y.2.2.2.length ≤ f ∧ TR.putF f y.2.1 s.now (A + y.1) y.2.2.2 = t.put s.now A p, fun y => ([(0, .p 0 0 1 0), (1, .v (.int .i64 ((A + y.1 : Nat) : Int))), (2, .im false 1 y.2.2.2.length (.ints .u8 y.2.2.2))], tpre y.2.1 j (s.tick y.2.2.1)), fun y => p.length - y.1, (0, t, 0, p), ⟨Nat.zero_le _, h1, rfl, Nat.le_refl _, rfl, p.length, Nat.le_refl _, rfl⟩, Fit.ren [0, 1, 2, 3, 4] [] rfl rfl trivial ?_ ?_, ?_⟩
  · show chunksLe _ [] _ _ [0, 1, 2, 3, 4] (tpre t j (s.tick 0))
    rw [s0]
    exact T5.le rfl rfl rfl rfl (Nat.le_of_ble_eq_true rfl) rfl rfl rfl rfl rfl
  · repeat' (first
    | (with_reducible first | exact True.intro | apply And.intro | apply If_true | apply If_false | apply If_not)
    | ((with_reducible apply VC.mk); exact vt)
    | ((with_reducible apply If_dec) <;> intro hc <;> (try (exfalso; omega)))
    | ((with_reducible apply If_any) <;> intro hc)
    | ((with_reducible first | apply PF.mk | apply DrawP.mk); (focus kernel_rfl))
    | ((with_reducible apply Same.mk); (focus rfl); (first | exact trivial | exact rfl))
    | (intro cap hcap)
    | ((fail_if_success (with_reducible apply st)); conv => whnf))
  · intro y hy
    obtain ⟨g1, g2, g3, g4, g5, f, g6, g7⟩ := hy
    have g8 : y.2.2.2.length = p.length - y.1 := by rw [g5, List.length_drop]
    have hop : 0 ≤ (s.tick y.2.2.1).ops ∧ (s.tick y.2.2.1).ops ≤ 549755813888 := by
      show 0 ≤ s.ops + (y.2.2.1 : Int) ∧ s.ops + (y.2.2.1 : Int) ≤ _
      omega
    repeat' (first
    | (with_reducible first | exact True.intro | apply And.intro | apply If_true | apply If_false | apply If_not)
    | ((with_reducible apply VC.mk); exact vt)
    | ((with_reducible apply If_dec) <;> intro hc <;> (try (exfalso; omega)))
    | ((with_reducible apply If_any) <;> intro hc)
    | ((with_reducible first | apply PF.mk | apply DrawP.mk); (focus kernel_rfl))
    | ((with_reducible apply Same.mk); (focus rfl); (first | exact trivial | exact rfl))
    | (intro cap hcap)
    | ((fail_if_success (with_reducible apply st)); conv => whnf))
    · refine loadS_at y.2.1 j (s.tick y.2.2.1) (((A + y.1 : Nat) : Int) / 512) 0 1 2 3 4 ⟨g2, by omega, hop.1, hop.2, h6⟩ rfl rfl rfl rfl rfl rfl ⟨rfl, rfl, trivial⟩ ?_
      have htk : (s.tick y.2.2.1).asked = s.tick (y.2.2.1 + 1) := by
        show ({ s with ops := _ } : DF) = { s with ops := _ }
        congr 1
        show s.ops + (y.2.2.1 : Int) + 1 = s.ops + ((y.2.2.1 + 1 : Nat) : Int)
        omega
      rintro ⟨e0, l, s'⟩ (⟨r0, r1, r2⟩ | ⟨r0, rl5, r2⟩)
      rotate_left
      · have r0 : e0 = 5 := r0
        have r2 : s' = s.tick (y.2.2.1 + 1) := r2.trans htk
        have rl5 : l.length = 512 := rl5
        subst r0 r2
        dsimp only
        repeat' (first
    | (with_reducible first | exact True.intro | apply And.intro | apply If_true | apply If_false | apply If_not)
    | ((with_reducible apply VC.mk); exact vt)
    | ((with_reducible apply If_dec) <;> intro hc <;> (try (exfalso; omega)))
    | ((with_reducible apply If_any) <;> intro hc)
    | ((with_reducible first | apply PF.mk | apply DrawP.mk); (focus kernel_rfl))
    | ((with_reducible apply Same.mk); (focus rfl); (first | exact trivial | exact rfl))
    | (intro cap hcap)
    | ((fail_if_success (with_reducible apply st)); conv => whnf))
        have hk5 := hk (5, y.2.1, y.2.2.1 + 1) (.inr (.inr (.inr ⟨rfl, by show y.2.2.1 + 1 ≤ _; omega⟩)))
        dsimp only at hk5
        rw [← htk] at hk5
        exact T5.fin rfl rfl rfl rfl rfl rfl hk5
      have r0 : e0 = 0 := r0
      subst r0
      have r3 : l = y.2.1.sec s.now (((A + y.1) / 512 : Nat) : Int) := r1
      have r1l : l.length = 512 := by rw [r3]; exact g2.sec_length _ _ (by omega)
      have r2 : ∃ m, m ≤ y.2.2.1 + 1 ∧ s' = s.tick m := by
        rcases r2 with r2 | r2
        · exact ⟨y.2.2.1, by omega, r2⟩
        · exact ⟨y.2.2.1 + 1, by omega, by
            rw [show s' = (s.tick y.2.2.1).asked from r2]
            show ({ s with ops := _ } : DF) = { s with ops := _ }
            congr 1
            show s.ops + (y.2.2.1 : Int) + 1 = s.ops + ((y.2.2.1 + 1 : Nat) : Int)
            omega⟩
      obtain ⟨m, hm, rfl⟩ := r2
      repeat' (first
    | (with_reducible first | exact True.intro | apply And.intro | apply If_true | apply If_false | apply If_not)
    | ((with_reducible apply VC.mk); exact vt)
    | ((with_reducible apply If_dec) <;> intro hc <;> (try (exfalso; omega)))
    | ((with_reducible apply If_any) <;> intro hc)
    | ((with_reducible first | apply PF.mk | apply DrawP.mk); (focus kernel_rfl))
    | ((with_reducible apply Same.mk); (focus rfl); (first | exact trivial | exact rfl))
    | (intro cap hcap)
    | ((fail_if_success (with_reducible apply st)); conv => whnf))
      simp only [cond_true, cond_false]
      obtain ⟨K0, hK⟩ : ∃ K0 : Nat, K0 = min y.2.2.2.length (512 - (A + y.1) % 512) := ⟨_, rfl⟩
      have e1 : min (y.2.2.2.length : Int) ((512 : Int) - ((A + y.1 : Nat) : Int) % 512) = (K0 : Int) := by omega
      have e2 : (((A + y.1 : Nat) : Int) % 512).toNat = (A + y.1) % 512 := by omega
      have e3 : ((K0 : Nat) : Int).toNat = K0 := Int.toNat_natCast _
      have hf : ∃ f', f = f' + 1 := ⟨f - 1, by omega⟩
      obtain ⟨f', rfl⟩ := hf
      have g9 : TR.putF f' (y.2.1.wr1 s.now (A + y.1) (y.2.2.2.take K0)) s.now (A + y.1 + K0) (y.2.2.2.drop K0) = t.put s.now A p := by
        rw [← g7, hK]
        show _ = (if _ then _ else _)
        rw [if_neg (by omega)]
      refine Round.mk ⟨(y.1 + K0, y.2.1.wr1 s.now (A + y.1) (y.2.2.2.take K0), m, y.2.2.2.drop K0), ⟨by show y.1 + K0 ≤ _; omega, g2.wr1 _ _ _ (by rw [List.length_take]; omega), g3, by show m ≤ y.1 + K0; omega, by show y.2.2.2.drop K0 = _; rw [g5, List.drop_drop], f', by show (y.2.2.2.drop K0).length ≤ _; rw [List.length_drop]; omega, by show TR.putF f' _ _ (A + (y.1 + K0)) _ = _; rw [← Nat.add_assoc]; exact g9⟩, by show p.length - (y.1 + K0) < p.length - y.1; omega, Fit.ren [0, 1, 2, 3, 4] [] rfl rfl trivial ?_ ?_⟩
      · refine T5.le rfl rfl rfl rfl (Nat.le_of_ble_eq_true rfl) rfl ?_ rfl rfl rfl
        show some (Chunk.mp _ _) = some (Chunk.mp (List.map _ (upS _ _ _)) _)
        rw [e1, e2, e3, put_sec r1l (by omega) (by omega), ← upm_map, ← r3, show ((A + y.1 : Nat) : Int) / 512 = (((A + y.1) / 512 : Nat) : Int) by omega]
      · repeat' (first
    | (with_reducible first | exact True.intro | apply And.intro | apply If_true | apply If_false | apply If_not)
    | ((with_reducible apply VC.mk); exact vt)
    | ((with_reducible apply If_dec) <;> intro hc <;> (try (exfalso; omega)))
    | ((with_reducible apply If_any) <;> intro hc)
    | ((with_reducible first | apply PF.mk | apply DrawP.mk); (focus kernel_rfl))
    | ((with_reducible apply Same.mk); (focus rfl); (first | exact trivial | exact rfl))
    | (intro cap hcap)
    | ((fail_if_success (with_reducible apply st)); conv => whnf))
        exact VC.mk ⟨rfl, by
          show _ = y.2.2.2.drop K0
          rw [e1, e3]
          exact List.take_of_length_le (by rw [List.length_drop]; exact Nat.le_refl _)⟩
    · rw [putF_nil _ _ _ _ _ (by omega)] at g7
      refine T5.fin rfl rfl rfl rfl rfl rfl ?_
      exact hk (0, y.2.1, y.2.2.1) (.inr (.inr (.inl ⟨hov, hin, rfl, g7, by show y.2.2.1 ≤ _; omega⟩)))
def tputSOk (x : TR × JR × DF × Int × List Int) : Prop := x.1.Ok ∧ (inR .i64 x.2.2.2.1 ∧ x.2.2.2.2.length ≤ 9223372036854775807) ∧ 0 ≤ x.2.2.1.ops ∧ x.2.2.1.ops ≤ 274877906944 ∧ x.2.2.1.now.length ≤ 4194304
def tputSRel (x : TR × JR × DF × Int × List Int) (r : Int × TR × Nat) : Prop := (x.1.over = true ∧ r.1 = 6 ∧ r.2.1 = x.1 ∧ r.2.2 = 0 ∨ x.1.over = false ∧ ¬ inB x.2.2.2.1 x.2.2.2.2.length ∧ r.1 = 4 ∧ r.2.1 = x.1 ∧ r.2.2 = 0 ∨ x.1.over = false ∧ inB x.2.2.2.1 x.2.2.2.2.length ∧ r.1 = 0 ∧ r.2.1 = x.1.put x.2.2.1.now x.2.2.2.1.toNat x.2.2.2.2 ∧ r.2.2 ≤ x.2.2.2.2.length ∨ r.1 = 5 ∧ r.2.2 ≤ x.2.2.2.2.length)
theorem tputS_K : ConOk Go.Proofs.Try.prog 26 (Con.of (TR × JR × DF × Int × List Int) (Int × TR × Nat) (fun x => [.p 0 0 1 0, .v (.int .i64 x.2.2.2.1), .im false 1 x.2.2.2.2.length (.ints .u8 x.2.2.2.2)]) (fun x => tpre x.1 x.2.1 x.2.2.1) tputSOk tputSRel (fun x r => .v (.int .i64 r.1)) (fun x r => tpre (r.2.1) (x.2.1) (x.2.2.1.tick r.2.2))) := by
  refine conOk_rel (T := tab) mix Go.Proofs.Try.func26 (by decide +kernel) (by kernel_rfl) [] p26 (fun n => by rw [Go.Proofs.Try.ntmps26]; exact Nat.le_of_ble_eq_true rfl) (fun x r _ _ => T5.good (by simp [AV.noF, noFs, Cont.noF])) (fun x _ => T5.nd) ?_
  intro x k h0 hk
  exact tputS_c x.1 x.2.1 x.2.2.1 x.2.2.2.1 x.2.2.2.2 k h0 (fun r hr => hk r hr)
theorem tputS_at {avs : List AV} {H : List Chunk} {k : K} (t : TR) (j : JR) (s : DF) (at_ : Int) (p : List Int) (ta tb tc td te : Nat) (h0 : t.Ok ∧ (inR .i64 at_ ∧ p.length ≤ 9223372036854775807) ∧ 0 ≤ s.ops ∧ s.ops ≤ 274877906944 ∧ s.now.length ≤ 4194304) (hn : nodupN [ta, tb, tc, td, te] = true) (ha0 : nth H ta = some (t.c0 td tb tc)) (hb0 : nth H tb = some t.c1) (hc0 : nth H tc = some t.c2) (hd0 : nth H td = some (j.blk te)) (he0 : nth H te = some s.pk) (ha : argsM H [ta, tb, tc, td, te] [.p 0 0 1 0, .v (.int .i64 at_), .im false 1 p.length (.ints .u8 p)] avs)
    (hQ : ∀ r : Int × TR × Nat, ((t.over = true ∧ r.1 = 6 ∧ r.2.1 = t ∧ r.2.2 = 0 ∨ t.over = false ∧ ¬ inB at_ p.length ∧ r.1 = 4 ∧ r.2.1 = t ∧ r.2.2 = 0 ∨ t.over = false ∧ inB at_ p.length ∧ r.1 = 0 ∧ r.2.1 = t.put s.now at_.toNat p ∧ r.2.2 ≤ p.length ∨ r.1 = 5 ∧ r.2.2 ≤ p.length)) → k (.v (.int .i64 r.1)) (((((H.set ta (TR.c0 (r.2.1) td tb tc)).set tb (TR.c1 (r.2.1))).set tc (TR.c2 (r.2.1))).set td (JR.blk (j) te)).set te (DF.pk (s.tick r.2.2)))) : CallP Go.Proofs.Try.prog 26 avs H k :=
  CallP.mk ⟨_, tputS_K.real, Con.spec tputS_K, (t, j, s, at_, p), [ta, tb, tc, td, te], ⟨h0, hn, ⟨ha0, hb0.trans (congrArg some (TR.c1_ren t _).symm), hc0, hd0, he0, trivial⟩, ha⟩, fun r hr => (numK_eq _ _).mpr (by simpa [tpre, putAll, TR.c0_ren, TR.c1_ren, TR.c2_ren, JR.blk_ren, DF.pk_ren, AV.ren, rens, Cont.ren, fren, nth] using hQ r hr)⟩
end Go.Proofs.Ytcfmlnddmpiemaa.Sx


set_option maxRecDepth 10000
namespace Go.Proofs.Ytcfmlnddmpiemaa.Sx
open Go.RowKit Go.Proofs.Ytcfmlnddmpiemaa.Sx.Tb
/-! ### The law TxCommits -/
def secL (a n : Nat) : List Int := (List.range n).map (fun i => ((a / 512 + i : Nat) : Int))
theorem secL_length (a n : Nat) : (secL a n).length = n := by unfold secL; rw [List.length_map, List.length_range]
theorem secL_mem (a n : Nat) (k : Int) : k ∈ secL a n ↔ ∃ m : Nat, k = (m : Int) ∧ a / 512 ≤ m ∧ m < a / 512 + n := by
  unfold secL
  rw [List.mem_map]
  constructor
  · rintro ⟨i, hi, rfl⟩
    rw [List.mem_range] at hi
    exact ⟨a / 512 + i, rfl, by omega, by omega⟩
  · rintro ⟨m, rfl, h1, h2⟩
    exact ⟨m - a / 512, List.mem_range.2 (by omega), by rw [show a / 512 + (m - a / 512) = m by omega]⟩
structure ComI (b : List Int) (i q : Nat) (t : TR) (m puts : List Int) : Prop where
  ok : t.Ok
  over : t.over = false
  frn : t.fresh.length ≤ i
  inn : t.In jX
  b8 : t.B b
  cst : cost (wrs t.fresh) ≤ 2000 * (i : Int)
  ops : q ≤ 4000 * i
  view : ∀ p, t.V b p = m.getD p 0
  len : b.length ≤ m.length ∧ m.length ≤ 20000
  key : ∀ k : Int, k ∈ t.ks ↔ k ∈ puts
  rng : ∀ k ∈ puts, 0 ≤ k ∧ k < 80
  pln : puts.length ≤ 100 * i
theorem ComI.next {b : List Int} {i q : Nat} {t : TR} {m puts : List Int} (h : ComI b i q t m puts) : ComI b (i + 1) q t m puts := by
  obtain ⟨a1, a2, a3, a4, a5, a6, a7, a8, a9, b1, b2, b3⟩ := h
  exact ⟨a1, a2, by omega, a4, a5, by omega, by omega, a8, a9, b1, b2, by omega⟩
theorem ComI.fresh {b : List Int} {i q : Nat} {t : TR} {m puts : List Int} (h : ComI b i q t m puts) (hi : i ≤ 25) {A c : Nat} {p w : List Int} (hA : 10752 ≤ A ∧ A < 16752 ∧ A % 512 = 0) (hp : p.length ≤ 1500) (h8 : B8 p) (hc : t.fresh.length + 1 ≤ c) (hwl : w.length = max m.length (A + p.length)) (hw : ∀ q, w.getD q 0 = wrV (fun q => m.getD q 0) A p q) : ComI b (i + 1) q (t.freshT A p c) w puts := by
  obtain ⟨a1, a2, a3, a4, a5, a6, a7, a8, a9, b1, b2, b3⟩ := h
  obtain ⟨p1, p2, p3, p4, p5, p6⟩ := fresh_V a1 (DF.mk0 b) (a := A) (p := p) (c := c) hA.2.2 (by omega) hc (by omega)
  have hI := p5 jX a4 h8 (.inr (.inr (by show (512 : Int) + 10240 ≤ A; omega))) (.inr (by show (512 : Int) + 10240 ≤ A; omega))
  have hv : ∀ r, (t.freshT A p c).V b r = w.getD r 0 := fun r => by
    rw [hw]
    refine (p6 r).trans ?_
    unfold wrV
    show (if _ then _ else t.V b r) = (if _ then _ else m.getD r 0)
    rw [a8]
  refine ⟨p1, p3.trans a2, by rw [p2, List.length_append]; show t.fresh.length + 1 ≤ i + 1; omega, hI, fun r => ?_, ?_, by omega, hv, by omega, fun k => ?_, b2, by omega⟩
  · refine (show _ = _ from p6 r) ▸ ?_
    unfold wrV
    split
    · exact h8.getD _
    · exact a5 r
  · rw [p2]
    unfold wrs
    rw [List.map_append, cost_append]
    show cost (wrs t.fresh) + (1 + (p.length : Int) + 0) ≤ 2000 * ((i + 1 : Nat) : Int)
    omega
  · rw [← b1]
    constructor
    · intro hk
      obtain ⟨x, hx, rfl⟩ := List.mem_map.1 hk
      have := (hI.keys x hx).1
      have e : x.1 = ((x.1.toNat : Nat) : Int) := by omega
      rw [e] at hk ⊢
      exact (fresh_ks a1 (by omega) hc (by omega) _).1 hk
    · intro hk
      obtain ⟨x, hx, rfl⟩ := List.mem_map.1 hk
      have := (a4.keys x hx).1
      have e : x.1 = ((x.1.toNat : Nat) : Int) := by omega
      rw [e] at hk ⊢
      exact (fresh_ks a1 (by omega) hc (by omega) _).2 hk
theorem ComI.put {b : List Int} {i q : Nat} {t : TR} {m puts : List Int} (h : ComI b i q t m puts) (hi : i ≤ 25) {A n d : Nat} {p w : List Int} (hA : 10752 ≤ A ∧ A < 16752) (hp : p.length ≤ 1500) (h8 : B8 p) (hd : d ≤ 1500) (hwl : w.length = max m.length (A + p.length)) (hw : ∀ q, w.getD q 0 = wrV (fun q => m.getD q 0) A p q)
    (hn1 : n = 0 ∨ 0 < p.length ∧ (A / 512 + n - 1) * 512 < A + p.length) (hn2 : ¬ (0 < p.length ∧ (A / 512 + n) * 512 < A + p.length)) : ComI b (i + 1) (q + d) (t.put b A p) w (puts ++ secL A n) := by
  obtain ⟨a1, a2, a3, a4, a5, a6, a7, a8, a9, b1, b2, b3⟩ := h
  obtain ⟨p1, p2, p3, p4, p5⟩ := put_V a1 b A p
  have hn4 : n ≤ 4 := by omega
  refine ⟨p1, p3.trans a2, by rw [p2]; omega, put_In a4 a1 a5 h8 jX_al (by omega) (.inr (.inr (by show (512 : Int) + 10240 ≤ A; omega))), a5.put a1 A h8, by rw [p2]; omega, by omega, fun r => ?_, by omega, fun k => ?_, fun k hk => ?_, by rw [List.length_append, secL_length]; omega⟩
  · rw [p5, hw]
    unfold wrV
    show (if _ then _ else t.V b r) = (if _ then _ else m.getD r 0)
    rw [a8]
  · rw [put_ks, List.mem_append, ← b1, secL_mem]
    constructor
    · rintro (h | ⟨h0, r, rfl, h1, h2⟩)
      · exact .inl h
      · exact .inr ⟨r, rfl, by omega, by omega⟩
    · rintro (h | ⟨r, rfl, h1, h2⟩)
      · exact .inl h
      · exact .inr ⟨by omega, r, rfl, by omega, by omega⟩
  · rcases List.mem_append.1 hk with hk | hk
    · exact b2 k hk
    · obtain ⟨r, rfl, h1, h2⟩ := (secL_mem _ _ _).1 hk
      omega
end Go.Proofs.Ytcfmlnddmpiemaa.Sx


set_option maxRecDepth 10000
namespace Go.Proofs.Ytcfmlnddmpiemaa.Sx
open Go.RowKit Go.Proofs.Ytcfmlnddmpiemaa.Sx.Tb
/-! ### The law TxCrashes -/
def runL (a n : Nat) : List Int := (List.range n).map (fun i => ((a + i : Nat) : Int))
theorem runL_length (a n : Nat) : (runL a n).length = n := by unfold runL; rw [List.length_map, List.length_range]
theorem runL_mem (a n : Nat) (k : Int) : k ∈ runL a n ↔ ∃ m : Nat, k = (m : Int) ∧ a ≤ m ∧ m < a + n := by
  unfold runL
  rw [List.mem_map]
  constructor
  · rintro ⟨i, hi, rfl⟩
    rw [List.mem_range] at hi
    exact ⟨a + i, rfl, by omega, by omega⟩
  · rintro ⟨m, rfl, h1, h2⟩
    exact ⟨m - a, List.mem_range.2 (by omega), by rw [show a + (m - a) = m by omega]⟩
structure CrI (b : List Int) (i q : Nat) (t : TR) (m fr : List Int) : Prop where
  ok : t.Ok
  over : t.over = false
  frn : t.fresh.length ≤ i
  inn : t.In jX
  b8 : t.B b
  cst : cost (wrs t.fresh) ≤ 2000 * (i : Int)
  ops : q ≤ 4000 * i
  view : ∀ p, t.V b p = m.getD p 0
  len : m.length = 18752
  key : ∀ k ∈ t.ks, 0 ≤ k ∧ k < 36
  frb : ∀ r ∈ t.fresh, r.1.toNat + r.2.length ≤ 18752
  all : ∀ r ∈ t.fresh, ∀ n : Nat, covers r n → (n : Int) ∈ fr
  frl : fr.length ≤ 1500 * i
  rng : ∀ x ∈ fr, 0 ≤ x ∧ x < 18752
theorem CrI.next {b : List Int} {i q : Nat} {t : TR} {m fr : List Int} (h : CrI b i q t m fr) : CrI b (i + 1) q t m fr := by
  obtain ⟨a1, a2, a3, a4, a5, a6, a7, a8, a9, b1, b2, b3, b4, b5⟩ := h
  exact ⟨a1, a2, by omega, a4, a5, by omega, by omega, a8, a9, b1, b2, b3, by omega, b5⟩
theorem CrI.fresh {b : List Int} {i q : Nat} {t : TR} {m fr : List Int} (h : CrI b i q t m fr) (hi : i ≤ 25) {A c : Nat} {p w : List Int} (hA : 10752 ≤ A ∧ A < 16752 ∧ A % 512 = 0) (hp : p.length ≤ 1500) (h8 : B8 p) (hc : t.fresh.length + 1 ≤ c) (hwl : w.length = max m.length (A + p.length)) (hw : ∀ q, w.getD q 0 = wrV (fun q => m.getD q 0) A p q) : CrI b (i + 1) q (t.freshT A p c) w (fr ++ runL A p.length) := by
  obtain ⟨a1, a2, a3, a4, a5, a6, a7, a8, a9, b1, b2, b3, b4, b5⟩ := h
  obtain ⟨p1, p2, p3, p4, p5, p6⟩ := fresh_V a1 (DF.mk0 b) (a := A) (p := p) (c := c) hA.2.2 (by omega) hc (by omega)
  have hI := p5 jX a4 h8 (.inr (.inr (by show (512 : Int) + 10240 ≤ A; omega))) (.inr (by show (512 : Int) + 10240 ≤ A; omega))
  have hv : ∀ r, (t.freshT A p c).V b r = w.getD r 0 := fun r => by
    rw [hw]
    refine (p6 r).trans ?_
    unfold wrV
    show (if _ then _ else t.V b r) = (if _ then _ else m.getD r 0)
    rw [a8]
  refine ⟨p1, p3.trans a2, by rw [p2, List.length_append]; show t.fresh.length + 1 ≤ i + 1; omega, hI, fun r => ?_, ?_, by omega, hv, by omega, fun k hk => ?_, fun r hr => ?_, fun r hr n hn => ?_, by rw [List.length_append, runL_length]; omega, fun x hx => ?_⟩
  · refine (show _ = _ from p6 r) ▸ ?_
    unfold wrV
    split
    · exact h8.getD _
    · exact a5 r
  · rw [p2]
    unfold wrs
    rw [List.map_append, cost_append]
    show cost (wrs t.fresh) + (1 + (p.length : Int) + 0) ≤ 2000 * ((i + 1 : Nat) : Int)
    omega
  · obtain ⟨x, hx, rfl⟩ := List.mem_map.1 hk
    have := (hI.keys x hx).1
    have e : x.1 = ((x.1.toNat : Nat) : Int) := by omega
    rw [e] at hk ⊢
    exact b1 _ ((fresh_ks a1 (by omega) hc (by omega) _).1 hk)
  · rw [p2] at hr
    rcases List.mem_append.1 hr with hr | hr
    · exact b2 r hr
    · rw [List.mem_singleton.1 hr]
      show (A : Int).toNat + p.length ≤ 18752
      omega
  · rw [p2] at hr
    rcases List.mem_append.1 hr with hr | hr
    · exact List.mem_append.2 (.inl (b3 r hr n hn))
    · rw [List.mem_singleton.1 hr] at hn
      have hn : (A : Int).toNat ≤ n ∧ n < (A : Int).toNat + p.length := hn
      exact List.mem_append.2 (.inr ((runL_mem _ _ _).2 ⟨n, rfl, by omega, by omega⟩))
  · rcases List.mem_append.1 hx with hx | hx
    · exact b5 x hx
    · obtain ⟨r, rfl, h1, h2⟩ := (runL_mem _ _ _).1 hx
      omega
theorem CrI.put {b : List Int} {i q : Nat} {t : TR} {m fr : List Int} (h : CrI b i q t m fr) (hi : i ≤ 25) {A d : Nat} {p w : List Int} (hA : 10752 ≤ A ∧ A < 16752) (hp : p.length ≤ 1500) (h8 : B8 p) (hd : d ≤ 1500) (hwl : w.length = max m.length (A + p.length)) (hw : ∀ q, w.getD q 0 = wrV (fun q => m.getD q 0) A p q) : CrI b (i + 1) (q + d) (t.put b A p) w fr := by
  obtain ⟨a1, a2, a3, a4, a5, a6, a7, a8, a9, b1, b2, b3, b4, b5⟩ := h
  obtain ⟨p1, p2, p3, p4, p5⟩ := put_V a1 b A p
  refine ⟨p1, p3.trans a2, by rw [p2]; omega, put_In a4 a1 a5 h8 jX_al (by omega) (.inr (.inr (by show (512 : Int) + 10240 ≤ A; omega))), a5.put a1 A h8, by rw [p2]; omega, by omega, fun r => ?_, by omega, fun k hk => ?_, by rw [p2]; exact b2, by rw [p2]; exact b3, by omega, b5⟩
  · rw [p5, hw]
    unfold wrV
    show (if _ then _ else t.V b r) = (if _ then _ else m.getD r 0)
    rw [a8]
  · rw [put_ks] at hk
    rcases hk with h | ⟨h0, r, rfl, h1, h2⟩
    · exact b1 k h
    · omega
end Go.Proofs.Ytcfmlnddmpiemaa.Sx


set_option maxRecDepth 10000
namespace Go.Proofs.Ytcfmlnddmpiemaa.Sx
/-! ### The law TopAllOrNone: what holds within it -/
abbrev jA : JR := ⟨512, 12288, 0⟩
theorem jA_ok : jA.Ok := by unfold JR.Ok jA; simp
def inA (p : Nat) : Prop := 512 ≤ p ∧ p < 12800
structure FlA (j : JR) (s : DF) (c m : List Int) (n : Int) : Prop where
  pos : j.pos = 512
  size : j.size = 12288
  jok : j.Ok
  safe : s.safe = c
  now : s.now = c
  items : s.items = []
  cl : c.length = 18800
  c8 : B8 c
  sign : ∀ i, i < 512 → c.getD (512 + i) 0 = 0
  view : ∀ p, ¬ inA p → c.getD p 0 = m.getD p 0
  sok : s.Ok n
structure StA (sts : List (List Int)) (tc : List ExR) (u : Nat) : Prop where
  len : ∀ i, i < sts.length → (sts.getD i []).length = 18800
  tch : ∀ i, i < sts.length → ∀ p : Nat, (sts.getD i []).getD p 0 ≠ 0 → memE tc (p : Int)
  jr : ∀ p : Int, 512 ≤ p → p < 12800 → memE tc p
  tl : tc.length ≤ 1 + u ∧ 0 < tc.length
  tr : ∀ x ∈ tc, inR .i64 x.1 ∧ inR .i64 x.2
theorem memE_pos {tc : List ExR} {z : Int} (h : memE tc z) : 0 < tc.length := by
  obtain ⟨x, hx, -⟩ := h
  exact List.length_pos_of_mem hx
theorem StA.more {sts : List (List Int)} {tc tc' : List ExR} {u u' : Nat} (h : StA sts tc u) (hs : ∀ z, memE tc z → memE tc' z) (hl : tc'.length ≤ 1 + u') (hr : ∀ x ∈ tc', inR .i64 x.1 ∧ inR .i64 x.2) : StA sts tc' u' :=
  ⟨h.len, fun i hi p hp => hs _ (h.tch i hi p hp), fun p h1 h2 => hs _ (h.jr p h1 h2), ⟨hl, memE_pos (hs 512 (h.jr 512 (by decide) (by decide)))⟩, hr⟩
theorem StA.snoc {sts : List (List Int)} {tc : List ExR} {u : Nat} (h : StA sts tc u) {nx : List Int} (hl : nx.length = 18800) (ht : ∀ p : Nat, nx.getD p 0 ≠ 0 → memE tc (p : Int)) : StA (sts ++ [nx]) tc u := by
  have hg : ∀ i, i < (sts ++ [nx]).length → (sts ++ [nx]).getD i [] = if i < sts.length then sts.getD i [] else nx := fun i hi => by
    rw [List.length_append] at hi
    have hi : i < sts.length + 1 := hi
    by_cases c : i < sts.length
    · rw [if_pos c, List.getD_eq_getElem?_getD, List.getElem?_append_left c, ← List.getD_eq_getElem?_getD]
    · rw [if_neg c, List.getD_eq_getElem?_getD, List.getElem?_append_right (by omega), show i - sts.length = 0 by omega]; rfl
  refine ⟨fun i hi => ?_, fun i hi p => ?_, h.jr, h.tl, h.tr⟩
  · rw [hg i hi]; split
    · rename_i c; exact h.len i c
    · exact hl
  · rw [hg i hi]; split
    · rename_i c; exact h.tch i c p
    · exact ht p
structure PutA (j : JR) (c : List Int) (k q : Nat) (t : TR) (nx : List Int) : Prop where
  ok : t.Ok
  over : t.over = false
  fresh : t.fresh = []
  inn : t.In j
  b8 : t.B c
  ops : q ≤ 600 * k
  view : ∀ p, ¬ inA p → t.V c p = nx.getD p 0
  nl : nx.length = 18800
  keys : ∀ k ∈ t.ks, 25 ≤ k ∧ k ≤ 35
theorem PutA.zero {j : JR} {s : DF} {c m : List Int} {n : Int} (h : FlA j s c m n) (hm : m.length = 18800) : PutA j c 0 0 TR.zero m :=
  ⟨TR.zero_ok, rfl, rfl, TR.zero_In _, TR.zero_B h.c8, Nat.le_refl _, fun p hp => by rw [zero_V]; exact h.view p hp, hm, fun k hk => absurd hk List.not_mem_nil⟩
theorem PutA.put {j : JR} {c : List Int} {k q : Nat} {t : TR} {nx : List Int} (h : PutA j c k q t nx) (hp : j.pos = 512) (hz : j.size = 12288) {A d : Nat} {p : List Int} (hA : 12800 ≤ A ∧ A < 17800) (hl : p.length ≤ 600) (h8 : B8 p) (hd : d ≤ 600) : PutA j c (k + 1) (q + d) (t.put c A p) (putG nx A p) := by
  obtain ⟨a1, a2, a3, a4, a5, a6, a7, a8, a9⟩ := h
  obtain ⟨p1, p2, p3, p4, p5⟩ := put_V a1 c A p
  have hal : j.al := by unfold JR.al; rw [hp, hz]; exact ⟨by decide, by decide⟩
  refine ⟨p1, p3.trans a2, p2.trans a3, put_In a4 a1 a5 h8 hal (by omega) (.inr (.inr (by rw [hp, hz]; omega))), a5.put a1 A h8, by omega, fun r hr => ?_, by rw [putG_length (by omega)]; omega, fun k hk => ?_⟩
  · rw [p5, putG_get (by omega), a7 r hr]
  · rw [put_ks] at hk
    rcases hk with h | ⟨h0, r, rfl, h1, h2⟩
    · exact a9 k h
    · omega
theorem PutA.room {j : JR} {c : List Int} {k q : Nat} {t : TR} {nx : List Int} (h : PutA j c k q t nx) {rs : List RecR} (hr : RecRel t rs) : t.dirty.length ≤ 11 ∧ (encL rs).length ≤ 5764 := by
  have hn : ((t.dirty.map (fun x => x.1)).map Int.toNat).Nodup := by
    rw [List.nodup_iff_pairwise_ne, List.pairwise_map]
    refine List.Pairwise.imp_of_mem ?_ (List.nodup_iff_pairwise_ne.1 h.inn.nodup)
    intro a b ha hb hne e
    have := h.keys a ha
    have := h.keys b hb
    omega
  have hl : t.dirty.length ≤ 11 := by
    have := sub_len (s := (List.range 11).map (fun i => 25 + i)) hn (fun b hb => by
      obtain ⟨k, hk, rfl⟩ := List.mem_map.1 hb
      have := h.keys k hk
      exact List.mem_map.2 ⟨k.toNat - 25, List.mem_range.2 (by omega), by omega⟩)
    rwa [List.length_map, List.length_map, List.length_map, List.length_range] at this
  refine ⟨hl, ?_⟩
  have := (hr.B h.ok (B := 35) (fun q hq => by have := h.keys _ (List.mem_map.2 ⟨q, hq, rfl⟩); omega)).2.1
  omega
theorem replay_seq (j : JR) (q : Int) (s : DF) (z : List Int) : (s.replay { j with seq := q } z).2.1 = (s.replay j z).2.1 ∧ (s.replay { j with seq := q } z).2.2.2 = (s.replay j z).2.2.2 := by
  have h : (s.pend { j with seq := q }).2.1 = (s.pend j).2.1 ∧ (s.pend { j with seq := q }).1 = (s.pend j).1 := by
    unfold DF.pend
    by_cases h1 : s.refB = true
    · rw [if_pos h1, if_pos h1]; exact ⟨rfl, rfl⟩
    · rw [if_neg h1, if_neg h1]
      by_cases h2 : (s.now.length : Int) < j.pos + j.size
      · rw [if_pos h2, if_pos h2]; exact ⟨rfl, rfl⟩
      · rw [if_neg h2, if_neg h2]
        have e : pendB { j with seq := q } (JR.part { j with seq := q } s) = pendB j (j.part s) := rfl
        rw [e]
        cases pendB j (j.part s) <;> exact ⟨rfl, rfl⟩
  unfold DF.replay
  rw [h.1, h.2]
  cases (s.pend j).2.1 <;> exact ⟨rfl, rfl⟩
/-- What stands behind a crash. -/
structure EndA (sts : List (List Int)) (sure : Nat) (C : List Int) : Prop where
  b8 : B8 C
  len : C.length = 18800
  fin : ∀ z : List Int, z = List.replicate 512 0 → ((DF.mk0 C).replay jA z).2.1 = 0 ∧ ((DF.mk0 C).replay jA z).2.2.2.now.length = 18800 ∧ ∃ i, sure ≤ i ∧ i < sts.length ∧ ∀ p, ¬ inA p → ((DF.mk0 C).replay jA z).2.2.2.now.getD p 0 = (sts.getD i []).getD p 0
theorem jA_eq {j : JR} (h1 : j.pos = 512) (h2 : j.size = 12288) : jA = { j with seq := 0 } := by
  obtain ⟨a, b, c⟩ := j
  have h1 : a = 512 := h1
  have h2 : b = 12288 := h2
  subst h1 h2; rfl
theorem inA_iff {j : JR} (h1 : j.pos = 512) (h2 : j.size = 12288) (p : Nat) : j.inJ p ↔ inA p := by
  unfold JR.inJ inA
  rw [h1, h2]
  have e1 : (512 : Int).toNat = 512 := rfl
  have e2 : (12288 : Int).toNat = 12288 := rfl
  omega
/-- A crash of a file that nothing waits for. -/
theorem FlA.crash {j : JR} {s : DF} {c m : List Int} {n : Int} (h : FlA j s c m n) {sts : List (List Int)} {sure i : Nat} (hi : sure ≤ i ∧ i < sts.length) (hm : m = sts.getD i []) (ks : List Bool) {s' : DF} (e1 : s'.safe = s.safe) (e2 : s'.items = s.items) : EndA sts sure (crashL s'.safe s'.items ks) := by
  rw [e1, e2, h.safe, h.items, crashL_none]
  have hp : pendB jA (jA.partL c) = none := zero_none jA_ok (by rw [h.cl]; decide) (fun i hi => h.sign i (by omega))
  have hr : ∀ z : List Int, (DF.mk0 c).replay jA z = (0, 0, jA, (DF.mk0 c).asked) := fun z => replay_none (C := c) rfl ⟨rfl, rfl⟩ (by rw [h.cl]; decide) hp
  refine ⟨h.c8, h.cl, fun z _ => ?_⟩
  rw [hr]
  exact ⟨rfl, h.cl, i, hi.1, hi.2, fun p hp => by rw [← hm]; exact h.view p hp⟩
theorem done_view {t : TR} {rs : List RecR} {b : List Int} (hr : RecRel t rs) (hT : t.Ok) (hf : t.fresh = []) (hk : ∀ q ∈ t.dirty, 0 ≤ q.1) (hD : ∀ q ∈ t.dirty, q.1 * 512 + 512 ≤ b.length) : (doneL rs b).length = b.length ∧ ∀ i, (doneL rs b).getD i 0 = t.V b i := by
  obtain ⟨hV, hcov⟩ := hr.S hT hk
  have hrin : ∀ r ∈ rs, 0 ≤ r.1 ∧ r.1.toNat + r.2.length ≤ b.length := fun r hm => by
    obtain ⟨c1, c2, c3⟩ := hcov r hm
    obtain ⟨q, hq, e⟩ := List.mem_map.1 (c3 (r.1.toNat + r.2.length - 1) (by omega) (by omega))
    have := hD q hq
    omega
  refine ⟨doneL_in hrin, fun i => ?_⟩
  rw [doneL_V rs b i (fun r hm => (hrin r hm).2)]
  have := hV (DF.mk0 b) i
  rw [hf] at this
  exact this
theorem doOp_ne15 (s : DF) (op : FOp) : (s.doOp op).1 ≠ 15 := by
  cases op with
  | wr a xs =>
    show (if _ then _ else if _ then _ else if _ then _ else _ : Int × DF).1 ≠ 15
    split
    · show (5 : Int) ≠ 15; decide
    · split
      · show (4 : Int) ≠ 15; decide
      · split
        · show (3 : Int) ≠ 15; decide
        · show (0 : Int) ≠ 15; decide
  | fl =>
    show (if _ then _ else _ : Int × DF).1 ≠ 15
    split
    · show (5 : Int) ≠ 15; decide
    · show (0 : Int) ≠ 15; decide
theorem run_ne15 : ∀ (l : List FOp) (s : DF), (s.run l).1 ≠ 15
  | [], s => by show (0 : Int) ≠ 15; decide
  | op :: r, s => by
    rw [DF.run]
    split
    · exact run_ne15 r _
    · exact doOp_ne15 s op
/-- A commit of the law. -/
theorem PutA.commit {j : JR} {s s0 : DF} {c m : List Int} {n : Int} {k q : Nat} {t : TR} {nx : List Int} (h : PutA j c k q t nx) (hF : FlA j s0 c m n) (hs : s = s0.tick q) {x : Int × TR × JR × DF} {z : List Int} (hz : z = List.replicate 512 0) (hr : tcomRel t j s z x) :
    x.1 ≠ 15 ∧ x.2.2.2.Ok (n + q + 10000001) ∧ (x.1 = 0 → ∃ c', FlA x.2.2.1 x.2.2.2 c' nx (n + q + 10000001)) ∧ ∀ (sts : List (List Int)) (sure : Nat) (ks : List Bool), sure < sts.length → m = sts.getD sure [] → EndA (sts ++ [nx]) sure (crashL x.2.2.2.safe x.2.2.2.items ks) := by
  obtain ⟨f1, f2, f3, f4, f5, f6, f7, f8, f9, f10, f11⟩ := hF
  obtain ⟨a1, a2, a3, a4, a5, a6, a7, a8, a9⟩ := h
  have h : PutA j c k q t nx := ⟨a1, a2, a3, a4, a5, a6, a7, a8, a9⟩
  have sOk : s.Ok (n + q) := by rw [hs]; exact f11.tick q
  have s1 : s.safe = c := by rw [hs]; exact f4
  have s2 : s.now = c := by rw [hs]; exact f5
  have s3 : s.items = [] := by rw [hs]; exact f6
  obtain ⟨rs, hrs⟩ : ∃ rs, RecRel t rs := by
    rcases hr with ⟨h, -⟩ | ⟨-, rs, h, -⟩
    · rw [a2] at h; cases h
    · exact ⟨rs, h⟩
  obtain ⟨-, hel⟩ := h.room hrs
  have hzl : z.length = 512 := by rw [hz]; exact List.length_replicate ..
  have hal : j.pos % 512 = 0 := by rw [f1]; decide
  have hfit : j.pos + j.size ≤ (c.length : Int) := by rw [f1, f2, f7]; decide
  have hsg : ∀ i, i < 512 → c.getD (j.pos.toNat + i) 0 = 0 := fun i hi => by rw [f1]; exact f9 i hi
  have hD : ∀ q ∈ t.dirty, q.1 * 512 + 512 ≤ (c.length : Int) := fun q hq => by have := a9 _ (List.mem_map.2 ⟨q, hq, rfl⟩); rw [f7]; omega
  have hF : ∀ r ∈ t.fresh, r.1.toNat + r.2.length ≤ c.length := fun r hr => by rw [a3] at hr; cases hr
  have hroom : ((encL rs).length : Int) ≤ j.size - 512 := by rw [f2]; omega
  have okE := tcomRel_ok hr sOk hzl (by rw [f2]; decide)
  rw [a3] at okE
  have hjr : x.2.2.1 = j ∨ x.2.2.1 = j.next := by
    rcases hr with ⟨_, rfl⟩ | ⟨_, rs', _, ⟨_, rfl⟩ | ⟨_, y, _, ⟨_, rfl⟩ | ⟨_, _, rfl⟩ | ⟨_, _, q', hq', ⟨_, rfl⟩ | ⟨_, u, _, rfl⟩⟩⟩⟩
    all_goals first
      | exact .inl rfl
      | (rcases hq' with ⟨_, rfl⟩ | ⟨_, _, rfl⟩ | ⟨_, _, x', _, ⟨_, rfl⟩ | ⟨_, sg, _, y', _, rfl⟩⟩
         · exact .inl rfl
         · exact .inl rfl
         · exact .inl rfl
         · exact .inr rfl)
  have h15 : x.1 ≠ 15 := by
    rcases hr with ⟨_, rfl⟩ | ⟨_, rs', hr', ⟨hb, rfl⟩ | ⟨_, y, hy, ⟨_, rfl⟩ | ⟨_, _, rfl⟩ | ⟨_, _, q', hq', ⟨_, rfl⟩ | ⟨_, u, hu, rfl⟩⟩⟩⟩
    · show (6 : Int) ≠ 15; decide
    · obtain rfl := hrs.unique hr'
      omega
    · show y.1 ≠ 15; rw [hy]; exact run_ne15 _ _
    · show (0 : Int) ≠ 15; decide
    · obtain rfl := hrs.unique hr'
      show q'.1 ≠ 15
      rcases hq' with ⟨_, rfl⟩ | ⟨_, hb, rfl⟩ | ⟨_, _, x', hx', ⟨_, rfl⟩ | ⟨_, sg, _, y', hy', rfl⟩⟩
      · show (4 : Int) ≠ 15; decide
      · omega
      · show x'.1 ≠ 15; rw [hx']; exact run_ne15 _ _
      · show y'.1 ≠ 15; rw [hy']; exact run_ne15 _ _
    · show u.1 ≠ 15; rw [hu]; exact run_ne15 _ _
  refine ⟨h15, ?_, fun he => ?_, fun sts sure ks hs1 hs2 => ?_⟩
  · have : cost (wrs ([] : List RecR)) = 0 := rfl
    rw [this] at okE
    exact okE.mono (by omega)
  · obtain ⟨d1, d2, d3, d4, d5⟩ := tcrash_done hr a2 s1 s2 s3 f3 hal hfit (by omega) f8 hsg a1 a4 hF hD hz hrs hroom he
    have sg := tcrash_sign hr a2 s1 s2 s3 f3 hal hfit (by omega) f8 hsg a1 a4 a3 hD hz hrs hroom he
    rw [a3] at d4
    obtain ⟨v1, v2⟩ := done_view (b := c) hrs a1 a3 (fun q hq => (a4.keys q hq).1) hD
    have hjp : x.2.2.1.pos = 512 ∧ x.2.2.1.size = 12288 ∧ x.2.2.1.Ok := by
      rcases hjr with e | e
      · rw [e]; exact ⟨f1, f2, f3⟩
      · rw [e]; exact ⟨f1, f2, JR.next_ok f3⟩
    refine ⟨x.2.2.2.safe, hjp.1, hjp.2.1, hjp.2.2, rfl, d2, d1, d4.1.trans (v1.trans f7), d3, fun i hi => ?_, fun p hp => ?_, ?_⟩
    · have := sg i hi; rw [f1] at this; exact this
    · have := d4.2 p (fun hj => hp ((inA_iff f1 f2 p).1 hj))
      exact this.trans ((v2 p).trans (a7 p hp))
    · have : cost (wrs ([] : List RecR)) = 0 := rfl
      rw [this] at okE
      exact okE.mono (by omega)
  · obtain ⟨q1, q2, q3⟩ := tcrash_all hr a2 s1 s2 s3 f3 hal hfit (by omega) f8 hsg a1 a4 hF hD hz hrs hroom ks
    refine ⟨q1, q2.trans f7, fun z' hz' => ?_⟩
    have hzz : z' = z := hz'.trans hz.symm
    subst hzz
    have hA := q3 _ rfl
    obtain ⟨r1, r2⟩ := replay_seq j 0 (DF.mk0 (crashL x.2.2.2.safe x.2.2.2.items ks)) z'
    rw [jA_eq f1 f2, r1, r2]
    have hlast : (sts ++ [nx]).getD sts.length [] = nx := by
      rw [List.getD_eq_getElem?_getD, List.getElem?_append_right (Nat.le_refl _), Nat.sub_self]; rfl
    have hold : (sts ++ [nx]).getD sure [] = sts.getD sure [] := by
      rw [List.getD_eq_getElem?_getD, List.getElem?_append_left hs1, ← List.getD_eq_getElem?_getD]
    have hlen : (sts ++ [nx]).length = sts.length + 1 := by rw [List.length_append]; rfl
    refine ⟨hA.err, hA.len.trans f7, ?_⟩
    rcases hA.view with hv | ⟨-, hv⟩
    · refine ⟨sts.length, by omega, by omega, fun p hp => ?_⟩
      rw [hlast, hv p (fun hj => hp ((inA_iff f1 f2 p).1 hj))]
      exact a7 p hp
    · refine ⟨sure, Nat.le_refl _, by omega, fun p hp => ?_⟩
      rw [hold, ← hs2, hv p (fun hj => hp ((inA_iff f1 f2 p).1 hj)) (fun r hr => by rw [a3] at hr; cases hr)]
      exact f10 p hp
end Go.Proofs.Ytcfmlnddmpiemaa.Sx

