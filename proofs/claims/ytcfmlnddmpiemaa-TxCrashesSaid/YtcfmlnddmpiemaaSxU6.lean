import Derived.Test.YtcfmlnddmpiemaaSxU5
import Derived.Test.YtcfmlnddmpiemaaSxEc
import Derived.Test.YtcfmlnddmpiemaaSxU4
import Derived.Test.YtcfmlnddmpiemaaSxU1
import Derived.Test.YtcfmlnddmpiemaaSxU3
set_option linter.unusedVariables false
set_option linter.unusedSimpArgs false
set_option maxRecDepth 10000
namespace Go.Proofs.Ytcfmlnddmpiemaa.Sx
/-! ### How many bytes the records take: each sector 512, each run of them 12 more -/
def encI (ks : List Int) : Nat → Nat
  | 0 => 0
  | m + 1 => encI ks m + (if 0 < m ∧ ks.getD (m - 1) 0 = ks.getD m 0 - 1 then 512 else 524)
theorem encL_bld {d : List (Int × List Int)} {ks : List Int} (hk : SecsOk d ks) : ∀ m, m ≤ ks.length → (encL (bldR d ks m)).length = encI ks m
  | 0, _ => rfl
  | m + 1, hm => by
    have ih := encL_bld hk m (by omega)
    have hkm : ks.getD m 0 ∈ ks := by
      rw [show ks.getD m 0 = ks[m]'(by omega) by simp [List.getD_eq_getElem?_getD, show m < ks.length by omega]]
      exact List.getElem_mem _
    obtain ⟨k0, k1⟩ := hk _ hkm
    have e : bldR d ks (m + 1) = bldS d ks (bldR d ks m) m := by
      unfold bldR; rw [List.range_succ, List.foldl_append]; rfl
    rw [e]
    show _ = encI ks m + _
    rw [← ih]
    unfold bldS
    by_cases h : 0 < m ∧ ks.getD (m - 1) 0 = ks.getD m 0 - 1
    · rw [if_pos h, if_pos h]
      have hS := bldR_S hk m (by omega)
      have tl : (ks.take m).length = m := by rw [List.length_take]; omega
      obtain ⟨init, r, hr, -⟩ := hS.last (fun h0 => by rw [h0] at tl; simp at tl; omega)
      have hn : 0 < (bldR d ks m).length := by rw [hr]; simp
      unfold snocD
      rw [encL_set _ _ _ (by omega), k1]
    · rw [if_neg h, if_neg h, encL_append, encL_cons]
      show _ + (12 + ((lkS (ks.getD m 0) d).getD []).length + 0) = _
      rw [k1]
def cntK (ks : List Int) (S : Int) : Nat := (ks.filter (fun k => decide (k < S))).length
theorem cntK_split {ks : List Int} {S : Int} {i : Nat} (h1 : ∀ x ∈ ks.take i, x < S) (h2 : ∀ x ∈ ks.drop i, S ≤ x) (hi : i ≤ ks.length) : cntK ks S = i := by
  unfold cntK
  conv => lhs; rw [← List.take_append_drop i ks]
  rw [List.filter_append, List.filter_eq_self.2 (fun x hx => by simpa using h1 x hx), List.filter_eq_nil_iff.2 (fun x hx => by have := h2 x hx; simp; omega), List.append_nil, List.length_take]
  omega
/-- By the law: the sectors one by one. -/
def needV (p : Int → Bool) : Nat → Int
  | 0 => 0
  | s + 1 => needV p s + (if p s then (if p ((s : Int) - 1) then 512 else 524) else 0)
theorem sorted_get {ks : List Int} (h : ks.Pairwise (· < ·)) {i j : Nat} (hij : i < j) (hj : j < ks.length) : ks.getD i 0 < ks.getD j 0 := by
  have := List.pairwise_iff_getElem.1 h i j (by omega) hj hij
  simpa [List.getD_eq_getElem?_getD, show i < ks.length by omega, hj] using this
theorem getD_mem {ks : List Int} {i : Nat} (h : i < ks.length) : ks.getD i 0 ∈ ks := by
  rw [show ks.getD i 0 = ks[i] by simp [List.getD_eq_getElem?_getD, h]]; exact List.getElem_mem h
theorem mem_getD {ks : List Int} {x : Int} (h : x ∈ ks) : ∃ i, i < ks.length ∧ ks.getD i 0 = x := by
  obtain ⟨i, hi, e⟩ := List.mem_iff_getElem.1 h
  exact ⟨i, hi, by simpa [List.getD_eq_getElem?_getD, hi] using e⟩
theorem mem_take_getD {ks : List Int} {x : Int} {n : Nat} (h : x ∈ ks.take n) : ∃ i, i < n ∧ i < ks.length ∧ ks.getD i 0 = x := by
  obtain ⟨i, hi, e⟩ := List.mem_iff_getElem.1 h
  rw [List.length_take] at hi
  refine ⟨i, by omega, by omega, ?_⟩
  rw [List.getElem_take] at e
  simpa [List.getD_eq_getElem?_getD, show i < ks.length by omega] using e
theorem mem_drop_getD {ks : List Int} {x : Int} {n : Nat} (h : x ∈ ks.drop n) : ∃ i, n ≤ i ∧ i < ks.length ∧ ks.getD i 0 = x := by
  obtain ⟨i, hi, e⟩ := List.mem_iff_getElem.1 h
  rw [List.length_drop] at hi
  refine ⟨n + i, by omega, by omega, ?_⟩
  rw [List.getElem_drop] at e
  simpa [List.getD_eq_getElem?_getD, show n + i < ks.length by omega] using e
theorem needV_eq {ks : List Int} (h : ks.Pairwise (· < ·)) (h0 : ∀ k ∈ ks, 0 ≤ k) : ∀ S : Nat, needV (fun s => decide (s ∈ ks)) S = encI ks (cntK ks S)
  | 0 => by
    rw [show cntK ks ((0 : Nat) : Int) = 0 from cntK_split (i := 0) (fun x hx => by simp at hx) (fun x hx => by rw [List.drop_zero] at hx; have := h0 x hx; omega) (Nat.zero_le _)]
    rfl
  | S + 1 => by
    have ih := needV_eq h h0 S
    show needV _ S + _ = _
    rw [ih]
    by_cases hm : ((S : Nat) : Int) ∈ ks
    · obtain ⟨i, hi, e⟩ := mem_getD hm
      have c1 : cntK ks ((S : Nat) : Int) = i := by
        refine cntK_split (fun x hx => ?_) (fun x hx => ?_) (by omega)
        · obtain ⟨j, j1, j2, rfl⟩ := mem_take_getD hx
          have := sorted_get h j1 hi
          omega
        · obtain ⟨j, j1, j2, rfl⟩ := mem_drop_getD hx
          by_cases q : j = i
          · rw [q, e]; exact Int.le_refl _
          · have := sorted_get h (show i < j by omega) j2
            omega
      have c2 : cntK ks (((S + 1 : Nat)) : Int) = i + 1 := by
        refine cntK_split (fun x hx => ?_) (fun x hx => ?_) (by omega)
        · obtain ⟨j, j1, j2, rfl⟩ := mem_take_getD hx
          by_cases q : j = i
          · rw [q, e]; omega
          · have := sorted_get h (show j < i by omega) hi
            omega
        · obtain ⟨j, j1, j2, rfl⟩ := mem_drop_getD hx
          have := sorted_get h (show i < j by omega) j2
          omega
      rw [c1, c2, if_pos (by simpa using hm)]
      show _ = ((encI ks i + _ : Nat) : Int)
      by_cases q : ((S : Nat) : Int) - 1 ∈ ks
      · rw [if_pos (by simpa using q)]
        obtain ⟨j, j1, j2⟩ := mem_getD q
        have hji : j + 1 = i := by
          have l1 : j < i := by
            rcases Nat.lt_trichotomy j i with r | r | r
            · exact r
            · rw [r, e] at j2; omega
            · have := sorted_get h r j1; omega
          by_cases r : j + 1 = i
          · exact r
          · have a1 := sorted_get h (show j < j + 1 by omega) (by omega)
            have a2 := sorted_get h (show j + 1 < i by omega) hi
            omega
        rw [if_pos ⟨by omega, by rw [show i - 1 = j by omega, j2, e]⟩]
        omega
      · rw [if_neg (by simpa using q), if_neg]
        · omega
        · rintro ⟨r1, r2⟩
          rw [e] at r2
          exact q (r2 ▸ getD_mem (by omega))
    · have c2 : cntK ks (((S + 1 : Nat)) : Int) = cntK ks ((S : Nat) : Int) := by
        unfold cntK
        congr 1
        refine List.filter_congr (fun x hx => ?_)
        have : x ≠ (S : Int) := fun e => hm (e ▸ hx)
        simp
        omega
      rw [c2, if_neg (by simpa using hm)]
      omega
/-- The size of a tx's records, by the law. -/
theorem RecRel.size {t : TR} {rs : List RecR} (h : RecRel t rs) (ho : t.Ok) (hk : ∀ q ∈ t.dirty, 0 ≤ q.1 ∧ q.1 < 80) (hn : (t.dirty.map (fun x => x.1)).Nodup) : ((encL rs).length : Int) = needV (fun s => decide (s ∈ t.dirty.map (fun x => x.1))) 80 := by
  obtain ⟨ks, h1, h2, rfl⟩ := h
  have hs := secs_of ho (fun q hq => (hk q hq).1) (ks := ks) (fun k hk => h1.subset hk)
  have h3 : ks.Pairwise (· < ·) := by
    have hnd := (h1.nodup_iff).2 hn
    rw [List.nodup_iff_pairwise_ne] at hnd
    exact (h2.and hnd).imp (fun ⟨a, b⟩ => by omega)
  have hm : ∀ k ∈ ks, 0 ≤ k ∧ k < 80 := fun k hq => by
    obtain ⟨q, hm, rfl⟩ := List.mem_map.1 (h1.subset hq)
    exact hk q hm
  rw [encL_bld hs ks.length (Nat.le_refl _)]
  have e := needV_eq h3 (fun k hk => (hm k hk).1) 80
  rw [show cntK ks ((80 : Nat) : Int) = ks.length from cntK_split (fun x hx => (hm x (List.mem_of_mem_take hx)).2) (fun x hx => by rw [List.drop_length] at hx; cases hx) (Nat.le_refl _)] at e
  rw [← e]
  congr 1
  funext s
  rw [decide_eq_decide]
  exact ⟨fun h => h1.subset h, fun h => h1.symm.subset h⟩
end Go.Proofs.Ytcfmlnddmpiemaa.Sx


set_option maxRecDepth 10000
namespace Go.Proofs.Ytcfmlnddmpiemaa.Sx
open Go.RowKit Go.Proofs.Ytcfmlnddmpiemaa.Sx.Tb
/-! ### At -/
def mtb (h : HD) (n : Int) (i : Nat) : Chunk := .blk 119 (.lst [.v (.int .i64 h.bits), .v (.int .i64 h.size), .v (.int .i64 h.host), .v (.int .i64 h.jr), .v (.bool h.backed), .p i 0 1 0, .v (.int .i64 n)]) 7
/-! ### The law MapsNils -/
end Go.Proofs.Ytcfmlnddmpiemaa.Sx


set_option maxRecDepth 10000
namespace Go.Proofs.Ytcfmlnddmpiemaa.Sx
open Go.RowKit Go.Proofs.Ytcfmlnddmpiemaa.Sx.Tb
/-! ### A table over its tx -/
def entAV (x : ER) : List AV := [.v (.int .i64 x.kind), .v (.int .i64 x.cl), .v (.bool x.own)]
def entsC (es : List ER) : Cont := .recs 3 es.length (fun i => entAV (es.getD i ⟨0, 0, false⟩))
theorem entsC_noF (es : List ER) : (entsC es).noF := fun j hj => ⟨trivial, trivial, trivial, trivial⟩
theorem entsC_ren (es : List ER) (f : Nat → Nat) : (entsC es).ren f = entsC es := rfl
def tp6 (t : TR) (j : JR) (s : DF) (h : HD) (n : Int) : List Chunk := [t.c0 3 1 2, t.c1, t.c2, j.blk 4, s.pk, mtb h n 0]
theorem mtb_le {H : List Chunk} {fz : List Nat} {f : Nat → Nat} {ph : Nat → Bool} {h : HD} {n : Int} {a i : Nat} (fi : f 0 = a) (h0 : nth H i = some (mtb h n a)) (hz : memN i fz = false) : (mtb h n 0).le H fz f ph i := by
  unfold Chunk.le mtb
  simp only
  rw [nth_lt h0, hz, h0]
  exact ⟨VC.mk ⟨rfl, rfl⟩, VC.mk rfl, VC.mk rfl, VC.mk rfl, VC.mk rfl, VC.mk rfl, VC.mk ⟨fi, rfl, rfl, rfl⟩, VC.mk rfl, trivial⟩
theorem fix6 {N : Nat} {σ : List Nat} : ∀ i, i < 6 → fren (0 :: 1 :: 2 :: 3 :: 4 :: 5 :: σ) N i = i := fun i hi => by
  match i, hi with
  | 0, _ => rfl
  | 1, _ => rfl
  | 2, _ => rfl
  | 3, _ => rfl
  | 4, _ => rfl
  | 5, _ => rfl
theorem T6.le {H : List Chunk} {f : Nat → Nat} {ph : Nat → Bool} {t : TR} {j : JR} {s : DF} {h : HD} {n : Int} {σ : List Nat} {cs : List Chunk} (f0 : f 0 = 0) (f1 : f 1 = 1) (f2 : f 2 = 2) (f3 : f 3 = 3) (f4 : f 4 = 4) (h0 : nth H 0 = some (t.c0 3 1 2)) (h1 : nth H 1 = some t.c1) (h2 : nth H 2 = some t.c2) (h3 : nth H 3 = some (j.blk 4)) (h4 : nth H 4 = some s.pk) (h5 : nth H 5 = some (mtb h n 0)) (hx : chunksLe H [] f ph σ cs) : chunksLe H [] f ph (0 :: 1 :: 2 :: 3 :: 4 :: 5 :: σ) (tp6 t j s h n ++ cs) :=
  T5.leG f1 f2 f3 f4 h0 h1 h2 h3 h4 ⟨rfl, rfl, rfl, rfl, rfl⟩ (cs := mtb h n 0 :: cs) ⟨mtb_le f0 h5 rfl, hx⟩
theorem T6.fin {H : List Chunk} {t : TR} {j : JR} {s : DF} {h : HD} {n : Int} {v : AV} {k : K} (h0 : nth H 0 = some (t.c0 3 1 2)) (h1 : nth H 1 = some t.c1) (h2 : nth H 2 = some t.c2) (h3 : nth H 3 = some (j.blk 4)) (h4 : nth H 4 = some s.pk) (h5 : nth H 5 = some (mtb h n 0)) (hk : k v (tp6 t j s h n)) (hv : v.inN 6 := by simp [AV.inN, inNs, Cont.inN]) : Fin 6 v H k :=
  Fin.ren [0, 1, 2, 3, 4, 5] [] v (tp6 t j s h n) rfl rfl trivial (T6.le rfl rfl rfl rfl rfl h0 h1 h2 h3 h4 h5 (cs := []) trivial) (AV.le_refl fix6 hv) hk
theorem T6.good {t : TR} {j : JR} {s : DF} {h : HD} {n : Int} {v : AV} (hv : v.noF) : Good 6 v (tp6 t j s h n) := by
  refine ⟨hv, fun c hc => ?_, Nat.le_refl _⟩
  rcases List.mem_append.1 (show c ∈ tpre t j s ++ [mtb h n 0] from hc) with hc | hc
  · exact (T5.good (v := .v (.bool true)) trivial).2.1 c hc
  · simp at hc; subst hc; exact .blk ⟨trivial, trivial, trivial, trivial, trivial, trivial, trivial, trivial⟩
theorem T6.nd {t : TR} {j : JR} {s : DF} {h : HD} {n : Int} : ∀ c ∈ tp6 t j s h n, c.lives := by
  intro c hc
  rcases List.mem_append.1 (show c ∈ tpre t j s ++ [mtb h n 0] from hc) with hc | hc
  · exact T5.nd c hc
  · simp at hc; subst hc; trivial
end Go.Proofs.Ytcfmlnddmpiemaa.Sx


set_option maxRecDepth 10000
namespace Go.Proofs.Ytcfmlnddmpiemaa.Sx
open Go.RowKit Go.Proofs.Ytcfmlnddmpiemaa.Sx.Tb
/-! ### Set -/
end Go.Proofs.Ytcfmlnddmpiemaa.Sx


set_option maxRecDepth 10000
namespace Go.Proofs.Ytcfmlnddmpiemaa.Sx
open Go.RowKit Go.Proofs.Ytcfmlnddmpiemaa.Sx.Tb
/-! ### List, All -/
attribute [local simp] entsC_noF entsC_ren
end Go.Proofs.Ytcfmlnddmpiemaa.Sx


set_option maxRecDepth 10000
namespace Go.Proofs.Ytcfmlnddmpiemaa.Sx
open Go.RowKit Go.Proofs.Ytcfmlnddmpiemaa.Sx.Tb
attribute [local simp] entsC_noF entsC_ren
/-! ### The reference -/
end Go.Proofs.Ytcfmlnddmpiemaa.Sx


set_option maxRecDepth 10000
namespace Go.Proofs.Ytcfmlnddmpiemaa.Sx
open Go.RowKit Go.Proofs.Ytcfmlnddmpiemaa.Sx.Tb
/-! ### The counts' header, the nil ones, New -/
def HD.r (H : Int) : HD := ⟨9, 32768, H, 29, false⟩
def rfb (h : HD) (i : Nat) : Chunk := .blk 126 (.lst [.v (.int .i64 h.bits), .v (.int .i64 h.size), .v (.int .i64 h.host), .v (.int .i64 h.jr), .v (.bool h.backed), .p i 0 1 0]) 6
end Go.Proofs.Ytcfmlnddmpiemaa.Sx


set_option maxRecDepth 10000
namespace Go.Proofs.Ytcfmlnddmpiemaa.Sx
open Go.RowKit Go.Proofs.Ytcfmlnddmpiemaa.Sx.Tb
/-! ### A nil tx; the law's files -/
/-- The law's file. -/
def baseL (n c : Int) : List Int := List.replicate 10752 0 ++ List.replicate (n % 18446744073709551616 % 7000).toNat c
set_option maxHeartbeats 4000000 in
theorem tbase_c (n c : Int) (k : K) (h0 : inR .i64 n ∧ 0 ≤ c ∧ c < 256) (hk : ∀ r : List Int, r = baseL n c → k (.im true 1 r.length (.ints .u8 r)) []) : evFunc tab [8] [] Go.Proofs.Try.f33 [.v (.int .i64 n), .v (.int .u8 c)] [] k := by
  have w : IntKind.u64.wrap n = n % 18446744073709551616 := rfl
  repeat' (first
    | (with_reducible first | exact True.intro | apply And.intro | apply If_true | apply If_false | apply If_not)
    | ((with_reducible apply VC.mk); exact vt)
    | ((with_reducible apply If_dec) <;> intro hc <;> (try (exfalso; omega)))
    | ((with_reducible apply If_any) <;> intro hc)
    | ((with_reducible first | apply PF.mk | apply DrawP.mk); (focus kernel_rfl))
    | ((with_reducible apply Same.mk); (focus rfl); (first | exact trivial | exact rfl))
    | (intro cap hcap)
    | ((fail_if_success (with_reducible apply st)); conv => whnf))
  rw [w]
  obtain ⟨M, hM⟩ : ∃ M : Nat, n % 18446744073709551616 % 7000 = M := ⟨(n % 18446744073709551616 % 7000).toNat, by omega⟩
  rw [hM]
  refine zerosO_at (10752 + (M : Int)) ⟨by omega, by omega⟩ ⟨rfl, trivial⟩ ?_
  intro z hz
  have hz : z = List.replicate (10752 + M) 0 := by rw [hz]; congr 1
  have hzl : z.length = 10752 + M := by rw [hz]; exact List.length_replicate ..
  obtain ⟨P, hP⟩ : ∃ P : List Int, P = List.replicate 10752 0 := ⟨_, rfl⟩
  have hPl : P.length = 10752 := by rw [hP]; exact List.length_replicate ..
  have hzP : z = P ++ ([] ++ List.replicate M 0) := by rw [hz, hP, List.nil_append, List.replicate_append_replicate]
  have hbP : baseL n c = P ++ List.replicate M c := by unfold baseL; rw [hM, hP, Int.toNat_natCast]
  clear hz hP
  repeat' (first
    | (with_reducible first | exact True.intro | apply And.intro | apply If_true | apply If_false | apply If_not)
    | ((with_reducible apply VC.mk); exact vt)
    | ((with_reducible apply If_dec) <;> intro hc <;> (try (exfalso; omega)))
    | ((with_reducible apply If_any) <;> intro hc)
    | ((with_reducible first | apply PF.mk | apply DrawP.mk); (focus kernel_rfl))
    | ((with_reducible apply Same.mk); (focus rfl); (first | exact trivial | exact rfl))
    | (intro cap hcap)
    | ((fail_if_success (with_reducible apply st)); conv => whnf))
  refine LoopP.mk ⟨Nat × List Int, fun y => y.1 ≤ M ∧ y.2 = P ++ (List.replicate y.1 c ++ List.replicate (M - y.1) 0), fun y => ([(1, .v (.int .u8 c)), (5, .s 0 0 1 z.length z.length), (6, .v (.int .i64 ((10752 + y.1 : Nat) : Int)))], [.blk 5 (.ints .u8 y.2) z.length]), fun y => M - y.1, (0, z), ⟨Nat.zero_le _, hzP⟩, Fit.ren [0] [] rfl rfl trivial ?_ ?_, ?_⟩
  · exact ⟨⟨VC.mk ⟨rfl, rfl⟩, VC.mk ⟨rfl, List.prefix_refl _⟩⟩, trivial⟩
  · repeat' (first
    | (with_reducible first | exact True.intro | apply And.intro | apply If_true | apply If_false | apply If_not)
    | ((with_reducible apply VC.mk); exact vt)
    | ((with_reducible apply If_dec) <;> intro hc <;> (try (exfalso; omega)))
    | ((with_reducible apply If_any) <;> intro hc)
    | ((with_reducible first | apply PF.mk | apply DrawP.mk); (focus kernel_rfl))
    | ((with_reducible apply Same.mk); (focus rfl); (first | exact trivial | exact rfl))
    | (intro cap hcap)
    | ((fail_if_success (with_reducible apply st)); conv => whnf))
  · intro y hy
    obtain ⟨g1, g2⟩ := hy
    have gl : y.2.length = 10752 + M := by rw [g2, List.length_append, hPl, List.length_append, List.length_replicate, List.length_replicate]; omega
    have e2 : (10752 + (y.1 : Int)).toNat = 10752 + y.1 := by omega
    have e1 : (((10752 + y.1 : Nat) : Int)).toNat = 10752 + y.1 := Int.toNat_natCast _
    repeat' (first
    | (with_reducible first | exact True.intro | apply And.intro | apply If_true | apply If_false | apply If_not)
    | ((with_reducible apply VC.mk); exact vt)
    | ((with_reducible apply If_dec) <;> intro hc <;> (try (exfalso; omega)))
    | ((with_reducible apply If_any) <;> intro hc)
    | ((with_reducible first | apply PF.mk | apply DrawP.mk); (focus kernel_rfl))
    | ((with_reducible apply Same.mk); (focus rfl); (first | exact trivial | exact rfl))
    | (intro cap hcap)
    | ((fail_if_success (with_reducible apply st)); conv => whnf))
    · refine Round.mk ⟨(y.1 + 1, y.2.set (10752 + y.1) c), ⟨by show y.1 + 1 ≤ M; omega, ?_⟩, by show M - (y.1 + 1) < M - y.1; omega, Fit.ren [0] [] rfl rfl trivial ?_ ?_⟩
      · show y.2.set (10752 + y.1) c = _
        rw [g2, List.set_append_right _ _ (by omega), hPl, Nat.add_sub_cancel_left, List.set_append_right _ _ (by rw [List.length_replicate]; exact Nat.le_refl _), List.length_replicate, Nat.sub_self, show M - y.1 = (M - (y.1 + 1)) + 1 by omega]
        show P ++ (List.replicate y.1 c ++ c :: List.replicate (M - (y.1 + 1)) 0) = P ++ (List.replicate (y.1 + 1) c ++ List.replicate (M - (y.1 + 1)) 0)
        rw [List.replicate_succ', List.append_assoc]; rfl
      · refine ⟨⟨VC.mk ⟨rfl, rfl⟩, VC.mk ⟨rfl, ?_⟩⟩, trivial⟩
        rw [e1, Nat.zero_add]
        exact List.prefix_refl _
      · repeat' (first
    | (with_reducible first | exact True.intro | apply And.intro | apply If_true | apply If_false | apply If_not)
    | ((with_reducible apply VC.mk); exact vt)
    | ((with_reducible apply If_dec) <;> intro hc <;> (try (exfalso; omega)))
    | ((with_reducible apply If_any) <;> intro hc)
    | ((with_reducible first | apply PF.mk | apply DrawP.mk); (focus kernel_rfl))
    | ((with_reducible apply Same.mk); (focus rfl); (first | exact trivial | exact rfl))
    | (intro cap hcap)
    | ((fail_if_success (with_reducible apply st)); conv => whnf))
    · have hy1 : y.1 = M := by omega
      have hy2 : y.2 = baseL n c := by
        rw [g2, hy1, Nat.sub_self, hbP, List.replicate_zero, List.append_nil]
      have hk2 := hk y.2 hy2
      refine Fin.ren [] [0] (.im true 1 y.2.length (.ints .u8 y.2)) [] rfl rfl ⟨trivial, trivial⟩ trivial ⟨VC.mk ⟨?_, rfl, rfl, ?_, Nat.one_pos⟩, VC.mk ⟨rfl, ?_⟩⟩ hk2
      · omega
      · omega
      · simp [List.take_of_length_le, hzl, gl]
def tbaseOk (x : Int × Int) : Prop := inR .i64 x.1 ∧ 0 ≤ x.2 ∧ x.2 < 256
def tbaseRel (x : Int × Int) (r : List Int) : Prop := r = baseL x.1 x.2
theorem tbase_K : ConOk Go.Proofs.Try.prog 33 (Con.of (Int × Int) (List Int) (fun x => [.v (.int .i64 x.1), .v (.int .u8 x.2)]) (fun _ => []) tbaseOk tbaseRel (fun _ r => .im true 1 r.length (.ints .u8 r)) (fun _ _ => [])) := by
  refine conOk_rel (T := tab) mix Go.Proofs.Try.func33 (by decide +kernel) (by kernel_rfl) [8] [] (fun n => by rw [Go.Proofs.Try.ntmps33]; exact Nat.le_of_ble_eq_true rfl) (fun x r _ _ => ⟨by simp [AV.noF, noFs, Cont.noF, recsC_noF], (fun c hc => by cases hc), Nat.le_refl _⟩) (fun x _ c hc => by cases hc) ?_
  intro x k h0 hk
  exact tbase_c x.1 x.2 k h0 (fun r hr => hk r hr)
theorem tbase_at {avs : List AV} {H : List Chunk} {k : K} (n : Int) (c : Int) (h0 : inR .i64 n ∧ 0 ≤ c ∧ c < 256) (ha : argsM H [] [.v (.int .i64 n), .v (.int .u8 c)] avs) (hQ : ∀ r : List Int, (r = baseL n c) → k (.im true 1 r.length (.ints .u8 r)) H) : CallP Go.Proofs.Try.prog 33 avs H k :=
  CallP.mk ⟨_, tbase_K.real, Con.spec tbase_K, (n, c), [], ⟨h0, rfl, trivial, ha⟩, fun r hr => (numK_eq H.length (fun N => k (AV.ren (fren [] N) (.im true 1 r.length (.ints .u8 r))) (putAll H [] []))).mpr (by simpa [putAll, AV.ren, rens, Cont.ren, recsC, recAV] using hQ r hr)⟩
set_option maxHeartbeats 4000000 in
theorem topen_c (b : List Int) (k : K) (h0 : 10752 ≤ b.length ∧ b.length ≤ 4194304) (hk : k (.tup [.p 1 0 1 0, .p 0 0 1 0, .v (.bool true)]) [JR.blk ⟨512, 10240, 0⟩ 1, (DF.mk0 b).pk]) : evFunc tab [] [] Go.Proofs.Try.f34 [.im false 1 b.length (.ints .u8 b)] [] k := by
  repeat' (first
    | (with_reducible first | exact True.intro | apply And.intro | apply If_true | apply If_false | apply If_not)
    | ((with_reducible apply VC.mk); exact vt)
    | ((with_reducible apply If_dec) <;> intro hc <;> (try (exfalso; omega)))
    | ((with_reducible apply If_any) <;> intro hc)
    | ((with_reducible first | apply PF.mk | apply DrawP.mk); (focus kernel_rfl))
    | ((with_reducible apply Same.mk); (focus rfl); (first | exact trivial | exact rfl))
    | (intro cap hcap)
    | ((fail_if_success (with_reducible apply st)); conv => whnf))
  refine new_at b (by omega) ⟨⟨rfl, rfl, rfl⟩, trivial⟩ (fun h => absurd h (by omega)) (fun _ => ?_)
  repeat' (first
    | (with_reducible first | exact True.intro | apply And.intro | apply If_true | apply If_false | apply If_not)
    | ((with_reducible apply VC.mk); exact vt)
    | ((with_reducible apply If_dec) <;> intro hc <;> (try (exfalso; omega)))
    | ((with_reducible apply If_any) <;> intro hc)
    | ((with_reducible first | apply PF.mk | apply DrawP.mk); (focus kernel_rfl))
    | ((with_reducible apply Same.mk); (focus rfl); (first | exact trivial | exact rfl))
    | (intro cap hcap)
    | ((fail_if_success (with_reducible apply st)); conv => whnf))
  have hE : newE (DF.mk0 b) 512 10240 = 0 := by
    unfold newE
    rw [if_neg (by decide), if_neg]
    show ¬ ((10240 : Int) < 1024 ∨ (b.length : Int) < 512 ∨ (b.length : Int) - 512 < 10240)
    omega
  refine jnew_at (DF.mk0 b) 512 10240 0 ⟨by show b.length ≤ _; omega, by simp [inR], by simp [inR]⟩ rfl ⟨rfl, rfl, rfl, trivial⟩ (fun h => absurd hE h) (fun _ => ?_)
  repeat' (first
    | (with_reducible first | exact True.intro | apply And.intro | apply If_true | apply If_false | apply If_not)
    | ((with_reducible apply VC.mk); exact vt)
    | ((with_reducible apply If_dec) <;> intro hc <;> (try (exfalso; omega)))
    | ((with_reducible apply If_any) <;> intro hc)
    | ((with_reducible first | apply PF.mk | apply DrawP.mk); (focus kernel_rfl))
    | ((with_reducible apply Same.mk); (focus rfl); (first | exact trivial | exact rfl))
    | (intro cap hcap)
    | ((fail_if_success (with_reducible apply st)); conv => whnf))
  refine Fin.ren [1, 0] [] (.tup [.p 1 0 1 0, .p 0 0 1 0, .v (.bool true)]) [JR.blk ⟨512, 10240, 0⟩ 1, (DF.mk0 b).pk] rfl rfl trivial ?_ ⟨VC.mk ⟨rfl, rfl, rfl, rfl⟩, VC.mk ⟨rfl, rfl, rfl, rfl⟩, VC.mk rfl, trivial⟩ hk
  exact ⟨⟨VC.mk ⟨rfl, rfl⟩, VC.mk ⟨rfl, rfl, rfl, rfl⟩, VC.mk rfl, VC.mk rfl, VC.mk rfl, trivial⟩, VC.mk ⟨rfl, rfl, rfl, rfl⟩, trivial⟩
theorem topen_K : ConOk Go.Proofs.Try.prog 34 (Con.of (List Int) Unit (fun b => [.im false 1 b.length (.ints .u8 b)]) (fun _ => []) (fun b => 10752 ≤ b.length ∧ b.length ≤ 4194304) (fun _ _ => True) (fun _ _ => .tup [.p 1 0 1 0, .p 0 0 1 0, .v (.bool true)]) (fun b _ => [JR.blk ⟨512, 10240, 0⟩ 1, (DF.mk0 b).pk])) :=
  conOk_rel (T := tab) mix Go.Proofs.Try.func34 (by decide +kernel) (by kernel_rfl) [] [] (fun n => by rw [Go.Proofs.Try.ntmps34]; exact Nat.le_of_ble_eq_true rfl) (fun x r _ _ => ⟨⟨trivial, trivial, trivial, trivial⟩, (fun c hc => by simp at hc; rcases hc with rfl | rfl; exact JR.noF _ _; exact DF.pk_noF _), Nat.zero_le _⟩) (fun x _ c hc => by cases hc) (fun x k h0 hk => topen_c x k h0 (hk () trivial))
theorem topen_at {avs : List AV} {Hp : List Chunk} {k : K} (b : List Int) (h0 : 10752 ≤ b.length ∧ b.length ≤ 4194304) (ha : argsM Hp [] [.im false 1 b.length (.ints .u8 b)] avs)
    (hQ : k (.tup [.p (Hp.length + 1) 0 1 0, .p Hp.length 0 1 0, .v (.bool true)]) (Hp ++ [JR.blk ⟨512, 10240, 0⟩ (Hp.length + 1), (DF.mk0 b).pk])) : CallP Go.Proofs.Try.prog 34 avs Hp k :=
  CallP.mk ⟨_, topen_K.real, Con.spec topen_K, b, [], ⟨h0, rfl, trivial, ha⟩, fun z hz => (numK_eq _ _).mpr (by simpa [putAll, JR.blk_ren, DF.pk_ren, AV.ren, rens, fren, nth] using hQ)⟩
end Go.Proofs.Ytcfmlnddmpiemaa.Sx


set_option maxRecDepth 10000
namespace Go.Proofs.Ytcfmlnddmpiemaa.Sx
open Go.RowKit Go.Proofs.Ytcfmlnddmpiemaa.Sx.Tb
/-! ### The law's records -/
/-! ### The law's file -/
structure CaseR where
  n : Int
  fill : List Int
  pos : Int
  size : Int
  recs : List RecR
end Go.Proofs.Ytcfmlnddmpiemaa.Sx


set_option maxRecDepth 10000
namespace Go.Proofs.Ytcfmlnddmpiemaa.Sx
open Go.RowKit Go.Proofs.Ytcfmlnddmpiemaa.Sx.Tb
/-! ### The document's Done -/
/-- A part that the caller owns. -/
theorem partO_c (l : List Int) (p n : Nat) (k : K) (h0 : p + n ≤ l.length ∧ l.length ≤ 1099511627776) (hk : ∀ x : List Int × Nat, (x.1 = (l.drop p).take n ∧ x.1.length ≤ x.2) → k (.s 0 0 1 x.1.length x.2) [.blk 5 (.ints .u8 x.1) x.2]) : evFunc tab [] [] Go.Proofs.Try.f44 [.im false 1 l.length (.ints .u8 l), .v (.int .i64 p), .v (.int .i64 n)] [] k := by
  repeat' (first
    | (with_reducible first | exact True.intro | apply And.intro | apply If_true | apply If_false | apply If_not)
    | ((with_reducible apply VC.mk); exact vt)
    | ((with_reducible apply If_dec) <;> intro hc <;> (try (exfalso; omega)))
    | ((with_reducible apply If_any) <;> intro hc)
    | ((with_reducible first | apply PF.mk | apply DrawP.mk); (focus kernel_rfl))
    | ((with_reducible apply Same.mk); (focus rfl); (first | exact trivial | exact rfl))
    | (intro cap hcap)
    | ((fail_if_success (with_reducible apply st)); conv => whnf))
  have e1 : ((p : Int) + (n : Int)).toNat - ((p : Nat) : Int).toNat = n := by omega
  have e2 : ((p : Nat) : Int).toNat = p := by omega
  have e3 : ((l.drop p).take n).length = n := by rw [List.length_take, List.length_drop]; omega
  rw [e1, e2]
  rw [e1] at hcap
  have hk2 := hk ((l.drop p).take n, cap) ⟨rfl, by rw [e3]; exact hcap⟩
  rw [e3] at hk2
  rw [Nat.mul_one]
  exact Fin.same hk2
theorem partO_K : ConOk Go.Proofs.Try.prog 44 (Con.of (List Int × Nat × Nat) (List Int × Nat) (fun x => [.im false 1 x.1.length (.ints .u8 x.1), .v (.int .i64 x.2.1), .v (.int .i64 x.2.2)]) (fun _ => []) (fun x => x.2.1 + x.2.2 ≤ x.1.length ∧ x.1.length ≤ 1099511627776) (fun x r => r.1 = (x.1.drop x.2.1).take x.2.2 ∧ r.1.length ≤ r.2) (fun _ r => .s 0 0 1 r.1.length r.2) (fun _ r => [.blk 5 (.ints .u8 r.1) r.2])) := by
  refine conOk_rel (T := tab) mix Go.Proofs.Try.func44 (by decide +kernel) (by kernel_rfl) [] [] (fun n => by rw [Go.Proofs.Try.ntmps44]; exact Nat.le_of_ble_eq_true rfl) (fun x r _ _ => ⟨trivial, (fun c hc => by simp at hc; subst hc; exact .blk trivial), Nat.zero_le _⟩) (fun x _ c hc => by cases hc) (fun x k h0 hk => partO_c x.1 x.2.1 x.2.2 k h0 (fun r hr => hk r hr))
theorem partO_at {avs : List AV} {H : List Chunk} {k : K} (l : List Int) (p n : Nat) (h0 : p + n ≤ l.length ∧ l.length ≤ 1099511627776) (ha : argsM H [] [.im false 1 l.length (.ints .u8 l), .v (.int .i64 p), .v (.int .i64 n)] avs)
    (h : ∀ (m : List Int) (cap : Nat), m = (l.drop p).take n → m.length ≤ cap → k (.s H.length 0 1 m.length cap) (H ++ [.blk 5 (.ints .u8 m) cap])) : CallP Go.Proofs.Try.prog 44 avs H k :=
  CallP.mk ⟨_, partO_K.real, Con.spec partO_K, (l, p, n), [], ⟨h0, rfl, trivial, ha⟩, fun r hr => (numK_eq _ _).mpr (by simpa [putAll, AV.ren, rens, fren, nth, Chunk.ren, Cont.ren] using h r.1 r.2 hr.1 hr.2)⟩
/-! ### The law -/
end Go.Proofs.Ytcfmlnddmpiemaa.Sx



set_option maxRecDepth 10000
namespace Go.Proofs.Ytcfmlnddmpiemaa.Sx
open Go.RowKit Go.Proofs.Ytcfmlnddmpiemaa.Sx.Tb
/-! ### The functions of the tx's laws -/
def lightX (row : List OpR) : Prop := row.length ≤ 25 ∧ ∀ i, i < row.length → (row.getD i OpR.z).b.length ≤ 1500
set_option maxHeartbeats 4000000 in
theorem xlight_c (row : List OpR) (k : K) (h0 : row.length ≤ 9223372036854775807) (hk : ∀ b : Bool, (b = true → lightX row) → k (.v (.bool b)) []) : evFunc tab [] [] Go.Proofs.Try.f32 [.im false 4 row.length (opsC false row)] [] k := by
  repeat' (first
    | (with_reducible first | exact True.intro | apply And.intro | apply If_true | apply If_false | apply If_not)
    | ((with_reducible apply VC.mk); exact vt)
    | ((with_reducible apply If_dec) <;> intro hc <;> (try (exfalso; omega)))
    | ((with_reducible apply If_any) <;> intro hc)
    | ((with_reducible first | apply PF.mk | apply DrawP.mk); (focus kernel_rfl))
    | ((with_reducible apply Same.mk); (focus rfl); (first | exact trivial | exact rfl))
    | (intro cap hcap)
    | ((fail_if_success (with_reducible apply st)); conv => whnf))
  · exact Fin.same (hk false (fun h => by cases h))
  refine LoopP.mk ⟨Nat, fun i => i ≤ row.length ∧ ∀ j, j < i → (row.getD j OpR.z).b.length ≤ 1500, fun i => ([(0, .im false 4 row.length (opsC false row)), (3, .v (.int .i64 i))], []), fun i => row.length - i, 0, ⟨Nat.zero_le _, fun j hj => absurd hj (Nat.not_lt_zero _)⟩, Fit.ren [] [] rfl rfl trivial trivial ?_, ?_⟩
  · repeat' (first
    | (with_reducible first | exact True.intro | apply And.intro | apply If_true | apply If_false | apply If_not)
    | ((with_reducible apply VC.mk); exact vt)
    | ((with_reducible apply If_dec) <;> intro hc <;> (try (exfalso; omega)))
    | ((with_reducible apply If_any) <;> intro hc)
    | ((with_reducible first | apply PF.mk | apply DrawP.mk); (focus kernel_rfl))
    | ((with_reducible apply Same.mk); (focus rfl); (first | exact trivial | exact rfl))
    | (intro cap hcap)
    | ((fail_if_success (with_reducible apply st)); conv => whnf))
  intro i hi
  obtain ⟨g1, g2⟩ := hi
  have e : ((i : Nat) : Int).toNat = i := Int.toNat_natCast i
  repeat' (first
    | (with_reducible first | exact True.intro | apply And.intro | apply If_true | apply If_false | apply If_not)
    | ((with_reducible apply VC.mk); exact vt)
    | ((with_reducible apply If_dec) <;> intro hc <;> (try (exfalso; omega)))
    | ((with_reducible apply If_any) <;> intro hc)
    | ((with_reducible first | apply PF.mk | apply DrawP.mk); (focus kernel_rfl))
    | ((with_reducible apply Same.mk); (focus rfl); (first | exact trivial | exact rfl))
    | (intro cap hcap)
    | ((fail_if_success (with_reducible apply st)); conv => whnf))
  all_goals simp only [e] at *
  all_goals first
    | exact Fin.same (hk false (fun h => by cases h))
    | exact Fin.same (hk true (fun _ => ⟨by omega, fun j hj => g2 j (by omega)⟩))
    | skip
  all_goals
    refine Round.mk ⟨i + 1, ⟨by omega, fun j hj => ?_⟩, (by show row.length - (i + 1) < row.length - i; omega), Fit.ren [] [] rfl rfl trivial trivial ?_⟩
    · by_cases hji : j = i
      · subst hji; omega
      · exact g2 j (by omega)
    · repeat' (first
    | (with_reducible first | exact True.intro | apply And.intro | apply If_true | apply If_false | apply If_not)
    | ((with_reducible apply VC.mk); exact vt)
    | ((with_reducible apply If_dec) <;> intro hc <;> (try (exfalso; omega)))
    | ((with_reducible apply If_any) <;> intro hc)
    | ((with_reducible first | apply PF.mk | apply DrawP.mk); (focus kernel_rfl))
    | ((with_reducible apply Same.mk); (focus rfl); (first | exact trivial | exact rfl))
    | (intro cap hcap)
    | ((fail_if_success (with_reducible apply st)); conv => whnf))
def xlightOk (x : List OpR) : Prop := x.length ≤ 9223372036854775807
def xlightRel (x : List OpR) (r : Bool) : Prop := (r = true → lightX x)
theorem xlight_K : ConOk Go.Proofs.Try.prog 32 (Con.of (List OpR) (Bool) (fun x => [.im false 4 x.length (opsC false x)]) (fun _ => []) xlightOk xlightRel (fun _ r => .v (.bool r)) (fun _ _ => [])) := by
  refine conOk_rel (T := tab) mix Go.Proofs.Try.func32 (by decide +kernel) (by kernel_rfl) [] [] (fun n => by rw [Go.Proofs.Try.ntmps32]; exact Nat.le_of_ble_eq_true rfl) (fun x r _ _ => ⟨by simp [AV.noF, noFs, Cont.noF, recsC_noF], (fun c hc => by cases hc), Nat.le_refl _⟩) (fun x _ c hc => by cases hc) ?_
  intro x k h0 hk
  exact xlight_c x k h0 (fun r hr => hk r hr)
theorem xlight_at {avs : List AV} {H : List Chunk} {k : K} (row : List OpR) (h0 : row.length ≤ 9223372036854775807) (ha : argsM H [] [.im false 4 row.length (opsC false row)] avs) (hQ : ∀ r : Bool, ((r = true → lightX row)) → k (.v (.bool r)) H) : CallP Go.Proofs.Try.prog 32 avs H k :=
  CallP.mk ⟨_, xlight_K.real, Con.spec xlight_K, (row), [], ⟨h0, rfl, trivial, ha⟩, fun r hr => (numK_eq H.length (fun N => k (AV.ren (fren [] N) (.v (.bool r))) (putAll H [] []))).mpr (by simpa [putAll, AV.ren, rens, Cont.ren, recsC, recAV] using hQ r hr)⟩
theorem Fin.vl' {u : Value} {c : Chunk} {k : K} (hk : k (.v u) []) : Fin 0 (.v u) [c] k := Fin.ren [] [] (.v u) [] rfl rfl trivial trivial (VC.mk rfl) hk
def placeX (o : OpR) : Int := if o.kind = 2 then (10752 + o.pos % 18446744073709551616 % 6000) / 512 * 512 else 10752 + o.pos % 18446744073709551616 % 6000
set_option maxHeartbeats 4000000 in
theorem place_c (o : OpR) (k : K) (h0 : inR .i64 o.pos) (hk : ∀ r : Int, r = placeX o → k (.v (.int .i64 r)) []) : evFunc tab [6] [] Go.Proofs.Try.f35 [.agg (opAV true o)] [] k := by
  have w : IntKind.u64.wrap o.pos = o.pos % 18446744073709551616 := rfl
  repeat' (first
    | (with_reducible first | exact True.intro | apply And.intro | apply If_true | apply If_false | apply If_not)
    | ((with_reducible apply VC.mk); exact vt)
    | ((with_reducible apply If_dec) <;> intro hc <;> (try (exfalso; omega)))
    | ((with_reducible apply If_any) <;> intro hc)
    | ((with_reducible first | apply PF.mk | apply DrawP.mk); (focus kernel_rfl))
    | ((with_reducible apply Same.mk); (focus rfl); (first | exact trivial | exact rfl))
    | (intro cap hcap)
    | ((fail_if_success (with_reducible apply st)); conv => whnf))
  · exact Fin.vl' (hk _ (by unfold placeX; rw [if_pos hc, w]))
  · exact Fin.vl' (hk _ (by unfold placeX; rw [if_neg hc, w]))
def placeOk (x : OpR) : Prop := inR .i64 x.pos
def placeRel (x : OpR) (r : Int) : Prop := r = placeX x
theorem place_K : ConOk Go.Proofs.Try.prog 35 (Con.of (OpR) (Int) (fun x => [.agg (opAV true x)]) (fun _ => []) placeOk placeRel (fun _ r => .v (.int .i64 r)) (fun _ _ => [])) := by
  refine conOk_rel (T := tab) mix Go.Proofs.Try.func35 (by decide +kernel) (by kernel_rfl) [6] [] (fun n => by rw [Go.Proofs.Try.ntmps35]; exact Nat.le_of_ble_eq_true rfl) (fun x r _ _ => ⟨by simp [AV.noF, noFs, Cont.noF, recsC_noF], (fun c hc => by cases hc), Nat.le_refl _⟩) (fun x _ c hc => by cases hc) ?_
  intro x k h0 hk
  exact place_c x k h0 (fun r hr => hk r hr)
theorem place_at {avs : List AV} {H : List Chunk} {k : K} (o : OpR) (h0 : inR .i64 o.pos) (ha : argsM H [] [.agg (opAV true o)] avs) (hQ : ∀ r : Int, (r = placeX o) → k (.v (.int .i64 r)) H) : CallP Go.Proofs.Try.prog 35 avs H k :=
  CallP.mk ⟨_, place_K.real, Con.spec place_K, (o), [], ⟨h0, rfl, trivial, ha⟩, fun r hr => (numK_eq H.length (fun N => k (AV.ren (fren [] N) (.v (.int .i64 r))) (putAll H [] []))).mpr (by simpa [putAll, AV.ren, rens, Cont.ren, recsC, recAV] using hQ r hr)⟩
def longL (b : List Int) (n : Int) : List Int := b ++ List.replicate (n.toNat - b.length) 0
theorem longL_length (b : List Int) (n : Int) : (longL b n).length = max b.length n.toNat := by
  unfold longL; rw [List.length_append, List.length_replicate]; omega
theorem longL_get (b : List Int) (n : Int) (i : Nat) : (longL b n).getD i 0 = b.getD i 0 := by
  unfold longL
  by_cases h : i < b.length
  · rw [List.getD_eq_getElem?_getD, List.getElem?_append_left h, ← List.getD_eq_getElem?_getD]
  · rw [getD_of_le (l := b) (by omega), List.getD_eq_getElem?_getD, List.getElem?_append_right (by omega), List.getElem?_replicate]
    split <;> rfl
set_option maxHeartbeats 4000000 in
theorem longer_c (b : List Int) (n : Int) (k : K) (h0 : b.length ≤ 1099511627776 ∧ 0 ≤ n ∧ n ≤ 1099511627776) (hk : ∀ r : List Int, r = longL b n → k (.im true 1 r.length (.ints .u8 r)) []) : evFunc tab [] [] Go.Proofs.Try.f38 [.im true 1 b.length (.ints .u8 b), .v (.int .i64 n)] [] k := by
  repeat' (first
    | (with_reducible first | exact True.intro | apply And.intro | apply If_true | apply If_false | apply If_not)
    | ((with_reducible apply VC.mk); exact vt)
    | ((with_reducible apply If_dec) <;> intro hc <;> (try (exfalso; omega)))
    | ((with_reducible apply If_any) <;> intro hc)
    | ((with_reducible first | apply PF.mk | apply DrawP.mk); (focus kernel_rfl))
    | ((with_reducible apply Same.mk); (focus rfl); (first | exact trivial | exact rfl))
    | (intro cap hcap)
    | ((fail_if_success (with_reducible apply st)); conv => whnf))
  · exact Fin.same (hk b (by unfold longL; rw [show n.toNat - b.length = 0 by omega]; simp))
  · refine partO_at b 0 b.length ⟨by omega, by omega⟩ ⟨⟨rfl, rfl, rfl⟩, rfl, rfl, trivial⟩ ?_
    intro m c1 hm1 hc1
    have hmw : m = b := by rw [hm1, List.drop_zero]; exact List.take_of_length_le (Nat.le_refl _)
    subst hmw
    repeat' (first
    | (with_reducible first | exact True.intro | apply And.intro | apply If_true | apply If_false | apply If_not)
    | ((with_reducible apply VC.mk); exact vt)
    | ((with_reducible apply If_dec) <;> intro hc <;> (try (exfalso; omega)))
    | ((with_reducible apply If_any) <;> intro hc)
    | ((with_reducible first | apply PF.mk | apply DrawP.mk); (focus kernel_rfl))
    | ((with_reducible apply Same.mk); (focus rfl); (first | exact trivial | exact rfl))
    | (intro cap hcap)
    | ((fail_if_success (with_reducible apply st)); conv => whnf))
    refine zerosO_at (n - m.length) ⟨by omega, by omega⟩ ⟨rfl, trivial⟩ ?_
    intro z hz
    have hzl : z.length = n.toNat - m.length := by rw [hz, List.length_replicate]; omega
    have hk2 := hk (m ++ z) (by unfold longL; rw [hz, show (n - (m.length : Int)).toNat = n.toNat - m.length by omega])
    clear hz hm1
    repeat' (first
    | (with_reducible first | exact True.intro | apply And.intro | apply If_true | apply If_false | apply If_not)
    | ((with_reducible apply VC.mk); exact vt)
    | ((with_reducible apply If_dec) <;> intro hc <;> (try (exfalso; omega)))
    | ((with_reducible apply If_any) <;> intro hc)
    | ((with_reducible first | apply PF.mk | apply DrawP.mk); (focus kernel_rfl))
    | ((with_reducible apply Same.mk); (focus rfl); (first | exact trivial | exact rfl))
    | (intro cap hcap)
    | ((fail_if_success (with_reducible apply st)); conv => whnf))
    rw [List.length_append] at hk2
    rw [show List.take z.length (List.drop 0 z) = z by simp]
    refine Fin.ren [] [2] (.im true 1 (m.length + z.length) (.ints .u8 (m ++ z))) [] rfl rfl ⟨trivial, trivial⟩ trivial ⟨VC.mk ⟨?_, rfl, rfl, rfl, Nat.one_pos⟩, VC.mk ⟨rfl, ?_⟩⟩ hk2
    · rw [List.length_append]; omega
    · rw [List.drop_zero]; exact List.take_of_length_le (by rw [List.length_append]; exact Nat.le_refl _)
def longerOk (x : List Int × Int) : Prop := x.1.length ≤ 1099511627776 ∧ 0 ≤ x.2 ∧ x.2 ≤ 1099511627776
def longerRel (x : List Int × Int) (r : List Int) : Prop := r = longL x.1 x.2
theorem longer_K : ConOk Go.Proofs.Try.prog 38 (Con.of (List Int × Int) (List Int) (fun x => [.im true 1 x.1.length (.ints .u8 x.1), .v (.int .i64 x.2)]) (fun _ => []) longerOk longerRel (fun _ r => .im true 1 r.length (.ints .u8 r)) (fun _ _ => [])) := by
  refine conOk_rel (T := tab) mix Go.Proofs.Try.func38 (by decide +kernel) (by kernel_rfl) [] [] (fun n => by rw [Go.Proofs.Try.ntmps38]; exact Nat.le_of_ble_eq_true rfl) (fun x r _ _ => ⟨by simp [AV.noF, noFs, Cont.noF, recsC_noF], (fun c hc => by cases hc), Nat.le_refl _⟩) (fun x _ c hc => by cases hc) ?_
  intro x k h0 hk
  exact longer_c x.1 x.2 k h0 (fun r hr => hk r hr)
theorem longer_at {avs : List AV} {H : List Chunk} {k : K} (b : List Int) (n : Int) (h0 : b.length ≤ 1099511627776 ∧ 0 ≤ n ∧ n ≤ 1099511627776) (ha : argsM H [] [.im true 1 b.length (.ints .u8 b), .v (.int .i64 n)] avs) (hQ : ∀ r : List Int, (r = longL b n) → k (.im true 1 r.length (.ints .u8 r)) H) : CallP Go.Proofs.Try.prog 38 avs H k :=
  CallP.mk ⟨_, longer_K.real, Con.spec longer_K, (b, n), [], ⟨h0, rfl, trivial, ha⟩, fun r hr => (numK_eq H.length (fun N => k (AV.ren (fren [] N) (.im true 1 r.length (.ints .u8 r))) (putAll H [] []))).mpr (by simpa [putAll, AV.ren, rens, Cont.ren, recsC, recAV] using hQ r hr)⟩
end Go.Proofs.Ytcfmlnddmpiemaa.Sx


set_option maxRecDepth 10000
namespace Go.Proofs.Ytcfmlnddmpiemaa.Sx
open Go.RowKit Go.Proofs.Ytcfmlnddmpiemaa.Sx.Tb
/-! ### The tx's example -/
abbrev jX : JR := ⟨512, 10240, 0⟩
theorem jX_ok : jX.Ok := by unfold JR.Ok jX; simp
theorem jX_al : jX.al := ⟨by decide, by decide⟩
theorem baseL_length (n c : Int) : (baseL n c).length = 10752 + (n % 18446744073709551616 % 7000).toNat := by
  unfold baseL; rw [List.length_append, List.length_replicate, List.length_replicate]
theorem baseL_get {n c : Int} {i : Nat} (h : 10752 ≤ i) (h2 : i < (baseL n c).length) : (baseL n c).getD i 0 = c := by
  rw [baseL_length] at h2
  unfold baseL
  rw [List.getD_eq_getElem?_getD, List.getElem?_append_right (by rw [List.length_replicate]; exact h), List.length_replicate, List.getElem?_replicate, if_pos (by omega)]
  rfl
theorem baseL_B8 {n c : Int} (h : 0 ≤ c ∧ c < 256) : B8 (baseL n c) := by
  unfold baseL
  refine B8.append (B8.replicate _) (fun x hx => ?_)
  rw [List.eq_of_mem_replicate hx]; exact h
theorem TR.zero_ok : TR.zero.Ok := ⟨fun x hx => absurd hx List.not_mem_nil, fun x hx => absurd hx List.not_mem_nil, Nat.le_refl _, Nat.zero_le _⟩
theorem TR.zero_In (j : JR) : TR.zero.In j := ⟨fun x hx => absurd hx List.not_mem_nil, List.nodup_nil, fun x hx => absurd hx List.not_mem_nil⟩
theorem TR.zero_B {z : List Int} (h : B8 z) : TR.zero.B z := fun i => by rw [zero_V]; exact h.getD i
theorem DF.mk0_ok {b : List Int} (h : b.length ≤ 4194304) (n : Int) (hn : 0 ≤ n) : (DF.mk0 b).Ok n := ⟨h, h, fun it hi => absurd hi List.not_mem_nil, by show (0 : Int) ≤ n; exact hn, ⟨Int.le_refl _, hn⟩, ⟨Int.le_refl _, hn⟩, rfl⟩
theorem DF.Ok.tick {s : DF} {n : Int} (h : s.Ok n) (m : Nat) : (s.tick m).Ok (n + m) := ⟨h.safe, h.now, h.its, by have := h.len; show (s.items.length : Int) ≤ _; omega, by have := h.ops; show 0 ≤ s.ops + m ∧ s.ops + m ≤ _; omega, by have := h.wrote; show 0 ≤ s.wrote ∧ s.wrote ≤ _; omega, h.all⟩
/-- One sector changed: it is the one record. -/
theorem one_rec {t : TR} {rs : List RecR} {n : Int} {l : List Int} (h : RecRel t rs) (hd : t.dirty = [(n, l)]) (hl : l.length = 512) : (encL rs).length = 524 := by
  obtain ⟨ks, h1, h2, rfl⟩ := h
  rw [hd] at h1 ⊢
  have : ks = [n] := List.perm_singleton.1 h1
  subst this
  have e : bldR [(n, l)] [n] [n].length = [(n * 512, l)] := by
    unfold bldR
    rw [show List.range [n].length = [0] from rfl]
    show bldS [(n, l)] [n] [] 0 = _
    unfold bldS
    rw [if_neg (by omega)]
    show [] ++ [(n * 512, (lkS n [(n, l)]).getD [])] = _
    unfold lkS
    rw [if_pos rfl]; rfl
  rw [e, encL_cons, hl]; rfl
set_option maxHeartbeats 16000000 in
theorem changed_c (k : K) (h0 : True) (hk : ∀ r : Unit, True → k (.v (.bool true)) []) : evFunc tab [] [] Go.Proofs.Try.f31 [] [] k := by
  repeat' (first
    | (with_reducible first | exact True.intro | apply And.intro | apply If_true | apply If_false | apply If_not)
    | ((with_reducible apply VC.mk); exact vt)
    | ((with_reducible apply If_dec) <;> intro hc <;> (try (exfalso; omega)))
    | ((with_reducible apply If_any) <;> intro hc)
    | ((with_reducible first | apply PF.mk | apply DrawP.mk); (focus kernel_rfl))
    | ((with_reducible apply Same.mk); (focus rfl); (first | exact trivial | exact rfl))
    | (intro cap hcap)
    | ((fail_if_success (with_reducible apply st)); conv => whnf))
  refine tbase_at 600 7 ⟨by simp [inR], by decide, by decide⟩ ⟨rfl, rfl, trivial⟩ ?_
  intro b hb
  have hb : b = baseL 600 7 := hb
  have hbl : b.length = 11352 := by rw [hb, baseL_length]; decide
  have hb8 : B8 b := by rw [hb]; exact baseL_B8 (by decide)
  have hbg : ∀ i, 10752 ≤ i → i < 11352 → b.getD i 0 = 7 := fun i h1 h2 => by rw [hb]; exact baseL_get h1 (by rw [← hb]; omega)
  clear hb
  repeat' (first
    | (with_reducible first | exact True.intro | apply And.intro | apply If_true | apply If_false | apply If_not)
    | ((with_reducible apply VC.mk); exact vt)
    | ((with_reducible apply If_dec) <;> intro hc <;> (try (exfalso; omega)))
    | ((with_reducible apply If_any) <;> intro hc)
    | ((with_reducible first | apply PF.mk | apply DrawP.mk); (focus kernel_rfl))
    | ((with_reducible apply Same.mk); (focus rfl); (first | exact trivial | exact rfl))
    | (intro cap hcap)
    | ((fail_if_success (with_reducible apply st)); conv => whnf))
  refine topen_at b ⟨by omega, by omega⟩ ⟨⟨rfl, rfl, rfl⟩, trivial⟩ ?_
  repeat' (first
    | (with_reducible first | exact True.intro | apply And.intro | apply If_true | apply If_false | apply If_not)
    | ((with_reducible apply VC.mk); exact vt)
    | ((with_reducible apply If_dec) <;> intro hc <;> (try (exfalso; omega)))
    | ((with_reducible apply If_any) <;> intro hc)
    | ((with_reducible first | apply PF.mk | apply DrawP.mk); (focus kernel_rfl))
    | ((with_reducible apply Same.mk); (focus rfl); (first | exact trivial | exact rfl))
    | (intro cap hcap)
    | ((fail_if_success (with_reducible apply st)); conv => whnf))
  refine begin_at jX (DF.mk0 b) 0 1 rfl rfl rfl ⟨rfl, trivial⟩ ?_
  repeat' (first
    | (with_reducible first | exact True.intro | apply And.intro | apply If_true | apply If_false | apply If_not)
    | ((with_reducible apply VC.mk); exact vt)
    | ((with_reducible apply If_dec) <;> intro hc <;> (try (exfalso; omega)))
    | ((with_reducible apply If_any) <;> intro hc)
    | ((with_reducible first | apply PF.mk | apply DrawP.mk); (focus kernel_rfl))
    | ((with_reducible apply Same.mk); (focus rfl); (first | exact trivial | exact rfl))
    | (intro cap hcap)
    | ((fail_if_success (with_reducible apply st)); conv => whnf))
  have zO := TR.zero_ok
  have zB := TR.zero_B hb8
  refine tput_at TR.zero jX (DF.mk0 b) 10755 [97] 2 3 4 0 1 ⟨zO, ⟨rfl, rfl⟩, ⟨by simp [inR], by simp⟩, Int.le_refl _, by show (0 : Int) ≤ _; omega, by show b.length ≤ _; omega⟩ rfl rfl rfl rfl rfl rfl ⟨rfl, rfl, ⟨rfl, rfl, rfl⟩, trivial⟩ ?_
  rintro ⟨e1, t1, m1⟩ hr
  dsimp only at hr ⊢
  rcases hr with ⟨h, -⟩ | ⟨-, h, -⟩ | ⟨-, -, h1, h2, h3⟩
  · cases h
  · exact absurd (show inB 10755 [97].length by unfold inB; simp) h
  have h2 : t1 = TR.zero.put b 10755 [97] := h2
  have p1 := put_V zO b 10755 [97]
  have hin := put_In (TR.zero_In jX) zO zB (a := 10755) (p := [97]) (fun x hx => by simp at hx; omega) jX_al (by simp) (.inr (.inr (by show (512 : Int) + 10240 ≤ 10755; omega)))
  have hdir : t1.dirty = [(21, putG (TR.zero.sec b 21) 3 [97])] := by rw [h2]; rfl
  rw [← h2] at p1 hin
  obtain ⟨O1, F1, V1, C1, W1⟩ := p1
  have B1 : t1.B b := by rw [h2]; exact zB.put zO 10755 (fun x hx => by simp at hx; omega)
  clear h2
  subst h1
  have F1 : t1.fresh = [] := F1
  have V1 : t1.over = false := V1
  have hm1 : (m1 : Int) ≤ 1 := by have : m1 ≤ [97].length := h3; simp at this; omega
  repeat' (first
    | (with_reducible first | exact True.intro | apply And.intro | apply If_true | apply If_false | apply If_not)
    | ((with_reducible apply VC.mk); exact vt)
    | ((with_reducible apply If_dec) <;> intro hc <;> (try (exfalso; omega)))
    | ((with_reducible apply If_any) <;> intro hc)
    | ((with_reducible first | apply PF.mk | apply DrawP.mk); (focus kernel_rfl))
    | ((with_reducible apply Same.mk); (focus rfl); (first | exact trivial | exact rfl))
    | (intro cap hcap)
    | ((fail_if_success (with_reducible apply st)); conv => whnf))
  refine tget_at t1 jX ((DF.mk0 b).tick m1) 10755 2 2 3 4 0 1 ⟨O1, ⟨rfl, rfl⟩, ⟨by simp [inR], by simp [inR]⟩, by show (0 : Int) ≤ 0 + m1; omega, by show (0 : Int) + m1 ≤ _; omega, by show b.length ≤ _; omega⟩ rfl rfl rfl rfl rfl rfl ⟨rfl, rfl, rfl, trivial⟩ ?_
  rintro ⟨g, e2, m2⟩ hr
  dsimp only at hr ⊢
  rcases hr with ⟨-, q1, q2, q3⟩ | ⟨h, -⟩
  rotate_left
  · exact absurd (show inB 10755 2 by unfold inB; simp) h
  have q2 : g = t1.rd b 10755 2 := q2
  have hg : g = [97, 7] := by
    have v0 := W1 10755
    have v1 := W1 10756
    rw [if_pos (by simp)] at v0
    rw [if_neg (by simp), zero_V, hbg 10756 (by omega) (by omega)] at v1
    rw [q2]
    show [t1.V b (10755 + 0), t1.V b (10755 + 1)] = _
    rw [v0, v1]; rfl
  have q3 : m2 ≤ 2 := q3
  subst q1
  clear q2
  subst hg
  clear h2 q2
  repeat' (first
    | (with_reducible first | exact True.intro | apply And.intro | apply If_true | apply If_false | apply If_not)
    | ((with_reducible apply VC.mk); exact vt)
    | ((with_reducible apply If_dec) <;> intro hc <;> (try (exfalso; omega)))
    | ((with_reducible apply If_any) <;> intro hc)
    | ((with_reducible first | apply PF.mk | apply DrawP.mk); (focus kernel_rfl))
    | ((with_reducible apply Same.mk); (focus rfl); (first | exact trivial | exact rfl))
    | (intro cap hcap)
    | ((fail_if_success (with_reducible apply st)); conv => whnf))
  · exact absurd rfl hc
  refine bytes_at (((DF.mk0 b).tick m1).tick m2) 1 (by show b.length ≤ _; omega) rfl ⟨rfl, trivial⟩ ?_
  intro l1 hl1
  have hl1 : l1 = b := hl1
  subst hl1
  repeat' (first
    | (with_reducible first | exact True.intro | apply And.intro | apply If_true | apply If_false | apply If_not)
    | ((with_reducible apply VC.mk); exact vt)
    | ((with_reducible apply If_dec) <;> intro hc <;> (try (exfalso; omega)))
    | ((with_reducible apply If_any) <;> intro hc)
    | ((with_reducible first | apply PF.mk | apply DrawP.mk); (focus kernel_rfl))
    | ((with_reducible apply Same.mk); (focus rfl); (first | exact trivial | exact rfl))
    | (intro cap hcap)
    | ((fail_if_success (with_reducible apply st)); conv => whnf))
  refine bytes_at (((DF.mk0 l1).tick m1).tick m2) 1 (by show l1.length ≤ _; omega) rfl ⟨rfl, trivial⟩ ?_
  intro l2 hl2
  have hl2 : l2 = l1 := hl2
  subst hl2
  have h7 : l2.getD 10755 0 = 7 := hbg 10755 (by omega) (by omega)
  have i7 : 0 + Int.toNat 10755 = 10755 := rfl
  repeat' (first
    | (with_reducible first | exact True.intro | apply And.intro | apply If_true | apply If_false | apply If_not)
    | ((with_reducible apply VC.mk); exact vt)
    | ((with_reducible apply If_dec) <;> intro hc <;> (try (exfalso; omega)))
    | ((with_reducible apply If_any) <;> intro hc)
    | ((with_reducible first | apply PF.mk | apply DrawP.mk); (focus kernel_rfl))
    | ((with_reducible apply Same.mk); (focus rfl); (first | exact trivial | exact rfl))
    | (intro cap hcap)
    | ((fail_if_success (with_reducible apply st)); conv => whnf))
  rotate_left
  · exfalso
    exact hc h7
  · exact absurd rfl hc
  obtain ⟨z, hz⟩ : ∃ z : List Int, z = List.replicate 512 0 := ⟨_, rfl⟩
  have hzl : z.length = 512 := by rw [hz]; exact List.length_replicate ..
  have okS : (((DF.mk0 l2).tick m1).tick m2).Ok (0 + m1 + m2) := ((DF.mk0_ok (by omega) 0 (Int.le_refl _)).tick m1).tick m2
  refine tcommit_at t1 jX (((DF.mk0 l2).tick m1).tick m2) (0 + m1 + m2) z 2 3 4 0 1 ⟨O1, ⟨by rw [hdir]; simp, fun q hq => ⟨(hin.keys q hq).1, by have := (hin.keys q hq).2.1; omega, (hin.keys q hq).2.2.2⟩⟩, by rw [F1]; simp [wrs, cost], jX_ok, okS, by omega, hz⟩ rfl rfl rfl rfl rfl rfl ⟨rfl, trivial⟩ ?_
  rintro ⟨e3, t3, j3, s3⟩ hr
  obtain ⟨rs, hrs⟩ : ∃ rs, RecRel t1 rs := by
    rcases hr with ⟨h, -⟩ | ⟨-, rs, h, -⟩
    · rw [V1] at h; cases h
    · exact ⟨rs, h⟩
  have hce := (tcommit_calm hr V1 ⟨rfl, rfl⟩ jX_ok (by show (512 : Int) + 10240 ≤ (l2.length : Int); omega) (by show l2.length ≤ _; omega) O1 hin hzl hrs).2 (by rw [one_rec hrs hdir (O1.sec _ (by rw [hdir]; exact List.mem_singleton.2 rfl))]; decide)
  obtain ⟨c1, c2, c3, c4, c5, c6, c7⟩ := hce
  dsimp only at c1 c2 c3 c4 c5 c6 ⊢
  subst c1 c2
  have hv : s3.now.getD 10755 0 = 97 := by
    have := c5 10755 (fun hj => by have : (512 : Int).toNat ≤ 10755 ∧ 10755 < (512 : Int).toNat + (10240 : Int).toNat := hj; omega)
    have e : t1.V l2 10755 = 97 := by rw [W1]; simp
    exact this.trans e
  have hlen : 11352 ≤ s3.now.length := by
    have h1 := lenR_ge rs (lenR t1.fresh l2.length)
    have h2 := lenR_ge t1.fresh l2.length
    have c6 : s3.now.length = lenR rs (lenR t1.fresh l2.length) := c6
    omega
  have hmax : s3.now.length ≤ 4194304 := by
    have c6 : s3.now.length = lenR rs (lenR t1.fresh l2.length) := c6
    rw [c6, F1]
    exact lenR_le _ _ _ (by show l2.length ≤ _; omega) (fun r hr => by have := hin.recs O1 jX_ok hrs r hr; have := this.1.1; omega)
  have okE := tcomRel_ok hr okS hzl (by show (10240 : Int) ≤ _; omega)
  clear hr c5 c6 c7
  repeat' (first
    | (with_reducible first | exact True.intro | apply And.intro | apply If_true | apply If_false | apply If_not)
    | ((with_reducible apply VC.mk); exact vt)
    | ((with_reducible apply If_dec) <;> intro hc <;> (try (exfalso; omega)))
    | ((with_reducible apply If_any) <;> intro hc)
    | ((with_reducible first | apply PF.mk | apply DrawP.mk); (focus kernel_rfl))
    | ((with_reducible apply Same.mk); (focus rfl); (first | exact trivial | exact rfl))
    | (intro cap hcap)
    | ((fail_if_success (with_reducible apply st)); conv => whnf))
  refine bytes_at s3 1 (by omega) rfl ⟨rfl, trivial⟩ ?_
  intro l3 hl3
  have hl3 : l3 = s3.now := hl3
  subst hl3
  repeat' (first
    | (with_reducible first | exact True.intro | apply And.intro | apply If_true | apply If_false | apply If_not)
    | ((with_reducible apply VC.mk); exact vt)
    | ((with_reducible apply If_dec) <;> intro hc <;> (try (exfalso; omega)))
    | ((with_reducible apply If_any) <;> intro hc)
    | ((with_reducible first | apply PF.mk | apply DrawP.mk); (focus kernel_rfl))
    | ((with_reducible apply Same.mk); (focus rfl); (first | exact trivial | exact rfl))
    | (intro cap hcap)
    | ((fail_if_success (with_reducible apply st)); conv => whnf))
  rotate_left
  · exact absurd hv hc
  refine tput_at t1.close j3 s3 0 [] 2 3 4 0 1 ⟨⟨O1.sec, O1.frs, O1.cap, O1.len⟩, c4, ⟨by simp [inR], by simp⟩, okE.ops.1, by have := okE.ops.2; rw [F1] at this; simp [wrs, cost] at this; omega, hmax⟩ rfl rfl rfl rfl rfl rfl ⟨rfl, rfl, ?_, trivial⟩ ?_
  · exact ⟨rfl, rfl⟩
  rintro ⟨e4, t4, m4⟩ hr
  rcases hr with ⟨-, h1, -, -⟩ | ⟨h, -⟩ | ⟨h, -⟩
  · have h1 : e4 = 6 := h1
    subst h1
    repeat' (first
    | (with_reducible first | exact True.intro | apply And.intro | apply If_true | apply If_false | apply If_not)
    | ((with_reducible apply VC.mk); exact vt)
    | ((with_reducible apply If_dec) <;> intro hc <;> (try (exfalso; omega)))
    | ((with_reducible apply If_any) <;> intro hc)
    | ((with_reducible first | apply PF.mk | apply DrawP.mk); (focus kernel_rfl))
    | ((with_reducible apply Same.mk); (focus rfl); (first | exact trivial | exact rfl))
    | (intro cap hcap)
    | ((fail_if_success (with_reducible apply st)); conv => whnf))
    exact Fin.bool rfl (hk () trivial)
  · cases h
  · cases h
def changedOk (x : Unit) : Prop := True
def changedRel (x : Unit) (r : Unit) : Prop := True
theorem changed_K : ConOk Go.Proofs.Try.prog 31 (Con.of (Unit) (Unit) (fun x => []) (fun _ => []) changedOk changedRel (fun _ r => .v (.bool true)) (fun _ _ => [])) := by
  refine conOk_rel (T := tab) mix Go.Proofs.Try.func31 (by decide +kernel) (by kernel_rfl) [] [] (fun n => by rw [Go.Proofs.Try.ntmps31]; exact Nat.le_of_ble_eq_true rfl) (fun x r _ _ => ⟨by simp [AV.noF, noFs, Cont.noF, recsC_noF], (fun c hc => by cases hc), Nat.le_refl _⟩) (fun x _ c hc => by cases hc) ?_
  intro x k h0 hk
  exact changed_c  k h0 (fun r hr => hk r hr)
theorem changed_at {avs : List AV} {H : List Chunk} {k : K}  (h0 : True) (ha : argsM H [] [] avs) (hQ : ∀ r : Unit, (True) → k (.v (.bool true)) H) : CallP Go.Proofs.Try.prog 31 avs H k :=
  CallP.mk ⟨_, changed_K.real, Con.spec changed_K, (), [], ⟨h0, rfl, trivial, ha⟩, fun r hr => (numK_eq H.length (fun N => k (AV.ren (fren [] N) (.v (.bool true))) (putAll H [] []))).mpr (by simpa [putAll, AV.ren, rens, Cont.ren, recsC, recAV] using hQ r hr)⟩
end Go.Proofs.Ytcfmlnddmpiemaa.Sx


set_option maxRecDepth 10000
namespace Go.Proofs.Ytcfmlnddmpiemaa.Sx
open Go.RowKit Go.Proofs.Ytcfmlnddmpiemaa.Sx.Tb
/-! ### begun, for the counts -/
theorem HD.r_vals {H : Int} (h : 40 ≤ H ∧ H ≤ 99) : (HD.r H).clus = 512 ∧ (HD.r H).refs = 1 ∧ (HD.r H).jend = 15360 ∧ (HD.r H).rend = 15872 ∧ (HD.r H).first = 33 := by
  have c : (HD.r H).clus = 512 := by unfold HD.clus HD.r; rw [if_neg (by simp)]; rfl
  have r : (HD.r H).refs = 1 := by
    unfold HD.refs; rw [c]
    show (2 * max 0 (min H 8192) + 512 - 1) / 512 = 1
    omega
  have e : (HD.r H).jend = 15360 := by
    unfold HD.jend; rw [c]
    show 512 * (1 + max 0 (min 29 8192)) = (15360 : Int)
    decide
  have e2 : (HD.r H).rend = 15872 := by
    unfold HD.rend; rw [c, r, e]; decide
  refine ⟨c, r, e, e2, ?_⟩
  unfold HD.first; rw [c, e2]; decide
def oneAt (c i : Nat) : Int := if 15360 ≤ i ∧ i < 15360 + 2 * c ∧ i % 2 = 0 then 1 else 0
def RZ (c : Nat) (z : List Int) : Prop := z.length = 16896 ∧ ∀ i, z.getD i 0 = oneAt c i
theorem RZ.set {c : Nat} {z : List Int} (h : RZ c z) (hc : c < 33) : RZ (c + 1) (z.set (15360 + 2 * c) 1) := by
  refine ⟨by rw [List.length_set]; exact h.1, fun i => ?_⟩
  by_cases hi : i = 15360 + 2 * c
  · subst hi
    rw [List.getD_eq_getElem?_getD, List.getElem?_set_self (by rw [h.1]; omega)]
    unfold oneAt; rw [if_pos (by omega)]; rfl
  · rw [List.getD_eq_getElem?_getD, List.getElem?_set_ne (fun e => hi e.symm), ← List.getD_eq_getElem?_getD, h.2 i]
    unfold oneAt
    by_cases q : 15360 ≤ i ∧ i < 15360 + 2 * c ∧ i % 2 = 0
    · rw [if_pos q, if_pos (by omega)]
    · rw [if_neg q, if_neg (by omega)]
theorem RZ.zero : RZ 0 (List.replicate 16896 0) := by
  refine ⟨List.length_replicate .., fun i => ?_⟩
  unfold oneAt; rw [if_neg (by omega), List.getD_eq_getElem?_getD, List.getElem?_replicate]; split <;> rfl
end Go.Proofs.Ytcfmlnddmpiemaa.Sx


set_option maxRecDepth 10000
namespace Go.Proofs.Ytcfmlnddmpiemaa.Sx
open Go.RowKit Go.Proofs.Ytcfmlnddmpiemaa.Sx.Tb
attribute [local simp] entsC_noF entsC_ren
/-! ### Counts over their tx -/
def rp6 (t : TR) (j : JR) (s : DF) (h : HD) : List Chunk := [t.c0 3 1 2, t.c1, t.c2, j.blk 4, s.pk, rfb h 0]
theorem rfb_le {H : List Chunk} {fz : List Nat} {f : Nat → Nat} {ph : Nat → Bool} {h : HD} {a i : Nat} (fi : f 0 = a) (h0 : nth H i = some (rfb h a)) (hz : memN i fz = false) : (rfb h 0).le H fz f ph i := by
  unfold Chunk.le rfb
  simp only
  rw [nth_lt h0, hz, h0]
  exact ⟨VC.mk ⟨rfl, rfl⟩, VC.mk rfl, VC.mk rfl, VC.mk rfl, VC.mk rfl, VC.mk rfl, VC.mk ⟨fi, rfl, rfl, rfl⟩, trivial⟩
theorem R6.le {H : List Chunk} {f : Nat → Nat} {ph : Nat → Bool} {t : TR} {j : JR} {s : DF} {h : HD} {σ : List Nat} {cs : List Chunk} (f0 : f 0 = 0) (f1 : f 1 = 1) (f2 : f 2 = 2) (f3 : f 3 = 3) (f4 : f 4 = 4) (h0 : nth H 0 = some (t.c0 3 1 2)) (h1 : nth H 1 = some t.c1) (h2 : nth H 2 = some t.c2) (h3 : nth H 3 = some (j.blk 4)) (h4 : nth H 4 = some s.pk) (h5 : nth H 5 = some (rfb h 0)) (hx : chunksLe H [] f ph σ cs) : chunksLe H [] f ph (0 :: 1 :: 2 :: 3 :: 4 :: 5 :: σ) (rp6 t j s h ++ cs) :=
  T5.leG f1 f2 f3 f4 h0 h1 h2 h3 h4 ⟨rfl, rfl, rfl, rfl, rfl⟩ (cs := rfb h 0 :: cs) ⟨rfb_le f0 h5 rfl, hx⟩
theorem R6.fin {H : List Chunk} {t : TR} {j : JR} {s : DF} {h : HD} {v : AV} {k : K} (h0 : nth H 0 = some (t.c0 3 1 2)) (h1 : nth H 1 = some t.c1) (h2 : nth H 2 = some t.c2) (h3 : nth H 3 = some (j.blk 4)) (h4 : nth H 4 = some s.pk) (h5 : nth H 5 = some (rfb h 0)) (hk : k v (rp6 t j s h)) (hv : v.inN 6 := by simp [AV.inN, inNs, Cont.inN]) : Fin 6 v H k :=
  Fin.ren [0, 1, 2, 3, 4, 5] [] v (rp6 t j s h) rfl rfl trivial (R6.le rfl rfl rfl rfl rfl h0 h1 h2 h3 h4 h5 (cs := []) trivial) (AV.le_refl fix6 hv) hk
theorem R6.good {t : TR} {j : JR} {s : DF} {h : HD} {v : AV} (hv : v.noF) : Good 6 v (rp6 t j s h) := by
  refine ⟨hv, fun c hc => ?_, Nat.le_refl _⟩
  rcases List.mem_append.1 (show c ∈ tpre t j s ++ [rfb h 0] from hc) with hc | hc
  · exact (T5.good (v := .v (.bool true)) trivial).2.1 c hc
  · simp at hc; subst hc; exact .blk ⟨trivial, trivial, trivial, trivial, trivial, trivial, trivial⟩
theorem R6.nd {t : TR} {j : JR} {s : DF} {h : HD} : ∀ c ∈ rp6 t j s h, c.lives := by
  intro c hc
  rcases List.mem_append.1 (show c ∈ tpre t j s ++ [rfb h 0] from hc) with hc | hc
  · exact T5.nd c hc
  · simp at hc; subst hc; trivial
def RefOk (t : TR) (s : DF) (h : HD) : Prop := t.Ok ∧ s.live ∧ hR h ∧ t.B s.now ∧ (0 ≤ h.host ∧ h.host ≤ 8192 ∧ h.jend + 2 * h.host ≤ 4194304) ∧ 0 ≤ s.ops ∧ s.ops ≤ 274877906944 ∧ s.now.length ≤ 4194304
end Go.Proofs.Ytcfmlnddmpiemaa.Sx


set_option maxRecDepth 10000
namespace Go.Proofs.Ytcfmlnddmpiemaa.Sx
open Go.RowKit Go.Proofs.Ytcfmlnddmpiemaa.Sx.Tb
attribute [local simp] entsC_noF entsC_ren
/-! ### All and Alloc of the counts -/
def cntV (t : TR) (now : List Int) (h : HD) (i : Nat) : Int := leV (t.rd now (h.jend.toNat + 2 * i) 2)
end Go.Proofs.Ytcfmlnddmpiemaa.Sx


set_option maxRecDepth 10000
namespace Go.Proofs.Ytcfmlnddmpiemaa.Sx
open Go.RowKit Go.Proofs.Ytcfmlnddmpiemaa.Sx.Tb
attribute [local simp] entsC_noF entsC_ren
theorem tick_tick (s : DF) (a b : Nat) : (s.tick a).tick b = s.tick (a + b) := by unfold DF.tick; simp [Int.add_assoc]
end Go.Proofs.Ytcfmlnddmpiemaa.Sx


set_option maxRecDepth 10000
namespace Go.Proofs.Ytcfmlnddmpiemaa.Sx
open Go.RowKit Go.Proofs.Ytcfmlnddmpiemaa.Sx.Tb
attribute [local simp] entsC_noF entsC_ren
/-! ### counted -/
theorem cnt_put {t : TR} (ht : t.Ok) (now : List Int) {h : HD} (hj : 0 ≤ h.jend) (i q : Nat) (c : Int) (hc : 0 ≤ c ∧ c ≤ 65535) : cntV (t.put now (h.jend + 2 * (i : Int)).toNat (leB 2 c)) now h q = if q = i then c else cntV t now h q := by
  have e : (h.jend + 2 * (i : Int)).toNat = h.jend.toNat + 2 * i := by omega
  rw [e]
  unfold cntV
  by_cases hq : q = i
  · subst hq
    rw [if_pos rfl]
    have := put_rd ht now (h.jend.toNat + 2 * q) (leB 2 c)
    rw [leB_length] at this
    rw [this, leV_leB 2 c hc.1 (by have := hc.2; simp; omega)]
  · rw [if_neg hq]
    refine congrArg leV (rd_congr (fun b hb => ?_))
    rw [(put_V ht now _ _).2.2.2.2, leB_length, if_neg (by omega)]
theorem RZ.cnt {z : List Int} (hz : RZ 33 z) {h : HD} (hj : h.jend = 15360) (q : Nat) : cntV TR.zero z h q = if q < 33 then 1 else 0 := by
  unfold cntV
  have e : TR.zero.rd z (h.jend.toNat + 2 * q) 2 = [oneAt 33 (15360 + 2 * q), oneAt 33 (15360 + 2 * q + 1)] := by
    unfold TR.rd
    rw [hj]
    show [TR.zero.V z (15360 + 2 * q + 0), TR.zero.V z (15360 + 2 * q + 1)] = _
    rw [zero_V, zero_V, hz.2, hz.2, Nat.add_zero]
  rw [e]
  have e2 : oneAt 33 (15360 + 2 * q + 1) = 0 := by unfold oneAt; rw [if_neg (by omega)]
  have e1 : oneAt 33 (15360 + 2 * q) = if q < 33 then 1 else 0 := by
    unfold oneAt
    by_cases hq : q < 33
    · rw [if_pos (by omega), if_pos hq]
    · rw [if_neg (by omega), if_neg hq]
  rw [e1, e2]
  split <;> decide
theorem RZ.refOk {z : List Int} (hz : RZ 33 z) {H : Int} (h : 40 ≤ H ∧ H ≤ 99) : RefOk TR.zero (DF.mk0 z) (HD.r H) := by
  obtain ⟨vc, vr, vj, ve, vf⟩ := HD.r_vals h
  refine ⟨⟨fun x hx => absurd hx List.not_mem_nil, fun x hx => absurd hx List.not_mem_nil, Nat.le_refl _, Nat.zero_le _⟩, ⟨rfl, rfl⟩, ⟨by simp [HD.r, inR], by simp [HD.r, inR], ?_, by simp [HD.r, inR]⟩, ?_, ⟨?_, ?_, ?_⟩, Int.le_refl _, by show (0 : Int) ≤ _; decide, ?_⟩
  · show inR .i64 H
    simp only [inR]; omega
  · intro i
    show 0 ≤ TR.zero.V z i ∧ TR.zero.V z i < 256
    rw [zero_V, hz.2]; unfold oneAt; split <;> decide
  · show 0 ≤ H; omega
  · show H ≤ 8192; omega
  · rw [vj]; show 15360 + 2 * H ≤ 4194304; omega
  · show z.length ≤ 4194304
    rw [hz.1]; decide
theorem RefOk.next {t t' : TR} {s : DF} {h : HD} (hr : RefOk t s h) (ho : t'.Ok) (hb : t'.B s.now) (m : Nat) (hm : s.ops + (m : Int) ≤ 274877906944) : RefOk t' (s.tick m) h := by
  obtain ⟨h1, h2, h3, h4, h5, h6, h7, h8⟩ := hr
  exact ⟨ho, h2, h3, hb, h5, by show 0 ≤ s.ops + (m : Int); omega, hm, h8⟩
/-! ### The law RefsNils -/
end Go.Proofs.Ytcfmlnddmpiemaa.Sx


set_option maxRecDepth 10000
namespace Go.Proofs.Ytcfmlnddmpiemaa.Sx
/-! ### Counts that are changed, plain -/
theorem wr1_keys (t : TR) (now : List Int) (a : Nat) (xs : List Int) : ∀ k ∈ (t.wr1 now a xs).dirty.map (fun x => x.1), k ∈ t.dirty.map (fun x => x.1) ∨ k = ((a / 512 : Nat) : Int) := by
  intro k hk
  have hk : k ∈ (upS ((a / 512 : Nat) : Int) (putG (t.sec now ((a / 512 : Nat) : Int)) (a % 512) xs) t.dirty).map (fun x => x.1) := hk
  rw [upS_keys] at hk
  split at hk
  · exact .inl hk
  · rcases List.mem_append.1 hk with hk | hk
    · exact .inl hk
    · exact .inr (List.mem_singleton.1 hk)
theorem putF_keys : ∀ (f : Nat) (t : TR) (now : List Int) (a : Nat) (p : List Int), ∀ k : Int, k ∈ (TR.putF f t now a p).dirty.map (fun x => x.1) → k ∈ t.dirty.map (fun x => x.1) ∨ ∃ m : Nat, k = (m : Int) ∧ a < 512 * m + 512 ∧ 512 * m < a + p.length
  | 0, t, now, a, p => fun k hk => .inl hk
  | f + 1, t, now, a, p => by
    intro k hk
    by_cases h0 : p.length = 0
    · rw [putF_nil _ _ _ _ _ h0] at hk; exact .inl hk
    · have e : TR.putF (f + 1) t now a p = TR.putF f (t.wr1 now a (p.take (min p.length (512 - a % 512)))) now (a + min p.length (512 - a % 512)) (p.drop (min p.length (512 - a % 512))) := by
        show (if _ then _ else _) = _; rw [if_neg h0]
      rw [e] at hk
      generalize hd : min p.length (512 - a % 512) = d at hk
      rcases putF_keys f _ _ _ _ k hk with hk | ⟨m, h1, h2, h3⟩
      · rcases wr1_keys _ _ _ _ k hk with hk | hk
        · exact .inl hk
        · exact .inr ⟨a / 512, hk, by omega, by omega⟩
      · rw [List.length_drop] at h3
        exact .inr ⟨m, h1, by omega, by omega⟩
theorem put_keys (t : TR) (now : List Int) (a : Nat) (p : List Int) : ∀ k : Int, k ∈ (t.put now a p).dirty.map (fun x => x.1) → k ∈ t.dirty.map (fun x => x.1) ∨ ∃ m : Nat, k = (m : Int) ∧ a < 512 * m + 512 ∧ 512 * m < a + p.length := putF_keys _ t now a p
abbrev jR : JR := ⟨512, 14848, 0⟩
theorem jR_al : jR.al := ⟨by decide, by decide⟩
/-- A tx in which only counts were changed. -/
structure Cnts (t : TR) (z : List Int) (h : HD) (m : List Int) : Prop where
  ok : t.Ok
  over : t.over = false
  fresh : t.fresh = []
  inn : t.In jR
  b : t.B z
  len : m.length = h.host.toNat
  cnt : ∀ q, q < m.length → cntV t z h q = m.getD q 0
  oth : ∀ i, ¬ (15360 ≤ i ∧ i < 15360 + 2 * m.length) → t.V z i = z.getD i 0
  keys : ∀ k ∈ t.dirty.map (fun x => x.1), k = 30
theorem Cnts.put {t : TR} {z : List Int} {h : HD} {m : List Int} (hC : Cnts t z h m) (hj : h.jend = 15360) (hl : m.length ≤ 99) {i : Nat} (hi : i < m.length) {c : Int} (hc : 0 ≤ c ∧ c ≤ 65535) : Cnts (t.put z (h.jend + 2 * (i : Int)).toNat (leB 2 c)) z h (m.set i c) := by
  have p1 := put_V hC.ok z (h.jend + 2 * (i : Int)).toNat (leB 2 c)
  have ha : (h.jend + 2 * (i : Int)).toNat = 15360 + 2 * i := by rw [hj]; omega
  have hl2 : (leB 2 c).length = 2 := leB_length 2 c
  refine ⟨p1.1, p1.2.2.1.trans hC.over, p1.2.1.trans hC.fresh, put_In hC.inn hC.ok hC.b (leB_B8 _ _) jR_al (by rw [ha, hl2]; omega) (.inr (.inr (by show (512 : Int) + 14848 ≤ _; rw [ha]; omega))), hC.b.put hC.ok _ (leB_B8 _ _), by rw [List.length_set]; exact hC.len, fun q hq => ?_, fun q hq => ?_, fun k hk => ?_⟩
  · rw [List.length_set] at hq
    rw [cnt_put hC.ok z (by rw [hj]; decide) i q c hc]
    by_cases e : q = i
    · subst e; rw [if_pos rfl, List.getD_eq_getElem?_getD, List.getElem?_set_self hi]; rfl
    · rw [if_neg e, List.getD_eq_getElem?_getD, List.getElem?_set_ne (fun e2 => e e2.symm), ← List.getD_eq_getElem?_getD]
      exact hC.cnt q hq
  · rw [List.length_set] at hq
    rw [p1.2.2.2.2, if_neg (by rw [ha, hl2]; omega)]
    exact hC.oth q hq
  · rcases put_keys _ _ _ _ k hk with hk | ⟨n, h1, h2, h3⟩
    · exact hC.keys k hk
    · rw [ha, hl2] at *
      omega
theorem Cnts.zero {z : List Int} (hz : RZ 33 z) {H : Int} (h : 40 ≤ H ∧ H ≤ 99) {m : List Int} (hm : m = List.replicate 33 1 ++ List.replicate (H.toNat - 33) 0) : Cnts TR.zero z (HD.r H) m := by
  obtain ⟨vc, vr, vj, ve, vf⟩ := HD.r_vals h
  have hR := hz.refOk h
  have hml : m.length = H.toNat := by rw [hm, List.length_append, List.length_replicate, List.length_replicate]; omega
  refine ⟨TR.zero_ok, rfl, rfl, TR.zero_In _, hR.2.2.2.1, hml, fun q hq => ?_, fun i _ => zero_V z i, fun k hk => absurd hk List.not_mem_nil⟩
  rw [hz.cnt vj, hm]
  by_cases e : q < 33
  · rw [if_pos e, List.getD_eq_getElem?_getD, List.getElem?_append_left (by rw [List.length_replicate]; exact e), List.getElem?_replicate, if_pos e]; rfl
  · rw [if_neg e, List.getD_eq_getElem?_getD, List.getElem?_append_right (by rw [List.length_replicate]; omega), List.length_replicate, List.getElem?_replicate]
    split <;> rfl
theorem Cnts.bound {t : TR} {z : List Int} {h : HD} {m : List Int} (hC : Cnts t z h m) (q : Nat) (hq : q < m.length) : 0 ≤ m.getD q 0 ∧ m.getD q 0 ≤ 65535 := by
  rw [← hC.cnt q hq]
  have hb : B8 (t.rd z (h.jend.toNat + 2 * q) 2) := hC.b.rd _ _
  have := leV_bound hb 2
  rw [List.take_of_length_le (by rw [TR.rd_length]; exact Nat.le_refl _)] at this
  unfold cntV
  have h2 := this.2
  have h3 : ((256 ^ 2 : Nat) : Int) = 65536 := by decide
  omega
/-- At most one sector: the records fit. -/
theorem Cnts.recs {t : TR} {z : List Int} {h : HD} {m : List Int} (hC : Cnts t z h m) {rs : List RecR} (hr : RecRel t rs) : (encL rs).length ≤ 524 := by
  have hB := hr.B hC.ok (B := 8191) (fun q hq => ⟨(hC.inn.keys q hq).1, (hC.inn.keys q hq).2.1⟩)
  have hd : t.dirty.length ≤ 1 := by
    have hn := hC.inn.nodup
    have hk := hC.keys
    generalize t.dirty = d at hn hk
    match d, hn, hk with
    | [], _, _ => exact Nat.zero_le _
    | [a], _, _ => exact Nat.le_refl _
    | a :: b :: r, hn, hk =>
      exfalso
      have ha := hk a.1 (List.mem_cons_self ..)
      have hb := hk b.1 (List.mem_cons_of_mem _ (List.mem_cons_self ..))
      have := (List.nodup_cons.1 hn).1
      exact this (by show a.1 ∈ _; rw [ha, ← hb]; exact List.mem_cons_self ..)
  have := hB.2.1
  omega
/-- Two bytes are their number's. -/
theorem leV_two {l : List Int} (h : B8 l) (hl : l.length = 2) : leB 2 (leV l) = l := by
  match l, hl with
  | [a, b], _ =>
    have ha := h a (List.mem_cons_self ..)
    have hb := h b (List.mem_cons_of_mem _ (List.mem_cons_self ..))
    show [(a + 256 * (b + 256 * 0)) % 256, (a + 256 * (b + 256 * 0)) / 256 % 256] = [a, b]
    congr 1
    · omega
    · congr 1; omega
def wantL (m : List Int) : List Int := m.flatMap (leB 2)
theorem wantL_length : ∀ (m : List Int), (wantL m).length = 2 * m.length
  | [] => rfl
  | a :: r => by
    show (leB 2 a ++ wantL r).length = _
    rw [List.length_append, leB_length, wantL_length r, List.length_cons]; omega
theorem wantL_get : ∀ (m : List Int) (q : Nat), q < m.length → (wantL m).getD (2 * q) 0 = (leB 2 (m.getD q 0)).getD 0 0 ∧ (wantL m).getD (2 * q + 1) 0 = (leB 2 (m.getD q 0)).getD 1 0
  | [], q, h => absurd h (Nat.not_lt_zero _)
  | a :: r, 0, h => by
    show (leB 2 a ++ wantL r).getD 0 0 = _ ∧ (leB 2 a ++ wantL r).getD 1 0 = _
    have hl := leB_length 2 a
    constructor <;> rw [List.getD_eq_getElem?_getD, List.getElem?_append_left (by omega), ← List.getD_eq_getElem?_getD] <;> rfl
  | a :: r, q + 1, h => by
    have ih := wantL_get r q (by simpa using h)
    have hl := leB_length 2 a
    show (leB 2 a ++ wantL r).getD (2 * (q + 1)) 0 = (leB 2 (r.getD q 0)).getD 0 0 ∧ (leB 2 a ++ wantL r).getD (2 * (q + 1) + 1) 0 = (leB 2 (r.getD q 0)).getD 1 0
    rw [← ih.1, ← ih.2]
    constructor <;> rw [List.getD_eq_getElem?_getD, List.getElem?_append_right (by omega), List.getD_eq_getElem?_getD] <;> congr 2 <;> omega
theorem Cnts.byte {t : TR} {z : List Int} {h : HD} {m : List Int} (hC : Cnts t z h m) (hj : h.jend = 15360) {i : Nat} (hi : i < 2 * m.length) : t.V z (15360 + i) = (wantL m).getD i 0 := by
  have hq : i / 2 < m.length := by omega
  have hB : B8 (t.rd z (h.jend.toNat + 2 * (i / 2)) 2) := hC.b.rd _ _
  have e1 := leV_two hB (TR.rd_length _ _ _ _)
  have e2 : leV (t.rd z (h.jend.toNat + 2 * (i / 2)) 2) = m.getD (i / 2) 0 := hC.cnt _ hq
  rw [e2, hj] at e1
  obtain ⟨w0, w1⟩ := wantL_get m (i / 2) hq
  rw [e1] at w0 w1
  by_cases c : i % 2 = 0
  · rw [show i = 2 * (i / 2) by omega, w0, TR.rd_get _ _ _ _ _ (by omega)]; congr 1
  · rw [show i = 2 * (i / 2) + 1 by omega, w1, TR.rd_get _ _ _ _ _ (by omega)]; congr 1
/-- The law's end. -/
theorem Cnts.done {t : TR} {z : List Int} {h : HD} {m zz : List Int} {s3 : DF} (hC : Cnts t z h m) (hj : h.jend = 15360) (hl : m.length ≤ 99) (hz : z.length = 16896) (hl3 : s3.now.length = 16896) (hv : ∀ i, ¬ jR.inJ i → s3.V i = t.V z i) (hzz : zz.length = 14848) : putG s3.now 512 zz = putG (putG z 15360 (wantL m)) 512 zz := by
  have w := wantL_length m
  have l1 : (putG z 15360 (wantL m)).length = 16896 := by rw [putG_length (by omega)]; omega
  refine ext_getD (by rw [putG_length (by omega), putG_length (by omega)]; omega) (fun i hi => ?_)
  rw [putG_get (by omega), putG_get (by omega)]
  by_cases c : 512 ≤ i ∧ i < 512 + zz.length
  · rw [if_pos c, if_pos c]
  · rw [if_neg c, if_neg c, putG_get (by omega)]
    have hi2 : s3.now.getD i 0 = t.V z i := hv i (fun hq => by
      have : (512 : Int).toNat ≤ i ∧ i < (512 : Int).toNat + (14848 : Int).toNat := hq
      omega)
    rw [hi2]
    by_cases d : 15360 ≤ i ∧ i < 15360 + (wantL m).length
    · rw [if_pos d, ← hC.byte hj (by omega), show 15360 + (i - 15360) = i by omega]
    · rw [if_neg d]; exact hC.oth i (by omega)
end Go.Proofs.Ytcfmlnddmpiemaa.Sx


set_option maxRecDepth 10000
namespace Go.Proofs.Ytcfmlnddmpiemaa.Sx
/-! ### Which sectors are changed -/
def TR.ks (t : TR) : List Int := t.dirty.map (fun x => x.1)
theorem upS_key (n k : Int) (v : List Int) (d : List (Int × List Int)) : k ∈ (upS n v d).map (fun x => x.1) ↔ k ∈ d.map (fun x => x.1) ∨ k = n := by
  rw [upS_keys]
  by_cases h : n ∈ d.map (fun x => x.1)
  · rw [if_pos h]
    exact ⟨.inl, fun q => by rcases q with q | q; exact q; exact q ▸ h⟩
  · rw [if_neg h, List.mem_append, List.mem_singleton]
theorem wr1_ks (t : TR) (now : List Int) (a : Nat) (xs : List Int) (k : Int) : k ∈ (t.wr1 now a xs).ks ↔ k ∈ t.ks ∨ k = ((a / 512 : Nat) : Int) := upS_key _ _ _ _
theorem putF_mono : ∀ (f : Nat) (t : TR) (now : List Int) (a : Nat) (p : List Int) (k : Int), k ∈ t.ks → k ∈ (TR.putF f t now a p).ks
  | 0, t, now, a, p, k, h => h
  | f + 1, t, now, a, p, k, h => by
    by_cases h0 : p.length = 0
    · rw [putF_nil _ _ _ _ _ h0]; exact h
    · have e : TR.putF (f + 1) t now a p = TR.putF f (t.wr1 now a (p.take (min p.length (512 - a % 512)))) now (a + min p.length (512 - a % 512)) (p.drop (min p.length (512 - a % 512))) := by
        show (if _ then _ else _) = _; rw [if_neg h0]
      rw [e]
      exact putF_mono f _ _ _ _ k ((wr1_ks _ _ _ _ _).2 (.inl h))
theorem putF_ks : ∀ (f : Nat) (t : TR) (now : List Int) (a : Nat) (p : List Int) (m : Nat), 0 < p.length → p.length ≤ f → a < 512 * m + 512 → 512 * m < a + p.length → (m : Int) ∈ (TR.putF f t now a p).ks
  | 0, t, now, a, p, m, h0, hp, h1, h2 => by omega
  | f + 1, t, now, a, p, m, h00, hp, h1, h2 => by
    have h0 : ¬ p.length = 0 := by omega
    have e : TR.putF (f + 1) t now a p = TR.putF f (t.wr1 now a (p.take (min p.length (512 - a % 512)))) now (a + min p.length (512 - a % 512)) (p.drop (min p.length (512 - a % 512))) := by
      show (if _ then _ else _) = _; rw [if_neg h0]
    rw [e]
    generalize hk : min p.length (512 - a % 512) = d
    have hdl : (p.drop d).length = p.length - d := List.length_drop ..
    by_cases c : m = a / 512
    · subst c
      exact putF_mono f _ _ _ _ _ ((wr1_ks _ _ _ _ _).2 (.inr rfl))
    · exact putF_ks f _ now (a + d) (p.drop d) m (by omega) (by omega) (by omega) (by omega)
theorem put_ks (t : TR) (now : List Int) (a : Nat) (p : List Int) (k : Int) : k ∈ (t.put now a p).ks ↔ k ∈ t.ks ∨ 0 < p.length ∧ ∃ m : Nat, k = (m : Int) ∧ a < 512 * m + 512 ∧ 512 * m < a + p.length := by
  constructor
  · intro h
    by_cases h0 : p.length = 0
    · unfold TR.put at h
      rw [putF_nil _ _ _ _ _ h0] at h
      exact .inl h
    · rcases put_keys t now a p k h with h | h
      · exact .inl h
      · exact .inr ⟨by omega, h⟩
  · rintro (h | ⟨h0, m, rfl, h1, h2⟩)
    · exact putF_mono _ _ _ _ _ _ h
    · exact putF_ks _ _ _ _ _ _ h0 (Nat.le_refl _) h1 h2
theorem ks_iff {t : TR} {k : Int} : k ∈ t.ks ↔ ∃ l, lkS k t.dirty = some l := ⟨lkS_of_mem, fun ⟨_, h⟩ => lkS_key h⟩
theorem fresh_ks {t : TR} (h : t.Ok) {a : Nat} {p : List Int} {c : Nat} (h1 : a + p.length ≤ 4194304) (hc : t.fresh.length + 1 ≤ c) (hn : t.fresh.length + 1 ≤ 1073741824) (m : Nat) : (m : Int) ∈ (t.freshT a p c).ks ↔ (m : Int) ∈ t.ks := by
  have hO : (t.addF ((a : Int), p) c).Ok := by
    refine ⟨h.sec, ?_, ?_, ?_⟩
    · intro q hq
      rcases List.mem_append.1 (show q ∈ t.fresh ++ [((a : Int), p)] from hq) with hq | hq
      · exact h.frs q hq
      · obtain rfl := List.mem_singleton.1 hq
        exact ⟨by show (0 : Int) ≤ a; omega, by show (a : Int) ≤ _; omega, by show p.length ≤ _; omega⟩
    · show (t.fresh ++ [((a : Int), p)]).length ≤ c; rw [List.length_append]; exact hc
    · show (t.fresh ++ [((a : Int), p)]).length ≤ _; rw [List.length_append]; exact hn
  have e := (layN_all ((p.length + 511) / 512) (t.addF ((a : Int), p) c) ((a : Int), p) (a / 512) hO).2.2.2.2.2 m
  have e : lkS (m : Int) (t.freshT a p c).dirty = if a / 512 ≤ m ∧ m < a / 512 + (p.length + 511) / 512 then (lkS (m : Int) t.dirty).map (fun l => layR ((m : Int) * 512) l ((a : Int), p)) else lkS (m : Int) t.dirty := e
  rw [ks_iff, ks_iff, e]
  cases hq : lkS (m : Int) t.dirty with
  | none => split <;> simp
  | some l => split <;> simp
end Go.Proofs.Ytcfmlnddmpiemaa.Sx


set_option maxRecDepth 10000
namespace Go.Proofs.Ytcfmlnddmpiemaa.Sx
open Go.RowKit Go.Proofs.Ytcfmlnddmpiemaa.Sx.Tb
/-! ### The law's need -/
theorem mem_take_succ {l : List Int} {i : Nat} (h : i < l.length) (x : Int) : x ∈ l.take (i + 1) ↔ x ∈ l.take i ∨ l.getD i 0 = x := by
  rw [List.take_add_one, List.getElem?_eq_getElem h, List.mem_append, List.getD_eq_getElem?_getD, List.getElem?_eq_getElem h]
  simp [eq_comm]
end Go.Proofs.Ytcfmlnddmpiemaa.Sx


set_option maxRecDepth 10000
namespace Go.Proofs.Ytcfmlnddmpiemaa.Sx
open Go.RowKit Go.Proofs.Ytcfmlnddmpiemaa.Sx.Tb
/-! ### The law TxCommits -/
theorem placeX_b (o : OpR) : 10752 ≤ placeX o ∧ placeX o < 16752 ∧ (o.kind = 2 → placeX o % 512 = 0) := by
  unfold placeX
  split
  · omega
  · exact ⟨by omega, by omega, fun h => absurd h (by assumption)⟩
def secL (a n : Nat) : List Int := (List.range n).map (fun i => ((a / 512 + i : Nat) : Int))
theorem secL_length (a n : Nat) : (secL a n).length = n := by unfold secL; rw [List.length_map, List.length_range]
theorem secL_mem (a n : Nat) (k : Int) : k ∈ secL a n ↔ ∃ m : Nat, k = (m : Int) ∧ a / 512 ≤ m ∧ m < a / 512 + n := by
  unfold secL
  rw [List.mem_map]
  constructor
  · rintro ⟨i, hi, rfl⟩
    rw [List.mem_range] at hi
    exact ⟨a / 512 + i, rfl, by omega, by omega⟩
  · rintro ⟨m, rfl, h1, h2⟩
    exact ⟨m - a / 512, List.mem_range.2 (by omega), by rw [show a / 512 + (m - a / 512) = m by omega]⟩
structure ComI (b : List Int) (i q : Nat) (t : TR) (m puts : List Int) : Prop where
  ok : t.Ok
  over : t.over = false
  frn : t.fresh.length ≤ i
  inn : t.In jX
  b8 : t.B b
  cst : cost (wrs t.fresh) ≤ 2000 * (i : Int)
  ops : q ≤ 4000 * i
  view : ∀ p, t.V b p = m.getD p 0
  len : b.length ≤ m.length ∧ m.length ≤ 20000
  key : ∀ k : Int, k ∈ t.ks ↔ k ∈ puts
  rng : ∀ k ∈ puts, 0 ≤ k ∧ k < 80
  pln : puts.length ≤ 100 * i
theorem ComI.next {b : List Int} {i q : Nat} {t : TR} {m puts : List Int} (h : ComI b i q t m puts) : ComI b (i + 1) q t m puts := by
  obtain ⟨a1, a2, a3, a4, a5, a6, a7, a8, a9, b1, b2, b3⟩ := h
  exact ⟨a1, a2, by omega, a4, a5, by omega, by omega, a8, a9, b1, b2, by omega⟩
theorem ComI.fresh {b : List Int} {i q : Nat} {t : TR} {m puts : List Int} (h : ComI b i q t m puts) (hi : i ≤ 25) {A c : Nat} {p w : List Int} (hA : 10752 ≤ A ∧ A < 16752 ∧ A % 512 = 0) (hp : p.length ≤ 1500) (h8 : B8 p) (hc : t.fresh.length + 1 ≤ c) (hwl : w.length = max m.length (A + p.length)) (hw : ∀ q, w.getD q 0 = wrV (fun q => m.getD q 0) A p q) : ComI b (i + 1) q (t.freshT A p c) w puts := by
  obtain ⟨a1, a2, a3, a4, a5, a6, a7, a8, a9, b1, b2, b3⟩ := h
  obtain ⟨p1, p2, p3, p4, p5, p6⟩ := fresh_V a1 (DF.mk0 b) (a := A) (p := p) (c := c) hA.2.2 (by omega) hc (by omega)
  have hI := p5 jX a4 h8 (.inr (.inr (by show (512 : Int) + 10240 ≤ A; omega))) (.inr (by show (512 : Int) + 10240 ≤ A; omega))
  have hv : ∀ r, (t.freshT A p c).V b r = w.getD r 0 := fun r => by
    rw [hw]
    refine (p6 r).trans ?_
    unfold wrV
    show (if _ then _ else t.V b r) = (if _ then _ else m.getD r 0)
    rw [a8]
  refine ⟨p1, p3.trans a2, by rw [p2, List.length_append]; show t.fresh.length + 1 ≤ i + 1; omega, hI, fun r => ?_, ?_, by omega, hv, by omega, fun k => ?_, b2, by omega⟩
  · refine (show _ = _ from p6 r) ▸ ?_
    unfold wrV
    split
    · exact h8.getD _
    · exact a5 r
  · rw [p2]
    unfold wrs
    rw [List.map_append, cost_append]
    show cost (wrs t.fresh) + (1 + (p.length : Int) + 0) ≤ 2000 * ((i + 1 : Nat) : Int)
    omega
  · rw [← b1]
    constructor
    · intro hk
      obtain ⟨x, hx, rfl⟩ := List.mem_map.1 hk
      have := (hI.keys x hx).1
      have e : x.1 = ((x.1.toNat : Nat) : Int) := by omega
      rw [e] at hk ⊢
      exact (fresh_ks a1 (by omega) hc (by omega) _).1 hk
    · intro hk
      obtain ⟨x, hx, rfl⟩ := List.mem_map.1 hk
      have := (a4.keys x hx).1
      have e : x.1 = ((x.1.toNat : Nat) : Int) := by omega
      rw [e] at hk ⊢
      exact (fresh_ks a1 (by omega) hc (by omega) _).2 hk
theorem ComI.put {b : List Int} {i q : Nat} {t : TR} {m puts : List Int} (h : ComI b i q t m puts) (hi : i ≤ 25) {A n d : Nat} {p w : List Int} (hA : 10752 ≤ A ∧ A < 16752) (hp : p.length ≤ 1500) (h8 : B8 p) (hd : d ≤ 1500) (hwl : w.length = max m.length (A + p.length)) (hw : ∀ q, w.getD q 0 = wrV (fun q => m.getD q 0) A p q)
    (hn1 : n = 0 ∨ 0 < p.length ∧ (A / 512 + n - 1) * 512 < A + p.length) (hn2 : ¬ (0 < p.length ∧ (A / 512 + n) * 512 < A + p.length)) : ComI b (i + 1) (q + d) (t.put b A p) w (puts ++ secL A n) := by
  obtain ⟨a1, a2, a3, a4, a5, a6, a7, a8, a9, b1, b2, b3⟩ := h
  obtain ⟨p1, p2, p3, p4, p5⟩ := put_V a1 b A p
  have hn4 : n ≤ 4 := by omega
  refine ⟨p1, p3.trans a2, by rw [p2]; omega, put_In a4 a1 a5 h8 jX_al (by omega) (.inr (.inr (by show (512 : Int) + 10240 ≤ A; omega))), a5.put a1 A h8, by rw [p2]; omega, by omega, fun r => ?_, by omega, fun k => ?_, fun k hk => ?_, by rw [List.length_append, secL_length]; omega⟩
  · rw [p5, hw]
    unfold wrV
    show (if _ then _ else t.V b r) = (if _ then _ else m.getD r 0)
    rw [a8]
  · rw [put_ks, List.mem_append, ← b1, secL_mem]
    constructor
    · rintro (h | ⟨h0, r, rfl, h1, h2⟩)
      · exact .inl h
      · exact .inr ⟨r, rfl, by omega, by omega⟩
    · rintro (h | ⟨r, rfl, h1, h2⟩)
      · exact .inl h
      · exact .inr ⟨by omega, r, rfl, by omega, by omega⟩
  · rcases List.mem_append.1 hk with hk | hk
    · exact b2 k hk
    · obtain ⟨r, rfl, h1, h2⟩ := (secL_mem _ _ _).1 hk
      omega
end Go.Proofs.Ytcfmlnddmpiemaa.Sx


set_option maxRecDepth 10000
namespace Go.Proofs.Ytcfmlnddmpiemaa.Sx
/-! ### A tx's commit, cut off anywhere, plain -/
/-- Writes within a file, cut off anywhere: only their bytes may be laid. -/
theorem wrs_items : ∀ (rs : List RecR) (s : DF), (∀ r ∈ rs, 0 ≤ r.1 ∧ r.1.toNat + r.2.length ≤ s.now.length) →
    (s.run (wrs rs)).2.safe = s.safe ∧ (s.run (wrs rs)).2.now.length = s.now.length ∧ (∀ it ∈ (s.run (wrs rs)).2.items, it ∈ s.items ∨ ∃ r ∈ rs, it ∈ segs r.2.length r.1 r.2) ∧ ((s.run (wrs rs)).1 = 0 → (s.run (wrs rs)).2.now = doneL rs s.now)
  | [], s, _ => ⟨rfl, rfl, fun it h => .inl h, fun _ => rfl⟩
  | r :: rs, s, h => by
    obtain ⟨h0, h1⟩ := h r (List.mem_cons_self ..)
    rw [show wrs (r :: rs) = .wr r.1 r.2 :: wrs rs from rfl, DF.run]
    by_cases hA : (s.doOp (.wr r.1 r.2)).1 = 0
    · rw [if_pos hA]
      obtain ⟨-, hd⟩ := DF.doOp_did hA (by omega)
      rw [hd]
      have hl : (putG s.now r.1.toNat r.2).length = s.now.length := by rw [putG_length (by omega)]; omega
      obtain ⟨i1, i2, i3, i4⟩ := wrs_items rs { s with now := putG s.now r.1.toNat r.2, items := s.items ++ segs r.2.length r.1 r.2, ops := s.ops + 1, wrote := s.wrote + 1 } (fun q hq => by
        have := h q (List.mem_cons_of_mem _ hq)
        show 0 ≤ q.1 ∧ q.1.toNat + q.2.length ≤ (putG s.now r.1.toNat r.2).length
        omega)
      refine ⟨i1, i2.trans hl, fun it hit => ?_, fun he => (i4 he).trans rfl⟩
      rcases i3 it hit with h2 | ⟨q, hq, h2⟩
      · rcases List.mem_append.1 (show it ∈ s.items ++ segs r.2.length r.1 r.2 from h2) with h2 | h2
        · exact .inl h2
        · exact .inr ⟨r, List.mem_cons_self .., h2⟩
      · exact .inr ⟨q, List.mem_cons_of_mem _ hq, h2⟩
    · rw [if_neg hA]
      have he := DF.doOp_err hA
      rw [he]
      exact ⟨rfl, rfl, fun it h => .inl h, fun h => absurd h hA⟩
/-- What a crash may leave of a file when some of the fresh ones were written. -/
def FrC (j : JR) (b : List Int) (fr : List RecR) (C : List Int) : Prop := C.length = b.length ∧ B8 C ∧ (∀ i, j.inJ i → C.getD i 0 = b.getD i 0) ∧ ∀ i, (∀ r ∈ fr, ¬ covers r i) → C.getD i 0 = b.getD i 0
structure FrIn (j : JR) (b : List Int) (fr : List RecR) : Prop where
  in_ : ∀ r ∈ fr, 0 ≤ r.1 ∧ r.1.toNat + r.2.length ≤ b.length
  out : ∀ r ∈ fr, r.1 + r.2.length ≤ j.pos ∨ j.pos + j.size ≤ r.1
  b8 : ∀ r ∈ fr, B8 r.2
theorem fr_crash {j : JR} {b : List Int} {fr : List RecR} {s : DF} (hj : j.Ok) (hF : FrIn j b fr) (h8 : B8 b) (hs : s.safe = b) (hi : ∀ it ∈ s.items, ∃ r ∈ fr, it ∈ segs r.2.length r.1 r.2) (ks : List Bool) : FrC j b fr (crashL s.safe s.items ks) := by
  obtain ⟨j1, j2, j3, j4, j5, j6⟩ := hj
  rw [hs]
  refine crash_keeps (FrC j b fr) s.items b ks (fun it hit C hC => ?_) ⟨rfl, h8, fun _ _ => rfl, fun _ _ => rfl⟩
  obtain ⟨r, hr, hm⟩ := hi it hit
  obtain ⟨i1, i2, i3, i4⟩ := segs_in _ _ _ it hm
  obtain ⟨f0, f1⟩ := hF.in_ r hr
  have fo := hF.out r hr
  obtain ⟨c1, c2, c3, c4⟩ := hC
  rw [i1]
  have hl := layL_length (b := C) (at_ := it.2.1) (xs := it.2.2) (by omega)
  refine ⟨by rw [hl]; omega, ?_, fun i hi => ?_, fun i hi => ?_⟩
  · rw [layL_eq (by omega)]
    refine putG_B8 ?_ (i4 (hF.b8 r hr))
    unfold layP
    exact c2.append (B8.replicate _)
  · have hi2 : j.pos.toNat ≤ i ∧ i < j.pos.toNat + j.size.toNat := hi
    rw [layL_at (by omega), if_neg (by omega)]
    exact c3 i hi
  · rw [layL_at (by omega), if_neg (fun hq => hi r hr ⟨by omega, by omega⟩)]
    exact c4 i hi
theorem doneL_in {fr : List RecR} {b : List Int} (h : ∀ r ∈ fr, 0 ≤ r.1 ∧ r.1.toNat + r.2.length ≤ b.length) : (doneL fr b).length = b.length := by
  rw [doneL_length fr b (fun r hr => by have := h r hr; omega)]
  refine Nat.le_antisymm (endL_bound b.length fr b.length (Nat.le_refl _) (fun r hr => (h r hr).2)) (endL_ge _ _)
/-- Wherever a tx's commit is cut off. -/
theorem tcrash {t : TR} {j : JR} {s : DF} {z b : List Int} {x : Int × TR × JR × DF} (h : tcomRel t j s z x) (ho : t.over = false) (hs : s.safe = b) (hn : s.now = b) (hi : s.items = []) (hj : j.Ok) (hal : j.pos % 512 = 0) (hf : j.pos + j.size ≤ b.length) (hm : b.length ≤ 4194304) (h8 : B8 b) (h0 : ∀ i, i < 512 → b.getD (j.pos.toNat + i) 0 = 0)
    (hT : t.Ok) (hI : t.In j) (hF : ∀ r ∈ t.fresh, r.1.toNat + r.2.length ≤ b.length) (hD : ∀ q ∈ t.dirty, q.1 * 512 + 512 ≤ b.length) (hz : z = List.replicate 512 0) {rs : List RecR} (hr : RecRel t rs) (hfit : (encL rs).length ≤ j.size - 512) :
    JCase j (doneL t.fresh b) rs ∧ ∀ ks, FrC j b t.fresh (crashL x.2.2.2.safe x.2.2.2.items ks) ∨ Cr j (doneL t.fresh b) rs (crashL x.2.2.2.safe x.2.2.2.items ks) := by
  have hFI : FrIn j b t.fresh := ⟨fun r hm => ⟨(hI.frs r hm).1, hF r hm⟩, fun r hm => (hI.frs r hm).2.2.1, fun r hm => (hI.frs r hm).2.2.2⟩
  have hl1 := doneL_in hFI.in_
  have hout := hI.recs hT hj hr
  have hcov := (hr.S hT (fun q hq => (hI.keys q hq).1)).2
  have hr8 := hr.B8 (fun q hq => (hI.keys q hq).2.2.2)
  obtain ⟨j1, j2, j3, j4, j5, j6⟩ := hj
  have hj : j.Ok := ⟨j1, j2, j3, j4, j5, j6⟩
  have hend : ∀ r ∈ rs, r.1 + r.2.length ≤ b.length := fun r hm => by
    obtain ⟨c1, c2, c3⟩ := hcov r hm
    obtain ⟨q, hq, e⟩ := List.mem_map.1 (c3 (r.1.toNat + r.2.length - 1) (by omega) (by omega))
    have := hD q hq
    omega
  have hJ : JCase j (doneL t.fresh b) rs := ⟨hj, hal, by rw [hl1]; exact hf, doneL_B8 _ _ h8 hFI.b8, fun r hm => (hout r hm).1, fun r hm => ⟨(hout r hm).1.1, (hout r hm).1.2.2.1, by have := (hout r hm).1.1; have := hend r hm; omega⟩, hr8, fun r hm => by rw [hl1]; have := hend r hm; have := (hcov r hm).1; omega, by rw [hl1]; exact hm, hfit⟩
  refine ⟨hJ, ?_⟩
  have hz1 : ∀ i, i < 512 → (doneL t.fresh b).getD (j.pos.toNat + i) 0 = 0 := fun i hi => by
    rw [doneL_off t.fresh b _ (fun r hm => by have := hFI.in_ r hm; omega) (fun r hm hc => ?_)]
    · exact h0 i hi
    · have := hFI.out r hm
      have := hFI.in_ r hm
      have hc : r.1.toNat ≤ j.pos.toNat + i ∧ j.pos.toNat + i < r.1.toNat + r.2.length := hc
      omega
  rcases h with ⟨h, _⟩ | ⟨_, rs', hr', h⟩
  · rw [ho] at h; cases h
  obtain rfl := hr.unique hr'
  rcases h with ⟨h, _⟩ | ⟨_, y, hy, h⟩
  · omega
  obtain ⟨w1, w2, w3, w4⟩ := wrs_items t.fresh s (fun r hm => by rw [hn]; exact hFI.in_ r hm)
  have w3 : ∀ it ∈ (s.run (wrs t.fresh)).2.items, ∃ r ∈ t.fresh, it ∈ segs r.2.length r.1 r.2 := fun it hit => by
    rcases w3 it hit with h | h
    · rw [hi] at h; cases h
    · exact h
  -- what stands behind the fresh ones
  have ends : (y.1 ≠ 0 → y.2.safe = b ∧ ∀ it ∈ y.2.items, ∃ r ∈ t.fresh, it ∈ segs r.2.length r.1 r.2) ∧ (y.1 = 0 → y.2.safe = doneL t.fresh b ∧ y.2.now = doneL t.fresh b ∧ y.2.items = []) := by
    rw [hy]
    unfold frOps
    by_cases hA : (s.run (wrs t.fresh)).1 = 0
    · by_cases hL : t.fresh.length = 0
      · have hf0 : t.fresh = [] := List.eq_nil_of_length_eq_zero hL
        rw [if_pos hL, List.append_nil, hf0]
        exact ⟨fun h => absurd rfl h, fun _ => ⟨hs, hn, hi⟩⟩
      · rw [if_neg hL]
        have e1 : s.run (wrs t.fresh) = (0, (s.run (wrs t.fresh)).2) := Prod.ext hA rfl
        rw [DF.run_good e1, DF.run1]
        have w4 := w4 hA
        rw [hn] at w4
        refine ⟨fun hB => ?_, fun hB => ?_⟩
        · rw [DF.doOp_err hB]
          exact ⟨w1.trans hs, w3⟩
        · rw [DF.doOp_fled hB]
          exact ⟨w4, w4, rfl⟩
    · rw [DF.run_bad hA]
      exact ⟨fun _ => ⟨w1.trans hs, w3⟩, fun h => absurd h hA⟩
  rcases h with ⟨h1, rfl⟩ | ⟨h1, h2, rfl⟩ | ⟨h1, h2, q, hq, h3⟩
  · intro ks
    obtain ⟨e1, e2⟩ := ends.1 h1
    exact .inl (fr_crash hj hFI h8 e1 e2 ks)
  · intro ks
    obtain ⟨e1, e2, e3⟩ := ends.2 h1
    refine .inr ?_
    show Cr j _ rs (crashL y.2.safe y.2.items ks)
    exact body_cr hJ hz1 e1 (by rw [e3]; intro it hit; cases hit) ks
  · obtain ⟨e1, e2, e3⟩ := ends.2 h1
    obtain ⟨k1, k2⟩ := commit_cr hJ hz1 e1 e2 e3 hq
    rcases h3 with ⟨h3, rfl⟩ | ⟨h3, u, hu, rfl⟩
    · exact fun ks => .inr (k1 ks)
    · obtain ⟨n1, n2, n3, n4, n5⟩ := k2 h3
      have hap := (apply_cr hJ hz n4 n5 rfl n3 n2).1
      intro ks
      refine .inr ?_
      show Cr j _ rs (crashL u.2.safe u.2.items ks)
      rw [hu, n1]
      exact hap ks
/-- Where only fresh ones may stand nothing is pending. -/
theorem FrC.pend {j : JR} {b C : List Int} {fr : List RecR} (hj : j.Ok) (hf : j.pos + j.size ≤ b.length) (h0 : ∀ i, i < 512 → b.getD (j.pos.toNat + i) 0 = 0) (h : FrC j b fr C) : pendB j (j.partL C) = none := by
  obtain ⟨j1, j2, j3, j4, j5, j6⟩ := hj
  refine zero_none ⟨j1, j2, j3, j4, j5, j6⟩ (by rw [h.1]; omega) (fun i hi => ?_)
  have hJ : j.inJ (j.pos.toNat + i) := ⟨by omega, by omega⟩
  exact (h.2.2.1 _ hJ).trans (h0 i (by omega))
end Go.Proofs.Ytcfmlnddmpiemaa.Sx


set_option maxRecDepth 10000
namespace Go.Proofs.Ytcfmlnddmpiemaa.Sx
/-! ### The law TxCrashes, plain -/
/-- A replay of a file in whose journal nothing is pending. -/
theorem replay_none {j : JR} {C z : List Int} {s : DF} (h2 : s.now = C) (hl : s.live) (hf : j.pos + j.size ≤ C.length) (hp : pendB j (j.partL C) = none) : s.replay j z = (0, 0, j, s.asked) := by
  have hpp : j.part s = j.partL C := by unfold JR.part JR.partL; rw [h2]
  have q : s.pend j = (0, none, j) := by
    unfold DF.pend
    rw [if_neg hl.refB, if_neg (show ¬ ((s.now.length : Int) < j.pos + j.size) by rw [h2]; omega), hpp, hp]
  unfold DF.replay
  rw [q]
theorem doneL_V : ∀ (rs : List RecR) (C : List Int) (i : Nat), (∀ r ∈ rs, r.1.toNat + r.2.length ≤ C.length) → (doneL rs C).getD i 0 = doneV rs (fun i => C.getD i 0) i
  | [], _, _, _ => rfl
  | r :: rs, C, i, h => by
    have h1 := h r (List.mem_cons_self ..)
    have hl : (putG C r.1.toNat r.2).length = C.length := by rw [putG_length (by omega)]; omega
    show (doneL rs (putG C r.1.toNat r.2)).getD i 0 = _
    rw [doneL_V rs _ i (fun q hq => by rw [hl]; exact h q (List.mem_cons_of_mem _ hq)), doneV_cons]
    refine doneV_congr rs _ _ i ?_
    show (putG C r.1.toNat r.2).getD i 0 = wrV (fun i => C.getD i 0) r.1.toNat r.2 i
    rw [putG_get (by omega)]; rfl
/-- What stands behind a crash within a commit, and a replay. -/
def CrashEnd (j : JR) (t : TR) (b now : List Int) : Prop := now.length = b.length ∧ ((∀ i, ¬ j.inJ i → now.getD i 0 = t.V b i) ∨ ∀ i, ¬ j.inJ i → (∀ r ∈ t.fresh, ¬ covers r i) → now.getD i 0 = b.getD i 0)
theorem tcrash_end {t : TR} {j : JR} {s : DF} {z b : List Int} {x : Int × TR × JR × DF} (h : tcomRel t j s z x) (ho : t.over = false) (hs : s.safe = b) (hn : s.now = b) (hi : s.items = []) (hj : j.Ok) (hal : j.pos % 512 = 0) (hf : j.pos + j.size ≤ b.length) (hm : b.length ≤ 4194304) (h8 : B8 b) (h0 : ∀ i, i < 512 → b.getD (j.pos.toNat + i) 0 = 0)
    (hT : t.Ok) (hI : t.In j) (hF : ∀ r ∈ t.fresh, r.1.toNat + r.2.length ≤ b.length) (hD : ∀ q ∈ t.dirty, q.1 * 512 + 512 ≤ b.length) (hz : z = List.replicate 512 0) {rs : List RecR} (hr : RecRel t rs) (hfit : (encL rs).length ≤ j.size - 512) (ks : List Bool) :
    B8 (crashL x.2.2.2.safe x.2.2.2.items ks) ∧ (crashL x.2.2.2.safe x.2.2.2.items ks).length = b.length ∧ ∀ y, y = (DF.mk0 (crashL x.2.2.2.safe x.2.2.2.items ks)).replay j z → y.2.1 = 0 ∧ CrashEnd j t b y.2.2.2.now := by
  obtain ⟨hJ, hk⟩ := tcrash h ho hs hn hi hj hal hf hm h8 h0 hT hI hF hD hz hr hfit
  have hin : ∀ r ∈ t.fresh, 0 ≤ r.1 ∧ r.1.toNat + r.2.length ≤ b.length := fun r hr => ⟨(hI.frs r hr).1, hF r hr⟩
  have hl1 := doneL_in hin
  obtain ⟨hV, hcov⟩ := hr.S hT (fun q hq => (hI.keys q hq).1)
  have hrin : ∀ r ∈ rs, r.1.toNat + r.2.length ≤ b.length := fun r hm => by
    obtain ⟨c1, c2, c3⟩ := hcov r hm
    obtain ⟨q, hq, e⟩ := List.mem_map.1 (c3 (r.1.toNat + r.2.length - 1) (by omega) (by omega))
    have := hD q hq
    omega
  have hl2 : (doneL rs (doneL t.fresh b)).length = b.length := by
    rw [doneL_in (fun r hm => ⟨(hcov r hm).1, by rw [hl1]; exact hrin r hm⟩), hl1]
  have hend : endL rs (doneL t.fresh b).length = b.length := by
    rw [← doneL_length rs _ (fun r hm => by rw [hl1]; have := hrin r hm; omega), hl2]
  generalize hC : crashL x.2.2.2.safe x.2.2.2.items ks = C
  have hk := hk ks
  rw [hC] at hk
  rcases hk with hk | hk
  · refine ⟨hk.2.1, hk.1, fun y hy => ?_⟩
    have hp := hk.pend hj hf h0
    rw [replay_none (s := DF.mk0 C) rfl ⟨rfl, rfl⟩ (by show j.pos + j.size ≤ (C.length : Int); rw [hk.1]; exact hf) hp] at hy
    subst hy
    exact ⟨rfl, hk.1, .inr (fun i _ hc => hk.2.2.2 i hc)⟩
  · have hlen := hk.len hJ
    rw [hend, hl1] at hlen
    refine ⟨hk.1, Nat.le_antisymm hlen.2 hlen.1, fun y hy => ?_⟩
    obtain ⟨n1, n2, n3, n4, n5, n6, n7⟩ := replay_end (s := DF.mk0 C) hJ hz hk rfl rfl rfl ⟨rfl, rfl⟩
    rw [← hy] at n1 n4 n6
    refine ⟨n1, ?_⟩
    rw [n4]
    rcases n6 with n6 | n6
    · refine ⟨n6.1.trans hl1, .inr (fun i hi hc => ?_)⟩
      rw [n6.2 i hi]
      exact doneL_off t.fresh b i (fun r hm => by have := hin r hm; omega) hc
    · refine ⟨n6.1.trans hl2, .inl (fun i hi => ?_)⟩
      rw [n6.2 i hi]
      rw [doneL_V rs _ i (fun r hm => by rw [hl1]; exact hrin r hm), ← hn, ← hV s i]
      refine doneV_congr rs _ _ i ?_
      rw [doneL_V t.fresh _ i (fun r hm => by rw [hn]; exact (hin r hm).2)]
      rfl
end Go.Proofs.Ytcfmlnddmpiemaa.Sx

