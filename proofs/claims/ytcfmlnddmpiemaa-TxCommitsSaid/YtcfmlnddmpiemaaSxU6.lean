import Derived.Test.YtcfmlnddmpiemaaSxU5
import Derived.Test.YtcfmlnddmpiemaaSxU3
import Derived.Test.YtcfmlnddmpiemaaSxU1
import Derived.Test.YtcfmlnddmpiemaaSxU2
set_option linter.unusedVariables false
set_option linter.unusedSimpArgs false
set_option maxRecDepth 10000
namespace Go.Proofs.Ytcfmlnddmpiemaa.Sx
open Go.RowKit Go.Proofs.Ytcfmlnddmpiemaa.Sx.Tb
/-! ### begun, for the counts -/
theorem HD.r_vals {H : Int} (h : 40 ≤ H ∧ H ≤ 99) : (HD.r H).clus = 512 ∧ (HD.r H).refs = 1 ∧ (HD.r H).jend = 15360 ∧ (HD.r H).rend = 15872 ∧ (HD.r H).first = 33 := by
  have c : (HD.r H).clus = 512 := by unfold HD.clus HD.r; rw [if_neg (by simp)]; rfl
  have r : (HD.r H).refs = 1 := by
    unfold HD.refs; rw [c]
    show (2 * max 0 (min H 8192) + 512 - 1) / 512 = 1
    omega
  have e : (HD.r H).jend = 15360 := by
    unfold HD.jend; rw [c]
    show 512 * (1 + max 0 (min 29 8192)) = (15360 : Int)
    decide
  have e2 : (HD.r H).rend = 15872 := by
    unfold HD.rend; rw [c, r, e]; decide
  refine ⟨c, r, e, e2, ?_⟩
  unfold HD.first; rw [c, e2]; decide
def oneAt (c i : Nat) : Int := if 15360 ≤ i ∧ i < 15360 + 2 * c ∧ i % 2 = 0 then 1 else 0
def RZ (c : Nat) (z : List Int) : Prop := z.length = 16896 ∧ ∀ i, z.getD i 0 = oneAt c i
theorem RZ.set {c : Nat} {z : List Int} (h : RZ c z) (hc : c < 33) : RZ (c + 1) (z.set (15360 + 2 * c) 1) := by
  refine ⟨by rw [List.length_set]; exact h.1, fun i => ?_⟩
  by_cases hi : i = 15360 + 2 * c
  · subst hi
    rw [List.getD_eq_getElem?_getD, List.getElem?_set_self (by rw [h.1]; omega)]
    unfold oneAt; rw [if_pos (by omega)]; rfl
  · rw [List.getD_eq_getElem?_getD, List.getElem?_set_ne (fun e => hi e.symm), ← List.getD_eq_getElem?_getD, h.2 i]
    unfold oneAt
    by_cases q : 15360 ≤ i ∧ i < 15360 + 2 * c ∧ i % 2 = 0
    · rw [if_pos q, if_pos (by omega)]
    · rw [if_neg q, if_neg (by omega)]
theorem RZ.zero : RZ 0 (List.replicate 16896 0) := by
  refine ⟨List.length_replicate .., fun i => ?_⟩
  unfold oneAt; rw [if_neg (by omega), List.getD_eq_getElem?_getD, List.getElem?_replicate]; split <;> rfl
end Go.Proofs.Ytcfmlnddmpiemaa.Sx


set_option maxRecDepth 10000
namespace Go.Proofs.Ytcfmlnddmpiemaa.Sx
open Go.RowKit Go.Proofs.Ytcfmlnddmpiemaa.Sx.Tb
attribute [local simp] entsC_noF entsC_ren
/-! ### Counts over their tx -/
def rp6 (t : TR) (j : JR) (s : DF) (h : HD) : List Chunk := [t.c0 3 1 2, t.c1, t.c2, j.blk 4, s.pk, rfb h 0]
theorem rfb_le {H : List Chunk} {fz : List Nat} {f : Nat → Nat} {ph : Nat → Bool} {h : HD} {a i : Nat} (fi : f 0 = a) (h0 : nth H i = some (rfb h a)) (hz : memN i fz = false) : (rfb h 0).le H fz f ph i := by
  unfold Chunk.le rfb
  simp only
  rw [nth_lt h0, hz, h0]
  exact ⟨VC.mk ⟨rfl, rfl⟩, VC.mk rfl, VC.mk rfl, VC.mk rfl, VC.mk rfl, VC.mk rfl, VC.mk ⟨fi, rfl, rfl, rfl⟩, trivial⟩
theorem R6.le {H : List Chunk} {f : Nat → Nat} {ph : Nat → Bool} {t : TR} {j : JR} {s : DF} {h : HD} {σ : List Nat} {cs : List Chunk} (f0 : f 0 = 0) (f1 : f 1 = 1) (f2 : f 2 = 2) (f3 : f 3 = 3) (f4 : f 4 = 4) (h0 : nth H 0 = some (t.c0 3 1 2)) (h1 : nth H 1 = some t.c1) (h2 : nth H 2 = some t.c2) (h3 : nth H 3 = some (j.blk 4)) (h4 : nth H 4 = some s.pk) (h5 : nth H 5 = some (rfb h 0)) (hx : chunksLe H [] f ph σ cs) : chunksLe H [] f ph (0 :: 1 :: 2 :: 3 :: 4 :: 5 :: σ) (rp6 t j s h ++ cs) :=
  T5.leG f1 f2 f3 f4 h0 h1 h2 h3 h4 ⟨rfl, rfl, rfl, rfl, rfl⟩ (cs := rfb h 0 :: cs) ⟨rfb_le f0 h5 rfl, hx⟩
theorem R6.fin {H : List Chunk} {t : TR} {j : JR} {s : DF} {h : HD} {v : AV} {k : K} (h0 : nth H 0 = some (t.c0 3 1 2)) (h1 : nth H 1 = some t.c1) (h2 : nth H 2 = some t.c2) (h3 : nth H 3 = some (j.blk 4)) (h4 : nth H 4 = some s.pk) (h5 : nth H 5 = some (rfb h 0)) (hk : k v (rp6 t j s h)) (hv : v.inN 6 := by simp [AV.inN, inNs, Cont.inN]) : Fin 6 v H k :=
  Fin.ren [0, 1, 2, 3, 4, 5] [] v (rp6 t j s h) rfl rfl trivial (R6.le rfl rfl rfl rfl rfl h0 h1 h2 h3 h4 h5 (cs := []) trivial) (AV.le_refl fix6 hv) hk
theorem R6.good {t : TR} {j : JR} {s : DF} {h : HD} {v : AV} (hv : v.noF) : Good 6 v (rp6 t j s h) := by
  refine ⟨hv, fun c hc => ?_, Nat.le_refl _⟩
  rcases List.mem_append.1 (show c ∈ tpre t j s ++ [rfb h 0] from hc) with hc | hc
  · exact (T5.good (v := .v (.bool true)) trivial).2.1 c hc
  · simp at hc; subst hc; exact .blk ⟨trivial, trivial, trivial, trivial, trivial, trivial, trivial⟩
theorem R6.nd {t : TR} {j : JR} {s : DF} {h : HD} : ∀ c ∈ rp6 t j s h, c.lives := by
  intro c hc
  rcases List.mem_append.1 (show c ∈ tpre t j s ++ [rfb h 0] from hc) with hc | hc
  · exact T5.nd c hc
  · simp at hc; subst hc; trivial
def RefOk (t : TR) (s : DF) (h : HD) : Prop := t.Ok ∧ s.live ∧ hR h ∧ t.B s.now ∧ (0 ≤ h.host ∧ h.host ≤ 8192 ∧ h.jend + 2 * h.host ≤ 4194304) ∧ 0 ≤ s.ops ∧ s.ops ≤ 274877906944 ∧ s.now.length ≤ 4194304
end Go.Proofs.Ytcfmlnddmpiemaa.Sx


set_option maxRecDepth 10000
namespace Go.Proofs.Ytcfmlnddmpiemaa.Sx
open Go.RowKit Go.Proofs.Ytcfmlnddmpiemaa.Sx.Tb
attribute [local simp] entsC_noF entsC_ren
/-! ### All and Alloc of the counts -/
def cntV (t : TR) (now : List Int) (h : HD) (i : Nat) : Int := leV (t.rd now (h.jend.toNat + 2 * i) 2)
end Go.Proofs.Ytcfmlnddmpiemaa.Sx


set_option maxRecDepth 10000
namespace Go.Proofs.Ytcfmlnddmpiemaa.Sx
open Go.RowKit Go.Proofs.Ytcfmlnddmpiemaa.Sx.Tb
attribute [local simp] entsC_noF entsC_ren
theorem tick_tick (s : DF) (a b : Nat) : (s.tick a).tick b = s.tick (a + b) := by unfold DF.tick; simp [Int.add_assoc]
end Go.Proofs.Ytcfmlnddmpiemaa.Sx


set_option maxRecDepth 10000
namespace Go.Proofs.Ytcfmlnddmpiemaa.Sx
open Go.RowKit Go.Proofs.Ytcfmlnddmpiemaa.Sx.Tb
attribute [local simp] entsC_noF entsC_ren
/-! ### counted -/
theorem cnt_put {t : TR} (ht : t.Ok) (now : List Int) {h : HD} (hj : 0 ≤ h.jend) (i q : Nat) (c : Int) (hc : 0 ≤ c ∧ c ≤ 65535) : cntV (t.put now (h.jend + 2 * (i : Int)).toNat (leB 2 c)) now h q = if q = i then c else cntV t now h q := by
  have e : (h.jend + 2 * (i : Int)).toNat = h.jend.toNat + 2 * i := by omega
  rw [e]
  unfold cntV
  by_cases hq : q = i
  · subst hq
    rw [if_pos rfl]
    have := put_rd ht now (h.jend.toNat + 2 * q) (leB 2 c)
    rw [leB_length] at this
    rw [this, leV_leB 2 c hc.1 (by have := hc.2; simp; omega)]
  · rw [if_neg hq]
    refine congrArg leV (rd_congr (fun b hb => ?_))
    rw [(put_V ht now _ _).2.2.2.2, leB_length, if_neg (by omega)]
theorem RZ.cnt {z : List Int} (hz : RZ 33 z) {h : HD} (hj : h.jend = 15360) (q : Nat) : cntV TR.zero z h q = if q < 33 then 1 else 0 := by
  unfold cntV
  have e : TR.zero.rd z (h.jend.toNat + 2 * q) 2 = [oneAt 33 (15360 + 2 * q), oneAt 33 (15360 + 2 * q + 1)] := by
    unfold TR.rd
    rw [hj]
    show [TR.zero.V z (15360 + 2 * q + 0), TR.zero.V z (15360 + 2 * q + 1)] = _
    rw [zero_V, zero_V, hz.2, hz.2, Nat.add_zero]
  rw [e]
  have e2 : oneAt 33 (15360 + 2 * q + 1) = 0 := by unfold oneAt; rw [if_neg (by omega)]
  have e1 : oneAt 33 (15360 + 2 * q) = if q < 33 then 1 else 0 := by
    unfold oneAt
    by_cases hq : q < 33
    · rw [if_pos (by omega), if_pos hq]
    · rw [if_neg (by omega), if_neg hq]
  rw [e1, e2]
  split <;> decide
theorem RZ.refOk {z : List Int} (hz : RZ 33 z) {H : Int} (h : 40 ≤ H ∧ H ≤ 99) : RefOk TR.zero (DF.mk0 z) (HD.r H) := by
  obtain ⟨vc, vr, vj, ve, vf⟩ := HD.r_vals h
  refine ⟨⟨fun x hx => absurd hx List.not_mem_nil, fun x hx => absurd hx List.not_mem_nil, Nat.le_refl _, Nat.zero_le _⟩, ⟨rfl, rfl⟩, ⟨by simp [HD.r, inR], by simp [HD.r, inR], ?_, by simp [HD.r, inR]⟩, ?_, ⟨?_, ?_, ?_⟩, Int.le_refl _, by show (0 : Int) ≤ _; decide, ?_⟩
  · show inR .i64 H
    simp only [inR]; omega
  · intro i
    show 0 ≤ TR.zero.V z i ∧ TR.zero.V z i < 256
    rw [zero_V, hz.2]; unfold oneAt; split <;> decide
  · show 0 ≤ H; omega
  · show H ≤ 8192; omega
  · rw [vj]; show 15360 + 2 * H ≤ 4194304; omega
  · show z.length ≤ 4194304
    rw [hz.1]; decide
theorem RefOk.next {t t' : TR} {s : DF} {h : HD} (hr : RefOk t s h) (ho : t'.Ok) (hb : t'.B s.now) (m : Nat) (hm : s.ops + (m : Int) ≤ 274877906944) : RefOk t' (s.tick m) h := by
  obtain ⟨h1, h2, h3, h4, h5, h6, h7, h8⟩ := hr
  exact ⟨ho, h2, h3, hb, h5, by show 0 ≤ s.ops + (m : Int); omega, hm, h8⟩
/-! ### The law RefsNils -/
end Go.Proofs.Ytcfmlnddmpiemaa.Sx


set_option maxRecDepth 10000
namespace Go.Proofs.Ytcfmlnddmpiemaa.Sx
/-! ### Counts that are changed, plain -/
theorem wr1_keys (t : TR) (now : List Int) (a : Nat) (xs : List Int) : ∀ k ∈ (t.wr1 now a xs).dirty.map (fun x => x.1), k ∈ t.dirty.map (fun x => x.1) ∨ k = ((a / 512 : Nat) : Int) := by
  intro k hk
  have hk : k ∈ (upS ((a / 512 : Nat) : Int) (putG (t.sec now ((a / 512 : Nat) : Int)) (a % 512) xs) t.dirty).map (fun x => x.1) := hk
  rw [upS_keys] at hk
  split at hk
  · exact .inl hk
  · rcases List.mem_append.1 hk with hk | hk
    · exact .inl hk
    · exact .inr (List.mem_singleton.1 hk)
theorem putF_keys : ∀ (f : Nat) (t : TR) (now : List Int) (a : Nat) (p : List Int), ∀ k : Int, k ∈ (TR.putF f t now a p).dirty.map (fun x => x.1) → k ∈ t.dirty.map (fun x => x.1) ∨ ∃ m : Nat, k = (m : Int) ∧ a < 512 * m + 512 ∧ 512 * m < a + p.length
  | 0, t, now, a, p => fun k hk => .inl hk
  | f + 1, t, now, a, p => by
    intro k hk
    by_cases h0 : p.length = 0
    · rw [putF_nil _ _ _ _ _ h0] at hk; exact .inl hk
    · have e : TR.putF (f + 1) t now a p = TR.putF f (t.wr1 now a (p.take (min p.length (512 - a % 512)))) now (a + min p.length (512 - a % 512)) (p.drop (min p.length (512 - a % 512))) := by
        show (if _ then _ else _) = _; rw [if_neg h0]
      rw [e] at hk
      generalize hd : min p.length (512 - a % 512) = d at hk
      rcases putF_keys f _ _ _ _ k hk with hk | ⟨m, h1, h2, h3⟩
      · rcases wr1_keys _ _ _ _ k hk with hk | hk
        · exact .inl hk
        · exact .inr ⟨a / 512, hk, by omega, by omega⟩
      · rw [List.length_drop] at h3
        exact .inr ⟨m, h1, by omega, by omega⟩
theorem put_keys (t : TR) (now : List Int) (a : Nat) (p : List Int) : ∀ k : Int, k ∈ (t.put now a p).dirty.map (fun x => x.1) → k ∈ t.dirty.map (fun x => x.1) ∨ ∃ m : Nat, k = (m : Int) ∧ a < 512 * m + 512 ∧ 512 * m < a + p.length := putF_keys _ t now a p
abbrev jR : JR := ⟨512, 14848, 0⟩
theorem jR_al : jR.al := ⟨by decide, by decide⟩
/-- A tx in which only counts were changed. -/
structure Cnts (t : TR) (z : List Int) (h : HD) (m : List Int) : Prop where
  ok : t.Ok
  over : t.over = false
  fresh : t.fresh = []
  inn : t.In jR
  b : t.B z
  len : m.length = h.host.toNat
  cnt : ∀ q, q < m.length → cntV t z h q = m.getD q 0
  oth : ∀ i, ¬ (15360 ≤ i ∧ i < 15360 + 2 * m.length) → t.V z i = z.getD i 0
  keys : ∀ k ∈ t.dirty.map (fun x => x.1), k = 30
theorem Cnts.put {t : TR} {z : List Int} {h : HD} {m : List Int} (hC : Cnts t z h m) (hj : h.jend = 15360) (hl : m.length ≤ 99) {i : Nat} (hi : i < m.length) {c : Int} (hc : 0 ≤ c ∧ c ≤ 65535) : Cnts (t.put z (h.jend + 2 * (i : Int)).toNat (leB 2 c)) z h (m.set i c) := by
  have p1 := put_V hC.ok z (h.jend + 2 * (i : Int)).toNat (leB 2 c)
  have ha : (h.jend + 2 * (i : Int)).toNat = 15360 + 2 * i := by rw [hj]; omega
  have hl2 : (leB 2 c).length = 2 := leB_length 2 c
  refine ⟨p1.1, p1.2.2.1.trans hC.over, p1.2.1.trans hC.fresh, put_In hC.inn hC.ok hC.b (leB_B8 _ _) jR_al (by rw [ha, hl2]; omega) (.inr (.inr (by show (512 : Int) + 14848 ≤ _; rw [ha]; omega))), hC.b.put hC.ok _ (leB_B8 _ _), by rw [List.length_set]; exact hC.len, fun q hq => ?_, fun q hq => ?_, fun k hk => ?_⟩
  · rw [List.length_set] at hq
    rw [cnt_put hC.ok z (by rw [hj]; decide) i q c hc]
    by_cases e : q = i
    · subst e; rw [if_pos rfl, List.getD_eq_getElem?_getD, List.getElem?_set_self hi]; rfl
    · rw [if_neg e, List.getD_eq_getElem?_getD, List.getElem?_set_ne (fun e2 => e e2.symm), ← List.getD_eq_getElem?_getD]
      exact hC.cnt q hq
  · rw [List.length_set] at hq
    rw [p1.2.2.2.2, if_neg (by rw [ha, hl2]; omega)]
    exact hC.oth q hq
  · rcases put_keys _ _ _ _ k hk with hk | ⟨n, h1, h2, h3⟩
    · exact hC.keys k hk
    · rw [ha, hl2] at *
      omega
theorem Cnts.zero {z : List Int} (hz : RZ 33 z) {H : Int} (h : 40 ≤ H ∧ H ≤ 99) {m : List Int} (hm : m = List.replicate 33 1 ++ List.replicate (H.toNat - 33) 0) : Cnts TR.zero z (HD.r H) m := by
  obtain ⟨vc, vr, vj, ve, vf⟩ := HD.r_vals h
  have hR := hz.refOk h
  have hml : m.length = H.toNat := by rw [hm, List.length_append, List.length_replicate, List.length_replicate]; omega
  refine ⟨TR.zero_ok, rfl, rfl, TR.zero_In _, hR.2.2.2.1, hml, fun q hq => ?_, fun i _ => zero_V z i, fun k hk => absurd hk List.not_mem_nil⟩
  rw [hz.cnt vj, hm]
  by_cases e : q < 33
  · rw [if_pos e, List.getD_eq_getElem?_getD, List.getElem?_append_left (by rw [List.length_replicate]; exact e), List.getElem?_replicate, if_pos e]; rfl
  · rw [if_neg e, List.getD_eq_getElem?_getD, List.getElem?_append_right (by rw [List.length_replicate]; omega), List.length_replicate, List.getElem?_replicate]
    split <;> rfl
theorem Cnts.bound {t : TR} {z : List Int} {h : HD} {m : List Int} (hC : Cnts t z h m) (q : Nat) (hq : q < m.length) : 0 ≤ m.getD q 0 ∧ m.getD q 0 ≤ 65535 := by
  rw [← hC.cnt q hq]
  have hb : B8 (t.rd z (h.jend.toNat + 2 * q) 2) := hC.b.rd _ _
  have := leV_bound hb 2
  rw [List.take_of_length_le (by rw [TR.rd_length]; exact Nat.le_refl _)] at this
  unfold cntV
  have h2 := this.2
  have h3 : ((256 ^ 2 : Nat) : Int) = 65536 := by decide
  omega
/-- At most one sector: the records fit. -/
theorem Cnts.recs {t : TR} {z : List Int} {h : HD} {m : List Int} (hC : Cnts t z h m) {rs : List RecR} (hr : RecRel t rs) : (encL rs).length ≤ 524 := by
  have hB := hr.B hC.ok (B := 8191) (fun q hq => ⟨(hC.inn.keys q hq).1, (hC.inn.keys q hq).2.1⟩)
  have hd : t.dirty.length ≤ 1 := by
    have hn := hC.inn.nodup
    have hk := hC.keys
    generalize t.dirty = d at hn hk
    match d, hn, hk with
    | [], _, _ => exact Nat.zero_le _
    | [a], _, _ => exact Nat.le_refl _
    | a :: b :: r, hn, hk =>
      exfalso
      have ha := hk a.1 (List.mem_cons_self ..)
      have hb := hk b.1 (List.mem_cons_of_mem _ (List.mem_cons_self ..))
      have := (List.nodup_cons.1 hn).1
      exact this (by show a.1 ∈ _; rw [ha, ← hb]; exact List.mem_cons_self ..)
  have := hB.2.1
  omega
/-- Two bytes are their number's. -/
theorem leV_two {l : List Int} (h : B8 l) (hl : l.length = 2) : leB 2 (leV l) = l := by
  match l, hl with
  | [a, b], _ =>
    have ha := h a (List.mem_cons_self ..)
    have hb := h b (List.mem_cons_of_mem _ (List.mem_cons_self ..))
    show [(a + 256 * (b + 256 * 0)) % 256, (a + 256 * (b + 256 * 0)) / 256 % 256] = [a, b]
    congr 1
    · omega
    · congr 1; omega
def wantL (m : List Int) : List Int := m.flatMap (leB 2)
theorem wantL_length : ∀ (m : List Int), (wantL m).length = 2 * m.length
  | [] => rfl
  | a :: r => by
    show (leB 2 a ++ wantL r).length = _
    rw [List.length_append, leB_length, wantL_length r, List.length_cons]; omega
theorem wantL_get : ∀ (m : List Int) (q : Nat), q < m.length → (wantL m).getD (2 * q) 0 = (leB 2 (m.getD q 0)).getD 0 0 ∧ (wantL m).getD (2 * q + 1) 0 = (leB 2 (m.getD q 0)).getD 1 0
  | [], q, h => absurd h (Nat.not_lt_zero _)
  | a :: r, 0, h => by
    show (leB 2 a ++ wantL r).getD 0 0 = _ ∧ (leB 2 a ++ wantL r).getD 1 0 = _
    have hl := leB_length 2 a
    constructor <;> rw [List.getD_eq_getElem?_getD, List.getElem?_append_left (by omega), ← List.getD_eq_getElem?_getD] <;> rfl
  | a :: r, q + 1, h => by
    have ih := wantL_get r q (by simpa using h)
    have hl := leB_length 2 a
    show (leB 2 a ++ wantL r).getD (2 * (q + 1)) 0 = (leB 2 (r.getD q 0)).getD 0 0 ∧ (leB 2 a ++ wantL r).getD (2 * (q + 1) + 1) 0 = (leB 2 (r.getD q 0)).getD 1 0
    rw [← ih.1, ← ih.2]
    constructor <;> rw [List.getD_eq_getElem?_getD, List.getElem?_append_right (by omega), List.getD_eq_getElem?_getD] <;> congr 2 <;> omega
theorem Cnts.byte {t : TR} {z : List Int} {h : HD} {m : List Int} (hC : Cnts t z h m) (hj : h.jend = 15360) {i : Nat} (hi : i < 2 * m.length) : t.V z (15360 + i) = (wantL m).getD i 0 := by
  have hq : i / 2 < m.length := by omega
  have hB : B8 (t.rd z (h.jend.toNat + 2 * (i / 2)) 2) := hC.b.rd _ _
  have e1 := leV_two hB (TR.rd_length _ _ _ _)
  have e2 : leV (t.rd z (h.jend.toNat + 2 * (i / 2)) 2) = m.getD (i / 2) 0 := hC.cnt _ hq
  rw [e2, hj] at e1
  obtain ⟨w0, w1⟩ := wantL_get m (i / 2) hq
  rw [e1] at w0 w1
  by_cases c : i % 2 = 0
  · rw [show i = 2 * (i / 2) by omega, w0, TR.rd_get _ _ _ _ _ (by omega)]; congr 1
  · rw [show i = 2 * (i / 2) + 1 by omega, w1, TR.rd_get _ _ _ _ _ (by omega)]; congr 1
/-- The law's end. -/
theorem Cnts.done {t : TR} {z : List Int} {h : HD} {m zz : List Int} {s3 : DF} (hC : Cnts t z h m) (hj : h.jend = 15360) (hl : m.length ≤ 99) (hz : z.length = 16896) (hl3 : s3.now.length = 16896) (hv : ∀ i, ¬ jR.inJ i → s3.V i = t.V z i) (hzz : zz.length = 14848) : putG s3.now 512 zz = putG (putG z 15360 (wantL m)) 512 zz := by
  have w := wantL_length m
  have l1 : (putG z 15360 (wantL m)).length = 16896 := by rw [putG_length (by omega)]; omega
  refine ext_getD (by rw [putG_length (by omega), putG_length (by omega)]; omega) (fun i hi => ?_)
  rw [putG_get (by omega), putG_get (by omega)]
  by_cases c : 512 ≤ i ∧ i < 512 + zz.length
  · rw [if_pos c, if_pos c]
  · rw [if_neg c, if_neg c, putG_get (by omega)]
    have hi2 : s3.now.getD i 0 = t.V z i := hv i (fun hq => by
      have : (512 : Int).toNat ≤ i ∧ i < (512 : Int).toNat + (14848 : Int).toNat := hq
      omega)
    rw [hi2]
    by_cases d : 15360 ≤ i ∧ i < 15360 + (wantL m).length
    · rw [if_pos d, ← hC.byte hj (by omega), show 15360 + (i - 15360) = i by omega]
    · rw [if_neg d]; exact hC.oth i (by omega)
end Go.Proofs.Ytcfmlnddmpiemaa.Sx


set_option maxRecDepth 10000
namespace Go.Proofs.Ytcfmlnddmpiemaa.Sx
/-! ### Which sectors are changed -/
def TR.ks (t : TR) : List Int := t.dirty.map (fun x => x.1)
theorem upS_key (n k : Int) (v : List Int) (d : List (Int × List Int)) : k ∈ (upS n v d).map (fun x => x.1) ↔ k ∈ d.map (fun x => x.1) ∨ k = n := by
  rw [upS_keys]
  by_cases h : n ∈ d.map (fun x => x.1)
  · rw [if_pos h]
    exact ⟨.inl, fun q => by rcases q with q | q; exact q; exact q ▸ h⟩
  · rw [if_neg h, List.mem_append, List.mem_singleton]
theorem wr1_ks (t : TR) (now : List Int) (a : Nat) (xs : List Int) (k : Int) : k ∈ (t.wr1 now a xs).ks ↔ k ∈ t.ks ∨ k = ((a / 512 : Nat) : Int) := upS_key _ _ _ _
theorem putF_mono : ∀ (f : Nat) (t : TR) (now : List Int) (a : Nat) (p : List Int) (k : Int), k ∈ t.ks → k ∈ (TR.putF f t now a p).ks
  | 0, t, now, a, p, k, h => h
  | f + 1, t, now, a, p, k, h => by
    by_cases h0 : p.length = 0
    · rw [putF_nil _ _ _ _ _ h0]; exact h
    · have e : TR.putF (f + 1) t now a p = TR.putF f (t.wr1 now a (p.take (min p.length (512 - a % 512)))) now (a + min p.length (512 - a % 512)) (p.drop (min p.length (512 - a % 512))) := by
        show (if _ then _ else _) = _; rw [if_neg h0]
      rw [e]
      exact putF_mono f _ _ _ _ k ((wr1_ks _ _ _ _ _).2 (.inl h))
theorem putF_ks : ∀ (f : Nat) (t : TR) (now : List Int) (a : Nat) (p : List Int) (m : Nat), 0 < p.length → p.length ≤ f → a < 512 * m + 512 → 512 * m < a + p.length → (m : Int) ∈ (TR.putF f t now a p).ks
  | 0, t, now, a, p, m, h0, hp, h1, h2 => by omega
  | f + 1, t, now, a, p, m, h00, hp, h1, h2 => by
    have h0 : ¬ p.length = 0 := by omega
    have e : TR.putF (f + 1) t now a p = TR.putF f (t.wr1 now a (p.take (min p.length (512 - a % 512)))) now (a + min p.length (512 - a % 512)) (p.drop (min p.length (512 - a % 512))) := by
      show (if _ then _ else _) = _; rw [if_neg h0]
    rw [e]
    generalize hk : min p.length (512 - a % 512) = d
    have hdl : (p.drop d).length = p.length - d := List.length_drop ..
    by_cases c : m = a / 512
    · subst c
      exact putF_mono f _ _ _ _ _ ((wr1_ks _ _ _ _ _).2 (.inr rfl))
    · exact putF_ks f _ now (a + d) (p.drop d) m (by omega) (by omega) (by omega) (by omega)
theorem put_ks (t : TR) (now : List Int) (a : Nat) (p : List Int) (k : Int) : k ∈ (t.put now a p).ks ↔ k ∈ t.ks ∨ 0 < p.length ∧ ∃ m : Nat, k = (m : Int) ∧ a < 512 * m + 512 ∧ 512 * m < a + p.length := by
  constructor
  · intro h
    by_cases h0 : p.length = 0
    · unfold TR.put at h
      rw [putF_nil _ _ _ _ _ h0] at h
      exact .inl h
    · rcases put_keys t now a p k h with h | h
      · exact .inl h
      · exact .inr ⟨by omega, h⟩
  · rintro (h | ⟨h0, m, rfl, h1, h2⟩)
    · exact putF_mono _ _ _ _ _ _ h
    · exact putF_ks _ _ _ _ _ _ h0 (Nat.le_refl _) h1 h2
theorem ks_iff {t : TR} {k : Int} : k ∈ t.ks ↔ ∃ l, lkS k t.dirty = some l := ⟨lkS_of_mem, fun ⟨_, h⟩ => lkS_key h⟩
theorem fresh_ks {t : TR} (h : t.Ok) {a : Nat} {p : List Int} {c : Nat} (h1 : a + p.length ≤ 4194304) (hc : t.fresh.length + 1 ≤ c) (hn : t.fresh.length + 1 ≤ 1073741824) (m : Nat) : (m : Int) ∈ (t.freshT a p c).ks ↔ (m : Int) ∈ t.ks := by
  have hO : (t.addF ((a : Int), p) c).Ok := by
    refine ⟨h.sec, ?_, ?_, ?_⟩
    · intro q hq
      rcases List.mem_append.1 (show q ∈ t.fresh ++ [((a : Int), p)] from hq) with hq | hq
      · exact h.frs q hq
      · obtain rfl := List.mem_singleton.1 hq
        exact ⟨by show (0 : Int) ≤ a; omega, by show (a : Int) ≤ _; omega, by show p.length ≤ _; omega⟩
    · show (t.fresh ++ [((a : Int), p)]).length ≤ c; rw [List.length_append]; exact hc
    · show (t.fresh ++ [((a : Int), p)]).length ≤ _; rw [List.length_append]; exact hn
  have e := (layN_all ((p.length + 511) / 512) (t.addF ((a : Int), p) c) ((a : Int), p) (a / 512) hO).2.2.2.2.2 m
  have e : lkS (m : Int) (t.freshT a p c).dirty = if a / 512 ≤ m ∧ m < a / 512 + (p.length + 511) / 512 then (lkS (m : Int) t.dirty).map (fun l => layR ((m : Int) * 512) l ((a : Int), p)) else lkS (m : Int) t.dirty := e
  rw [ks_iff, ks_iff, e]
  cases hq : lkS (m : Int) t.dirty with
  | none => split <;> simp
  | some l => split <;> simp
theorem needV_congr {l m : List Int} (h : ∀ k : Int, k ∈ l ↔ k ∈ m) (n : Nat) : needV (fun s => decide (s ∈ l)) n = needV (fun s => decide (s ∈ m)) n := by
  congr 1
  funext s
  rw [decide_eq_decide]
  exact h s
end Go.Proofs.Ytcfmlnddmpiemaa.Sx


set_option maxRecDepth 10000
namespace Go.Proofs.Ytcfmlnddmpiemaa.Sx
open Go.RowKit Go.Proofs.Ytcfmlnddmpiemaa.Sx.Tb
/-! ### The law's need -/
theorem needV_bound (p : Int → Bool) : ∀ n : Nat, 0 ≤ needV p n ∧ needV p n ≤ 524 * n
  | 0 => ⟨Int.le_refl _, Int.le_refl _⟩
  | s + 1 => by
    have ih := needV_bound p s
    show 0 ≤ needV p s + _ ∧ needV p s + _ ≤ _
    split
    · split <;> omega
    · omega
theorem mem_take_succ {l : List Int} {i : Nat} (h : i < l.length) (x : Int) : x ∈ l.take (i + 1) ↔ x ∈ l.take i ∨ l.getD i 0 = x := by
  rw [List.take_add_one, List.getElem?_eq_getElem h, List.mem_append, List.getD_eq_getElem?_getD, List.getElem?_eq_getElem h]
  simp [eq_comm]
set_option maxHeartbeats 8000000 in
theorem need_c (l : List Int) (k : K) (h0 : l.length ≤ 1099511627776) (hk : ∀ r : Int, r = needV (fun s => decide (s ∈ l)) 80 → k (.v (.int .i64 r)) []) : evFunc tab [] [] Go.Proofs.Try.f40 [.im false 1 l.length (.ints .i64 l)] [] k := by
  repeat' (first
 | (with_reducible first | exact True.intro | apply And.intro | apply If_true | apply If_false | apply If_not)
 | ((with_reducible apply VC.mk); (first | trivial | omega | (simp only [inR]; omega) | (exact ⟨rfl, List.prefix_rfl⟩) | (refine ⟨rfl, rfl, rfl, ?_, rfl⟩; (simp; done)) | (focus (repeat' (first | exact True.intro | apply And.intro | rfl | exact Nat.le_of_ble_eq_true rfl)); done) | (simp [inR, Cont.cells]; done) | (simp [inR, Cont.cells]; omega)))
 | ((with_reducible apply If_dec) <;> intro hc <;> (try (exfalso; omega)))
 | ((with_reducible apply If_any) <;> intro hc)
 | ((with_reducible first | apply PF.mk | apply DrawP.mk); (focus kernel_rfl))
 | ((with_reducible apply Same.mk); (focus rfl); (first | exact trivial | exact rfl))
 | (intro cap hcap)
 | ((fail_if_success (with_reducible first | apply Fin.mk | apply CallP.mk | apply LoopP.mk | apply VC.mk | apply falseMk | apply Round.mk | apply LookP.mk | apply RangeP.mk | apply NextP.mk | apply EntryP.mk | apply Eq.symm)); conv => whnf))
  refine LoopP.mk ⟨Nat, fun s => s ≤ 80, fun s => ([(0, .im false 1 l.length (.ints .i64 l)), (3, .v (.int .i64 (needV (fun s => decide (s ∈ l)) s))), (4, .v (.int .i64 (s : Int)))], []), fun s => 80 - s, 0, Nat.zero_le _, Fit.ren [] [] rfl rfl trivial trivial ?_, ?_⟩
  · repeat' (first
 | (with_reducible first | exact True.intro | apply And.intro | apply If_true | apply If_false | apply If_not)
 | ((with_reducible apply VC.mk); (first | trivial | omega | (simp only [inR]; omega) | (exact ⟨rfl, List.prefix_rfl⟩) | (refine ⟨rfl, rfl, rfl, ?_, rfl⟩; (simp; done)) | (focus (repeat' (first | exact True.intro | apply And.intro | rfl | exact Nat.le_of_ble_eq_true rfl)); done) | (simp [inR, Cont.cells]; done) | (simp [inR, Cont.cells]; omega)))
 | ((with_reducible apply If_dec) <;> intro hc <;> (try (exfalso; omega)))
 | ((with_reducible apply If_any) <;> intro hc)
 | ((with_reducible first | apply PF.mk | apply DrawP.mk); (focus kernel_rfl))
 | ((with_reducible apply Same.mk); (focus rfl); (first | exact trivial | exact rfl))
 | (intro cap hcap)
 | ((fail_if_success (with_reducible first | apply Fin.mk | apply CallP.mk | apply LoopP.mk | apply VC.mk | apply falseMk | apply Round.mk | apply LookP.mk | apply RangeP.mk | apply NextP.mk | apply EntryP.mk | apply Eq.symm)); conv => whnf))
  intro s hs
  have hb := needV_bound (fun s => decide (s ∈ l)) s
  repeat' (first
 | (with_reducible first | exact True.intro | apply And.intro | apply If_true | apply If_false | apply If_not)
 | ((with_reducible apply VC.mk); (first | trivial | omega | (simp only [inR]; omega) | (exact ⟨rfl, List.prefix_rfl⟩) | (refine ⟨rfl, rfl, rfl, ?_, rfl⟩; (simp; done)) | (focus (repeat' (first | exact True.intro | apply And.intro | rfl | exact Nat.le_of_ble_eq_true rfl)); done) | (simp [inR, Cont.cells]; done) | (simp [inR, Cont.cells]; omega)))
 | ((with_reducible apply If_dec) <;> intro hc <;> (try (exfalso; omega)))
 | ((with_reducible apply If_any) <;> intro hc)
 | ((with_reducible first | apply PF.mk | apply DrawP.mk); (focus kernel_rfl))
 | ((with_reducible apply Same.mk); (focus rfl); (first | exact trivial | exact rfl))
 | (intro cap hcap)
 | ((fail_if_success (with_reducible first | apply Fin.mk | apply CallP.mk | apply LoopP.mk | apply VC.mk | apply falseMk | apply Round.mk | apply LookP.mk | apply RangeP.mk | apply NextP.mk | apply EntryP.mk | apply Eq.symm)); conv => whnf))
  · refine LoopP.mk ⟨Nat, fun i => i ≤ l.length, fun i => ([(0, .im false 1 l.length (.ints .i64 l)), (3, .v (.int .i64 (needV (fun s => decide (s ∈ l)) s))), (4, .v (.int .i64 (s : Int))), (5, .v (.bool (decide ((s : Int) ∈ l.take i)))), (6, .v (.bool (decide ((s : Int) - 1 ∈ l.take i)))), (7, .v (.int .i64 (i : Int)))], []), fun i => l.length - i, 0, Nat.zero_le _, Fit.ren [] [] rfl rfl trivial trivial ?_, ?_⟩
    · repeat' (first
 | (with_reducible first | exact True.intro | apply And.intro | apply If_true | apply If_false | apply If_not)
 | ((with_reducible apply VC.mk); (first | trivial | omega | (simp only [inR]; omega) | (exact ⟨rfl, List.prefix_rfl⟩) | (refine ⟨rfl, rfl, rfl, ?_, rfl⟩; (simp; done)) | (focus (repeat' (first | exact True.intro | apply And.intro | rfl | exact Nat.le_of_ble_eq_true rfl)); done) | (simp [inR, Cont.cells]; done) | (simp [inR, Cont.cells]; omega)))
 | ((with_reducible apply If_dec) <;> intro hc <;> (try (exfalso; omega)))
 | ((with_reducible apply If_any) <;> intro hc)
 | ((with_reducible first | apply PF.mk | apply DrawP.mk); (focus kernel_rfl))
 | ((with_reducible apply Same.mk); (focus rfl); (first | exact trivial | exact rfl))
 | (intro cap hcap)
 | ((fail_if_success (with_reducible first | apply Fin.mk | apply CallP.mk | apply LoopP.mk | apply VC.mk | apply falseMk | apply Round.mk | apply LookP.mk | apply RangeP.mk | apply NextP.mk | apply EntryP.mk | apply Eq.symm)); conv => whnf))
      all_goals trace_state
    intro i hi
    have e : ((i : Nat) : Int).toNat = i := Int.toNat_natCast i
    by_cases hlt : i < l.length
    · have m1 := mem_take_succ hlt (s : Int)
      have m2 := mem_take_succ hlt ((s : Int) - 1)
      repeat' (first
 | (with_reducible first | exact True.intro | apply And.intro | apply If_true | apply If_false | apply If_not)
 | ((with_reducible apply VC.mk); (first | trivial | omega | (simp only [inR]; omega) | (exact ⟨rfl, List.prefix_rfl⟩) | (refine ⟨rfl, rfl, rfl, ?_, rfl⟩; (simp; done)) | (focus (repeat' (first | exact True.intro | apply And.intro | rfl | exact Nat.le_of_ble_eq_true rfl)); done) | (simp [inR, Cont.cells]; done) | (simp [inR, Cont.cells]; omega)))
 | ((with_reducible apply If_dec) <;> intro hc <;> (try (exfalso; omega)))
 | ((with_reducible apply If_any) <;> intro hc)
 | ((with_reducible first | apply PF.mk | apply DrawP.mk); (focus kernel_rfl))
 | ((with_reducible apply Same.mk); (focus rfl); (first | exact trivial | exact rfl))
 | (intro cap hcap)
 | ((fail_if_success (with_reducible first | apply Fin.mk | apply CallP.mk | apply LoopP.mk | apply VC.mk | apply falseMk | apply Round.mk | apply LookP.mk | apply RangeP.mk | apply NextP.mk | apply EntryP.mk | apply Eq.symm)); conv => whnf))
      all_goals refine Round.mk ⟨i + 1, by show i + 1 ≤ l.length; omega, by show l.length - (i + 1) < l.length - i; omega, Fit.ren [] [] rfl rfl trivial trivial ?_⟩
      all_goals repeat' (first
 | (with_reducible first | exact True.intro | apply And.intro | apply If_true | apply If_false | apply If_not)
 | ((with_reducible apply VC.mk); (first | trivial | omega | (simp only [inR]; omega) | (exact ⟨rfl, List.prefix_rfl⟩) | (refine ⟨rfl, rfl, rfl, ?_, rfl⟩; (simp; done)) | (focus (repeat' (first | exact True.intro | apply And.intro | rfl | exact Nat.le_of_ble_eq_true rfl)); done) | (simp [inR, Cont.cells]; done) | (simp [inR, Cont.cells]; omega)))
 | ((with_reducible apply If_dec) <;> intro hc <;> (try (exfalso; omega)))
 | ((with_reducible apply If_any) <;> intro hc)
 | ((with_reducible first | apply PF.mk | apply DrawP.mk); (focus kernel_rfl))
 | ((with_reducible apply Same.mk); (focus rfl); (first | exact trivial | exact rfl))
 | (intro cap hcap)
 | ((fail_if_success (with_reducible first | apply Fin.mk | apply CallP.mk | apply LoopP.mk | apply VC.mk | apply falseMk | apply Round.mk | apply LookP.mk | apply RangeP.mk | apply NextP.mk | apply EntryP.mk | apply Eq.symm)); conv => whnf))
      all_goals refine VC.mk (congrArg Value.bool ?_)
      all_goals (simp [*])
    · have ht : l.take i = l := List.take_of_length_le (by omega)
      have hN : needV (fun s => decide (s ∈ l)) (s + 1) = needV (fun s => decide (s ∈ l)) s + (if decide ((s : Int) ∈ l.take i) then (if decide ((s : Int) - 1 ∈ l.take i) then 512 else 524) else 0) := by rw [ht]; rfl
      clear ht
      repeat' (first
 | (with_reducible first | exact True.intro | apply And.intro | apply If_true | apply If_false | apply If_not)
 | ((with_reducible apply VC.mk); (first | trivial | omega | (simp only [inR]; omega) | (exact ⟨rfl, List.prefix_rfl⟩) | (refine ⟨rfl, rfl, rfl, ?_, rfl⟩; (simp; done)) | (focus (repeat' (first | exact True.intro | apply And.intro | rfl | exact Nat.le_of_ble_eq_true rfl)); done) | (simp [inR, Cont.cells]; done) | (simp [inR, Cont.cells]; omega)))
 | ((with_reducible apply If_dec) <;> intro hc <;> (try (exfalso; omega)))
 | ((with_reducible apply If_any) <;> intro hc)
 | ((with_reducible first | apply PF.mk | apply DrawP.mk); (focus kernel_rfl))
 | ((with_reducible apply Same.mk); (focus rfl); (first | exact trivial | exact rfl))
 | (intro cap hcap)
 | ((fail_if_success (with_reducible first | apply Fin.mk | apply CallP.mk | apply LoopP.mk | apply VC.mk | apply falseMk | apply Round.mk | apply LookP.mk | apply RangeP.mk | apply NextP.mk | apply EntryP.mk | apply Eq.symm)); conv => whnf))
      all_goals refine Round.mk ⟨s + 1, by show s + 1 ≤ 80; omega, by show 80 - (s + 1) < 80 - s; omega, Fit.ren [] [] rfl rfl trivial trivial ?_⟩
      all_goals repeat' (first
 | (with_reducible first | exact True.intro | apply And.intro | apply If_true | apply If_false | apply If_not)
 | ((with_reducible apply VC.mk); (first | trivial | omega | (simp only [inR]; omega) | (exact ⟨rfl, List.prefix_rfl⟩) | (refine ⟨rfl, rfl, rfl, ?_, rfl⟩; (simp; done)) | (focus (repeat' (first | exact True.intro | apply And.intro | rfl | exact Nat.le_of_ble_eq_true rfl)); done) | (simp [inR, Cont.cells]; done) | (simp [inR, Cont.cells]; omega)))
 | ((with_reducible apply If_dec) <;> intro hc <;> (try (exfalso; omega)))
 | ((with_reducible apply If_any) <;> intro hc)
 | ((with_reducible first | apply PF.mk | apply DrawP.mk); (focus kernel_rfl))
 | ((with_reducible apply Same.mk); (focus rfl); (first | exact trivial | exact rfl))
 | (intro cap hcap)
 | ((fail_if_success (with_reducible first | apply Fin.mk | apply CallP.mk | apply LoopP.mk | apply VC.mk | apply falseMk | apply Round.mk | apply LookP.mk | apply RangeP.mk | apply NextP.mk | apply EntryP.mk | apply Eq.symm)); conv => whnf))
      all_goals refine VC.mk (congrArg (Value.int .i64) ?_)
      all_goals rw [hN]
      all_goals clear hN
      all_goals (generalize needV (fun s => decide (s ∈ l)) s = V at *)
      all_goals (simp [*])
      all_goals (try omega)
  · exact Fin.vl (hk _ (by rw [show s = 80 by omega]))
def needOk (x : List Int) : Prop := x.length ≤ 1099511627776
def needRel (x : List Int) (r : Int) : Prop := r = needV (fun s => decide (s ∈ x)) 80
theorem need_K : ConOk Go.Proofs.Try.prog 40 (Con.of (List Int) (Int) (fun x => [.im false 1 x.length (.ints .i64 x)]) (fun _ => []) needOk needRel (fun _ r => .v (.int .i64 r)) (fun _ _ => [])) := by
  refine conOk_rel (T := tab) mix Go.Proofs.Try.func40 (by decide +kernel) (by kernel_rfl) [] [] (fun n => by rw [Go.Proofs.Try.ntmps40]; exact Nat.le_of_ble_eq_true rfl) (fun x r _ _ => ⟨by simp [AV.noF, noFs, Cont.noF, recsC_noF], (fun c hc => by cases hc), Nat.le_refl _⟩) (fun x _ c hc => by cases hc) ?_
  intro x k h0 hk
  exact need_c x k h0 (fun r hr => hk r hr)
theorem need_at {avs : List AV} {H : List Chunk} {k : K} (l : List Int) (h0 : l.length ≤ 1099511627776) (ha : argsM H [] [.im false 1 l.length (.ints .i64 l)] avs) (hQ : ∀ r : Int, (r = needV (fun s => decide (s ∈ l)) 80) → k (.v (.int .i64 r)) H) : CallP Go.Proofs.Try.prog 40 avs H k :=
  CallP.mk ⟨_, need_K.real, Con.spec need_K, (l), [], ⟨h0, rfl, trivial, ha⟩, fun r hr => (numK_eq H.length (fun N => k (AV.ren (fren [] N) (.v (.int .i64 r))) (putAll H [] []))).mpr (by simpa [putAll, AV.ren, rens, Cont.ren, recsC, recAV] using hQ r hr)⟩
end Go.Proofs.Ytcfmlnddmpiemaa.Sx

