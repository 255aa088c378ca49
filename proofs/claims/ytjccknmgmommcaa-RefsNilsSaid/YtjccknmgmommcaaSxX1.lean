import Derived.Test.YtjccknmgmommcaaSxK1
set_option linter.unusedVariables false
set_option linter.unusedSimpArgs false
set_option maxRecDepth 10000
namespace Go.Proofs.Ytjccknmgmommcaa.Sx
open Go.RowKit Go.Proofs.Ytjccknmgmommcaa.Sx.Tb
/-! ### Changes -/
/-- What a record has of a sector over it. -/
def layR (at_ : Int) (l : List Int) (r : RecR) : List Int :=
  if max at_ r.1 < min (at_ + l.length) (r.1 + r.2.length) then putG l (max at_ r.1 - at_).toNat ((r.2.drop (max at_ r.1 - r.1).toNat).take (min (at_ + l.length) (r.1 + r.2.length) - max at_ r.1).toNat) else l
theorem tlay_c (l : List Int) (at_ : Int) (r : RecR) (k : K) (h0 : (l.length = 512 ∧ 0 ≤ at_ ∧ at_ ≤ 1099511627776) ∧ 0 ≤ r.1 ∧ r.1 ≤ 1099511627776 ∧ r.2.length ≤ 1099511627776) (hk : k (.tup []) [.blk 191 (.ints .u8 (layR at_ l r)) 512]) : evFunc tab [] p119 Go.Proofs.Try.f119 [.s 0 0 1 512 512, .v (.int .i64 at_), .agg [.v (.int .i64 r.1), .im true 1 r.2.length (.ints .u8 r.2)]] [.blk 191 (.ints .u8 l) 512] k := by
  repeat' (first
 | (with_reducible first | exact True.intro | apply And.intro | apply If_true | apply If_false | apply If_not)
 | ((with_reducible apply VC.mk); (first | trivial | omega | (simp only [inR]; omega) | (exact ⟨rfl, List.prefix_rfl⟩) | (refine ⟨rfl, rfl, rfl, ?_, rfl⟩; (simp; done)) | (focus (repeat' (first | exact True.intro | apply And.intro | rfl | exact Nat.le_of_ble_eq_true rfl)); done) | (simp [inR, Cont.cells]; done) | (simp [inR, Cont.cells]; omega)))
 | ((with_reducible apply If_dec) <;> intro hc <;> (try (exfalso; omega)))
 | ((with_reducible apply If_any) <;> intro hc)
 | ((with_reducible first | apply PF.mk | apply DrawP.mk); (focus kernel_rfl))
 | ((with_reducible apply Same.mk); (focus rfl); (first | exact trivial | exact rfl))
 | (intro cap hcap)
 | ((fail_if_success (with_reducible first | apply Fin.mk | apply CallP.mk | apply LoopP.mk | apply VC.mk | apply falseMk | apply Round.mk | apply LookP.mk | apply RangeP.mk | apply NextP.mk | apply EntryP.mk | apply Eq.symm)); conv => whnf))
  all_goals simp only [cond_true, cond_false] at *
  · exact VC.mk ⟨trivial, by omega, by omega, by omega⟩
  · exact VC.mk ⟨trivial, by omega, by omega, by omega⟩
  · exact VC.mk ⟨trivial, trivial, by omega⟩
  · generalize hF : max at_ r.1 = F at *
    generalize hT : min (at_ + (512 : Nat)) (r.1 + (r.2.length : Int)) = T at *
    refine Fin.ren [0] [] (.tup []) [.blk 191 (.ints .u8 (layR at_ l r)) 512] rfl rfl trivial ⟨⟨VC.mk ⟨rfl, rfl⟩, VC.mk ⟨rfl, ?_⟩⟩, trivial⟩ trivial hk
    have e1 : min (at_ + (l.length : Int)) (r.1 + (r.2.length : Int)) = T := by rw [h0.1.1]; exact hT
    have e2 : (T - at_).toNat - (F - at_).toNat = (T - F).toNat := by omega
    have e3 : min (r.2.length - (F - r.1).toNat) (T - F).toNat = (T - F).toNat := by omega
    have e4 : ((r.2.drop (F - r.1).toNat).take (T - F).toNat).length = (T - F).toNat := by rw [List.length_take, List.length_drop]; omega
    have e5 : layR at_ l r = l.take (F - at_).toNat ++ ((r.2.drop (F - r.1).toNat).take (T - F).toNat ++ l.drop ((F - at_).toNat + (T - F).toNat)) := by
      unfold layR
      rw [hF, e1, if_pos hc]
      unfold putG
      rw [e4]
    rw [e5, e2, e3, List.take_take, show min (T - F).toNat (r.2.length - (F - r.1).toNat) = (T - F).toNat by omega, Nat.zero_add, List.append_assoc]
    exact List.prefix_rfl
  · have e5 : layR at_ l r = l := by
      unfold layR
      rw [h0.1.1, if_neg hc]
    rw [e5] at hk
    exact Fin.ren [0] [] (.tup []) [.blk 191 (.ints .u8 l) 512] rfl rfl trivial ⟨⟨VC.mk ⟨rfl, rfl⟩, VC.mk ⟨rfl, List.prefix_rfl⟩⟩, trivial⟩ trivial hk
theorem tlay_K : ConOk Go.Proofs.Try.prog 119 (Con.of (List Int × Int × RecR) Unit (fun x => [.s 0 0 1 512 512, .v (.int .i64 x.2.1), .agg [.v (.int .i64 x.2.2.1), .im true 1 x.2.2.2.length (.ints .u8 x.2.2.2)]]) (fun x => [.blk 191 (.ints .u8 x.1) 512]) (fun x => (x.1.length = 512 ∧ 0 ≤ x.2.1 ∧ x.2.1 ≤ 1099511627776) ∧ 0 ≤ x.2.2.1 ∧ x.2.2.1 ≤ 1099511627776 ∧ x.2.2.2.length ≤ 1099511627776) (fun _ _ => True) (fun _ _ => .tup []) (fun x _ => [.blk 191 (.ints .u8 (layR x.2.1 x.1 x.2.2)) 512])) :=
  conOk_rel (T := tab) mix Go.Proofs.Try.func119 (by decide +kernel) (by kernel_rfl) [] p119 (fun n => by rw [Go.Proofs.Try.ntmps119]; exact Nat.le_of_ble_eq_true rfl) (fun n _ _ _ => ⟨trivial, (fun c hc => by simp at hc; subst hc; exact .blk trivial), Nat.le_refl _⟩) (fun n _ c hc => by simp at hc; subst hc; trivial) (fun x k h0 hk => tlay_c x.1 x.2.1 x.2.2 k h0 (hk () trivial))
theorem tlay_at {avs : List AV} {H : List Chunk} {k : K} (l : List Int) (at_ : Int) (r : RecR) (i : Nat) (h0 : (l.length = 512 ∧ 0 ≤ at_ ∧ at_ ≤ 1099511627776) ∧ 0 ≤ r.1 ∧ r.1 ≤ 1099511627776 ∧ r.2.length ≤ 1099511627776) (hc : nth H i = some (.blk 191 (.ints .u8 l) 512)) (ha : argsM H [i] [.s 0 0 1 512 512, .v (.int .i64 at_), .agg [.v (.int .i64 r.1), .im true 1 r.2.length (.ints .u8 r.2)]] avs)
    (h : k (.tup []) (H.set i (.blk 191 (.ints .u8 (layR at_ l r)) 512))) : CallP Go.Proofs.Try.prog 119 avs H k :=
  CallP.mk ⟨_, tlay_K.real, Con.spec tlay_K, (l, at_, r), [i], ⟨h0, rfl, ⟨hc, trivial⟩, ha⟩, fun _ _ => (numK_eq _ _).mpr (by simpa [putAll, AV.ren, rens, Chunk.ren, Cont.ren] using h)⟩
/-! ### The state of changes -/
structure TR where
  dirty : List (Int × List Int)
  fresh : List RecR
  cap : Nat
  over : Bool
def TR.c0 (t : TR) (j m f : Nat) : Chunk := .blk 170 (.lst [.p j 0 1 0, .m m, .s f 0 2 t.fresh.length t.cap, .v (.bool t.over)]) 4
def TR.c1 (t : TR) : Chunk := .mp (t.dirty.map (fun x => (x.1, AV.arr .u8 x.2))) none
def TR.c2 (t : TR) : Chunk := .blk 174 (recsC true t.fresh) (t.cap * 2)
def lkS (n : Int) : List (Int × List Int) → Option (List Int)
  | [] => none
  | (a, v) :: r => if a = n then some v else lkS n r
def upS (n : Int) (v : List Int) : List (Int × List Int) → List (Int × List Int)
  | [] => [(n, v)]
  | (a, u) :: r => if a = n then (a, v) :: r else (a, u) :: upS n v r
theorem lkm_map (n : Int) : ∀ (d : List (Int × List Int)), lkm n (d.map (fun x => (x.1, AV.arr .u8 x.2))) = (lkS n d).map (AV.arr .u8)
  | [] => rfl
  | (a, v) :: r => by
    show (if a = n then _ else _) = _
    unfold lkS
    by_cases h : a = n
    · rw [if_pos h, if_pos h]; rfl
    · rw [if_neg h, if_neg h]; exact lkm_map n r
theorem upm_map (n : Int) (v : List Int) : ∀ (d : List (Int × List Int)), upm n (.arr .u8 v) (d.map (fun x => (x.1, AV.arr .u8 x.2))) = (upS n v d).map (fun x => (x.1, AV.arr .u8 x.2))
  | [] => rfl
  | (a, u) :: r => by
    show (if a = n then _ else _) = _
    unfold upS
    by_cases h : a = n
    · rw [if_pos h, if_pos h]; rfl
    · rw [if_neg h, if_neg h]
      show _ :: upm n _ (r.map _) = _
      rw [upm_map n v r]; rfl
def padS (l : List Int) : List Int := l ++ List.replicate (512 - l.length) 0
def secF (now : List Int) (n : Int) : List Int := padS ((now.drop (512 * n).toNat).take 512)
def TR.sec (t : TR) (now : List Int) (n : Int) : List Int :=
  match lkS n t.dirty with
  | some l => l
  | none => t.fresh.foldl (layR (512 * n)) (secF now n)
structure TR.Ok (t : TR) : Prop where
  sec : ∀ x ∈ t.dirty, x.2.length = 512
  frs : ∀ r ∈ t.fresh, 0 ≤ r.1 ∧ r.1 ≤ 4194304 ∧ r.2.length ≤ 4194304
  cap : t.fresh.length ≤ t.cap
  len : t.fresh.length ≤ 1073741824
def tpre (t : TR) (j : JR) (s : DF) : List Chunk := [t.c0 3 1 2, t.c1, t.c2, j.blk 4, s.pk]
theorem layR_length (at_ : Int) (l : List Int) (r : RecR) (hl : l.length = 512) (h0 : 0 ≤ at_) : (layR at_ l r).length = 512 := by
  unfold layR
  split
  · rename_i h
    rw [putG_length (by omega), List.length_take, List.length_drop]
    omega
  · exact hl
theorem secF_length (now : List Int) (n : Int) : (secF now n).length = 512 := by
  unfold secF padS
  rw [List.length_append, List.length_replicate, List.length_take]
  omega
theorem lays_length (at_ : Int) (h0 : 0 ≤ at_) : ∀ (rs : List RecR) (l : List Int), l.length = 512 → (rs.foldl (layR at_) l).length = 512
  | [], l, h => h
  | r :: rs, l, h => lays_length at_ h0 rs _ (layR_length at_ l r h h0)
theorem lkS_mem {n : Int} : ∀ {d : List (Int × List Int)} {l : List Int}, lkS n d = some l → (n, l) ∈ d
  | [], _, h => by cases h
  | (a, v) :: r, l, h => by
    unfold lkS at h
    split at h
    · rename_i e; cases h; subst e; exact List.mem_cons_self ..
    · exact List.mem_cons_of_mem _ (lkS_mem h)
theorem TR.Ok.sec_length {t : TR} (h : t.Ok) (now : List Int) (n : Int) (h0 : 0 ≤ n) : (t.sec now n).length = 512 := by
  unfold TR.sec
  split
  · rename_i l hl; exact h.sec _ (lkS_mem hl)
  · exact lays_length _ (by omega) _ _ (secF_length now n)
theorem arr_les {H : List Chunk} {fz : List Nat} {f : Nat → Nat} {ph : Nat → Bool} : ∀ (d : List (Int × List Int)), les H fz f ph ((d.map (fun x => (x.1, AV.arr .u8 x.2))).map (fun x => x.2)) ((d.map (fun x => (x.1, AV.arr .u8 x.2))).map (fun x => x.2))
  | [] => trivial
  | x :: r => ⟨VC.mk ⟨rfl, rfl⟩, arr_les r⟩
theorem arr_noF : ∀ (d : List (Int × List Int)), noFs ((d.map (fun x => (x.1, AV.arr .u8 x.2))).map (fun x => x.2))
  | [] => trivial
  | x :: r => ⟨trivial, arr_noF r⟩
theorem recs_les {H : List Chunk} {fz : List Nat} {f : Nat → Nat} {ph : Nat → Bool} (r : RecR) : les H fz f ph (recAV true r) (recAV true r) := ⟨VC.mk rfl, ⟨VC.mk ⟨rfl, rfl, rfl⟩, VC.mk ⟨rfl, rfl⟩⟩, trivial⟩
theorem T5.le {H : List Chunk} {fz : List Nat} {f : Nat → Nat} {ph : Nat → Bool} {t : TR} {j : JR} {s : DF} (f1 : f 1 = 1) (f2 : f 2 = 2) (f3 : f 3 = 3) (f4 : f 4 = 4) (h : 5 ≤ H.length) (h0 : nth H 0 = some (t.c0 3 1 2)) (h1 : nth H 1 = some t.c1) (h2 : nth H 2 = some t.c2) (h3 : nth H 3 = some (j.blk 4)) (h4 : nth H 4 = some s.pk) (hz : memN 0 fz = false ∧ memN 1 fz = false ∧ memN 2 fz = false ∧ memN 3 fz = false ∧ memN 4 fz = false := by exact ⟨rfl, rfl, rfl, rfl, rfl⟩) : chunksLe H fz f ph [0, 1, 2, 3, 4] (tpre t j s) := by
  refine ⟨?_, ?_, ?_, ?_, ?_, trivial⟩
  · unfold Chunk.le TR.c0
    simp only
    rw [show Nat.blt 0 H.length = true by rw [Nat.blt_eq]; omega, hz.1, h0]
    exact ⟨VC.mk ⟨rfl, rfl⟩, VC.mk ⟨f3, rfl, rfl, rfl⟩, VC.mk f1, VC.mk ⟨f2, rfl, rfl, rfl, rfl⟩, VC.mk rfl, trivial⟩
  · unfold Chunk.le TR.c1
    simp only
    rw [show Nat.blt 1 H.length = true by rw [Nat.blt_eq]; omega, hz.2.1, h1]
    exact ⟨VC.mk ⟨rfl, .inl trivial⟩, arr_les t.dirty⟩
  · unfold Chunk.le TR.c2
    simp only
    rw [show Nat.blt 2 H.length = true by rw [Nat.blt_eq]; omega, hz.2.2.1, h2]
    exact ⟨VC.mk ⟨rfl, rfl⟩, VC.mk ⟨rfl, Nat.le_refl _⟩, fun j _ => recs_les _⟩
  · unfold Chunk.le JR.blk
    simp only
    rw [show Nat.blt 3 H.length = true by rw [Nat.blt_eq]; omega, hz.2.2.2.1, h3]
    exact ⟨VC.mk ⟨rfl, rfl⟩, VC.mk ⟨f4, rfl, rfl, rfl⟩, VC.mk rfl, VC.mk rfl, VC.mk rfl, trivial⟩
  · unfold Chunk.le DF.pk
    simp only
    rw [show Nat.blt 4 H.length = true by rw [Nat.blt_eq]; omega, hz.2.2.2.2, h4]
    exact VC.mk ⟨rfl, rfl, rfl, rfl⟩
theorem T5.leX {H : List Chunk} {f : Nat → Nat} {ph : Nat → Bool} {t : TR} {j : JR} {s : DF} {σ : List Nat} {cs : List Chunk} (f1 : f 1 = 1) (f2 : f 2 = 2) (f3 : f 3 = 3) (f4 : f 4 = 4) (h : Nat.ble 5 H.length = true) (h0 : nth H 0 = some (t.c0 3 1 2)) (h1 : nth H 1 = some t.c1) (h2 : nth H 2 = some t.c2) (h3 : nth H 3 = some (j.blk 4)) (h4 : nth H 4 = some s.pk) (hx : chunksLe H [] f ph σ cs) : chunksLe H [] f ph (0 :: 1 :: 2 :: 3 :: 4 :: σ) (tpre t j s ++ cs) := by
  have T := T5.le (fz := []) (ph := ph) f1 f2 f3 f4 (Nat.le_of_ble_eq_true h) h0 h1 h2 h3 h4
  exact ⟨T.1, T.2.1, T.2.2.1, T.2.2.2.1, T.2.2.2.2.1, hx⟩
theorem fix5 {N : Nat} {σ : List Nat} : ∀ i, i < 5 → fren (0 :: 1 :: 2 :: 3 :: 4 :: σ) N i = i := fun i hi => by
  match i, hi with
  | 0, _ => rfl
  | 1, _ => rfl
  | 2, _ => rfl
  | 3, _ => rfl
  | 4, _ => rfl
theorem T5.fin {H : List Chunk} {t : TR} {j : JR} {s : DF} {v : AV} {k : K} (h : Nat.ble 5 H.length = true) (h0 : nth H 0 = some (t.c0 3 1 2)) (h1 : nth H 1 = some t.c1) (h2 : nth H 2 = some t.c2) (h3 : nth H 3 = some (j.blk 4)) (h4 : nth H 4 = some s.pk) (hk : k v (tpre t j s)) (hv : v.inN 5 := by simp [AV.inN, inNs, Cont.inN]) : Fin 5 v H k :=
  Fin.ren [0, 1, 2, 3, 4] [] v (tpre t j s) rfl rfl trivial (T5.le rfl rfl rfl rfl (Nat.le_of_ble_eq_true h) h0 h1 h2 h3 h4) (AV.le_refl fix5 hv) hk
theorem T5.good {t : TR} {j : JR} {s : DF} {v : AV} (h : v.noF) : Good 5 v (tpre t j s) := by
  refine ⟨h, fun c hc => ?_, Nat.le_refl _⟩
  simp [tpre] at hc
  rcases hc with rfl | rfl | rfl | rfl | rfl
  · exact .blk ⟨trivial, trivial, trivial, trivial, trivial⟩
  · exact .mp (arr_noF t.dirty)
  · exact .blk (recsC_noF _)
  · exact j.noF _
  · exact s.pk_noF
theorem T5.nd {t : TR} {j : JR} {s : DF} : ∀ c ∈ tpre t j s, c.lives := by
  intro c hc
  simp [tpre] at hc
  rcases hc with rfl | rfl | rfl | rfl | rfl <;> trivial
theorem secF_read {now l z : List Int} {n : Int} (hl : l = (now.drop (n * 512).toNat).take (min ((now.length : Int) - n * 512) 512).toNat) (hz : z = List.replicate 512 0) (h0 : 0 ≤ n) (h : 0 < min ((now.length : Int) - n * 512) 512) : secF now n = List.take (Int.toNat 0) z ++ List.take (min l.length (512 - Int.toNat 0)) l ++ List.drop (Int.toNat 0 + min l.length (512 - Int.toNat 0)) z := by
  have hll : l.length = (min ((now.length : Int) - n * 512) 512).toNat := by rw [hl, List.length_take, List.length_drop]; omega
  have e1 : (now.drop (512 * n).toNat).take 512 = l := by
    rw [hl, Int.mul_comm]
    rcases (by omega : (min ((now.length : Int) - n * 512) 512).toNat = 512 ∨ ((now.drop (n * 512).toNat).length ≤ (min ((now.length : Int) - n * 512) 512).toNat ∧ (now.drop (n * 512).toNat).length ≤ 512) ∨ ¬ (now.drop (n * 512).toNat).length ≤ (min ((now.length : Int) - n * 512) 512).toNat ∧ (min ((now.length : Int) - n * 512) 512).toNat ≠ 512 ∨ 512 < (now.drop (n * 512).toNat).length ∧ (min ((now.length : Int) - n * 512) 512).toNat ≠ 512) with h | h | h | h
    · rw [h]
    · rw [List.take_of_length_le h.1, List.take_of_length_le h.2]
    · rw [List.length_drop] at h; omega
    · rw [List.length_drop] at h; omega
  unfold secF padS
  rw [e1, show Int.toNat 0 = 0 from rfl, List.take_zero, List.nil_append, show min l.length (512 - 0) = l.length by omega, List.take_of_length_le (Nat.le_refl _), hz, List.drop_replicate, Nat.zero_add]
theorem secF_none {now z : List Int} {n : Int} (hz : z = List.replicate 512 0) (h0 : 0 ≤ n) (h : ¬ 0 < min ((now.length : Int) - n * 512) 512) : secF now n = z := by
  unfold secF padS
  rw [List.drop_eq_nil_of_le (by omega), List.take_nil, hz]
  rfl
set_option maxHeartbeats 16000000 in
theorem load_c (t : TR) (j : JR) (s : DF) (n : Int) (k : K) (h0 : t.Ok ∧ s.live ∧ (0 ≤ n ∧ n ≤ 1073741824) ∧ 0 ≤ s.ops ∧ s.ops ≤ 549755813888 ∧ s.now.length ≤ 4194304) (hk : ∀ x : List Int × DF, (x.1 = t.sec s.now n ∧ (x.2 = s ∨ x.2 = s.asked)) → k (.tup [.arr .u8 x.1, .v (.int .i64 0)]) (tpre t j x.2)) : evFunc tab [] p118 Go.Proofs.Try.f118 [.p 0 0 1 0, .v (.int .i64 n)] (tpre t j s) k := by
  obtain ⟨h1, h2, h3, h4, h5, h6⟩ := h0
  have fin : ∀ (l : List Int) (s' : DF) (H : List Chunk), l = t.sec s.now n → (s' = s ∨ s' = s.asked) → Nat.ble 5 H.length = true → nth H 0 = some (t.c0 3 1 2) → nth H 1 = some t.c1 → nth H 2 = some t.c2 → nth H 3 = some (j.blk 4) → nth H 4 = some s'.pk → Fin 5 (.tup [.arr .u8 l, .v (.int .i64 0)]) H k := by
    intro l s' H q1 q2 q3 q4 q5 q6 q7 q8
    exact T5.fin q3 q4 q5 q6 q7 q8 (hk (l, s') ⟨q1, q2⟩)
  repeat' (first
 | (with_reducible first | exact True.intro | apply And.intro | apply If_true | apply If_false | apply If_not)
 | ((with_reducible apply VC.mk); (first | trivial | omega | (simp only [inR]; omega) | (exact ⟨rfl, List.prefix_rfl⟩) | (refine ⟨rfl, rfl, rfl, ?_, rfl⟩; (simp; done)) | (focus (repeat' (first | exact True.intro | apply And.intro | rfl | exact Nat.le_of_ble_eq_true rfl)); done) | (simp [inR, Cont.cells]; done) | (simp [inR, Cont.cells]; omega)))
 | ((with_reducible apply If_dec) <;> intro hc <;> (try (exfalso; omega)))
 | ((with_reducible apply If_any) <;> intro hc)
 | ((with_reducible first | apply PF.mk | apply DrawP.mk); (focus kernel_rfl))
 | ((with_reducible apply Same.mk); (focus rfl); (first | exact trivial | exact rfl))
 | (intro cap hcap)
 | ((fail_if_success (with_reducible first | apply Fin.mk | apply CallP.mk | apply LoopP.mk | apply VC.mk | apply falseMk | apply Round.mk | apply LookP.mk | apply RangeP.mk | apply NextP.mk | apply EntryP.mk | apply Eq.symm)); conv => whnf))
  refine LookP.mk (fun v hv => ?_) (fun hn => ?_)
  · rw [lkm_map] at hv
    obtain ⟨l, hl, rfl⟩ : ∃ l, lkS n t.dirty = some l ∧ AV.arr .u8 l = v := by
      cases hq : lkS n t.dirty with
      | none => rw [hq] at hv; cases hv
      | some l => rw [hq] at hv; exact ⟨l, rfl, by simpa using hv⟩
    have hll := h1.sec _ (lkS_mem hl)
    have hl2 : l.length = 512 := hll
    have hs : l = t.sec s.now n := by unfold TR.sec; rw [hl]
    repeat' (first
 | (with_reducible first | exact True.intro | apply And.intro | apply If_true | apply If_false | apply If_not)
 | ((with_reducible apply VC.mk); (first | trivial | omega | (simp only [inR]; omega) | (exact ⟨rfl, List.prefix_rfl⟩) | (refine ⟨rfl, rfl, rfl, ?_, rfl⟩; (simp; done)) | (focus (repeat' (first | exact True.intro | apply And.intro | rfl | exact Nat.le_of_ble_eq_true rfl)); done) | (simp [inR, Cont.cells]; done) | (simp [inR, Cont.cells]; omega)))
 | ((with_reducible apply If_dec) <;> intro hc <;> (try (exfalso; omega)))
 | ((with_reducible apply If_any) <;> intro hc)
 | ((with_reducible first | apply PF.mk | apply DrawP.mk); (focus kernel_rfl))
 | ((with_reducible apply Same.mk); (focus rfl); (first | exact trivial | exact rfl))
 | (intro cap hcap)
 | ((fail_if_success (with_reducible first | apply Fin.mk | apply CallP.mk | apply LoopP.mk | apply VC.mk | apply falseMk | apply Round.mk | apply LookP.mk | apply RangeP.mk | apply NextP.mk | apply EntryP.mk | apply Eq.symm)); conv => whnf))
    have e : List.take 512 (List.drop (0 * 1 + 0) (List.take 512 (List.drop (0 * 1 + 0) l))) = l := by simp [List.take_of_length_le, hl2]
    rw [e]
    exact fin l s _ hs (.inl rfl) rfl rfl rfl rfl rfl rfl
  · rw [lkm_map] at hn
    have hn0 : lkS n t.dirty = none := by
      cases hq : lkS n t.dirty with
      | none => rfl
      | some l => rw [hq] at hn; cases hn
    have hsec : t.sec s.now n = t.fresh.foldl (layR (512 * n)) (secF s.now n) := by unfold TR.sec; rw [hn0]
    obtain ⟨z, hz⟩ : ∃ z : List Int, z = List.replicate 512 0 := ⟨_, rfl⟩
    have hzl : z.length = 512 := by rw [hz]; exact List.length_replicate ..
    repeat' (first
 | (with_reducible first | exact True.intro | apply And.intro | apply If_true | apply If_false | apply If_not)
 | ((with_reducible apply VC.mk); (first | trivial | omega | (simp only [inR]; omega) | (exact ⟨rfl, List.prefix_rfl⟩) | (refine ⟨rfl, rfl, rfl, ?_, rfl⟩; (simp; done)) | (focus (repeat' (first | exact True.intro | apply And.intro | rfl | exact Nat.le_of_ble_eq_true rfl)); done) | (simp [inR, Cont.cells]; done) | (simp [inR, Cont.cells]; omega)))
 | ((with_reducible apply If_dec) <;> intro hc <;> (try (exfalso; omega)))
 | ((with_reducible apply If_any) <;> intro hc)
 | ((with_reducible first | apply PF.mk | apply DrawP.mk); (focus kernel_rfl))
 | ((with_reducible apply Same.mk); (focus rfl); (first | exact trivial | exact rfl))
 | (intro cap hcap)
 | ((fail_if_success (with_reducible first | apply Fin.mk | apply CallP.mk | apply LoopP.mk | apply VC.mk | apply falseMk | apply Round.mk | apply LookP.mk | apply RangeP.mk | apply NextP.mk | apply EntryP.mk | apply Eq.symm)); conv => whnf))
    rw [← hz]
    refine len_at s 4 (by omega) rfl ⟨rfl, trivial⟩ (fun _ => ?_)
    repeat' (first
 | (with_reducible first | exact True.intro | apply And.intro | apply If_true | apply If_false | apply If_not)
 | ((with_reducible apply VC.mk); (first | trivial | omega | (simp only [inR]; omega) | (exact ⟨rfl, List.prefix_rfl⟩) | (refine ⟨rfl, rfl, rfl, ?_, rfl⟩; (simp; done)) | (focus (repeat' (first | exact True.intro | apply And.intro | rfl | exact Nat.le_of_ble_eq_true rfl)); done) | (simp [inR, Cont.cells]; done) | (simp [inR, Cont.cells]; omega)))
 | ((with_reducible apply If_dec) <;> intro hc <;> (try (exfalso; omega)))
 | ((with_reducible apply If_any) <;> intro hc)
 | ((with_reducible first | apply PF.mk | apply DrawP.mk); (focus kernel_rfl))
 | ((with_reducible apply Same.mk); (focus rfl); (first | exact trivial | exact rfl))
 | (intro cap hcap)
 | ((fail_if_success (with_reducible first | apply Fin.mk | apply CallP.mk | apply LoopP.mk | apply VC.mk | apply falseMk | apply Round.mk | apply LookP.mk | apply RangeP.mk | apply NextP.mk | apply EntryP.mk | apply Eq.symm)); conv => whnf))
    all_goals (try simp only [cond_true, cond_false] at *)
    · have hnr : ¬ s.refused := h2.not
      refine read_at s (n * 512) (min ((s.now.length : Int) - n * 512) 512) 4 ⟨h4, by omega, h6⟩ rfl ⟨rfl, rfl, rfl, trivial⟩ ?_
      intro r l hr
      have hr2 : r = 0 ∧ l = (s.now.drop (n * 512).toNat).take (min ((s.now.length : Int) - n * 512) 512).toNat := by
        rcases hr with ⟨_, g, _⟩ | ⟨_, _, g, _⟩ | ⟨g, _, _, _, _, _, g2⟩
        · exact absurd g hnr
        · exact absurd ⟨by omega, by omega, by omega, by omega⟩ g
        · exact ⟨g, g2⟩
      obtain ⟨rfl, hl⟩ := hr2
      clear hr
      repeat' (first
 | (with_reducible first | exact True.intro | apply And.intro | apply If_true | apply If_false | apply If_not)
 | ((with_reducible apply VC.mk); (first | trivial | omega | (simp only [inR]; omega) | (exact ⟨rfl, List.prefix_rfl⟩) | (refine ⟨rfl, rfl, rfl, ?_, rfl⟩; (simp; done)) | (focus (repeat' (first | exact True.intro | apply And.intro | rfl | exact Nat.le_of_ble_eq_true rfl)); done) | (simp [inR, Cont.cells]; done) | (simp [inR, Cont.cells]; omega)))
 | ((with_reducible apply If_dec) <;> intro hc <;> (try (exfalso; omega)))
 | ((with_reducible apply If_any) <;> intro hc)
 | ((with_reducible first | apply PF.mk | apply DrawP.mk); (focus kernel_rfl))
 | ((with_reducible apply Same.mk); (focus rfl); (first | exact trivial | exact rfl))
 | (intro cap hcap)
 | ((fail_if_success (with_reducible first | apply Fin.mk | apply CallP.mk | apply LoopP.mk | apply VC.mk | apply falseMk | apply Round.mk | apply LookP.mk | apply RangeP.mk | apply NextP.mk | apply EntryP.mk | apply Eq.symm)); conv => whnf))
      refine LoopP.mk ⟨Nat × List Int, fun y => y.1 ≤ t.fresh.length ∧ y.2 = (t.fresh.take y.1).foldl (layR (512 * n)) (secF s.now n), fun y => ([(4, .p 5 0 1 0), (8, .p 6 0 1 0), (9, .v (.int .i64 (n * 512))), (64, .s 2 0 2 t.fresh.length t.cap), (65, .v (.int .i64 t.fresh.length)), (66, .v (.int .i64 y.1))], tpre t j (s.asked) ++ [.blk 191 (.ints .u8 z) 512, .blk 191 (.ints .u8 y.2) 512]), fun y => t.fresh.length - y.1, (0, secF s.now n), ⟨Nat.zero_le _, rfl⟩, Fit.ren [0, 1, 2, 3, 4, 5, 7] [] rfl rfl trivial ?_ ?_, ?_⟩
      · refine T5.leX rfl rfl rfl rfl rfl rfl rfl rfl rfl rfl ⟨⟨VC.mk ⟨rfl, rfl⟩, VC.mk ⟨rfl, List.prefix_rfl⟩⟩, ⟨VC.mk ⟨rfl, rfl⟩, VC.mk ⟨rfl, ?_⟩⟩, trivial⟩
        rw [show ((0, secF s.now n) : Nat × List Int).2 = secF s.now n from rfl, secF_read hl hz h3.1 (by assumption)]
        exact List.prefix_rfl
      · repeat' (first
 | (with_reducible first | exact True.intro | apply And.intro | apply If_true | apply If_false | apply If_not)
 | ((with_reducible apply VC.mk); (first | trivial | omega | (simp only [inR]; omega) | (exact ⟨rfl, List.prefix_rfl⟩) | (refine ⟨rfl, rfl, rfl, ?_, rfl⟩; (simp; done)) | (focus (repeat' (first | exact True.intro | apply And.intro | rfl | exact Nat.le_of_ble_eq_true rfl)); done) | (simp [inR, Cont.cells]; done) | (simp [inR, Cont.cells]; omega)))
 | ((with_reducible apply If_dec) <;> intro hc <;> (try (exfalso; omega)))
 | ((with_reducible apply If_any) <;> intro hc)
 | ((with_reducible first | apply PF.mk | apply DrawP.mk); (focus kernel_rfl))
 | ((with_reducible apply Same.mk); (focus rfl); (first | exact trivial | exact rfl))
 | (intro cap hcap)
 | ((fail_if_success (with_reducible first | apply Fin.mk | apply CallP.mk | apply LoopP.mk | apply VC.mk | apply falseMk | apply Round.mk | apply LookP.mk | apply RangeP.mk | apply NextP.mk | apply EntryP.mk | apply Eq.symm)); conv => whnf))
      · intro y hy
        obtain ⟨g1, g2⟩ := hy
        have e : ((y.1 : Nat) : Int).toNat = y.1 := Int.toNat_natCast _
        have g3 : y.2.length = 512 := by rw [g2]; exact lays_length _ (by omega) _ _ (secF_length _ _)
        by_cases hlt : y.1 < t.fresh.length
        · have hm : t.fresh.getD y.1 (0, []) ∈ t.fresh := by
            rw [show t.fresh.getD y.1 (0, []) = t.fresh[y.1] by simp [List.getD_eq_getElem?_getD, hlt]]; exact List.getElem_mem hlt
          have hok := h1.frs _ hm
          have hcl := h1.len
          have htk : t.fresh.take (y.1 + 1) = t.fresh.take y.1 ++ [t.fresh.getD y.1 (0, [])] := by
            rw [List.take_add_one, List.getElem?_eq_getElem hlt, List.getD_eq_getElem?_getD, List.getElem?_eq_getElem hlt]; rfl
          repeat' (first
 | (with_reducible first | exact True.intro | apply And.intro | apply If_true | apply If_false | apply If_not)
 | ((with_reducible apply VC.mk); (first | trivial | omega | (simp only [inR]; omega) | (exact ⟨rfl, List.prefix_rfl⟩) | (refine ⟨rfl, rfl, rfl, ?_, rfl⟩; (simp; done)) | (focus (repeat' (first | exact True.intro | apply And.intro | rfl | exact Nat.le_of_ble_eq_true rfl)); done) | (simp [inR, Cont.cells]; done) | (simp [inR, Cont.cells]; omega)))
 | ((with_reducible apply If_dec) <;> intro hc <;> (try (exfalso; omega)))
 | ((with_reducible apply If_any) <;> intro hc)
 | ((with_reducible first | apply PF.mk | apply DrawP.mk); (focus kernel_rfl))
 | ((with_reducible apply Same.mk); (focus rfl); (first | exact trivial | exact rfl))
 | (intro cap hcap)
 | ((fail_if_success (with_reducible first | apply Fin.mk | apply CallP.mk | apply LoopP.mk | apply VC.mk | apply falseMk | apply Round.mk | apply LookP.mk | apply RangeP.mk | apply NextP.mk | apply EntryP.mk | apply Eq.symm)); conv => whnf))
          simp only [e, Nat.zero_add]
          refine tlay_at y.2 (n * 512) (t.fresh.getD y.1 (0, [])) 6 ⟨⟨g3, by omega, by omega⟩, hok.1, by omega, by omega⟩ rfl ⟨rfl, rfl, ⟨rfl, rfl, trivial⟩, trivial⟩ ?_
          repeat' (first
 | (with_reducible first | exact True.intro | apply And.intro | apply If_true | apply If_false | apply If_not)
 | ((with_reducible apply VC.mk); (first | trivial | omega | (simp only [inR]; omega) | (exact ⟨rfl, List.prefix_rfl⟩) | (refine ⟨rfl, rfl, rfl, ?_, rfl⟩; (simp; done)) | (focus (repeat' (first | exact True.intro | apply And.intro | rfl | exact Nat.le_of_ble_eq_true rfl)); done) | (simp [inR, Cont.cells]; done) | (simp [inR, Cont.cells]; omega)))
 | ((with_reducible apply If_dec) <;> intro hc <;> (try (exfalso; omega)))
 | ((with_reducible apply If_any) <;> intro hc)
 | ((with_reducible first | apply PF.mk | apply DrawP.mk); (focus kernel_rfl))
 | ((with_reducible apply Same.mk); (focus rfl); (first | exact trivial | exact rfl))
 | (intro cap hcap)
 | ((fail_if_success (with_reducible first | apply Fin.mk | apply CallP.mk | apply LoopP.mk | apply VC.mk | apply falseMk | apply Round.mk | apply LookP.mk | apply RangeP.mk | apply NextP.mk | apply EntryP.mk | apply Eq.symm)); conv => whnf))
          refine Round.mk ⟨(y.1 + 1, layR (n * 512) y.2 (t.fresh.getD y.1 (0, []))), ⟨by show y.1 + 1 ≤ _; omega, ?_⟩, by show t.fresh.length - (y.1 + 1) < t.fresh.length - y.1; omega, Fit.ren [0, 1, 2, 3, 4, 5, 6] [] rfl rfl trivial ?_ ?_⟩
          · show _ = List.foldl _ _ (t.fresh.take (y.1 + 1))
            rw [htk, List.foldl_append, ← g2, Int.mul_comm]; rfl
          · exact T5.leX rfl rfl rfl rfl rfl rfl rfl rfl rfl rfl ⟨⟨VC.mk ⟨rfl, rfl⟩, VC.mk ⟨rfl, List.prefix_rfl⟩⟩, ⟨VC.mk ⟨rfl, rfl⟩, VC.mk ⟨rfl, List.prefix_rfl⟩⟩, trivial⟩
          · repeat' (first
 | (with_reducible first | exact True.intro | apply And.intro | apply If_true | apply If_false | apply If_not)
 | ((with_reducible apply VC.mk); (first | trivial | omega | (simp only [inR]; omega) | (exact ⟨rfl, List.prefix_rfl⟩) | (refine ⟨rfl, rfl, rfl, ?_, rfl⟩; (simp; done)) | (focus (repeat' (first | exact True.intro | apply And.intro | rfl | exact Nat.le_of_ble_eq_true rfl)); done) | (simp [inR, Cont.cells]; done) | (simp [inR, Cont.cells]; omega)))
 | ((with_reducible apply If_dec) <;> intro hc <;> (try (exfalso; omega)))
 | ((with_reducible apply If_any) <;> intro hc)
 | ((with_reducible first | apply PF.mk | apply DrawP.mk); (focus kernel_rfl))
 | ((with_reducible apply Same.mk); (focus rfl); (first | exact trivial | exact rfl))
 | (intro cap hcap)
 | ((fail_if_success (with_reducible first | apply Fin.mk | apply CallP.mk | apply LoopP.mk | apply VC.mk | apply falseMk | apply Round.mk | apply LookP.mk | apply RangeP.mk | apply NextP.mk | apply EntryP.mk | apply Eq.symm)); conv => whnf))
        · repeat' (first
 | (with_reducible first | exact True.intro | apply And.intro | apply If_true | apply If_false | apply If_not)
 | ((with_reducible apply VC.mk); (first | trivial | omega | (simp only [inR]; omega) | (exact ⟨rfl, List.prefix_rfl⟩) | (refine ⟨rfl, rfl, rfl, ?_, rfl⟩; (simp; done)) | (focus (repeat' (first | exact True.intro | apply And.intro | rfl | exact Nat.le_of_ble_eq_true rfl)); done) | (simp [inR, Cont.cells]; done) | (simp [inR, Cont.cells]; omega)))
 | ((with_reducible apply If_dec) <;> intro hc <;> (try (exfalso; omega)))
 | ((with_reducible apply If_any) <;> intro hc)
 | ((with_reducible first | apply PF.mk | apply DrawP.mk); (focus kernel_rfl))
 | ((with_reducible apply Same.mk); (focus rfl); (first | exact trivial | exact rfl))
 | (intro cap hcap)
 | ((fail_if_success (with_reducible first | apply Fin.mk | apply CallP.mk | apply LoopP.mk | apply VC.mk | apply falseMk | apply Round.mk | apply LookP.mk | apply RangeP.mk | apply NextP.mk | apply EntryP.mk | apply Eq.symm)); conv => whnf))
          have e9 : List.take 512 (List.drop (0 * 1 + 0) (List.take 512 (List.drop (0 * 1 + 0) y.2))) = y.2 := by simp [List.take_of_length_le, g3]
          rw [e9]
          rw [List.take_of_length_le (by omega), ← hsec] at g2
          exact fin y.2 _ _ g2 (.inr rfl) rfl rfl rfl rfl rfl rfl
    · refine LoopP.mk ⟨Nat × List Int, fun y => y.1 ≤ t.fresh.length ∧ y.2 = (t.fresh.take y.1).foldl (layR (512 * n)) (secF s.now n), fun y => ([(4, .p 5 0 1 0), (8, .p 6 0 1 0), (9, .v (.int .i64 (n * 512))), (64, .s 2 0 2 t.fresh.length t.cap), (65, .v (.int .i64 t.fresh.length)), (66, .v (.int .i64 y.1))], tpre t j (s) ++ [.blk 191 (.ints .u8 z) 512, .blk 191 (.ints .u8 y.2) 512]), fun y => t.fresh.length - y.1, (0, secF s.now n), ⟨Nat.zero_le _, rfl⟩, Fit.ren [0, 1, 2, 3, 4, 5, 7] [] rfl rfl trivial ?_ ?_, ?_⟩
      · refine T5.leX rfl rfl rfl rfl rfl rfl rfl rfl rfl rfl ⟨⟨VC.mk ⟨rfl, rfl⟩, VC.mk ⟨rfl, List.prefix_rfl⟩⟩, ⟨VC.mk ⟨rfl, rfl⟩, VC.mk ⟨rfl, ?_⟩⟩, trivial⟩
        rw [show ((0, secF s.now n) : Nat × List Int).2 = secF s.now n from rfl, secF_none hz h3.1 hc]
        exact List.prefix_rfl
      · repeat' (first
 | (with_reducible first | exact True.intro | apply And.intro | apply If_true | apply If_false | apply If_not)
 | ((with_reducible apply VC.mk); (first | trivial | omega | (simp only [inR]; omega) | (exact ⟨rfl, List.prefix_rfl⟩) | (refine ⟨rfl, rfl, rfl, ?_, rfl⟩; (simp; done)) | (focus (repeat' (first | exact True.intro | apply And.intro | rfl | exact Nat.le_of_ble_eq_true rfl)); done) | (simp [inR, Cont.cells]; done) | (simp [inR, Cont.cells]; omega)))
 | ((with_reducible apply If_dec) <;> intro hc <;> (try (exfalso; omega)))
 | ((with_reducible apply If_any) <;> intro hc)
 | ((with_reducible first | apply PF.mk | apply DrawP.mk); (focus kernel_rfl))
 | ((with_reducible apply Same.mk); (focus rfl); (first | exact trivial | exact rfl))
 | (intro cap hcap)
 | ((fail_if_success (with_reducible first | apply Fin.mk | apply CallP.mk | apply LoopP.mk | apply VC.mk | apply falseMk | apply Round.mk | apply LookP.mk | apply RangeP.mk | apply NextP.mk | apply EntryP.mk | apply Eq.symm)); conv => whnf))
      · intro y hy
        obtain ⟨g1, g2⟩ := hy
        have e : ((y.1 : Nat) : Int).toNat = y.1 := Int.toNat_natCast _
        have g3 : y.2.length = 512 := by rw [g2]; exact lays_length _ (by omega) _ _ (secF_length _ _)
        by_cases hlt : y.1 < t.fresh.length
        · have hm : t.fresh.getD y.1 (0, []) ∈ t.fresh := by
            rw [show t.fresh.getD y.1 (0, []) = t.fresh[y.1] by simp [List.getD_eq_getElem?_getD, hlt]]; exact List.getElem_mem hlt
          have hok := h1.frs _ hm
          have hcl := h1.len
          have htk : t.fresh.take (y.1 + 1) = t.fresh.take y.1 ++ [t.fresh.getD y.1 (0, [])] := by
            rw [List.take_add_one, List.getElem?_eq_getElem hlt, List.getD_eq_getElem?_getD, List.getElem?_eq_getElem hlt]; rfl
          repeat' (first
 | (with_reducible first | exact True.intro | apply And.intro | apply If_true | apply If_false | apply If_not)
 | ((with_reducible apply VC.mk); (first | trivial | omega | (simp only [inR]; omega) | (exact ⟨rfl, List.prefix_rfl⟩) | (refine ⟨rfl, rfl, rfl, ?_, rfl⟩; (simp; done)) | (focus (repeat' (first | exact True.intro | apply And.intro | rfl | exact Nat.le_of_ble_eq_true rfl)); done) | (simp [inR, Cont.cells]; done) | (simp [inR, Cont.cells]; omega)))
 | ((with_reducible apply If_dec) <;> intro hc <;> (try (exfalso; omega)))
 | ((with_reducible apply If_any) <;> intro hc)
 | ((with_reducible first | apply PF.mk | apply DrawP.mk); (focus kernel_rfl))
 | ((with_reducible apply Same.mk); (focus rfl); (first | exact trivial | exact rfl))
 | (intro cap hcap)
 | ((fail_if_success (with_reducible first | apply Fin.mk | apply CallP.mk | apply LoopP.mk | apply VC.mk | apply falseMk | apply Round.mk | apply LookP.mk | apply RangeP.mk | apply NextP.mk | apply EntryP.mk | apply Eq.symm)); conv => whnf))
          simp only [e, Nat.zero_add]
          refine tlay_at y.2 (n * 512) (t.fresh.getD y.1 (0, [])) 6 ⟨⟨g3, by omega, by omega⟩, hok.1, by omega, by omega⟩ rfl ⟨rfl, rfl, ⟨rfl, rfl, trivial⟩, trivial⟩ ?_
          repeat' (first
 | (with_reducible first | exact True.intro | apply And.intro | apply If_true | apply If_false | apply If_not)
 | ((with_reducible apply VC.mk); (first | trivial | omega | (simp only [inR]; omega) | (exact ⟨rfl, List.prefix_rfl⟩) | (refine ⟨rfl, rfl, rfl, ?_, rfl⟩; (simp; done)) | (focus (repeat' (first | exact True.intro | apply And.intro | rfl | exact Nat.le_of_ble_eq_true rfl)); done) | (simp [inR, Cont.cells]; done) | (simp [inR, Cont.cells]; omega)))
 | ((with_reducible apply If_dec) <;> intro hc <;> (try (exfalso; omega)))
 | ((with_reducible apply If_any) <;> intro hc)
 | ((with_reducible first | apply PF.mk | apply DrawP.mk); (focus kernel_rfl))
 | ((with_reducible apply Same.mk); (focus rfl); (first | exact trivial | exact rfl))
 | (intro cap hcap)
 | ((fail_if_success (with_reducible first | apply Fin.mk | apply CallP.mk | apply LoopP.mk | apply VC.mk | apply falseMk | apply Round.mk | apply LookP.mk | apply RangeP.mk | apply NextP.mk | apply EntryP.mk | apply Eq.symm)); conv => whnf))
          refine Round.mk ⟨(y.1 + 1, layR (n * 512) y.2 (t.fresh.getD y.1 (0, []))), ⟨by show y.1 + 1 ≤ _; omega, ?_⟩, by show t.fresh.length - (y.1 + 1) < t.fresh.length - y.1; omega, Fit.ren [0, 1, 2, 3, 4, 5, 6] [] rfl rfl trivial ?_ ?_⟩
          · show _ = List.foldl _ _ (t.fresh.take (y.1 + 1))
            rw [htk, List.foldl_append, ← g2, Int.mul_comm]; rfl
          · exact T5.leX rfl rfl rfl rfl rfl rfl rfl rfl rfl rfl ⟨⟨VC.mk ⟨rfl, rfl⟩, VC.mk ⟨rfl, List.prefix_rfl⟩⟩, ⟨VC.mk ⟨rfl, rfl⟩, VC.mk ⟨rfl, List.prefix_rfl⟩⟩, trivial⟩
          · repeat' (first
 | (with_reducible first | exact True.intro | apply And.intro | apply If_true | apply If_false | apply If_not)
 | ((with_reducible apply VC.mk); (first | trivial | omega | (simp only [inR]; omega) | (exact ⟨rfl, List.prefix_rfl⟩) | (refine ⟨rfl, rfl, rfl, ?_, rfl⟩; (simp; done)) | (focus (repeat' (first | exact True.intro | apply And.intro | rfl | exact Nat.le_of_ble_eq_true rfl)); done) | (simp [inR, Cont.cells]; done) | (simp [inR, Cont.cells]; omega)))
 | ((with_reducible apply If_dec) <;> intro hc <;> (try (exfalso; omega)))
 | ((with_reducible apply If_any) <;> intro hc)
 | ((with_reducible first | apply PF.mk | apply DrawP.mk); (focus kernel_rfl))
 | ((with_reducible apply Same.mk); (focus rfl); (first | exact trivial | exact rfl))
 | (intro cap hcap)
 | ((fail_if_success (with_reducible first | apply Fin.mk | apply CallP.mk | apply LoopP.mk | apply VC.mk | apply falseMk | apply Round.mk | apply LookP.mk | apply RangeP.mk | apply NextP.mk | apply EntryP.mk | apply Eq.symm)); conv => whnf))
        · repeat' (first
 | (with_reducible first | exact True.intro | apply And.intro | apply If_true | apply If_false | apply If_not)
 | ((with_reducible apply VC.mk); (first | trivial | omega | (simp only [inR]; omega) | (exact ⟨rfl, List.prefix_rfl⟩) | (refine ⟨rfl, rfl, rfl, ?_, rfl⟩; (simp; done)) | (focus (repeat' (first | exact True.intro | apply And.intro | rfl | exact Nat.le_of_ble_eq_true rfl)); done) | (simp [inR, Cont.cells]; done) | (simp [inR, Cont.cells]; omega)))
 | ((with_reducible apply If_dec) <;> intro hc <;> (try (exfalso; omega)))
 | ((with_reducible apply If_any) <;> intro hc)
 | ((with_reducible first | apply PF.mk | apply DrawP.mk); (focus kernel_rfl))
 | ((with_reducible apply Same.mk); (focus rfl); (first | exact trivial | exact rfl))
 | (intro cap hcap)
 | ((fail_if_success (with_reducible first | apply Fin.mk | apply CallP.mk | apply LoopP.mk | apply VC.mk | apply falseMk | apply Round.mk | apply LookP.mk | apply RangeP.mk | apply NextP.mk | apply EntryP.mk | apply Eq.symm)); conv => whnf))
          have e9 : List.take 512 (List.drop (0 * 1 + 0) (List.take 512 (List.drop (0 * 1 + 0) y.2))) = y.2 := by simp [List.take_of_length_le, g3]
          rw [e9]
          rw [List.take_of_length_le (by omega), ← hsec] at g2
          exact fin y.2 _ _ g2 (.inl rfl) rfl rfl rfl rfl rfl rfl
end Go.Proofs.Ytjccknmgmommcaa.Sx

