import Derived.Test.YtjccknmgmommcaaSxK1
set_option linter.unusedVariables false
set_option linter.unusedSimpArgs false
set_option maxRecDepth 10000
namespace Go.Proofs.Ytjccknmgmommcaa.Sx
open Go.RowKit Go.Proofs.Ytjccknmgmommcaa.Sx.Tb
/-! ### Changes -/
/-- What a record has of a sector over it. -/
def layR (at_ : Int) (l : List Int) (r : RecR) : List Int :=
  if max at_ r.1 < min (at_ + l.length) (r.1 + r.2.length) then putG l (max at_ r.1 - at_).toNat ((r.2.drop (max at_ r.1 - r.1).toNat).take (min (at_ + l.length) (r.1 + r.2.length) - max at_ r.1).toNat) else l
/-! ### The state of changes -/
structure TR where
  dirty : List (Int × List Int)
  fresh : List RecR
  cap : Nat
  over : Bool
def TR.c0 (t : TR) (j m f : Nat) : Chunk := .blk 170 (.lst [.p j 0 1 0, .m m, .s f 0 2 t.fresh.length t.cap, .v (.bool t.over)]) 4
def TR.c1 (t : TR) : Chunk := .mp (t.dirty.map (fun x => (x.1, AV.arr .u8 x.2))) none
def TR.c2 (t : TR) : Chunk := .blk 174 (recsC true t.fresh) (t.cap * 2)
def lkS (n : Int) : List (Int × List Int) → Option (List Int)
  | [] => none
  | (a, v) :: r => if a = n then some v else lkS n r
def upS (n : Int) (v : List Int) : List (Int × List Int) → List (Int × List Int)
  | [] => [(n, v)]
  | (a, u) :: r => if a = n then (a, v) :: r else (a, u) :: upS n v r
def padS (l : List Int) : List Int := l ++ List.replicate (512 - l.length) 0
def secF (now : List Int) (n : Int) : List Int := padS ((now.drop (512 * n).toNat).take 512)
def TR.sec (t : TR) (now : List Int) (n : Int) : List Int :=
  match lkS n t.dirty with
  | some l => l
  | none => t.fresh.foldl (layR (512 * n)) (secF now n)
structure TR.Ok (t : TR) : Prop where
  sec : ∀ x ∈ t.dirty, x.2.length = 512
  frs : ∀ r ∈ t.fresh, 0 ≤ r.1 ∧ r.1 ≤ 4194304 ∧ r.2.length ≤ 4194304
  cap : t.fresh.length ≤ t.cap
  len : t.fresh.length ≤ 1073741824
def tpre (t : TR) (j : JR) (s : DF) : List Chunk := [t.c0 3 1 2, t.c1, t.c2, j.blk 4, s.pk]
theorem layR_length (at_ : Int) (l : List Int) (r : RecR) (hl : l.length = 512) (h0 : 0 ≤ at_) : (layR at_ l r).length = 512 := by
  unfold layR
  split
  · rename_i h
    rw [putG_length (by omega), List.length_take, List.length_drop]
    omega
  · exact hl
theorem secF_length (now : List Int) (n : Int) : (secF now n).length = 512 := by
  unfold secF padS
  rw [List.length_append, List.length_replicate, List.length_take]
  omega
theorem lays_length (at_ : Int) (h0 : 0 ≤ at_) : ∀ (rs : List RecR) (l : List Int), l.length = 512 → (rs.foldl (layR at_) l).length = 512
  | [], l, h => h
  | r :: rs, l, h => lays_length at_ h0 rs _ (layR_length at_ l r h h0)
theorem lkS_mem {n : Int} : ∀ {d : List (Int × List Int)} {l : List Int}, lkS n d = some l → (n, l) ∈ d
  | [], _, h => by cases h
  | (a, v) :: r, l, h => by
    unfold lkS at h
    split at h
    · rename_i e; cases h; subst e; exact List.mem_cons_self ..
    · exact List.mem_cons_of_mem _ (lkS_mem h)
theorem TR.Ok.sec_length {t : TR} (h : t.Ok) (now : List Int) (n : Int) (h0 : 0 ≤ n) : (t.sec now n).length = 512 := by
  unfold TR.sec
  split
  · rename_i l hl; exact h.sec _ (lkS_mem hl)
  · exact lays_length _ (by omega) _ _ (secF_length now n)
theorem arr_les {H : List Chunk} {fz : List Nat} {f : Nat → Nat} {ph : Nat → Bool} : ∀ (d : List (Int × List Int)), les H fz f ph ((d.map (fun x => (x.1, AV.arr .u8 x.2))).map (fun x => x.2)) ((d.map (fun x => (x.1, AV.arr .u8 x.2))).map (fun x => x.2))
  | [] => trivial
  | x :: r => ⟨VC.mk ⟨rfl, rfl⟩, arr_les r⟩
theorem arr_noF : ∀ (d : List (Int × List Int)), noFs ((d.map (fun x => (x.1, AV.arr .u8 x.2))).map (fun x => x.2))
  | [] => trivial
  | x :: r => ⟨trivial, arr_noF r⟩
theorem recs_les {H : List Chunk} {fz : List Nat} {f : Nat → Nat} {ph : Nat → Bool} (r : RecR) : les H fz f ph (recAV true r) (recAV true r) := ⟨VC.mk rfl, ⟨VC.mk ⟨rfl, rfl, rfl⟩, VC.mk ⟨rfl, rfl⟩⟩, trivial⟩
theorem T5.le {H : List Chunk} {fz : List Nat} {f : Nat → Nat} {ph : Nat → Bool} {t : TR} {j : JR} {s : DF} (f1 : f 1 = 1) (f2 : f 2 = 2) (f3 : f 3 = 3) (f4 : f 4 = 4) (h : 5 ≤ H.length) (h0 : nth H 0 = some (t.c0 3 1 2)) (h1 : nth H 1 = some t.c1) (h2 : nth H 2 = some t.c2) (h3 : nth H 3 = some (j.blk 4)) (h4 : nth H 4 = some s.pk) (hz : memN 0 fz = false ∧ memN 1 fz = false ∧ memN 2 fz = false ∧ memN 3 fz = false ∧ memN 4 fz = false := by exact ⟨rfl, rfl, rfl, rfl, rfl⟩) : chunksLe H fz f ph [0, 1, 2, 3, 4] (tpre t j s) := by
  refine ⟨?_, ?_, ?_, ?_, ?_, trivial⟩
  · unfold Chunk.le TR.c0
    simp only
    rw [show Nat.blt 0 H.length = true by rw [Nat.blt_eq]; omega, hz.1, h0]
    exact ⟨VC.mk ⟨rfl, rfl⟩, VC.mk ⟨f3, rfl, rfl, rfl⟩, VC.mk f1, VC.mk ⟨f2, rfl, rfl, rfl, rfl⟩, VC.mk rfl, trivial⟩
  · unfold Chunk.le TR.c1
    simp only
    rw [show Nat.blt 1 H.length = true by rw [Nat.blt_eq]; omega, hz.2.1, h1]
    exact ⟨VC.mk ⟨rfl, .inl trivial⟩, arr_les t.dirty⟩
  · unfold Chunk.le TR.c2
    simp only
    rw [show Nat.blt 2 H.length = true by rw [Nat.blt_eq]; omega, hz.2.2.1, h2]
    exact ⟨VC.mk ⟨rfl, rfl⟩, VC.mk ⟨rfl, Nat.le_refl _⟩, fun j _ => recs_les _⟩
  · unfold Chunk.le JR.blk
    simp only
    rw [show Nat.blt 3 H.length = true by rw [Nat.blt_eq]; omega, hz.2.2.2.1, h3]
    exact ⟨VC.mk ⟨rfl, rfl⟩, VC.mk ⟨f4, rfl, rfl, rfl⟩, VC.mk rfl, VC.mk rfl, VC.mk rfl, trivial⟩
  · unfold Chunk.le DF.pk
    simp only
    rw [show Nat.blt 4 H.length = true by rw [Nat.blt_eq]; omega, hz.2.2.2.2, h4]
    exact VC.mk ⟨rfl, rfl, rfl, rfl⟩
theorem T5.leX {H : List Chunk} {f : Nat → Nat} {ph : Nat → Bool} {t : TR} {j : JR} {s : DF} {σ : List Nat} {cs : List Chunk} (f1 : f 1 = 1) (f2 : f 2 = 2) (f3 : f 3 = 3) (f4 : f 4 = 4) (h : Nat.ble 5 H.length = true) (h0 : nth H 0 = some (t.c0 3 1 2)) (h1 : nth H 1 = some t.c1) (h2 : nth H 2 = some t.c2) (h3 : nth H 3 = some (j.blk 4)) (h4 : nth H 4 = some s.pk) (hx : chunksLe H [] f ph σ cs) : chunksLe H [] f ph (0 :: 1 :: 2 :: 3 :: 4 :: σ) (tpre t j s ++ cs) := by
  have T := T5.le (fz := []) (ph := ph) f1 f2 f3 f4 (Nat.le_of_ble_eq_true h) h0 h1 h2 h3 h4
  exact ⟨T.1, T.2.1, T.2.2.1, T.2.2.2.1, T.2.2.2.2.1, hx⟩
theorem fix5 {N : Nat} {σ : List Nat} : ∀ i, i < 5 → fren (0 :: 1 :: 2 :: 3 :: 4 :: σ) N i = i := fun i hi => by
  match i, hi with
  | 0, _ => rfl
  | 1, _ => rfl
  | 2, _ => rfl
  | 3, _ => rfl
  | 4, _ => rfl
theorem T5.fin {H : List Chunk} {t : TR} {j : JR} {s : DF} {v : AV} {k : K} (h : Nat.ble 5 H.length = true) (h0 : nth H 0 = some (t.c0 3 1 2)) (h1 : nth H 1 = some t.c1) (h2 : nth H 2 = some t.c2) (h3 : nth H 3 = some (j.blk 4)) (h4 : nth H 4 = some s.pk) (hk : k v (tpre t j s)) (hv : v.inN 5 := by simp [AV.inN, inNs, Cont.inN]) : Fin 5 v H k :=
  Fin.ren [0, 1, 2, 3, 4] [] v (tpre t j s) rfl rfl trivial (T5.le rfl rfl rfl rfl (Nat.le_of_ble_eq_true h) h0 h1 h2 h3 h4) (AV.le_refl fix5 hv) hk
theorem T5.good {t : TR} {j : JR} {s : DF} {v : AV} (h : v.noF) : Good 5 v (tpre t j s) := by
  refine ⟨h, fun c hc => ?_, Nat.le_refl _⟩
  simp [tpre] at hc
  rcases hc with rfl | rfl | rfl | rfl | rfl
  · exact .blk ⟨trivial, trivial, trivial, trivial, trivial⟩
  · exact .mp (arr_noF t.dirty)
  · exact .blk (recsC_noF _)
  · exact j.noF _
  · exact s.pk_noF
theorem T5.nd {t : TR} {j : JR} {s : DF} : ∀ c ∈ tpre t j s, c.lives := by
  intro c hc
  simp [tpre] at hc
  rcases hc with rfl | rfl | rfl | rfl | rfl <;> trivial
end Go.Proofs.Ytjccknmgmommcaa.Sx

