import Derived.Test.YtcfmlnddmpiemaaSxEc
import Derived.Test.YtcfmlnddmpiemaaSxU1
import Derived.Laws.BitsAllLaws
set_option linter.unusedVariables false
set_option linter.unusedSimpArgs false
set_option maxRecDepth 10000
namespace Go.Proofs.Ytcfmlnddmpiemaa.Sx
open Go.RowKit Go.Proofs.Ytcfmlnddmpiemaa.Sx.Tb
/-! ### Replay, New -/
def applyOps (j : JR) (z : List Int) (rs : List RecR) : List FOp := wrs rs ++ [.fl, .wr j.pos z, .fl]
/-- A replay: how many, an error's number, the journal, the file. -/
def DF.replay (j : JR) (z : List Int) (s : DF) : Int × Int × JR × DF :=
  match (s.pend j).2.1 with
  | some rs => (rs.length, (s.asked.run (applyOps j z rs)).1, (s.pend j).2.2, (s.asked.run (applyOps j z rs)).2)
  | none => (0, (s.pend j).1, j, s.asked)
end Go.Proofs.Ytcfmlnddmpiemaa.Sx


set_option maxRecDepth 10000
namespace Go.Proofs.Ytcfmlnddmpiemaa.Sx
open Go.RowKit Go.Proofs.Ytcfmlnddmpiemaa.Sx.Tb
end Go.Proofs.Ytcfmlnddmpiemaa.Sx


set_option maxRecDepth 10000
namespace Go.Proofs.Ytcfmlnddmpiemaa.Sx
/-! ### What is signed is pending -/
theorem le4_mid (P : List Int) (v : Int) (R : List Int) (p : Nat) (hp : P.length = p) (h : 0 ≤ v ∧ v < 4294967296) : le4 (P ++ (leB 4 v ++ R)) p = v := by
  subst hp
  unfold le4
  have e : ((P ++ (leB 4 v ++ R)).drop P.length).take 4 = leB 4 v := by
    rw [List.drop_left, List.take_append_of_le_length (by rw [leB_length]; exact Nat.le_refl _)]
    exact List.take_of_length_le (by rw [leB_length]; exact Nat.le_refl _)
  rw [e, leV_leB 4 v h.1 (by have := h.2; simpa using this)]
def recP (r : RecR) : Prop := 0 ≤ r.1 ∧ r.1 ≤ 4194304 ∧ r.2.length < 4294967296
end Go.Proofs.Ytcfmlnddmpiemaa.Sx


set_option maxRecDepth 10000
namespace Go.Proofs.Ytcfmlnddmpiemaa.Sx
/-! ### What a file's bytes become -/
/-- Bytes at a place that isn't behind the end. -/
def putG (b : List Int) (p : Nat) (xs : List Int) : List Int := b.take p ++ (xs ++ b.drop (p + xs.length))
theorem putG_length {b : List Int} {p : Nat} {xs : List Int} (h : p ≤ b.length) : (putG b p xs).length = max b.length (p + xs.length) := by
  simp only [putG, List.length_append, List.length_take, List.length_drop]; omega
theorem putG_B8 {b : List Int} {p : Nat} {xs : List Int} (h : B8 b) (h1 : B8 xs) : B8 (putG b p xs) := (h.take _).append (h1.append (h.drop _))
theorem putG_get {b : List Int} {p : Nat} {xs : List Int} (h : p ≤ b.length) (i : Nat) : (putG b p xs).getD i 0 = if p ≤ i ∧ i < p + xs.length then xs.getD (i - p) 0 else b.getD i 0 := by
  have hl : (b.take p).length = p := by simp only [List.length_take]; omega
  unfold putG
  simp only [List.getD_eq_getElem?_getD]
  by_cases h1 : i < p
  · rw [if_neg (by omega), List.getElem?_append_left (by omega), List.getElem?_take, if_pos h1]
  · rw [List.getElem?_append_right (by omega), hl]
    by_cases h2 : i < p + xs.length
    · rw [if_pos ⟨by omega, h2⟩, List.getElem?_append_left (by omega)]
    · rw [if_neg (by omega), List.getElem?_append_right (by omega), List.getElem?_drop]
      congr 2; omega
end Go.Proofs.Ytcfmlnddmpiemaa.Sx


set_option maxRecDepth 10000
namespace Go.Proofs.Ytcfmlnddmpiemaa.Sx
theorem DF.live.refB {s : DF} (h : s.live) : ¬ s.refB = true := fun e => h.not ((DF.refB_iff s).1 e)
end Go.Proofs.Ytcfmlnddmpiemaa.Sx


set_option maxRecDepth 10000
namespace Go.Proofs.Ytcfmlnddmpiemaa.Sx
/-! ### Crashes, plainly -/
theorem getD_of_le {l : List Int} {i : Nat} (h : l.length ≤ i) : l.getD i 0 = 0 := by
  rw [List.getD_eq_getElem?_getD, List.getElem?_eq_none h]; rfl
theorem ext_getD {l m : List Int} (h : l.length = m.length) (h1 : ∀ i, i < l.length → l.getD i 0 = m.getD i 0) : l = m := by
  refine List.ext_getElem h (fun i hi hj => ?_)
  have := h1 i hi
  rwa [List.getD_eq_getElem?_getD, List.getElem?_eq_getElem hi, List.getD_eq_getElem?_getD, List.getElem?_eq_getElem hj] at this
/-! ### Records are done -/
def covers (r : RecR) (i : Nat) : Prop := r.1.toNat ≤ i ∧ i < r.1.toNat + r.2.length
instance (r : RecR) (i : Nat) : Decidable (covers r i) := by unfold covers; infer_instance
def doneL (rs : List RecR) (C : List Int) : List Int := rs.foldl (fun c r => putG c r.1.toNat r.2) C
def endL (rs : List RecR) (n : Nat) : Nat := rs.foldl (fun m r => max m (r.1.toNat + r.2.length)) n
theorem doneL_length : ∀ (rs : List RecR) (C : List Int), (∀ r ∈ rs, r.1.toNat ≤ C.length) → (doneL rs C).length = endL rs C.length
  | [], C, h => rfl
  | r :: rs, C, h => by
    have h1 := putG_length (xs := r.2) (h r (List.mem_cons_self ..))
    have h2 := doneL_length rs (putG C r.1.toNat r.2) (fun q hq => by have := h q (List.mem_cons_of_mem _ hq); omega)
    rw [h1] at h2
    exact h2
theorem endL_ge : ∀ (rs : List RecR) (n : Nat), n ≤ endL rs n
  | [], n => Nat.le_refl _
  | r :: rs, n => Nat.le_trans (by omega) (endL_ge rs (max n (r.1.toNat + r.2.length)))
theorem endL_idem : ∀ (rs : List RecR) (n m : Nat), n ≤ m → m ≤ endL rs n → endL rs m = endL rs n
  | [], n, m, h1, h2 => Nat.le_antisymm h2 h1
  | r :: rs, n, m, h1, h2 => by
    show endL rs (max m _) = endL rs (max n _)
    have h2 : m ≤ endL rs (max n (r.1.toNat + r.2.length)) := h2
    refine endL_idem rs _ _ (by omega) ?_
    have := endL_ge rs (max n (r.1.toNat + r.2.length))
    omega
/-- Where a record covers, the old bytes don't count. -/
theorem doneL_same : ∀ (rs : List RecR) (C D : List Int) (i : Nat), (∀ r ∈ rs, r.1.toNat ≤ C.length) → (∀ r ∈ rs, r.1.toNat ≤ D.length) → ((∀ r ∈ rs, ¬ covers r i) → C.getD i 0 = D.getD i 0) → (doneL rs C).getD i 0 = (doneL rs D).getD i 0
  | [], C, D, i, _, _, h => h (fun r hr => by cases hr)
  | r :: rs, C, D, i, hC, hD, h => by
    have c1 := hC r (List.mem_cons_self ..)
    have d1 := hD r (List.mem_cons_self ..)
    refine doneL_same rs _ _ i (fun q hq => by rw [putG_length c1]; have := hC q (List.mem_cons_of_mem _ hq); omega) (fun q hq => by rw [putG_length d1]; have := hD q (List.mem_cons_of_mem _ hq); omega) (fun hn => ?_)
    rw [putG_get c1, putG_get d1]
    by_cases hc : r.1.toNat ≤ i ∧ i < r.1.toNat + r.2.length
    · rw [if_pos hc, if_pos hc]
    · rw [if_neg hc, if_neg hc]
      exact h (fun q hq => by rcases List.mem_cons.1 hq with rfl | hq; exact hc; exact hn q hq)
end Go.Proofs.Ytcfmlnddmpiemaa.Sx


set_option maxRecDepth 10000
namespace Go.Proofs.Ytcfmlnddmpiemaa.Sx
/-! ### What a file is between a commit and its end -/
def JR.inJ (j : JR) (i : Nat) : Prop := j.pos.toNat ≤ i ∧ i < j.pos.toNat + j.size.toNat
def JR.eqJ (j : JR) (C D : List Int) : Prop := C.length = D.length ∧ ∀ i, ¬ j.inJ i → C.getD i 0 = D.getD i 0
def JR.partL (j : JR) (C : List Int) : List Int := (C.drop j.pos.toNat).take j.size.toNat
/-- The case: a file's bytes, a journal of it, records that may be done. -/
structure JCase (j : JR) (b : List Int) (rs : List RecR) : Prop where
  ok : j.Ok
  al : j.pos % 512 = 0
  fit : j.pos + j.size ≤ b.length
  b8 : B8 b
  out : ∀ r ∈ rs, j.out r.1 r.2.length
  recs : ∀ r ∈ rs, recP r
  r8 : ∀ r ∈ rs, B8 r.2
  at_ : ∀ r ∈ rs, r.1.toNat ≤ b.length
  len : b.length ≤ 4194304
  room : (encL rs).length ≤ j.size - 512
/-- Some of the records' bytes may stand. -/
structure Mid (j : JR) (b : List Int) (rs : List RecR) (C : List Int) : Prop where
  lo : b.length ≤ C.length
  hi : C.length ≤ endL rs b.length
  b8 : B8 C
  off : ∀ i, ¬ j.inJ i → (∀ r ∈ rs, ¬ covers r i) → C.getD i 0 = b.getD i 0
theorem Mid.zero {j : JR} {b : List Int} {rs : List RecR} (hc : JCase j b rs) {C : List Int} (h : j.eqJ C b) (h8 : B8 C) : Mid j b rs C :=
  ⟨by rw [h.1]; exact Nat.le_refl _, by rw [h.1]; exact endL_ge _ _, h8, fun i hi _ => h.2 i hi⟩
/-- All records done, on whatever is between. -/
theorem Mid.done {j : JR} {b : List Int} {rs : List RecR} {C : List Int} (hc : JCase j b rs) (h : Mid j b rs C) : j.eqJ (doneL rs C) (doneL rs b) := by
  have ha : ∀ r ∈ rs, r.1.toNat ≤ C.length := fun r hr => Nat.le_trans (hc.at_ r hr) h.lo
  refine ⟨?_, fun i hi => ?_⟩
  · rw [doneL_length rs C ha, doneL_length rs b hc.at_]
    exact endL_idem rs _ _ h.lo h.hi
  · exact doneL_same rs C b i ha hc.at_ (fun hn => h.off i hi hn)
end Go.Proofs.Ytcfmlnddmpiemaa.Sx


set_option maxRecDepth 10000
namespace Go.Proofs.Ytcfmlnddmpiemaa.Sx
/-! ### What a crash may leave -/
theorem partL_get {j : JR} {C : List Int} {i : Nat} (hi : i < j.size.toNat) : (j.partL C).getD i 0 = C.getD (j.pos.toNat + i) 0 := by
  unfold JR.partL
  simp only [List.getD_eq_getElem?_getD, List.getElem?_take, if_pos hi, List.getElem?_drop]
theorem partL_length {j : JR} {C : List Int} (h : j.pos.toNat + j.size.toNat ≤ C.length) : (j.partL C).length = j.size.toNat := by
  unfold JR.partL; simp only [List.length_take, List.length_drop]; omega
/-- A journal that begins with noughts says nothing. -/
theorem zero_none {j : JR} (hj : j.Ok) {C : List Int} (hl : j.pos.toNat + j.size.toNat ≤ C.length) (h : ∀ i, i < 4 → C.getD (j.pos.toNat + i) 0 = 0) : pendB j (j.partL C) = none := by
  obtain ⟨j1, j2, j3, j4, j5, j6⟩ := hj
  have e : (j.partL C).take 4 = [0, 0, 0, 0] := by
    refine ext_getD (by rw [List.length_take, partL_length hl]; show min 4 _ = 4; omega) (fun i hi => ?_)
    rw [List.length_take, partL_length hl] at hi
    have : i < 4 := by omega
    rw [show ((j.partL C).take 4).getD i 0 = (j.partL C).getD i 0 by simp only [List.getD_eq_getElem?_getD, List.getElem?_take, if_pos this], partL_get (by omega), h i this]
    match i, this with
    | 0, _ => rfl
    | 1, _ => rfl
    | 2, _ => rfl
    | 3, _ => rfl
  unfold pendB
  rw [if_neg]
  intro ok
  have := ok.1
  unfold le4 at this
  rw [List.drop_zero, e] at this
  simp [leV] at this
/-- What a crash may leave, between a commit and its end. -/
def Cr (j : JR) (b : List Int) (rs : List RecR) (C : List Int) : Prop :=
  B8 C ∧ (j.eqJ C b ∧ pendB j (j.partL C) = none ∨ Mid j b rs C ∧ pendB j (j.partL C) = some rs ∨ j.eqJ C (doneL rs b) ∧ pendB j (j.partL C) = none)
theorem JR.eqJ.refl {j : JR} (C : List Int) : j.eqJ C C := ⟨rfl, fun _ _ => rfl⟩
theorem JR.eqJ.trans {j : JR} {C D E : List Int} (h : j.eqJ C D) (g : j.eqJ D E) : j.eqJ C E := ⟨h.1.trans g.1, fun i hi => (h.2 i hi).trans (g.2 i hi)⟩
/-- Whatever a crash keeps of a file. -/
def CrS (j : JR) (b : List Int) (rs : List RecR) (s : DF) : Prop := ∀ ks, Cr j b rs (crashL s.safe s.items ks)
theorem CrS.asked {j : JR} {b : List Int} {rs : List RecR} {s : DF} (h : CrS j b rs s) : CrS j b rs s.asked := h
end Go.Proofs.Ytcfmlnddmpiemaa.Sx


set_option maxRecDepth 10000
namespace Go.Proofs.Ytcfmlnddmpiemaa.Sx
/-! ### Apply, cut off anywhere -/
end Go.Proofs.Ytcfmlnddmpiemaa.Sx


set_option maxRecDepth 10000
namespace Go.Proofs.Ytcfmlnddmpiemaa.Sx
/-! ### Commit, cut off anywhere -/
end Go.Proofs.Ytcfmlnddmpiemaa.Sx


set_option maxRecDepth 10000
namespace Go.Proofs.Ytcfmlnddmpiemaa.Sx
/-! ### A replay, cut off anywhere -/
theorem Cr.len {j : JR} {b : List Int} {rs : List RecR} {C : List Int} (hc : JCase j b rs) (h : Cr j b rs C) : b.length ≤ C.length ∧ C.length ≤ endL rs b.length := by
  have := endL_ge rs b.length
  rcases h.2 with ⟨h, _⟩ | ⟨h, _⟩ | ⟨h, _⟩
  · rw [h.1]; exact ⟨Nat.le_refl _, this⟩
  · exact ⟨h.lo, h.hi⟩
  · rw [h.1, doneL_length rs b hc.at_]; exact ⟨this, Nat.le_refl _⟩
end Go.Proofs.Ytcfmlnddmpiemaa.Sx


set_option maxRecDepth 10000
namespace Go.Proofs.Ytcfmlnddmpiemaa.Sx
/-! ### The end -/
end Go.Proofs.Ytcfmlnddmpiemaa.Sx


set_option maxRecDepth 10000
namespace Go.Proofs.Ytcfmlnddmpiemaa.Sx
open Go.RowKit Go.Proofs.Ytcfmlnddmpiemaa.Sx.Tb
theorem inR_of_wf {k : IntKind} {n : Int} (h : (Lit.int k n).wf = true) : inR k n := by
  cases k <;> simp [Lit.wf, IntKind.wrap, IntKind.min, IntKind.max, IntKind.bits, IntKind.signed] at h <;> simp only [inR] <;> omega
end Go.Proofs.Ytcfmlnddmpiemaa.Sx


set_option maxRecDepth 10000
namespace Go.Proofs.Ytcfmlnddmpiemaa.Sx
open Go.RowKit Go.Proofs.Ytcfmlnddmpiemaa.Sx.Tb
/-! ### The functions of the law JournalCrashes -/
theorem recsC_noF (rs : List RecR) : (recsC true rs).noF := fun j hj => ⟨trivial, ⟨rfl, trivial⟩, trivial⟩
theorem Fin.vl {u : Value} {H : List Chunk} {k : K} (hk : k (.v u) []) : Fin 0 (.v u) H k := Fin.ren [] [] (.v u) [] rfl rfl trivial trivial (VC.mk rfl) hk
end Go.Proofs.Ytcfmlnddmpiemaa.Sx


set_option maxRecDepth 10000
namespace Go.Proofs.Ytcfmlnddmpiemaa.Sx
open Go.RowKit Go.Proofs.Ytcfmlnddmpiemaa.Sx.Tb
/-! ### Changes -/
/-- What a record has of a sector over it. -/
def layR (at_ : Int) (l : List Int) (r : RecR) : List Int :=
  if max at_ r.1 < min (at_ + l.length) (r.1 + r.2.length) then putG l (max at_ r.1 - at_).toNat ((r.2.drop (max at_ r.1 - r.1).toNat).take (min (at_ + l.length) (r.1 + r.2.length) - max at_ r.1).toNat) else l
/-! ### The state of changes -/
structure TR where
  dirty : List (Int × List Int)
  fresh : List RecR
  cap : Nat
  over : Bool
def TR.c0 (t : TR) (j m f : Nat) : Chunk := .blk 134 (.lst [.p j 0 1 0, .m m, .s f 0 2 t.fresh.length t.cap, .v (.bool t.over)]) 4
def TR.c1 (t : TR) : Chunk := .mp (t.dirty.map (fun x => (x.1, AV.arr .u8 x.2))) none
def TR.c2 (t : TR) : Chunk := .blk 138 (recsC true t.fresh) (t.cap * 2)
def lkS (n : Int) : List (Int × List Int) → Option (List Int)
  | [] => none
  | (a, v) :: r => if a = n then some v else lkS n r
def upS (n : Int) (v : List Int) : List (Int × List Int) → List (Int × List Int)
  | [] => [(n, v)]
  | (a, u) :: r => if a = n then (a, v) :: r else (a, u) :: upS n v r
def padS (l : List Int) : List Int := l ++ List.replicate (512 - l.length) 0
def secF (now : List Int) (n : Int) : List Int := padS ((now.drop (512 * n).toNat).take 512)
def TR.sec (t : TR) (now : List Int) (n : Int) : List Int :=
  match lkS n t.dirty with
  | some l => l
  | none => t.fresh.foldl (layR (512 * n)) (secF now n)
structure TR.Ok (t : TR) : Prop where
  sec : ∀ x ∈ t.dirty, x.2.length = 512
  frs : ∀ r ∈ t.fresh, 0 ≤ r.1 ∧ r.1 ≤ 4194304 ∧ r.2.length ≤ 4194304
  cap : t.fresh.length ≤ t.cap
  len : t.fresh.length ≤ 1073741824
def tpre (t : TR) (j : JR) (s : DF) : List Chunk := [t.c0 3 1 2, t.c1, t.c2, j.blk 4, s.pk]
theorem layR_length (at_ : Int) (l : List Int) (r : RecR) (hl : l.length = 512) (h0 : 0 ≤ at_) : (layR at_ l r).length = 512 := by
  unfold layR
  split
  · rename_i h
    rw [putG_length (by omega), List.length_take, List.length_drop]
    omega
  · exact hl
theorem secF_length (now : List Int) (n : Int) : (secF now n).length = 512 := by
  unfold secF padS
  rw [List.length_append, List.length_replicate, List.length_take]
  omega
theorem lays_length (at_ : Int) (h0 : 0 ≤ at_) : ∀ (rs : List RecR) (l : List Int), l.length = 512 → (rs.foldl (layR at_) l).length = 512
  | [], l, h => h
  | r :: rs, l, h => lays_length at_ h0 rs _ (layR_length at_ l r h h0)
theorem lkS_mem {n : Int} : ∀ {d : List (Int × List Int)} {l : List Int}, lkS n d = some l → (n, l) ∈ d
  | [], _, h => by cases h
  | (a, v) :: r, l, h => by
    unfold lkS at h
    split at h
    · rename_i e; cases h; subst e; exact List.mem_cons_self ..
    · exact List.mem_cons_of_mem _ (lkS_mem h)
theorem TR.Ok.sec_length {t : TR} (h : t.Ok) (now : List Int) (n : Int) (h0 : 0 ≤ n) : (t.sec now n).length = 512 := by
  unfold TR.sec
  split
  · rename_i l hl; exact h.sec _ (lkS_mem hl)
  · exact lays_length _ (by omega) _ _ (secF_length now n)
theorem arr_les {H : List Chunk} {fz : List Nat} {f : Nat → Nat} {ph : Nat → Bool} : ∀ (d : List (Int × List Int)), les H fz f ph ((d.map (fun x => (x.1, AV.arr .u8 x.2))).map (fun x => x.2)) ((d.map (fun x => (x.1, AV.arr .u8 x.2))).map (fun x => x.2))
  | [] => trivial
  | x :: r => ⟨VC.mk ⟨rfl, rfl⟩, arr_les r⟩
theorem arr_noF : ∀ (d : List (Int × List Int)), noFs ((d.map (fun x => (x.1, AV.arr .u8 x.2))).map (fun x => x.2))
  | [] => trivial
  | x :: r => ⟨trivial, arr_noF r⟩
theorem recs_les {H : List Chunk} {fz : List Nat} {f : Nat → Nat} {ph : Nat → Bool} (r : RecR) : les H fz f ph (recAV true r) (recAV true r) := ⟨VC.mk rfl, ⟨VC.mk ⟨rfl, rfl, rfl⟩, VC.mk ⟨rfl, rfl⟩⟩, trivial⟩
theorem T5.le {H : List Chunk} {fz : List Nat} {f : Nat → Nat} {ph : Nat → Bool} {t : TR} {j : JR} {s : DF} (f1 : f 1 = 1) (f2 : f 2 = 2) (f3 : f 3 = 3) (f4 : f 4 = 4) (h : 5 ≤ H.length) (h0 : nth H 0 = some (t.c0 3 1 2)) (h1 : nth H 1 = some t.c1) (h2 : nth H 2 = some t.c2) (h3 : nth H 3 = some (j.blk 4)) (h4 : nth H 4 = some s.pk) (hz : memN 0 fz = false ∧ memN 1 fz = false ∧ memN 2 fz = false ∧ memN 3 fz = false ∧ memN 4 fz = false := by exact ⟨rfl, rfl, rfl, rfl, rfl⟩) : chunksLe H fz f ph [0, 1, 2, 3, 4] (tpre t j s) := by
  refine ⟨?_, ?_, ?_, ?_, ?_, trivial⟩
  · unfold Chunk.le TR.c0
    simp only
    rw [show Nat.blt 0 H.length = true by rw [Nat.blt_eq]; omega, hz.1, h0]
    exact ⟨VC.mk ⟨rfl, rfl⟩, VC.mk ⟨f3, rfl, rfl, rfl⟩, VC.mk f1, VC.mk ⟨f2, rfl, rfl, rfl, rfl⟩, VC.mk rfl, trivial⟩
  · unfold Chunk.le TR.c1
    simp only
    rw [show Nat.blt 1 H.length = true by rw [Nat.blt_eq]; omega, hz.2.1, h1]
    exact ⟨VC.mk ⟨rfl, .inl trivial⟩, arr_les t.dirty⟩
  · unfold Chunk.le TR.c2
    simp only
    rw [show Nat.blt 2 H.length = true by rw [Nat.blt_eq]; omega, hz.2.2.1, h2]
    exact ⟨VC.mk ⟨rfl, rfl⟩, VC.mk ⟨rfl, Nat.le_refl _⟩, fun j _ => recs_les _⟩
  · unfold Chunk.le JR.blk
    simp only
    rw [show Nat.blt 3 H.length = true by rw [Nat.blt_eq]; omega, hz.2.2.2.1, h3]
    exact ⟨VC.mk ⟨rfl, rfl⟩, VC.mk ⟨f4, rfl, rfl, rfl⟩, VC.mk rfl, VC.mk rfl, VC.mk rfl, trivial⟩
  · unfold Chunk.le DF.pk
    simp only
    rw [show Nat.blt 4 H.length = true by rw [Nat.blt_eq]; omega, hz.2.2.2.2, h4]
    exact VC.mk ⟨rfl, rfl, rfl, rfl⟩
theorem fix5 {N : Nat} {σ : List Nat} : ∀ i, i < 5 → fren (0 :: 1 :: 2 :: 3 :: 4 :: σ) N i = i := fun i hi => by
  match i, hi with
  | 0, _ => rfl
  | 1, _ => rfl
  | 2, _ => rfl
  | 3, _ => rfl
  | 4, _ => rfl
theorem T5.fin {H : List Chunk} {t : TR} {j : JR} {s : DF} {v : AV} {k : K} (h : Nat.ble 5 H.length = true) (h0 : nth H 0 = some (t.c0 3 1 2)) (h1 : nth H 1 = some t.c1) (h2 : nth H 2 = some t.c2) (h3 : nth H 3 = some (j.blk 4)) (h4 : nth H 4 = some s.pk) (hk : k v (tpre t j s)) (hv : v.inN 5 := by simp [AV.inN, inNs, Cont.inN]) : Fin 5 v H k :=
  Fin.ren [0, 1, 2, 3, 4] [] v (tpre t j s) rfl rfl trivial (T5.le rfl rfl rfl rfl (Nat.le_of_ble_eq_true h) h0 h1 h2 h3 h4) (AV.le_refl fix5 hv) hk
theorem T5.good {t : TR} {j : JR} {s : DF} {v : AV} (h : v.noF) : Good 5 v (tpre t j s) := by
  refine ⟨h, fun c hc => ?_, Nat.le_refl _⟩
  simp [tpre] at hc
  rcases hc with rfl | rfl | rfl | rfl | rfl
  · exact .blk ⟨trivial, trivial, trivial, trivial, trivial⟩
  · exact .mp (arr_noF t.dirty)
  · exact .blk (recsC_noF _)
  · exact j.noF _
  · exact s.pk_noF
theorem T5.nd {t : TR} {j : JR} {s : DF} : ∀ c ∈ tpre t j s, c.lives := by
  intro c hc
  simp [tpre] at hc
  rcases hc with rfl | rfl | rfl | rfl | rfl <;> trivial
end Go.Proofs.Ytcfmlnddmpiemaa.Sx


set_option maxRecDepth 10000
namespace Go.Proofs.Ytcfmlnddmpiemaa.Sx
open Go.RowKit Go.Proofs.Ytcfmlnddmpiemaa.Sx.Tb
/-! ### Get -/
def TR.V (t : TR) (now : List Int) (i : Nat) : Int := (t.sec now (i / 512 : Nat)).getD (i % 512) 0
def TR.rd (t : TR) (now : List Int) (at_ n : Nat) : List Int := (List.range n).map (fun i => t.V now (at_ + i))
def DF.tick (s : DF) (m : Nat) : DF := { s with ops := s.ops + m }
theorem TR.rd_length (t : TR) (now : List Int) (at_ n : Nat) : (t.rd now at_ n).length = n := by unfold TR.rd; rw [List.length_map, List.length_range]
end Go.Proofs.Ytcfmlnddmpiemaa.Sx


set_option maxRecDepth 10000
namespace Go.Proofs.Ytcfmlnddmpiemaa.Sx
open Go.RowKit Go.Proofs.Ytcfmlnddmpiemaa.Sx.Tb
/-! ### Put -/
def TR.wr1 (t : TR) (now : List Int) (a : Nat) (xs : List Int) : TR := { t with dirty := upS ((a / 512 : Nat) : Int) (putG (t.sec now ((a / 512 : Nat) : Int)) (a % 512) xs) t.dirty }
def TR.putF : Nat → TR → List Int → Nat → List Int → TR
  | 0, t, _, _, _ => t
  | f + 1, t, now, a, p => if p.length = 0 then t else TR.putF f (t.wr1 now a (p.take (min p.length (512 - a % 512)))) now (a + min p.length (512 - a % 512)) (p.drop (min p.length (512 - a % 512)))
def TR.put (t : TR) (now : List Int) (a : Nat) (p : List Int) : TR := TR.putF p.length t now a p
theorem putF_nil (f : Nat) (t : TR) (now : List Int) (a : Nat) (p : List Int) (h : p.length = 0) : TR.putF f t now a p = t := by
  cases f with
  | zero => rfl
  | succ f => show (if _ then _ else _) = _; rw [if_pos h]
theorem upS_len {n : Int} {v : List Int} (hv : v.length = 512) : ∀ (d : List (Int × List Int)), (∀ x ∈ d, x.2.length = 512) → ∀ x ∈ upS n v d, x.2.length = 512
  | [], _, x, hx => by
    simp [upS] at hx; subst hx; exact hv
  | (a, u) :: r, h, x, hx => by
    unfold upS at hx
    split at hx
    · rcases List.mem_cons.1 hx with rfl | hx
      · exact hv
      · exact h x (List.mem_cons_of_mem _ hx)
    · rcases List.mem_cons.1 hx with rfl | hx
      · exact h _ (List.mem_cons_self ..)
      · exact upS_len hv r (fun y hy => h y (List.mem_cons_of_mem _ hy)) x hx
theorem TR.Ok.wr1 {t : TR} (h : t.Ok) (now : List Int) (a : Nat) (xs : List Int) (hx : xs.length ≤ 512 - a % 512) : (t.wr1 now a xs).Ok := by
  refine ⟨?_, h.frs, h.cap, h.len⟩
  show ∀ x ∈ upS _ _ _, _
  exact upS_len (by rw [putG_length (by rw [h.sec_length _ _ (by omega)]; omega), h.sec_length _ _ (by omega)]; omega) _ h.sec
end Go.Proofs.Ytcfmlnddmpiemaa.Sx


set_option maxRecDepth 10000
namespace Go.Proofs.Ytcfmlnddmpiemaa.Sx
open Go.RowKit Go.Proofs.Ytcfmlnddmpiemaa.Sx.Tb
/-! ### A header -/
structure HD where
  bits : Int
  size : Int
  host : Int
  jr : Int
  backed : Bool
def HD.clus (h : HD) : Int := if h.bits < 9 ∨ 12 < h.bits then 512 else 2 ^ h.bits.toNat
def HD.refs (h : HD) : Int := (2 * max 0 (min h.host 8192) + h.clus - 1) / h.clus
def HD.jend (h : HD) : Int := h.clus * (1 + max 0 (min h.jr 8192))
def HD.rend (h : HD) : Int := h.jend + h.refs * h.clus
def HD.first (h : HD) : Int := (h.rend + h.clus + h.clus) / h.clus
def hR (h : HD) : Prop := inR .i64 h.bits ∧ inR .i64 h.size ∧ inR .i64 h.host ∧ inR .i64 h.jr
end Go.Proofs.Ytcfmlnddmpiemaa.Sx


set_option maxRecDepth 10000
namespace Go.Proofs.Ytcfmlnddmpiemaa.Sx
open Go.RowKit Go.Proofs.Ytcfmlnddmpiemaa.Sx.Tb
/-! ### Entries -/
structure ER where
  kind : Int
  cl : Int
  own : Bool
  deriving DecidableEq
def encV (x : ER) : Int × Int :=
  if x.kind = 0 ∨ x.kind = 1 then (if x.cl ≠ 0 ∨ x.own = true then (0, 11) else (x.kind, 0))
  else if x.kind ≠ 2 ∨ x.cl < 1 ∨ 8192 ≤ x.cl then (0, 11)
  else if x.own = true then (9223372036854775808 + x.cl * 256, 0) else (x.cl * 256, 0)
end Go.Proofs.Ytcfmlnddmpiemaa.Sx


set_option maxRecDepth 10000
namespace Go.Proofs.Ytcfmlnddmpiemaa.Sx
open Go.RowKit Go.Proofs.Ytcfmlnddmpiemaa.Sx.Tb
/-! ### Begin -/
def TR.zero : TR := ⟨[], [], 0, false⟩
theorem nth_lt {H : List Chunk} {i : Nat} {c : Chunk} (h : nth H i = some c) : Nat.blt i H.length = true := by
  rw [nth_eq] at h
  rw [Nat.blt_eq]
  exact lt_of_get h
theorem T5.leG {H : List Chunk} {fz : List Nat} {f : Nat → Nat} {ph : Nat → Bool} {t : TR} {j : JR} {s : DF} {a b c d e : Nat} {σ : List Nat} {cs : List Chunk} (f1 : f 1 = b) (f2 : f 2 = c) (f3 : f 3 = d) (f4 : f 4 = e) (h0 : nth H a = some (t.c0 d b c)) (h1 : nth H b = some t.c1) (h2 : nth H c = some t.c2) (h3 : nth H d = some (j.blk e)) (h4 : nth H e = some s.pk) (hz : memN a fz = false ∧ memN b fz = false ∧ memN c fz = false ∧ memN d fz = false ∧ memN e fz = false) (hx : chunksLe H fz f ph σ cs) : chunksLe H fz f ph (a :: b :: c :: d :: e :: σ) (tpre t j s ++ cs) := by
  refine ⟨?_, ?_, ?_, ?_, ?_, hx⟩
  · unfold Chunk.le TR.c0
    simp only
    rw [nth_lt h0, hz.1, h0]
    exact ⟨VC.mk ⟨rfl, rfl⟩, VC.mk ⟨f3, rfl, rfl, rfl⟩, VC.mk f1, VC.mk ⟨f2, rfl, rfl, rfl, rfl⟩, VC.mk rfl, trivial⟩
  · unfold Chunk.le TR.c1
    simp only
    rw [nth_lt h1, hz.2.1, h1]
    exact ⟨VC.mk ⟨rfl, .inl trivial⟩, arr_les t.dirty⟩
  · unfold Chunk.le TR.c2
    simp only
    rw [nth_lt h2, hz.2.2.1, h2]
    exact ⟨VC.mk ⟨rfl, rfl⟩, VC.mk ⟨rfl, Nat.le_refl _⟩, fun j _ => recs_les _⟩
  · unfold Chunk.le JR.blk
    simp only
    rw [nth_lt h3, hz.2.2.2.1, h3]
    exact ⟨VC.mk ⟨rfl, rfl⟩, VC.mk ⟨f4, rfl, rfl, rfl⟩, VC.mk rfl, VC.mk rfl, VC.mk rfl, trivial⟩
  · unfold Chunk.le DF.pk
    simp only
    rw [nth_lt h4, hz.2.2.2.2, h4]
    exact VC.mk ⟨rfl, rfl, rfl, rfl⟩
/-! ### Tables -/
def HD.m : HD := ⟨9, 32768, 60, 29, false⟩
end Go.Proofs.Ytcfmlnddmpiemaa.Sx


set_option maxRecDepth 10000
namespace Go.Proofs.Ytcfmlnddmpiemaa.Sx
/-! ### What is seen behind a Put, plain -/
theorem lkS_upS (n m : Int) (v : List Int) : ∀ (d : List (Int × List Int)), lkS n (upS m v d) = if n = m then some v else lkS n d
  | [] => by
    show (if m = n then _ else _) = _
    by_cases h : n = m
    · rw [if_pos h, if_pos h.symm]
    · rw [if_neg h, if_neg (fun e => h e.symm)]
  | (a, u) :: r => by
    unfold upS
    by_cases h : a = m
    · rw [if_pos h]
      show (if a = n then _ else _) = _
      subst h
      by_cases h2 : n = a
      · rw [if_pos h2, if_pos h2.symm]
      · rw [if_neg h2, if_neg (fun e => h2 e.symm)]
        show _ = (if a = n then _ else _)
        rw [if_neg (fun e => h2 e.symm)]
    · rw [if_neg h]
      show (if a = n then _ else _) = _
      by_cases h2 : a = n
      · rw [if_pos h2, if_neg (by omega)]
        show _ = (if a = n then _ else _)
        rw [if_pos h2]
      · rw [if_neg h2, lkS_upS n m v r]
        show _ = (if n = m then _ else (if a = n then _ else _))
        rw [if_neg h2]
theorem wr1_sec (t : TR) (now : List Int) (a : Nat) (xs : List Int) (n : Nat) : (t.wr1 now a xs).sec now n = if n = a / 512 then putG (t.sec now (a / 512 : Nat)) (a % 512) xs else t.sec now n := by
  unfold TR.sec
  show (match lkS (n : Int) (upS _ _ _) with | some l => l | none => _) = _
  rw [lkS_upS]
  by_cases h : n = a / 512
  · subst h
    rw [if_pos rfl, if_pos rfl]
    rfl
  · rw [if_neg h, if_neg (by omega)]
    rfl
theorem wr1_V {t : TR} (ht : t.Ok) (now : List Int) (a : Nat) (xs : List Int) (hx : a % 512 + xs.length ≤ 512) (i : Nat) : (t.wr1 now a xs).V now i = if a ≤ i ∧ i < a + xs.length then xs.getD (i - a) 0 else t.V now i := by
  unfold TR.V
  rw [wr1_sec]
  have hl := ht.sec_length now (a / 512 : Nat) (by omega)
  by_cases h : i / 512 = a / 512
  · rw [if_pos h, putG_get (by omega)]
    by_cases h2 : a ≤ i ∧ i < a + xs.length
    · rw [if_pos h2, if_pos (by omega), show i % 512 - a % 512 = i - a by omega]
    · rw [if_neg h2, if_neg (by omega), h]
  · rw [if_neg h, if_neg (by omega)]
theorem putF_V : ∀ (f : Nat) (t : TR) (now : List Int) (a : Nat) (p : List Int), t.Ok → p.length ≤ f → (TR.putF f t now a p).Ok ∧ (TR.putF f t now a p).fresh = t.fresh ∧ (TR.putF f t now a p).over = t.over ∧ (TR.putF f t now a p).cap = t.cap ∧ ∀ i, (TR.putF f t now a p).V now i = if a ≤ i ∧ i < a + p.length then p.getD (i - a) 0 else t.V now i
  | 0, t, now, a, p, h, hp => ⟨h, rfl, rfl, rfl, fun i => by rw [if_neg (by omega)]; rfl⟩
  | f + 1, t, now, a, p, h, hp => by
    by_cases h0 : p.length = 0
    · rw [putF_nil _ _ _ _ _ h0]
      exact ⟨h, rfl, rfl, rfl, fun i => by rw [if_neg (by omega)]⟩
    · have e : TR.putF (f + 1) t now a p = TR.putF f (t.wr1 now a (p.take (min p.length (512 - a % 512)))) now (a + min p.length (512 - a % 512)) (p.drop (min p.length (512 - a % 512))) := by
        show (if _ then _ else _) = _; rw [if_neg h0]
      rw [e]
      generalize hk : min p.length (512 - a % 512) = k
      have hkl : (p.take k).length = k := by rw [List.length_take]; omega
      have hdl : (p.drop k).length = p.length - k := List.length_drop ..
      have ho := h.wr1 now a (p.take k) (by omega)
      obtain ⟨i1, i2, i3, i4, i5⟩ := putF_V f (t.wr1 now a (p.take k)) now (a + k) (p.drop k) ho (by omega)
      refine ⟨i1, i2, i3, i4, fun i => ?_⟩
      rw [i5, wr1_V h now a _ (by omega), hkl, hdl]
      by_cases c1 : a + k ≤ i ∧ i < a + k + (p.length - k)
      · rw [if_pos c1, if_pos (by omega)]
        rw [List.getD_eq_getElem?_getD, List.getElem?_drop, List.getD_eq_getElem?_getD, show k + (i - (a + k)) = i - a by omega]
      · rw [if_neg c1]
        by_cases c2 : a ≤ i ∧ i < a + k
        · rw [if_pos c2, if_pos (by omega), List.getD_eq_getElem?_getD, List.getElem?_take, if_pos (by omega), List.getD_eq_getElem?_getD]
        · rw [if_neg c2, if_neg (by omega)]
theorem put_V {t : TR} (h : t.Ok) (now : List Int) (a : Nat) (p : List Int) : (t.put now a p).Ok ∧ (t.put now a p).fresh = t.fresh ∧ (t.put now a p).over = t.over ∧ (t.put now a p).cap = t.cap ∧ ∀ i, (t.put now a p).V now i = if a ≤ i ∧ i < a + p.length then p.getD (i - a) 0 else t.V now i := putF_V _ t now a p h (Nat.le_refl _)
theorem TR.rd_get (t : TR) (now : List Int) (a n i : Nat) (h : i < n) : (t.rd now a n).getD i 0 = t.V now (a + i) := by
  unfold TR.rd
  rw [List.getD_eq_getElem?_getD, List.getElem?_map, List.getElem?_range h]
  rfl
theorem rd_congr {t t' : TR} {now now' : List Int} {a n : Nat} (h : ∀ i, i < n → t.V now (a + i) = t'.V now' (a + i)) : t.rd now a n = t'.rd now' a n := by
  unfold TR.rd
  exact List.map_congr_left (fun i hi => h i (List.mem_range.1 hi))
/-- What is put is read. -/
theorem put_rd {t : TR} (h : t.Ok) (now : List Int) (a : Nat) (p : List Int) : (t.put now a p).rd now a p.length = p := by
  refine ext_getD (by rw [TR.rd_length]) (fun i hi => ?_)
  rw [TR.rd_length] at hi
  rw [TR.rd_get _ _ _ _ _ hi, (put_V h now a p).2.2.2.2, if_pos ⟨by omega, by omega⟩, show a + i - a = i by omega]
/-- All bytes are bytes. -/
def TR.B (t : TR) (now : List Int) : Prop := ∀ i, 0 ≤ t.V now i ∧ t.V now i < 256
theorem TR.B.rd {t : TR} {now : List Int} (h : t.B now) (a n : Nat) : B8 (t.rd now a n) := by
  intro x hx
  unfold TR.rd at hx
  rw [List.mem_map] at hx
  obtain ⟨i, -, rfl⟩ := hx
  exact h _
theorem TR.B.put {t : TR} {now : List Int} (h : t.B now) (ho : t.Ok) (a : Nat) {p : List Int} (hp : B8 p) : (t.put now a p).B now := by
  intro i
  rw [(put_V ho now a p).2.2.2.2]
  split
  · exact hp.getD _
  · exact h i
theorem zero_V (now : List Int) (i : Nat) : TR.zero.V now i = now.getD i 0 := by
  unfold TR.V TR.sec
  show (secF now ((i / 512 : Nat) : Int)).getD (i % 512) 0 = _
  unfold secF padS
  have e : (512 * ((i / 512 : Nat) : Int)).toNat = 512 * (i / 512) := by omega
  rw [e]
  by_cases h : i % 512 < ((now.drop (512 * (i / 512))).take 512).length
  · rw [List.getD_eq_getElem?_getD, List.getElem?_append_left h, List.getElem?_take, if_pos (by omega), List.getElem?_drop, List.getD_eq_getElem?_getD, show 512 * (i / 512) + i % 512 = i by omega]
  · rw [List.getD_eq_getElem?_getD, List.getElem?_append_right (by omega), List.getElem?_replicate]
    rw [List.length_take, List.length_drop] at h
    rw [getD_of_le (l := now) (by omega)]
    split <;> rfl
end Go.Proofs.Ytcfmlnddmpiemaa.Sx


set_option maxRecDepth 10000
namespace Go.Proofs.Ytcfmlnddmpiemaa.Sx
open Go.RowKit Go.Proofs.Ytcfmlnddmpiemaa.Sx.Tb
/-! ### Fresh -/
/-- The same five, the row of fresh ones under a new number. -/
def tmv (t : TR) (j : JR) (s : DF) : List Chunk := [t.c0 3 1 5, t.c1, .dead, j.blk 4, s.pk, t.c2]
theorem M6.good {t : TR} {j : JR} {s : DF} {v : AV} (h : v.noF) : Good 5 v (tmv t j s) := by
  refine ⟨h, fun c hc => ?_, Nat.le_of_ble_eq_true rfl⟩
  simp [tmv] at hc
  rcases hc with rfl | rfl | rfl | rfl | rfl | rfl
  · exact .blk ⟨trivial, trivial, trivial, trivial, trivial⟩
  · exact .mp (arr_noF t.dirty)
  · exact .dead
  · exact j.noF _
  · exact s.pk_noF
  · exact .blk (recsC_noF _)
end Go.Proofs.Ytcfmlnddmpiemaa.Sx


set_option maxRecDepth 10000
namespace Go.Proofs.Ytcfmlnddmpiemaa.Sx
open Go.RowKit Go.Proofs.Ytcfmlnddmpiemaa.Sx.Tb
theorem sort_K : ConOk Go.Proofs.Try.prog 93 (sortC 2) :=
  sort_conOk 2 ⟨_, Go.Proofs.Try.func93, by decide +kernel, by kernel_rfl⟩ (fun blk cap zs w h1 h2 h3 => AnyG.slices_Sort_int Sx.sortI64 blk 0 cap zs w h1 h2 h3) (fun p cap w => AnyG.slices_Sort_int_none Sx.sortI64 p cap w)
#print axioms sort_K
end Go.Proofs.Ytcfmlnddmpiemaa.Sx


set_option maxRecDepth 10000
namespace Go.Proofs.Ytcfmlnddmpiemaa.Sx
open Go.RowKit Go.Proofs.Ytcfmlnddmpiemaa.Sx.Tb
/-! ### A tx's records -/
def snocD (acc : List RecR) (x : List Int) : List RecR := acc.set (acc.length - 1) ((acc.getD (acc.length - 1) (0, [])).1, (acc.getD (acc.length - 1) (0, [])).2 ++ x)
def bldS (d : List (Int × List Int)) (ks : List Int) (acc : List RecR) (i : Nat) : List RecR :=
  if 0 < i ∧ ks.getD (i - 1) 0 = ks.getD i 0 - 1 then snocD acc ((lkS (ks.getD i 0) d).getD []) else acc ++ [(ks.getD i 0 * 512, (lkS (ks.getD i 0) d).getD [])]
def bldR (d : List (Int × List Int)) (ks : List Int) (m : Nat) : List RecR := (List.range m).foldl (bldS d ks) []
def RecRel (t : TR) (r : List RecR) : Prop := ∃ ks : List Int, ks.Perm (t.dirty.map (fun x => x.1)) ∧ ks.Pairwise (· ≤ ·) ∧ r = bldR t.dirty ks ks.length
theorem lkS_of_mem {n : Int} : ∀ {d : List (Int × List Int)}, n ∈ d.map (fun x => x.1) → ∃ l, lkS n d = some l
  | [], h => absurd h List.not_mem_nil
  | (a, v) :: r, h => by
    unfold lkS
    by_cases e : a = n
    · exact ⟨v, by rw [if_pos e]⟩
    · rw [if_neg e]
      refine lkS_of_mem (d := r) ?_
      rcases List.mem_cons.1 h with h | h
      · exact absurd h.symm e
      · exact h
theorem sub_len : ∀ {l s : List Nat}, l.Nodup → (∀ b ∈ l, b ∈ s) → l.length ≤ s.length
  | [], _, _, _ => Nat.zero_le _
  | a :: l, s, hn, h => by
    have hc := List.nodup_cons.1 hn
    have ha := h a (List.mem_cons_self ..)
    have i : l.length ≤ (s.erase a).length := sub_len hc.2 (fun b hb => (List.mem_erase_of_ne (fun e => hc.1 (by rw [← e]; exact hb))).2 (h b (List.mem_cons_of_mem _ hb)))
    rw [List.length_erase_of_mem ha] at i
    have : 0 < s.length := List.length_pos_of_mem ha
    simp only [List.length_cons]
    omega
theorem recsC_ren (rs : List RecR) (f : Nat → Nat) : (recsC true rs).ren f = recsC true rs := rfl
attribute [local simp] recsC_noF recsC_ren
end Go.Proofs.Ytcfmlnddmpiemaa.Sx


set_option maxRecDepth 10000
namespace Go.Proofs.Ytcfmlnddmpiemaa.Sx
/-! ### A tx's records, plain: how many and how large -/
theorem encL_cons (r : RecR) (rs : List RecR) : (encL (r :: rs)).length = 12 + r.2.length + (encL rs).length := by
  show (enc1 r ++ encL rs).length = _
  rw [List.length_append, enc1_length]
theorem encL_set (x : List Int) : ∀ (acc : List RecR) (i : Nat), i < acc.length → (encL (acc.set i ((acc.getD i (0, [])).1, (acc.getD i (0, [])).2 ++ x))).length = (encL acc).length + x.length
  | [], i, h => absurd h (Nat.not_lt_zero _)
  | a :: rs, 0, h => by
    show (encL ((a.1, a.2 ++ x) :: rs)).length = _
    rw [encL_cons, encL_cons]
    show 12 + (a.2 ++ x).length + _ = _
    rw [List.length_append]
    omega
  | a :: rs, i + 1, h => by
    show (encL (a :: rs.set i ((rs.getD i (0, [])).1, (rs.getD i (0, [])).2 ++ x))).length = _
    rw [encL_cons, encL_cons, encL_set x rs i (by simpa using h)]
    omega
theorem encL_append (a b : List RecR) : (encL (a ++ b)).length = (encL a).length + (encL b).length := by
  unfold encL; rw [List.flatMap_append, List.length_append]
def RecB (B : Int) (m : Nat) (rs : List RecR) : Prop := rs.length ≤ m ∧ (encL rs).length ≤ 524 * m ∧ ∀ r ∈ rs, 0 ≤ r.1 ∧ r.1 ≤ B * 512 ∧ r.2.length ≤ 512 * m
theorem snocD_B {B : Int} {m : Nat} {rs : List RecR} (h : RecB B m rs) {x : List Int} (hx : x.length ≤ 512) : RecB B (m + 1) (snocD rs x) := by
  obtain ⟨h1, h2, h3⟩ := h
  unfold snocD
  by_cases h0 : rs.length = 0
  · have : rs = [] := List.eq_nil_of_length_eq_zero h0
    subst this
    exact ⟨Nat.zero_le _, Nat.zero_le _, fun r hr => absurd hr List.not_mem_nil⟩
  · refine ⟨by rw [List.length_set]; omega, by rw [encL_set x rs _ (by omega)]; omega, fun r hr => ?_⟩
    rcases List.mem_or_eq_of_mem_set hr with hr | rfl
    · have := h3 r hr; omega
    · have hm : rs.getD (rs.length - 1) (0, []) ∈ rs := by
        rw [show rs.getD (rs.length - 1) (0, []) = rs[rs.length - 1]'(by omega) by simp [List.getD_eq_getElem?_getD, show rs.length - 1 < rs.length by omega]]
        exact List.getElem_mem _
      have := h3 _ hm
      refine ⟨this.1, this.2.1, ?_⟩
      show ((rs.getD (rs.length - 1) (0, [])).2 ++ x).length ≤ _
      rw [List.length_append]; omega
theorem bldR_B {d : List (Int × List Int)} {ks : List Int} {B : Int} (hd : ∀ q ∈ d, q.2.length = 512) (hk : ∀ n ∈ ks, 0 ≤ n ∧ n ≤ B) : ∀ m, m ≤ ks.length → RecB B m (bldR d ks m)
  | 0, _ => ⟨Nat.le_refl _, Nat.le_refl _, fun r hr => absurd hr List.not_mem_nil⟩
  | m + 1, hm => by
    have ih := bldR_B hd hk m (by omega)
    have e : bldR d ks (m + 1) = bldS d ks (bldR d ks m) m := by
      unfold bldR; rw [List.range_succ, List.foldl_append]; rfl
    rw [e]
    have hx : ((lkS (ks.getD m 0) d).getD []).length ≤ 512 := by
      cases hq : lkS (ks.getD m 0) d with
      | none => exact Nat.zero_le _
      | some l => exact Nat.le_of_eq (hd _ (lkS_mem hq))
    have hn : 0 ≤ ks.getD m 0 ∧ ks.getD m 0 ≤ B := by
      refine hk _ ?_
      rw [show ks.getD m 0 = ks[m]'(by omega) by simp [List.getD_eq_getElem?_getD, show m < ks.length by omega]]
      exact List.getElem_mem _
    unfold bldS
    split
    · exact snocD_B ih hx
    · obtain ⟨h1, h2, h3⟩ := ih
      refine ⟨by rw [List.length_append]; simp; omega, ?_, fun r hr => ?_⟩
      · rw [encL_append, encL_cons]
        show (encL (bldR d ks m)).length + (12 + ((lkS (ks.getD m 0) d).getD []).length + 0) ≤ 524 * (m + 1)
        omega
      · rcases List.mem_append.1 hr with hr | hr
        · have := h3 r hr; omega
        · obtain rfl := List.mem_singleton.1 hr
          refine ⟨by show 0 ≤ ks.getD m 0 * 512; omega, by show ks.getD m 0 * 512 ≤ _; omega, by show ((lkS (ks.getD m 0) d).getD []).length ≤ 512 * (m + 1); omega⟩
theorem RecRel.B {t : TR} {r : List RecR} (h : RecRel t r) (ho : t.Ok) {B : Int} (hk : ∀ q ∈ t.dirty, 0 ≤ q.1 ∧ q.1 ≤ B) : RecB B t.dirty.length r := by
  obtain ⟨ks, h1, h2, rfl⟩ := h
  have hl : ks.length = t.dirty.length := by rw [h1.length_eq, List.length_map]
  rw [← hl]
  refine bldR_B ho.sec (fun n hn => ?_) _ (Nat.le_refl _)
  obtain ⟨q, hq, rfl⟩ := List.mem_map.1 (h1.subset hn)
  exact hk q hq
end Go.Proofs.Ytcfmlnddmpiemaa.Sx


set_option maxRecDepth 10000
namespace Go.Proofs.Ytcfmlnddmpiemaa.Sx
open Go.RowKit Go.Proofs.Ytcfmlnddmpiemaa.Sx.Tb
/-! ### Size -/
end Go.Proofs.Ytcfmlnddmpiemaa.Sx


set_option maxRecDepth 10000
namespace Go.Proofs.Ytcfmlnddmpiemaa.Sx
/-! ### Law 27, put together, plain -/
end Go.Proofs.Ytcfmlnddmpiemaa.Sx


set_option maxRecDepth 10000
namespace Go.Proofs.Ytcfmlnddmpiemaa.Sx
open Go.RowKit Go.Proofs.Ytcfmlnddmpiemaa.Sx.Tb
/-! ### Commit of changes -/
theorem snocD_B8 {rs : List RecR} (h : ∀ r ∈ rs, B8 r.2) {x : List Int} (hx : B8 x) : ∀ r ∈ snocD rs x, B8 r.2 := by
  intro r hr
  unfold snocD at hr
  rcases List.mem_or_eq_of_mem_set hr with hr | rfl
  · exact h r hr
  · refine B8.append ?_ hx
    by_cases h0 : rs.length = 0
    · have : rs = [] := List.eq_nil_of_length_eq_zero h0
      subst this
      exact B8.nil
    · refine h _ ?_
      rw [show rs.getD (rs.length - 1) (0, []) = rs[rs.length - 1]'(by omega) by simp [List.getD_eq_getElem?_getD, show rs.length - 1 < rs.length by omega]]
      exact List.getElem_mem _
theorem bldR_B8 {d : List (Int × List Int)} (hd : ∀ q ∈ d, B8 q.2) (ks : List Int) : ∀ m, ∀ r ∈ bldR d ks m, B8 r.2
  | 0 => fun r hr => absurd hr List.not_mem_nil
  | m + 1 => by
    have ih := bldR_B8 hd ks m
    have e : bldR d ks (m + 1) = bldS d ks (bldR d ks m) m := by
      unfold bldR; rw [List.range_succ, List.foldl_append]; rfl
    rw [e]
    have hx : B8 ((lkS (ks.getD m 0) d).getD []) := by
      cases hq : lkS (ks.getD m 0) d with
      | none => exact B8.nil
      | some l => exact hd _ (lkS_mem hq)
    unfold bldS
    split
    · exact snocD_B8 ih hx
    · intro r hr
      rcases List.mem_append.1 hr with hr | hr
      · exact ih r hr
      · obtain rfl := List.mem_singleton.1 hr
        exact hx
theorem RecRel.B8 {t : TR} {r : List RecR} (h : RecRel t r) (hd : ∀ q ∈ t.dirty, B8 q.2) : ∀ q ∈ r, B8 q.2 := by
  obtain ⟨ks, h1, h2, rfl⟩ := h
  exact bldR_B8 hd ks _
def TR.close (t : TR) : TR := { t with over := true }
end Go.Proofs.Ytcfmlnddmpiemaa.Sx


set_option maxRecDepth 10000
namespace Go.Proofs.Ytcfmlnddmpiemaa.Sx
/-! ### What a calm file shows behind writes, plain -/
def wrV (f : Nat → Int) (a : Nat) (xs : List Int) (i : Nat) : Int := if a ≤ i ∧ i < a + xs.length then xs.getD (i - a) 0 else f i
def doneV (rs : List RecR) (f : Nat → Int) : Nat → Int := rs.foldl (fun f r => wrV f r.1.toNat r.2) f
def DF.V (s : DF) (i : Nat) : Int := s.now.getD i 0
theorem doneV_cons (r : RecR) (rs : List RecR) (f : Nat → Int) : doneV (r :: rs) f = doneV rs (wrV f r.1.toNat r.2) := rfl
theorem doneV_snoc (rs : List RecR) (r : RecR) (f : Nat → Int) : doneV (rs ++ [r]) f = wrV (doneV rs f) r.1.toNat r.2 := by
  unfold doneV; rw [List.foldl_append]; rfl
theorem wrV_append (f : Nat → Int) (a : Nat) (l m : List Int) : wrV f a (l ++ m) = wrV (wrV f a l) (a + l.length) m := by
  funext i
  unfold wrV
  rw [List.length_append]
  by_cases h1 : a ≤ i ∧ i < a + l.length
  · rw [if_pos ⟨h1.1, by omega⟩, if_neg (by omega), if_pos h1, List.getD_eq_getElem?_getD, List.getElem?_append_left (by omega), List.getD_eq_getElem?_getD]
  · by_cases h2 : a + l.length ≤ i ∧ i < a + l.length + m.length
    · rw [if_pos ⟨by omega, by omega⟩, if_pos h2, List.getD_eq_getElem?_getD, List.getElem?_append_right (by omega), List.getD_eq_getElem?_getD, show i - a - l.length = i - (a + l.length) by omega]
    · rw [if_neg (by omega), if_neg h2, if_neg h1]
def lenR (rs : List RecR) (n : Nat) : Nat := rs.foldl (fun n r => if r.2.length = 0 then n else max n (r.1.toNat + r.2.length)) n
/-! ### A tx's view is what its fresh ones and its sectors leave -/
theorem layR_get {at_ : Int} {l : List Int} {r : RecR} (hl : l.length = 512) (h0 : 0 ≤ at_) (hr : 0 ≤ r.1) {j : Nat} (hj : j < 512) : (layR at_ l r).getD j 0 = if r.1.toNat ≤ at_.toNat + j ∧ at_.toNat + j < r.1.toNat + r.2.length then r.2.getD (at_.toNat + j - r.1.toNat) 0 else l.getD j 0 := by
  unfold layR
  rw [hl]
  split
  · rename_i h
    have e : ((r.2.drop (max at_ r.1 - r.1).toNat).take (min (at_ + (512 : Nat)) (r.1 + r.2.length) - max at_ r.1).toNat).length = (min (at_ + (512 : Nat)) (r.1 + r.2.length) - max at_ r.1).toNat := by rw [List.length_take, List.length_drop]; omega
    rw [putG_get (by omega), e]
    by_cases c : r.1.toNat ≤ at_.toNat + j ∧ at_.toNat + j < r.1.toNat + r.2.length
    · rw [if_pos c, if_pos (by omega), List.getD_eq_getElem?_getD, List.getElem?_take, if_pos (by omega), List.getElem?_drop, List.getD_eq_getElem?_getD]
      congr 2; omega
    · rw [if_neg c, if_neg (by omega)]
  · rename_i h
    rw [if_neg (by omega)]
theorem lays_get {at_ : Int} (h0 : 0 ≤ at_) : ∀ (rs : List RecR) (l : List Int) (f : Nat → Int), l.length = 512 → (∀ r ∈ rs, 0 ≤ r.1) → (∀ j, j < 512 → l.getD j 0 = f (at_.toNat + j)) → ∀ j, j < 512 → (rs.foldl (layR at_) l).getD j 0 = doneV rs f (at_.toNat + j)
  | [], l, f, hl, hr, h, j, hj => h j hj
  | r :: rs, l, f, hl, hr, h, j, hj => by
    rw [doneV_cons]
    refine lays_get h0 rs _ _ (layR_length _ _ _ hl h0) (fun q hq => hr q (List.mem_cons_of_mem _ hq)) (fun i hi => ?_) j hj
    rw [layR_get hl h0 (hr r (List.mem_cons_self ..)) hi, h i hi]
    rfl
theorem secF_get (now : List Int) (n : Nat) {j : Nat} (hj : j < 512) : (secF now (n : Int)).getD j 0 = now.getD (512 * n + j) 0 := by
  have := zero_V now (512 * n + j)
  unfold TR.V TR.sec at this
  rw [← this]
  show _ = (secF now (((512 * n + j) / 512 : Nat) : Int)).getD ((512 * n + j) % 512) 0
  rw [show (512 * n + j) / 512 = n by omega, show (512 * n + j) % 512 = j by omega]
/-- The view: a sector that is dirty, or what the fresh ones leave. -/
theorem TR.V_eq {t : TR} (h : t.Ok) (s : DF) (i : Nat) : t.V s.now i = (match lkS ((i / 512 : Nat) : Int) t.dirty with | some l => l.getD (i % 512) 0 | none => doneV t.fresh s.V i) := by
  unfold TR.V TR.sec
  cases hq : lkS ((i / 512 : Nat) : Int) t.dirty with
  | some l => rfl
  | none =>
    show (t.fresh.foldl (layR (512 * ((i / 512 : Nat) : Int))) (secF s.now ((i / 512 : Nat) : Int))).getD (i % 512) 0 = _
    rw [lays_get (by omega) t.fresh _ s.V (secF_length _ _) (fun r hr => (h.frs r hr).1) (fun j hj => ?_) (i % 512) (Nat.mod_lt _ (by omega))]
    · congr 1; omega
    · rw [secF_get _ _ hj]; unfold DF.V; rw [show (512 * ((i / 512 : Nat) : Int)).toNat = 512 * (i / 512) by omega]
/-! ### The records are the sectors -/
def keyV (d : List (Int × List Int)) (ks : List Int) (f : Nat → Int) : Nat → Int := ks.foldl (fun f k => wrV f (k * 512).toNat ((lkS k d).getD [])) f
def SecsOk (d : List (Int × List Int)) (ks : List Int) : Prop := ∀ k ∈ ks, 0 ≤ k ∧ ((lkS k d).getD []).length = 512
theorem keyV_get {d : List (Int × List Int)} : ∀ (ks : List Int) (f : Nat → Int), SecsOk d ks → ∀ i, keyV d ks f i = if ((i / 512 : Nat) : Int) ∈ ks then ((lkS ((i / 512 : Nat) : Int) d).getD []).getD (i % 512) 0 else f i
  | [], f, _, i => by rw [if_neg List.not_mem_nil]; rfl
  | k :: ks, f, h, i => by
    obtain ⟨h0, h1⟩ := h k (List.mem_cons_self ..)
    show keyV d ks (wrV f (k * 512).toNat ((lkS k d).getD [])) i = _
    rw [keyV_get ks _ (fun q hq => h q (List.mem_cons_of_mem _ hq)) i]
    by_cases c : ((i / 512 : Nat) : Int) ∈ ks
    · rw [if_pos c, if_pos (List.mem_cons_of_mem _ c)]
    · rw [if_neg c]
      unfold wrV
      rw [h1]
      by_cases c2 : ((i / 512 : Nat) : Int) = k
      · rw [if_pos (by omega), if_pos (by rw [c2]; exact List.mem_cons_self ..), c2]
        congr 1; omega
      · rw [if_neg (by omega), if_neg (fun hm => by rcases List.mem_cons.1 hm with e | e; exact c2 e; exact c e)]
theorem snocD_eq {rs : List RecR} (h : rs ≠ []) (x : List Int) : ∃ init last, rs = init ++ [last] ∧ snocD rs x = init ++ [(last.1, last.2 ++ x)] := by
  refine ⟨rs.dropLast, rs.getLast h, (List.dropLast_concat_getLast h).symm, ?_⟩
  have e := (List.dropLast_concat_getLast h).symm
  generalize rs.dropLast = a at e
  generalize rs.getLast h = b at e
  subst e
  unfold snocD
  rw [show (a ++ [b]).length - 1 = a.length by simp]
  rw [List.getD_eq_getElem?_getD, List.getElem?_append_right (Nat.le_refl _), Nat.sub_self]
  rw [List.set_append_right _ _ (Nat.le_refl _), Nat.sub_self]
  rfl
/-- What is known of the records of some sectors. -/
structure RecS (d : List (Int × List Int)) (ks : List Int) (rs : List RecR) : Prop where
  view : ∀ f, doneV rs f = keyV d ks f
  last : ks ≠ [] → ∃ init r, rs = init ++ [r] ∧ r.1 + r.2.length = (ks.getD (ks.length - 1) 0 + 1) * 512
  cov : ∀ r ∈ rs, 0 ≤ r.1 ∧ 0 < r.2.length ∧ ∀ i : Nat, r.1 ≤ i → (i : Int) < r.1 + r.2.length → ((i / 512 : Nat) : Int) ∈ ks
  nil : ks = [] → rs = []
theorem keyV_snoc (d : List (Int × List Int)) (ks : List Int) (k : Int) (f : Nat → Int) : keyV d (ks ++ [k]) f = wrV (keyV d ks f) (k * 512).toNat ((lkS k d).getD []) := by
  unfold keyV; rw [List.foldl_append]; rfl
theorem bldR_S {d : List (Int × List Int)} {ks : List Int} (hk : SecsOk d ks) : ∀ m, m ≤ ks.length → RecS d (ks.take m) (bldR d ks m)
  | 0, _ => by
    rw [List.take_zero]
    exact ⟨fun f => rfl, fun h => absurd rfl h, fun r hr => absurd hr List.not_mem_nil, fun _ => rfl⟩
  | m + 1, hm => by
    have ih := bldR_S hk m (by omega)
    have hkm : ks.getD m 0 ∈ ks := by
      rw [show ks.getD m 0 = ks[m]'(by omega) by simp [List.getD_eq_getElem?_getD, show m < ks.length by omega]]
      exact List.getElem_mem _
    obtain ⟨k0, k1⟩ := hk _ hkm
    have et : ks.take (m + 1) = ks.take m ++ [ks.getD m 0] := by
      rw [List.take_add_one, List.getElem?_eq_getElem (show m < ks.length by omega), List.getD_eq_getElem?_getD, List.getElem?_eq_getElem (show m < ks.length by omega)]; rfl
    have e : bldR d ks (m + 1) = bldS d ks (bldR d ks m) m := by
      unfold bldR; rw [List.range_succ, List.foldl_append]; rfl
    have tl : (ks.take m).length = m := by rw [List.length_take]; omega
    have hlast : (ks.take (m + 1)).getD ((ks.take (m + 1)).length - 1) 0 = ks.getD m 0 := by
      rw [et, show (ks.take m ++ [ks.getD m 0]).length - 1 = m by rw [List.length_append, tl]; rfl, List.getD_eq_getElem?_getD, List.getElem?_append_right (by omega), tl, Nat.sub_self]; rfl
    rw [e]
    obtain ⟨x, hx⟩ : ∃ x, x = (lkS (ks.getD m 0) d).getD [] := ⟨_, rfl⟩
    rw [← hx] at k1
    unfold bldS
    rw [← hx]
    split
    · rename_i h
      have hne : ks.take m ≠ [] := fun h0 => by rw [h0] at tl; simp at tl; omega
      obtain ⟨init, r, hr, he⟩ := ih.last hne
      have hrn : bldR d ks m ≠ [] := by rw [hr]; simp
      have hpm : (ks.take m).getD ((ks.take m).length - 1) 0 = ks.getD (m - 1) 0 := by
        rw [tl, List.getD_eq_getElem?_getD, List.getElem?_take, if_pos (by omega), List.getD_eq_getElem?_getD]
      rw [hpm, h.2] at he
      have hs : snocD (bldR d ks m) x = init ++ [(r.1, r.2 ++ x)] := by
        obtain ⟨i2, r2, a1, a2⟩ := snocD_eq hrn x
        rw [hr] at a1
        obtain ⟨b1, b2⟩ := List.append_inj' a1 rfl
        cases b2
        rw [a2, ← b1]
      rw [hs]
      have hrr := ih.cov r (by rw [hr]; simp)
      refine ⟨fun f => ?_, fun _ => ⟨init, _, rfl, ?_⟩, fun q hq => ?_, fun h0 => ?_⟩
      · rw [doneV_snoc, et, keyV_snoc, ← hx, ← ih.view f, hr, doneV_snoc, wrV_append]
        congr 1
        omega
      · rw [hlast, List.length_append, k1]
        show r.1 + ((r.2.length + 512 : Nat) : Int) = _
        omega
      · rcases List.mem_append.1 hq with hq | hq
        · obtain ⟨q1, q2, q3⟩ := ih.cov q (by rw [hr]; exact List.mem_append_left _ hq)
          exact ⟨q1, q2, fun i a b => by rw [et]; exact List.mem_append_left _ (q3 i a b)⟩
        · obtain rfl := List.mem_singleton.1 hq
          refine ⟨hrr.1, by show 0 < (r.2 ++ x).length; rw [List.length_append]; omega, fun i a b => ?_⟩
          have b : (i : Int) < r.1 + ((r.2 ++ x).length : Int) := b
          rw [List.length_append] at b
          rw [et]
          by_cases c : (i : Int) < r.1 + r.2.length
          · exact List.mem_append_left _ (hrr.2.2 i a c)
          · refine List.mem_append_right _ (List.mem_singleton.2 ?_)
            omega
      · rw [et] at h0; simp at h0
    · refine ⟨fun f => ?_, fun _ => ⟨_, _, rfl, ?_⟩, fun q hq => ?_, fun h0 => ?_⟩
      · rw [doneV_snoc, et, keyV_snoc, ih.view f, ← hx]
      · rw [hlast]
        show ks.getD m 0 * 512 + (x.length : Int) = _
        omega
      · rcases List.mem_append.1 hq with hq | hq
        · obtain ⟨q1, q2, q3⟩ := ih.cov q hq
          exact ⟨q1, q2, fun i a b => by rw [et]; exact List.mem_append_left _ (q3 i a b)⟩
        · obtain rfl := List.mem_singleton.1 hq
          refine ⟨by show 0 ≤ ks.getD m 0 * 512; omega, by show 0 < x.length; omega, fun i a b => ?_⟩
          have a : ks.getD m 0 * 512 ≤ (i : Int) := a
          have b : (i : Int) < ks.getD m 0 * 512 + (x.length : Int) := b
          rw [et]
          exact List.mem_append_right _ (List.mem_singleton.2 (by omega))
      · rw [et] at h0; simp at h0
theorem secs_of {t : TR} (h : t.Ok) (hk : ∀ q ∈ t.dirty, 0 ≤ q.1) {ks : List Int} (hp : ∀ k ∈ ks, k ∈ t.dirty.map (fun x => x.1)) : SecsOk t.dirty ks := by
  intro k hq
  obtain ⟨l, hl⟩ := lkS_of_mem (hp k hq)
  rw [hl]
  exact ⟨hk _ (lkS_mem hl), h.sec _ (lkS_mem hl)⟩
theorem lkS_key {n : Int} : ∀ {d : List (Int × List Int)} {l : List Int}, lkS n d = some l → n ∈ d.map (fun x => x.1) := fun h => List.mem_map.2 ⟨_, lkS_mem h, rfl⟩
/-- All in one: the records of a tx. -/
theorem RecRel.S {t : TR} {rs : List RecR} (h : RecRel t rs) (ho : t.Ok) (hk : ∀ q ∈ t.dirty, 0 ≤ q.1) : (∀ (s : DF) (i : Nat), doneV rs (doneV t.fresh s.V) i = t.V s.now i) ∧ (∀ r ∈ rs, 0 ≤ r.1 ∧ 0 < r.2.length ∧ ∀ i : Nat, r.1 ≤ i → (i : Int) < r.1 + r.2.length → ((i / 512 : Nat) : Int) ∈ t.dirty.map (fun x => x.1)) := by
  obtain ⟨ks, h1, h2, rfl⟩ := h
  have hs := secs_of ho hk (ks := ks) (fun k hk => h1.subset hk)
  have hS := bldR_S hs ks.length (Nat.le_refl _)
  rw [List.take_length] at hS
  refine ⟨fun s i => ?_, fun r hr => ?_⟩
  · rw [hS.view, keyV_get ks _ hs, TR.V_eq ho]
    cases hq : lkS ((i / 512 : Nat) : Int) t.dirty with
    | some l => rw [if_pos (h1.symm.subset (lkS_key hq))]; rfl
    | none =>
      rw [if_neg (fun hm => ?_)]
      obtain ⟨l, hl⟩ := lkS_of_mem (h1.subset hm)
      rw [hq] at hl; cases hl
  · obtain ⟨q1, q2, q3⟩ := hS.cov r hr
    exact ⟨q1, q2, fun i a b => h1.subset (q3 i a b)⟩
end Go.Proofs.Ytcfmlnddmpiemaa.Sx


set_option maxRecDepth 10000
namespace Go.Proofs.Ytcfmlnddmpiemaa.Sx
/-! ### A commit on a calm file, plain -/
/-- A tx whose changes may be committed by a journal. -/
structure TR.In (t : TR) (j : JR) : Prop where
  keys : ∀ q ∈ t.dirty, 0 ≤ q.1 ∧ q.1 ≤ 8191 ∧ (q.1 * 512 + 512 ≤ j.pos ∨ j.pos + j.size ≤ q.1 * 512) ∧ B8 q.2
  nodup : (t.dirty.map (fun x => x.1)).Nodup
  frs : ∀ r ∈ t.fresh, 0 ≤ r.1 ∧ r.1 + r.2.length ≤ 4194304 ∧ (r.1 + r.2.length ≤ j.pos ∨ j.pos + j.size ≤ r.1) ∧ B8 r.2
theorem TR.In.recs {t : TR} {j : JR} (h : t.In j) (ho : t.Ok) (hj : j.Ok) {rs : List RecR} (hr : RecRel t rs) : ∀ r ∈ rs, j.out r.1 r.2.length ∧ r.1 + r.2.length ≤ 4194304 := by
  obtain ⟨-, hc⟩ := hr.S ho (fun q hq => (h.keys q hq).1)
  obtain ⟨j1, j2, j3, j4, j5, j6⟩ := hj
  intro r hm
  obtain ⟨c1, c2, c3⟩ := hc r hm
  have key : ∀ i : Nat, r.1 ≤ i → (i : Int) < r.1 + r.2.length → (i : Int) < 4194304 ∧ ((i : Int) < j.pos ∨ j.pos + j.size ≤ i) := by
    intro i a b
    obtain ⟨q, hq, e⟩ := List.mem_map.1 (c3 i a b)
    have := h.keys q hq
    omega
  have h1 := key (r.1.toNat + r.2.length - 1) (by omega) (by omega)
  refine ⟨⟨c1, by omega, by omega, by omega, ?_⟩, by omega⟩
  by_cases c : r.1 + r.2.length ≤ j.pos
  · exact .inl c
  · refine .inr (Int.not_lt.1 (fun c4 => ?_))
    have := key (max r.1 j.pos).toNat (by omega) (by omega)
    omega
/-- What a commit does on a calm file. -/
structure ComEnd (t : TR) (j : JR) (s : DF) (rs : List RecR) (x : Int × TR × JR × DF) : Prop where
  err : x.1 = 0
  tx : x.2.1 = t.close
  jr : x.2.2.1 = j ∨ x.2.2.1 = j.next
  live : x.2.2.2.live
  view : ∀ i, ¬ j.inJ i → x.2.2.2.V i = t.V s.now i
  len : x.2.2.2.now.length = lenR rs (lenR t.fresh s.now.length)
  items : s.items = [] → x.2.2.2.items = []
end Go.Proofs.Ytcfmlnddmpiemaa.Sx


set_option maxRecDepth 10000
namespace Go.Proofs.Ytcfmlnddmpiemaa.Sx
/-! ### Put and Fresh keep what a commit needs, plain -/
theorem upS_keys (n : Int) (v : List Int) : ∀ (d : List (Int × List Int)), (upS n v d).map (fun x => x.1) = if n ∈ d.map (fun x => x.1) then d.map (fun x => x.1) else d.map (fun x => x.1) ++ [n]
  | [] => by
    show [n] = if n ∈ ([] : List Int) then [] else [n]
    rw [if_neg List.not_mem_nil]
  | (a, u) :: r => by
    unfold upS
    by_cases h : a = n
    · rw [if_pos h, if_pos (List.mem_map.2 ⟨_, List.mem_cons_self .., h⟩)]; rfl
    · rw [if_neg h, List.map_cons, upS_keys n v r, List.map_cons]
      by_cases h2 : n ∈ r.map (fun x => x.1)
      · rw [if_pos h2, if_pos (List.mem_cons_of_mem _ h2)]
      · rw [if_neg h2, if_neg (fun hm => by rcases List.mem_cons.1 hm with e | e; exact h e.symm; exact h2 e)]; rfl
theorem upS_nodup {n : Int} {v : List Int} {d : List (Int × List Int)} (h : (d.map (fun x => x.1)).Nodup) : ((upS n v d).map (fun x => x.1)).Nodup := by
  rw [upS_keys]
  split
  · exact h
  · rename_i h2
    rw [List.nodup_append]
    exact ⟨h, by simp, fun a ha q hq => by simp at hq; subst hq; exact fun e => h2 (e ▸ ha)⟩
theorem upS_mem {n : Int} {v : List Int} : ∀ {d : List (Int × List Int)} {q : Int × List Int}, q ∈ upS n v d → q = (n, v) ∨ q ∈ d
  | [], q, h => .inl (List.mem_singleton.1 h)
  | (a, u) :: r, q, h => by
    unfold upS at h
    split at h
    · rename_i e
      rcases List.mem_cons.1 h with h | h
      · rw [← e]; exact .inl h
      · exact .inr (List.mem_cons_of_mem _ h)
    · rcases List.mem_cons.1 h with h | h
      · exact .inr (h ▸ List.mem_cons_self ..)
      · rcases upS_mem h with h | h
        · exact .inl h
        · exact .inr (List.mem_cons_of_mem _ h)
theorem sec_B8 {t : TR} {now : List Int} (hb : t.B now) (ho : t.Ok) (n : Nat) : B8 (t.sec now (n : Int)) := by
  intro x hx
  obtain ⟨i, hi, rfl⟩ := List.mem_iff_getElem.1 hx
  have hl := ho.sec_length now (n : Int) (by omega)
  have := hb (512 * n + i)
  unfold TR.V at this
  rw [show (512 * n + i) / 512 = n by omega, show (512 * n + i) % 512 = i by omega, List.getD_eq_getElem?_getD, List.getElem?_eq_getElem hi] at this
  exact this
def JR.al (j : JR) : Prop := j.pos % 512 = 0 ∧ j.size % 512 = 0
theorem wr1_In {t : TR} {j : JR} {now : List Int} (h : t.In j) (ho : t.Ok) (hb : t.B now) {a : Nat} {xs : List Int} (hx : B8 xs) (ha : j.al) (h0 : 0 < xs.length) (h1 : a + xs.length ≤ 4194304) (h2 : a + xs.length ≤ j.pos ∨ j.pos + j.size ≤ a) (h3 : a % 512 + xs.length ≤ 512) : (t.wr1 now a xs).In j := by
  obtain ⟨a1, a2⟩ := ha
  refine ⟨fun q hq => ?_, upS_nodup h.nodup, h.frs⟩
  rcases upS_mem (show q ∈ upS _ _ _ from hq) with rfl | hq
  · exact ⟨by show (0 : Int) ≤ ((a / 512 : Nat) : Int); omega, by show ((a / 512 : Nat) : Int) ≤ 8191; omega, by show ((a / 512 : Nat) : Int) * 512 + 512 ≤ j.pos ∨ j.pos + j.size ≤ ((a / 512 : Nat) : Int) * 512; omega, putG_B8 (sec_B8 hb ho _) hx⟩
  · exact h.keys q hq
theorem wr1_B {t : TR} {now : List Int} (ho : t.Ok) (hb : t.B now) {a : Nat} {xs : List Int} (hx : B8 xs) (h3 : a % 512 + xs.length ≤ 512) : (t.wr1 now a xs).B now := by
  intro i
  rw [wr1_V ho now a xs h3]
  split
  · exact hx.getD _
  · exact hb i
theorem putF_In : ∀ (f : Nat) (t : TR) (j : JR) (now : List Int) (a : Nat) (p : List Int), t.In j → t.Ok → t.B now → B8 p → j.al → a + p.length ≤ 4194304 → (p.length = 0 ∨ a + p.length ≤ j.pos ∨ j.pos + j.size ≤ a) → p.length ≤ f → (TR.putF f t now a p).In j
  | 0, t, j, now, a, p, h, _, _, _, _, _, _, _ => h
  | f + 1, t, j, now, a, p, h, ho, hb, hp, ha, h1, h2, hf => by
    by_cases h0 : p.length = 0
    · rw [putF_nil _ _ _ _ _ h0]; exact h
    · have e : TR.putF (f + 1) t now a p = TR.putF f (t.wr1 now a (p.take (min p.length (512 - a % 512)))) now (a + min p.length (512 - a % 512)) (p.drop (min p.length (512 - a % 512))) := by
        show (if _ then _ else _) = _; rw [if_neg h0]
      rw [e]
      generalize hk : min p.length (512 - a % 512) = k
      have hkl : (p.take k).length = k := by rw [List.length_take]; omega
      have hdl : (p.drop k).length = p.length - k := List.length_drop ..
      have h2 : a + p.length ≤ j.pos ∨ j.pos + j.size ≤ a := by omega
      exact putF_In f _ j now (a + k) (p.drop k) (wr1_In h ho hb (hp.take _) ha (by omega) (by omega) (by omega) (by omega)) (ho.wr1 now a (p.take k) (by omega)) (wr1_B ho hb (hp.take _) (by omega)) (hp.drop _) ha (by omega) (by omega) (by omega)
theorem put_In {t : TR} {j : JR} {now : List Int} {a : Nat} {p : List Int} (h : t.In j) (ho : t.Ok) (hb : t.B now) (hp : B8 p) (ha : j.al) (h1 : a + p.length ≤ 4194304) (h2 : p.length = 0 ∨ a + p.length ≤ j.pos ∨ j.pos + j.size ≤ a) : (t.put now a p).In j := putF_In _ t j now a p h ho hb hp ha h1 h2 (Nat.le_refl _)
theorem TR.In.count {t : TR} {j : JR} (h : t.In j) : t.dirty.length ≤ 8192 := by
  have hn : ((t.dirty.map (fun x => x.1)).map Int.toNat).Nodup := by
    rw [List.nodup_iff_pairwise_ne, List.pairwise_map]
    refine List.Pairwise.imp_of_mem ?_ (List.nodup_iff_pairwise_ne.1 h.nodup)
    intro a b ha hb hne e
    obtain ⟨q, hq, rfl⟩ := List.mem_map.1 ha
    obtain ⟨r, hr, rfl⟩ := List.mem_map.1 hb
    have := h.keys q hq
    have := h.keys r hr
    omega
  have := sub_len (s := List.range 8192) hn (fun b hb => by
    obtain ⟨k, hk, rfl⟩ := List.mem_map.1 hb
    obtain ⟨q, hq, rfl⟩ := List.mem_map.1 hk
    have := h.keys q hq
    exact List.mem_range.2 (by omega))
  rwa [List.length_map, List.length_map, List.length_range] at this
end Go.Proofs.Ytcfmlnddmpiemaa.Sx


set_option maxRecDepth 10000
namespace Go.Proofs.Ytcfmlnddmpiemaa.Sx
/-! ### A tx's commit, cut off anywhere, plain -/
/-- What a crash may leave of a file when some of the fresh ones were written. -/
def FrC (j : JR) (b : List Int) (fr : List RecR) (C : List Int) : Prop := C.length = b.length ∧ B8 C ∧ (∀ i, j.inJ i → C.getD i 0 = b.getD i 0) ∧ ∀ i, (∀ r ∈ fr, ¬ covers r i) → C.getD i 0 = b.getD i 0
structure FrIn (j : JR) (b : List Int) (fr : List RecR) : Prop where
  in_ : ∀ r ∈ fr, 0 ≤ r.1 ∧ r.1.toNat + r.2.length ≤ b.length
  out : ∀ r ∈ fr, r.1 + r.2.length ≤ j.pos ∨ j.pos + j.size ≤ r.1
  b8 : ∀ r ∈ fr, B8 r.2
/-- Where only fresh ones may stand nothing is pending. -/
theorem FrC.pend {j : JR} {b C : List Int} {fr : List RecR} (hj : j.Ok) (hf : j.pos + j.size ≤ b.length) (h0 : ∀ i, i < 512 → b.getD (j.pos.toNat + i) 0 = 0) (h : FrC j b fr C) : pendB j (j.partL C) = none := by
  obtain ⟨j1, j2, j3, j4, j5, j6⟩ := hj
  refine zero_none ⟨j1, j2, j3, j4, j5, j6⟩ (by rw [h.1]; omega) (fun i hi => ?_)
  have hJ : j.inJ (j.pos.toNat + i) := ⟨by omega, by omega⟩
  exact (h.2.2.1 _ hJ).trans (h0 i (by omega))
end Go.Proofs.Ytcfmlnddmpiemaa.Sx


set_option maxRecDepth 10000
namespace Go.Proofs.Ytcfmlnddmpiemaa.Sx
/-! ### How many bytes the records take: each sector 512, each run of them 12 more -/
def encI (ks : List Int) : Nat → Nat
  | 0 => 0
  | m + 1 => encI ks m + (if 0 < m ∧ ks.getD (m - 1) 0 = ks.getD m 0 - 1 then 512 else 524)
theorem encL_bld {d : List (Int × List Int)} {ks : List Int} (hk : SecsOk d ks) : ∀ m, m ≤ ks.length → (encL (bldR d ks m)).length = encI ks m
  | 0, _ => rfl
  | m + 1, hm => by
    have ih := encL_bld hk m (by omega)
    have hkm : ks.getD m 0 ∈ ks := by
      rw [show ks.getD m 0 = ks[m]'(by omega) by simp [List.getD_eq_getElem?_getD, show m < ks.length by omega]]
      exact List.getElem_mem _
    obtain ⟨k0, k1⟩ := hk _ hkm
    have e : bldR d ks (m + 1) = bldS d ks (bldR d ks m) m := by
      unfold bldR; rw [List.range_succ, List.foldl_append]; rfl
    rw [e]
    show _ = encI ks m + _
    rw [← ih]
    unfold bldS
    by_cases h : 0 < m ∧ ks.getD (m - 1) 0 = ks.getD m 0 - 1
    · rw [if_pos h, if_pos h]
      have hS := bldR_S hk m (by omega)
      have tl : (ks.take m).length = m := by rw [List.length_take]; omega
      obtain ⟨init, r, hr, -⟩ := hS.last (fun h0 => by rw [h0] at tl; simp at tl; omega)
      have hn : 0 < (bldR d ks m).length := by rw [hr]; simp
      unfold snocD
      rw [encL_set _ _ _ (by omega), k1]
    · rw [if_neg h, if_neg h, encL_append, encL_cons]
      show _ + (12 + ((lkS (ks.getD m 0) d).getD []).length + 0) = _
      rw [k1]
def cntK (ks : List Int) (S : Int) : Nat := (ks.filter (fun k => decide (k < S))).length
theorem cntK_split {ks : List Int} {S : Int} {i : Nat} (h1 : ∀ x ∈ ks.take i, x < S) (h2 : ∀ x ∈ ks.drop i, S ≤ x) (hi : i ≤ ks.length) : cntK ks S = i := by
  unfold cntK
  conv => lhs; rw [← List.take_append_drop i ks]
  rw [List.filter_append, List.filter_eq_self.2 (fun x hx => by simpa using h1 x hx), List.filter_eq_nil_iff.2 (fun x hx => by have := h2 x hx; simp; omega), List.append_nil, List.length_take]
  omega
/-- By the law: the sectors one by one. -/
def needV (p : Int → Bool) : Nat → Int
  | 0 => 0
  | s + 1 => needV p s + (if p s then (if p ((s : Int) - 1) then 512 else 524) else 0)
theorem sorted_get {ks : List Int} (h : ks.Pairwise (· < ·)) {i j : Nat} (hij : i < j) (hj : j < ks.length) : ks.getD i 0 < ks.getD j 0 := by
  have := List.pairwise_iff_getElem.1 h i j (by omega) hj hij
  simpa [List.getD_eq_getElem?_getD, show i < ks.length by omega, hj] using this
theorem getD_mem {ks : List Int} {i : Nat} (h : i < ks.length) : ks.getD i 0 ∈ ks := by
  rw [show ks.getD i 0 = ks[i] by simp [List.getD_eq_getElem?_getD, h]]; exact List.getElem_mem h
theorem mem_getD {ks : List Int} {x : Int} (h : x ∈ ks) : ∃ i, i < ks.length ∧ ks.getD i 0 = x := by
  obtain ⟨i, hi, e⟩ := List.mem_iff_getElem.1 h
  exact ⟨i, hi, by simpa [List.getD_eq_getElem?_getD, hi] using e⟩
theorem mem_take_getD {ks : List Int} {x : Int} {n : Nat} (h : x ∈ ks.take n) : ∃ i, i < n ∧ i < ks.length ∧ ks.getD i 0 = x := by
  obtain ⟨i, hi, e⟩ := List.mem_iff_getElem.1 h
  rw [List.length_take] at hi
  refine ⟨i, by omega, by omega, ?_⟩
  rw [List.getElem_take] at e
  simpa [List.getD_eq_getElem?_getD, show i < ks.length by omega] using e
theorem mem_drop_getD {ks : List Int} {x : Int} {n : Nat} (h : x ∈ ks.drop n) : ∃ i, n ≤ i ∧ i < ks.length ∧ ks.getD i 0 = x := by
  obtain ⟨i, hi, e⟩ := List.mem_iff_getElem.1 h
  rw [List.length_drop] at hi
  refine ⟨n + i, by omega, by omega, ?_⟩
  rw [List.getElem_drop] at e
  simpa [List.getD_eq_getElem?_getD, show n + i < ks.length by omega] using e
theorem needV_eq {ks : List Int} (h : ks.Pairwise (· < ·)) (h0 : ∀ k ∈ ks, 0 ≤ k) : ∀ S : Nat, needV (fun s => decide (s ∈ ks)) S = encI ks (cntK ks S)
  | 0 => by
    rw [show cntK ks ((0 : Nat) : Int) = 0 from cntK_split (i := 0) (fun x hx => by simp at hx) (fun x hx => by rw [List.drop_zero] at hx; have := h0 x hx; omega) (Nat.zero_le _)]
    rfl
  | S + 1 => by
    have ih := needV_eq h h0 S
    show needV _ S + _ = _
    rw [ih]
    by_cases hm : ((S : Nat) : Int) ∈ ks
    · obtain ⟨i, hi, e⟩ := mem_getD hm
      have c1 : cntK ks ((S : Nat) : Int) = i := by
        refine cntK_split (fun x hx => ?_) (fun x hx => ?_) (by omega)
        · obtain ⟨j, j1, j2, rfl⟩ := mem_take_getD hx
          have := sorted_get h j1 hi
          omega
        · obtain ⟨j, j1, j2, rfl⟩ := mem_drop_getD hx
          by_cases q : j = i
          · rw [q, e]; exact Int.le_refl _
          · have := sorted_get h (show i < j by omega) j2
            omega
      have c2 : cntK ks (((S + 1 : Nat)) : Int) = i + 1 := by
        refine cntK_split (fun x hx => ?_) (fun x hx => ?_) (by omega)
        · obtain ⟨j, j1, j2, rfl⟩ := mem_take_getD hx
          by_cases q : j = i
          · rw [q, e]; omega
          · have := sorted_get h (show j < i by omega) hi
            omega
        · obtain ⟨j, j1, j2, rfl⟩ := mem_drop_getD hx
          have := sorted_get h (show i < j by omega) j2
          omega
      rw [c1, c2, if_pos (by simpa using hm)]
      show _ = ((encI ks i + _ : Nat) : Int)
      by_cases q : ((S : Nat) : Int) - 1 ∈ ks
      · rw [if_pos (by simpa using q)]
        obtain ⟨j, j1, j2⟩ := mem_getD q
        have hji : j + 1 = i := by
          have l1 : j < i := by
            rcases Nat.lt_trichotomy j i with r | r | r
            · exact r
            · rw [r, e] at j2; omega
            · have := sorted_get h r j1; omega
          by_cases r : j + 1 = i
          · exact r
          · have a1 := sorted_get h (show j < j + 1 by omega) (by omega)
            have a2 := sorted_get h (show j + 1 < i by omega) hi
            omega
        rw [if_pos ⟨by omega, by rw [show i - 1 = j by omega, j2, e]⟩]
        omega
      · rw [if_neg (by simpa using q), if_neg]
        · omega
        · rintro ⟨r1, r2⟩
          rw [e] at r2
          exact q (r2 ▸ getD_mem (by omega))
    · have c2 : cntK ks (((S + 1 : Nat)) : Int) = cntK ks ((S : Nat) : Int) := by
        unfold cntK
        congr 1
        refine List.filter_congr (fun x hx => ?_)
        have : x ≠ (S : Int) := fun e => hm (e ▸ hx)
        simp
        omega
      rw [c2, if_neg (by simpa using hm)]
      omega
/-- The size of a tx's records, by the law. -/
theorem RecRel.size {t : TR} {rs : List RecR} (h : RecRel t rs) (ho : t.Ok) (hk : ∀ q ∈ t.dirty, 0 ≤ q.1 ∧ q.1 < 80) (hn : (t.dirty.map (fun x => x.1)).Nodup) : ((encL rs).length : Int) = needV (fun s => decide (s ∈ t.dirty.map (fun x => x.1))) 80 := by
  obtain ⟨ks, h1, h2, rfl⟩ := h
  have hs := secs_of ho (fun q hq => (hk q hq).1) (ks := ks) (fun k hk => h1.subset hk)
  have h3 : ks.Pairwise (· < ·) := by
    have hnd := (h1.nodup_iff).2 hn
    rw [List.nodup_iff_pairwise_ne] at hnd
    exact (h2.and hnd).imp (fun ⟨a, b⟩ => by omega)
  have hm : ∀ k ∈ ks, 0 ≤ k ∧ k < 80 := fun k hq => by
    obtain ⟨q, hm, rfl⟩ := List.mem_map.1 (h1.subset hq)
    exact hk q hm
  rw [encL_bld hs ks.length (Nat.le_refl _)]
  have e := needV_eq h3 (fun k hk => (hm k hk).1) 80
  rw [show cntK ks ((80 : Nat) : Int) = ks.length from cntK_split (fun x hx => (hm x (List.mem_of_mem_take hx)).2) (fun x hx => by rw [List.drop_length] at hx; cases hx) (Nat.le_refl _)] at e
  rw [← e]
  congr 1
  funext s
  rw [decide_eq_decide]
  exact ⟨fun h => h1.subset h, fun h => h1.symm.subset h⟩
end Go.Proofs.Ytcfmlnddmpiemaa.Sx


set_option maxRecDepth 10000
namespace Go.Proofs.Ytcfmlnddmpiemaa.Sx
open Go.RowKit Go.Proofs.Ytcfmlnddmpiemaa.Sx.Tb
/-! ### At -/
def mtb (h : HD) (n : Int) (i : Nat) : Chunk := .blk 119 (.lst [.v (.int .i64 h.bits), .v (.int .i64 h.size), .v (.int .i64 h.host), .v (.int .i64 h.jr), .v (.bool h.backed), .p i 0 1 0, .v (.int .i64 n)]) 7
/-! ### The law MapsNils -/
end Go.Proofs.Ytcfmlnddmpiemaa.Sx


set_option maxRecDepth 10000
namespace Go.Proofs.Ytcfmlnddmpiemaa.Sx
open Go.RowKit Go.Proofs.Ytcfmlnddmpiemaa.Sx.Tb
/-! ### A table over its tx -/
def entAV (x : ER) : List AV := [.v (.int .i64 x.kind), .v (.int .i64 x.cl), .v (.bool x.own)]
def entsC (es : List ER) : Cont := .recs 3 es.length (fun i => entAV (es.getD i ⟨0, 0, false⟩))
theorem entsC_noF (es : List ER) : (entsC es).noF := fun j hj => ⟨trivial, trivial, trivial, trivial⟩
theorem entsC_ren (es : List ER) (f : Nat → Nat) : (entsC es).ren f = entsC es := rfl
def tp6 (t : TR) (j : JR) (s : DF) (h : HD) (n : Int) : List Chunk := [t.c0 3 1 2, t.c1, t.c2, j.blk 4, s.pk, mtb h n 0]
theorem mtb_le {H : List Chunk} {fz : List Nat} {f : Nat → Nat} {ph : Nat → Bool} {h : HD} {n : Int} {a i : Nat} (fi : f 0 = a) (h0 : nth H i = some (mtb h n a)) (hz : memN i fz = false) : (mtb h n 0).le H fz f ph i := by
  unfold Chunk.le mtb
  simp only
  rw [nth_lt h0, hz, h0]
  exact ⟨VC.mk ⟨rfl, rfl⟩, VC.mk rfl, VC.mk rfl, VC.mk rfl, VC.mk rfl, VC.mk rfl, VC.mk ⟨fi, rfl, rfl, rfl⟩, VC.mk rfl, trivial⟩
theorem fix6 {N : Nat} {σ : List Nat} : ∀ i, i < 6 → fren (0 :: 1 :: 2 :: 3 :: 4 :: 5 :: σ) N i = i := fun i hi => by
  match i, hi with
  | 0, _ => rfl
  | 1, _ => rfl
  | 2, _ => rfl
  | 3, _ => rfl
  | 4, _ => rfl
  | 5, _ => rfl
theorem T6.le {H : List Chunk} {f : Nat → Nat} {ph : Nat → Bool} {t : TR} {j : JR} {s : DF} {h : HD} {n : Int} {σ : List Nat} {cs : List Chunk} (f0 : f 0 = 0) (f1 : f 1 = 1) (f2 : f 2 = 2) (f3 : f 3 = 3) (f4 : f 4 = 4) (h0 : nth H 0 = some (t.c0 3 1 2)) (h1 : nth H 1 = some t.c1) (h2 : nth H 2 = some t.c2) (h3 : nth H 3 = some (j.blk 4)) (h4 : nth H 4 = some s.pk) (h5 : nth H 5 = some (mtb h n 0)) (hx : chunksLe H [] f ph σ cs) : chunksLe H [] f ph (0 :: 1 :: 2 :: 3 :: 4 :: 5 :: σ) (tp6 t j s h n ++ cs) :=
  T5.leG f1 f2 f3 f4 h0 h1 h2 h3 h4 ⟨rfl, rfl, rfl, rfl, rfl⟩ (cs := mtb h n 0 :: cs) ⟨mtb_le f0 h5 rfl, hx⟩
theorem T6.fin {H : List Chunk} {t : TR} {j : JR} {s : DF} {h : HD} {n : Int} {v : AV} {k : K} (h0 : nth H 0 = some (t.c0 3 1 2)) (h1 : nth H 1 = some t.c1) (h2 : nth H 2 = some t.c2) (h3 : nth H 3 = some (j.blk 4)) (h4 : nth H 4 = some s.pk) (h5 : nth H 5 = some (mtb h n 0)) (hk : k v (tp6 t j s h n)) (hv : v.inN 6 := by simp [AV.inN, inNs, Cont.inN]) : Fin 6 v H k :=
  Fin.ren [0, 1, 2, 3, 4, 5] [] v (tp6 t j s h n) rfl rfl trivial (T6.le rfl rfl rfl rfl rfl h0 h1 h2 h3 h4 h5 (cs := []) trivial) (AV.le_refl fix6 hv) hk
theorem T6.good {t : TR} {j : JR} {s : DF} {h : HD} {n : Int} {v : AV} (hv : v.noF) : Good 6 v (tp6 t j s h n) := by
  refine ⟨hv, fun c hc => ?_, Nat.le_refl _⟩
  rcases List.mem_append.1 (show c ∈ tpre t j s ++ [mtb h n 0] from hc) with hc | hc
  · exact (T5.good (v := .v (.bool true)) trivial).2.1 c hc
  · simp at hc; subst hc; exact .blk ⟨trivial, trivial, trivial, trivial, trivial, trivial, trivial, trivial⟩
theorem T6.nd {t : TR} {j : JR} {s : DF} {h : HD} {n : Int} : ∀ c ∈ tp6 t j s h n, c.lives := by
  intro c hc
  rcases List.mem_append.1 (show c ∈ tpre t j s ++ [mtb h n 0] from hc) with hc | hc
  · exact T5.nd c hc
  · simp at hc; subst hc; trivial
end Go.Proofs.Ytcfmlnddmpiemaa.Sx


set_option maxRecDepth 10000
namespace Go.Proofs.Ytcfmlnddmpiemaa.Sx
open Go.RowKit Go.Proofs.Ytcfmlnddmpiemaa.Sx.Tb
/-! ### Set -/
end Go.Proofs.Ytcfmlnddmpiemaa.Sx


set_option maxRecDepth 10000
namespace Go.Proofs.Ytcfmlnddmpiemaa.Sx
open Go.RowKit Go.Proofs.Ytcfmlnddmpiemaa.Sx.Tb
/-! ### List, All -/
attribute [local simp] entsC_noF entsC_ren
end Go.Proofs.Ytcfmlnddmpiemaa.Sx


set_option maxRecDepth 10000
namespace Go.Proofs.Ytcfmlnddmpiemaa.Sx
open Go.RowKit Go.Proofs.Ytcfmlnddmpiemaa.Sx.Tb
attribute [local simp] entsC_noF entsC_ren
/-! ### The reference -/
end Go.Proofs.Ytcfmlnddmpiemaa.Sx


set_option maxRecDepth 10000
namespace Go.Proofs.Ytcfmlnddmpiemaa.Sx
open Go.RowKit Go.Proofs.Ytcfmlnddmpiemaa.Sx.Tb
/-! ### The counts' header, the nil ones, New -/
def HD.r (H : Int) : HD := ⟨9, 32768, H, 29, false⟩
def rfb (h : HD) (i : Nat) : Chunk := .blk 126 (.lst [.v (.int .i64 h.bits), .v (.int .i64 h.size), .v (.int .i64 h.host), .v (.int .i64 h.jr), .v (.bool h.backed), .p i 0 1 0]) 6
end Go.Proofs.Ytcfmlnddmpiemaa.Sx


set_option maxRecDepth 10000
namespace Go.Proofs.Ytcfmlnddmpiemaa.Sx
open Go.RowKit Go.Proofs.Ytcfmlnddmpiemaa.Sx.Tb
/-! ### A nil tx; the law's files -/
end Go.Proofs.Ytcfmlnddmpiemaa.Sx


set_option maxRecDepth 10000
namespace Go.Proofs.Ytcfmlnddmpiemaa.Sx
open Go.RowKit Go.Proofs.Ytcfmlnddmpiemaa.Sx.Tb
/-! ### The law's records -/
/-! ### The law's file -/
structure CaseR where
  n : Int
  fill : List Int
  pos : Int
  size : Int
  recs : List RecR
end Go.Proofs.Ytcfmlnddmpiemaa.Sx


set_option maxRecDepth 10000
namespace Go.Proofs.Ytcfmlnddmpiemaa.Sx
open Go.RowKit Go.Proofs.Ytcfmlnddmpiemaa.Sx.Tb
/-! ### The document's Done -/
/-! ### The law -/
end Go.Proofs.Ytcfmlnddmpiemaa.Sx



set_option maxRecDepth 10000
namespace Go.Proofs.Ytcfmlnddmpiemaa.Sx
open Go.RowKit Go.Proofs.Ytcfmlnddmpiemaa.Sx.Tb
/-! ### The functions of the tx's laws -/
end Go.Proofs.Ytcfmlnddmpiemaa.Sx


set_option maxRecDepth 10000
namespace Go.Proofs.Ytcfmlnddmpiemaa.Sx
open Go.RowKit Go.Proofs.Ytcfmlnddmpiemaa.Sx.Tb
/-! ### The tx's example -/
abbrev jX : JR := ⟨512, 10240, 0⟩
theorem TR.zero_ok : TR.zero.Ok := ⟨fun x hx => absurd hx List.not_mem_nil, fun x hx => absurd hx List.not_mem_nil, Nat.le_refl _, Nat.zero_le _⟩
theorem TR.zero_In (j : JR) : TR.zero.In j := ⟨fun x hx => absurd hx List.not_mem_nil, List.nodup_nil, fun x hx => absurd hx List.not_mem_nil⟩
theorem DF.Ok.tick {s : DF} {n : Int} (h : s.Ok n) (m : Nat) : (s.tick m).Ok (n + m) := ⟨h.safe, h.now, h.its, by have := h.len; show (s.items.length : Int) ≤ _; omega, by have := h.ops; show 0 ≤ s.ops + m ∧ s.ops + m ≤ _; omega, by have := h.wrote; show 0 ≤ s.wrote ∧ s.wrote ≤ _; omega, h.all⟩
end Go.Proofs.Ytcfmlnddmpiemaa.Sx


set_option maxRecDepth 10000
namespace Go.Proofs.Ytcfmlnddmpiemaa.Sx
open Go.RowKit Go.Proofs.Ytcfmlnddmpiemaa.Sx.Tb
/-! ### begun, for the counts -/
theorem HD.r_vals {H : Int} (h : 40 ≤ H ∧ H ≤ 99) : (HD.r H).clus = 512 ∧ (HD.r H).refs = 1 ∧ (HD.r H).jend = 15360 ∧ (HD.r H).rend = 15872 ∧ (HD.r H).first = 33 := by
  have c : (HD.r H).clus = 512 := by unfold HD.clus HD.r; rw [if_neg (by simp)]; rfl
  have r : (HD.r H).refs = 1 := by
    unfold HD.refs; rw [c]
    show (2 * max 0 (min H 8192) + 512 - 1) / 512 = 1
    omega
  have e : (HD.r H).jend = 15360 := by
    unfold HD.jend; rw [c]
    show 512 * (1 + max 0 (min 29 8192)) = (15360 : Int)
    decide
  have e2 : (HD.r H).rend = 15872 := by
    unfold HD.rend; rw [c, r, e]; decide
  refine ⟨c, r, e, e2, ?_⟩
  unfold HD.first; rw [c, e2]; decide
def oneAt (c i : Nat) : Int := if 15360 ≤ i ∧ i < 15360 + 2 * c ∧ i % 2 = 0 then 1 else 0
def RZ (c : Nat) (z : List Int) : Prop := z.length = 16896 ∧ ∀ i, z.getD i 0 = oneAt c i
theorem RZ.set {c : Nat} {z : List Int} (h : RZ c z) (hc : c < 33) : RZ (c + 1) (z.set (15360 + 2 * c) 1) := by
  refine ⟨by rw [List.length_set]; exact h.1, fun i => ?_⟩
  by_cases hi : i = 15360 + 2 * c
  · subst hi
    rw [List.getD_eq_getElem?_getD, List.getElem?_set_self (by rw [h.1]; omega)]
    unfold oneAt; rw [if_pos (by omega)]; rfl
  · rw [List.getD_eq_getElem?_getD, List.getElem?_set_ne (fun e => hi e.symm), ← List.getD_eq_getElem?_getD, h.2 i]
    unfold oneAt
    by_cases q : 15360 ≤ i ∧ i < 15360 + 2 * c ∧ i % 2 = 0
    · rw [if_pos q, if_pos (by omega)]
    · rw [if_neg q, if_neg (by omega)]
theorem RZ.zero : RZ 0 (List.replicate 16896 0) := by
  refine ⟨List.length_replicate .., fun i => ?_⟩
  unfold oneAt; rw [if_neg (by omega), List.getD_eq_getElem?_getD, List.getElem?_replicate]; split <;> rfl
end Go.Proofs.Ytcfmlnddmpiemaa.Sx


set_option maxRecDepth 10000
namespace Go.Proofs.Ytcfmlnddmpiemaa.Sx
open Go.RowKit Go.Proofs.Ytcfmlnddmpiemaa.Sx.Tb
attribute [local simp] entsC_noF entsC_ren
/-! ### Counts over their tx -/
def rp6 (t : TR) (j : JR) (s : DF) (h : HD) : List Chunk := [t.c0 3 1 2, t.c1, t.c2, j.blk 4, s.pk, rfb h 0]
theorem rfb_le {H : List Chunk} {fz : List Nat} {f : Nat → Nat} {ph : Nat → Bool} {h : HD} {a i : Nat} (fi : f 0 = a) (h0 : nth H i = some (rfb h a)) (hz : memN i fz = false) : (rfb h 0).le H fz f ph i := by
  unfold Chunk.le rfb
  simp only
  rw [nth_lt h0, hz, h0]
  exact ⟨VC.mk ⟨rfl, rfl⟩, VC.mk rfl, VC.mk rfl, VC.mk rfl, VC.mk rfl, VC.mk rfl, VC.mk ⟨fi, rfl, rfl, rfl⟩, trivial⟩
theorem R6.le {H : List Chunk} {f : Nat → Nat} {ph : Nat → Bool} {t : TR} {j : JR} {s : DF} {h : HD} {σ : List Nat} {cs : List Chunk} (f0 : f 0 = 0) (f1 : f 1 = 1) (f2 : f 2 = 2) (f3 : f 3 = 3) (f4 : f 4 = 4) (h0 : nth H 0 = some (t.c0 3 1 2)) (h1 : nth H 1 = some t.c1) (h2 : nth H 2 = some t.c2) (h3 : nth H 3 = some (j.blk 4)) (h4 : nth H 4 = some s.pk) (h5 : nth H 5 = some (rfb h 0)) (hx : chunksLe H [] f ph σ cs) : chunksLe H [] f ph (0 :: 1 :: 2 :: 3 :: 4 :: 5 :: σ) (rp6 t j s h ++ cs) :=
  T5.leG f1 f2 f3 f4 h0 h1 h2 h3 h4 ⟨rfl, rfl, rfl, rfl, rfl⟩ (cs := rfb h 0 :: cs) ⟨rfb_le f0 h5 rfl, hx⟩
theorem R6.fin {H : List Chunk} {t : TR} {j : JR} {s : DF} {h : HD} {v : AV} {k : K} (h0 : nth H 0 = some (t.c0 3 1 2)) (h1 : nth H 1 = some t.c1) (h2 : nth H 2 = some t.c2) (h3 : nth H 3 = some (j.blk 4)) (h4 : nth H 4 = some s.pk) (h5 : nth H 5 = some (rfb h 0)) (hk : k v (rp6 t j s h)) (hv : v.inN 6 := by simp [AV.inN, inNs, Cont.inN]) : Fin 6 v H k :=
  Fin.ren [0, 1, 2, 3, 4, 5] [] v (rp6 t j s h) rfl rfl trivial (R6.le rfl rfl rfl rfl rfl h0 h1 h2 h3 h4 h5 (cs := []) trivial) (AV.le_refl fix6 hv) hk
theorem R6.good {t : TR} {j : JR} {s : DF} {h : HD} {v : AV} (hv : v.noF) : Good 6 v (rp6 t j s h) := by
  refine ⟨hv, fun c hc => ?_, Nat.le_refl _⟩
  rcases List.mem_append.1 (show c ∈ tpre t j s ++ [rfb h 0] from hc) with hc | hc
  · exact (T5.good (v := .v (.bool true)) trivial).2.1 c hc
  · simp at hc; subst hc; exact .blk ⟨trivial, trivial, trivial, trivial, trivial, trivial, trivial⟩
theorem R6.nd {t : TR} {j : JR} {s : DF} {h : HD} : ∀ c ∈ rp6 t j s h, c.lives := by
  intro c hc
  rcases List.mem_append.1 (show c ∈ tpre t j s ++ [rfb h 0] from hc) with hc | hc
  · exact T5.nd c hc
  · simp at hc; subst hc; trivial
def RefOk (t : TR) (s : DF) (h : HD) : Prop := t.Ok ∧ s.live ∧ hR h ∧ t.B s.now ∧ (0 ≤ h.host ∧ h.host ≤ 8192 ∧ h.jend + 2 * h.host ≤ 4194304) ∧ 0 ≤ s.ops ∧ s.ops ≤ 274877906944 ∧ s.now.length ≤ 4194304
end Go.Proofs.Ytcfmlnddmpiemaa.Sx


set_option maxRecDepth 10000
namespace Go.Proofs.Ytcfmlnddmpiemaa.Sx
open Go.RowKit Go.Proofs.Ytcfmlnddmpiemaa.Sx.Tb
attribute [local simp] entsC_noF entsC_ren
/-! ### All and Alloc of the counts -/
def cntV (t : TR) (now : List Int) (h : HD) (i : Nat) : Int := leV (t.rd now (h.jend.toNat + 2 * i) 2)
def cntL (t : TR) (now : List Int) (h : HD) : List Int := (List.range h.host.toNat).map (cntV t now h)
end Go.Proofs.Ytcfmlnddmpiemaa.Sx


set_option maxRecDepth 10000
namespace Go.Proofs.Ytcfmlnddmpiemaa.Sx
open Go.RowKit Go.Proofs.Ytcfmlnddmpiemaa.Sx.Tb
attribute [local simp] entsC_noF entsC_ren
end Go.Proofs.Ytcfmlnddmpiemaa.Sx


set_option maxRecDepth 10000
namespace Go.Proofs.Ytcfmlnddmpiemaa.Sx
open Go.RowKit Go.Proofs.Ytcfmlnddmpiemaa.Sx.Tb
attribute [local simp] entsC_noF entsC_ren
/-! ### counted -/
theorem cnt_put {t : TR} (ht : t.Ok) (now : List Int) {h : HD} (hj : 0 ≤ h.jend) (i q : Nat) (c : Int) (hc : 0 ≤ c ∧ c ≤ 65535) : cntV (t.put now (h.jend + 2 * (i : Int)).toNat (leB 2 c)) now h q = if q = i then c else cntV t now h q := by
  have e : (h.jend + 2 * (i : Int)).toNat = h.jend.toNat + 2 * i := by omega
  rw [e]
  unfold cntV
  by_cases hq : q = i
  · subst hq
    rw [if_pos rfl]
    have := put_rd ht now (h.jend.toNat + 2 * q) (leB 2 c)
    rw [leB_length] at this
    rw [this, leV_leB 2 c hc.1 (by have := hc.2; simp; omega)]
  · rw [if_neg hq]
    refine congrArg leV (rd_congr (fun b hb => ?_))
    rw [(put_V ht now _ _).2.2.2.2, leB_length, if_neg (by omega)]
theorem RZ.cnt {z : List Int} (hz : RZ 33 z) {h : HD} (hj : h.jend = 15360) (q : Nat) : cntV TR.zero z h q = if q < 33 then 1 else 0 := by
  unfold cntV
  have e : TR.zero.rd z (h.jend.toNat + 2 * q) 2 = [oneAt 33 (15360 + 2 * q), oneAt 33 (15360 + 2 * q + 1)] := by
    unfold TR.rd
    rw [hj]
    show [TR.zero.V z (15360 + 2 * q + 0), TR.zero.V z (15360 + 2 * q + 1)] = _
    rw [zero_V, zero_V, hz.2, hz.2, Nat.add_zero]
  rw [e]
  have e2 : oneAt 33 (15360 + 2 * q + 1) = 0 := by unfold oneAt; rw [if_neg (by omega)]
  have e1 : oneAt 33 (15360 + 2 * q) = if q < 33 then 1 else 0 := by
    unfold oneAt
    by_cases hq : q < 33
    · rw [if_pos (by omega), if_pos hq]
    · rw [if_neg (by omega), if_neg hq]
  rw [e1, e2]
  split <;> decide
theorem RZ.refOk {z : List Int} (hz : RZ 33 z) {H : Int} (h : 40 ≤ H ∧ H ≤ 99) : RefOk TR.zero (DF.mk0 z) (HD.r H) := by
  obtain ⟨vc, vr, vj, ve, vf⟩ := HD.r_vals h
  refine ⟨⟨fun x hx => absurd hx List.not_mem_nil, fun x hx => absurd hx List.not_mem_nil, Nat.le_refl _, Nat.zero_le _⟩, ⟨rfl, rfl⟩, ⟨by simp [HD.r, inR], by simp [HD.r, inR], ?_, by simp [HD.r, inR]⟩, ?_, ⟨?_, ?_, ?_⟩, Int.le_refl _, by show (0 : Int) ≤ _; decide, ?_⟩
  · show inR .i64 H
    simp only [inR]; omega
  · intro i
    show 0 ≤ TR.zero.V z i ∧ TR.zero.V z i < 256
    rw [zero_V, hz.2]; unfold oneAt; split <;> decide
  · show 0 ≤ H; omega
  · show H ≤ 8192; omega
  · rw [vj]; show 15360 + 2 * H ≤ 4194304; omega
  · show z.length ≤ 4194304
    rw [hz.1]; decide
theorem RefOk.next {t t' : TR} {s : DF} {h : HD} (hr : RefOk t s h) (ho : t'.Ok) (hb : t'.B s.now) (m : Nat) (hm : s.ops + (m : Int) ≤ 274877906944) : RefOk t' (s.tick m) h := by
  obtain ⟨h1, h2, h3, h4, h5, h6, h7, h8⟩ := hr
  exact ⟨ho, h2, h3, hb, h5, by show 0 ≤ s.ops + (m : Int); omega, hm, h8⟩
/-! ### The law RefsNils -/
end Go.Proofs.Ytcfmlnddmpiemaa.Sx


set_option maxRecDepth 10000
namespace Go.Proofs.Ytcfmlnddmpiemaa.Sx
/-! ### Counts that are changed, plain -/
theorem wr1_keys (t : TR) (now : List Int) (a : Nat) (xs : List Int) : ∀ k ∈ (t.wr1 now a xs).dirty.map (fun x => x.1), k ∈ t.dirty.map (fun x => x.1) ∨ k = ((a / 512 : Nat) : Int) := by
  intro k hk
  have hk : k ∈ (upS ((a / 512 : Nat) : Int) (putG (t.sec now ((a / 512 : Nat) : Int)) (a % 512) xs) t.dirty).map (fun x => x.1) := hk
  rw [upS_keys] at hk
  split at hk
  · exact .inl hk
  · rcases List.mem_append.1 hk with hk | hk
    · exact .inl hk
    · exact .inr (List.mem_singleton.1 hk)
theorem putF_keys : ∀ (f : Nat) (t : TR) (now : List Int) (a : Nat) (p : List Int), ∀ k : Int, k ∈ (TR.putF f t now a p).dirty.map (fun x => x.1) → k ∈ t.dirty.map (fun x => x.1) ∨ ∃ m : Nat, k = (m : Int) ∧ a < 512 * m + 512 ∧ 512 * m < a + p.length
  | 0, t, now, a, p => fun k hk => .inl hk
  | f + 1, t, now, a, p => by
    intro k hk
    by_cases h0 : p.length = 0
    · rw [putF_nil _ _ _ _ _ h0] at hk; exact .inl hk
    · have e : TR.putF (f + 1) t now a p = TR.putF f (t.wr1 now a (p.take (min p.length (512 - a % 512)))) now (a + min p.length (512 - a % 512)) (p.drop (min p.length (512 - a % 512))) := by
        show (if _ then _ else _) = _; rw [if_neg h0]
      rw [e] at hk
      generalize hd : min p.length (512 - a % 512) = d at hk
      rcases putF_keys f _ _ _ _ k hk with hk | ⟨m, h1, h2, h3⟩
      · rcases wr1_keys _ _ _ _ k hk with hk | hk
        · exact .inl hk
        · exact .inr ⟨a / 512, hk, by omega, by omega⟩
      · rw [List.length_drop] at h3
        exact .inr ⟨m, h1, by omega, by omega⟩
theorem put_keys (t : TR) (now : List Int) (a : Nat) (p : List Int) : ∀ k : Int, k ∈ (t.put now a p).dirty.map (fun x => x.1) → k ∈ t.dirty.map (fun x => x.1) ∨ ∃ m : Nat, k = (m : Int) ∧ a < 512 * m + 512 ∧ 512 * m < a + p.length := putF_keys _ t now a p
abbrev jR : JR := ⟨512, 14848, 0⟩
theorem jR_al : jR.al := ⟨by decide, by decide⟩
/-- A tx in which only counts were changed. -/
structure Cnts (t : TR) (z : List Int) (h : HD) (m : List Int) : Prop where
  ok : t.Ok
  over : t.over = false
  fresh : t.fresh = []
  inn : t.In jR
  b : t.B z
  len : m.length = h.host.toNat
  cnt : ∀ q, q < m.length → cntV t z h q = m.getD q 0
  oth : ∀ i, ¬ (15360 ≤ i ∧ i < 15360 + 2 * m.length) → t.V z i = z.getD i 0
  keys : ∀ k ∈ t.dirty.map (fun x => x.1), k = 30
theorem Cnts.put {t : TR} {z : List Int} {h : HD} {m : List Int} (hC : Cnts t z h m) (hj : h.jend = 15360) (hl : m.length ≤ 99) {i : Nat} (hi : i < m.length) {c : Int} (hc : 0 ≤ c ∧ c ≤ 65535) : Cnts (t.put z (h.jend + 2 * (i : Int)).toNat (leB 2 c)) z h (m.set i c) := by
  have p1 := put_V hC.ok z (h.jend + 2 * (i : Int)).toNat (leB 2 c)
  have ha : (h.jend + 2 * (i : Int)).toNat = 15360 + 2 * i := by rw [hj]; omega
  have hl2 : (leB 2 c).length = 2 := leB_length 2 c
  refine ⟨p1.1, p1.2.2.1.trans hC.over, p1.2.1.trans hC.fresh, put_In hC.inn hC.ok hC.b (leB_B8 _ _) jR_al (by rw [ha, hl2]; omega) (.inr (.inr (by show (512 : Int) + 14848 ≤ _; rw [ha]; omega))), hC.b.put hC.ok _ (leB_B8 _ _), by rw [List.length_set]; exact hC.len, fun q hq => ?_, fun q hq => ?_, fun k hk => ?_⟩
  · rw [List.length_set] at hq
    rw [cnt_put hC.ok z (by rw [hj]; decide) i q c hc]
    by_cases e : q = i
    · subst e; rw [if_pos rfl, List.getD_eq_getElem?_getD, List.getElem?_set_self hi]; rfl
    · rw [if_neg e, List.getD_eq_getElem?_getD, List.getElem?_set_ne (fun e2 => e e2.symm), ← List.getD_eq_getElem?_getD]
      exact hC.cnt q hq
  · rw [List.length_set] at hq
    rw [p1.2.2.2.2, if_neg (by rw [ha, hl2]; omega)]
    exact hC.oth q hq
  · rcases put_keys _ _ _ _ k hk with hk | ⟨n, h1, h2, h3⟩
    · exact hC.keys k hk
    · rw [ha, hl2] at *
      omega
theorem Cnts.zero {z : List Int} (hz : RZ 33 z) {H : Int} (h : 40 ≤ H ∧ H ≤ 99) {m : List Int} (hm : m = List.replicate 33 1 ++ List.replicate (H.toNat - 33) 0) : Cnts TR.zero z (HD.r H) m := by
  obtain ⟨vc, vr, vj, ve, vf⟩ := HD.r_vals h
  have hR := hz.refOk h
  have hml : m.length = H.toNat := by rw [hm, List.length_append, List.length_replicate, List.length_replicate]; omega
  refine ⟨TR.zero_ok, rfl, rfl, TR.zero_In _, hR.2.2.2.1, hml, fun q hq => ?_, fun i _ => zero_V z i, fun k hk => absurd hk List.not_mem_nil⟩
  rw [hz.cnt vj, hm]
  by_cases e : q < 33
  · rw [if_pos e, List.getD_eq_getElem?_getD, List.getElem?_append_left (by rw [List.length_replicate]; exact e), List.getElem?_replicate, if_pos e]; rfl
  · rw [if_neg e, List.getD_eq_getElem?_getD, List.getElem?_append_right (by rw [List.length_replicate]; omega), List.length_replicate, List.getElem?_replicate]
    split <;> rfl
theorem Cnts.bound {t : TR} {z : List Int} {h : HD} {m : List Int} (hC : Cnts t z h m) (q : Nat) (hq : q < m.length) : 0 ≤ m.getD q 0 ∧ m.getD q 0 ≤ 65535 := by
  rw [← hC.cnt q hq]
  have hb : B8 (t.rd z (h.jend.toNat + 2 * q) 2) := hC.b.rd _ _
  have := leV_bound hb 2
  rw [List.take_of_length_le (by rw [TR.rd_length]; exact Nat.le_refl _)] at this
  unfold cntV
  have h2 := this.2
  have h3 : ((256 ^ 2 : Nat) : Int) = 65536 := by decide
  omega
/-- At most one sector: the records fit. -/
theorem Cnts.recs {t : TR} {z : List Int} {h : HD} {m : List Int} (hC : Cnts t z h m) {rs : List RecR} (hr : RecRel t rs) : (encL rs).length ≤ 524 := by
  have hB := hr.B hC.ok (B := 8191) (fun q hq => ⟨(hC.inn.keys q hq).1, (hC.inn.keys q hq).2.1⟩)
  have hd : t.dirty.length ≤ 1 := by
    have hn := hC.inn.nodup
    have hk := hC.keys
    generalize t.dirty = d at hn hk
    match d, hn, hk with
    | [], _, _ => exact Nat.zero_le _
    | [a], _, _ => exact Nat.le_refl _
    | a :: b :: r, hn, hk =>
      exfalso
      have ha := hk a.1 (List.mem_cons_self ..)
      have hb := hk b.1 (List.mem_cons_of_mem _ (List.mem_cons_self ..))
      have := (List.nodup_cons.1 hn).1
      exact this (by show a.1 ∈ _; rw [ha, ← hb]; exact List.mem_cons_self ..)
  have := hB.2.1
  omega
/-- Two bytes are their number's. -/
theorem leV_two {l : List Int} (h : B8 l) (hl : l.length = 2) : leB 2 (leV l) = l := by
  match l, hl with
  | [a, b], _ =>
    have ha := h a (List.mem_cons_self ..)
    have hb := h b (List.mem_cons_of_mem _ (List.mem_cons_self ..))
    show [(a + 256 * (b + 256 * 0)) % 256, (a + 256 * (b + 256 * 0)) / 256 % 256] = [a, b]
    congr 1
    · omega
    · congr 1; omega
def wantL (m : List Int) : List Int := m.flatMap (leB 2)
theorem wantL_length : ∀ (m : List Int), (wantL m).length = 2 * m.length
  | [] => rfl
  | a :: r => by
    show (leB 2 a ++ wantL r).length = _
    rw [List.length_append, leB_length, wantL_length r, List.length_cons]; omega
theorem wantL_get : ∀ (m : List Int) (q : Nat), q < m.length → (wantL m).getD (2 * q) 0 = (leB 2 (m.getD q 0)).getD 0 0 ∧ (wantL m).getD (2 * q + 1) 0 = (leB 2 (m.getD q 0)).getD 1 0
  | [], q, h => absurd h (Nat.not_lt_zero _)
  | a :: r, 0, h => by
    show (leB 2 a ++ wantL r).getD 0 0 = _ ∧ (leB 2 a ++ wantL r).getD 1 0 = _
    have hl := leB_length 2 a
    constructor <;> rw [List.getD_eq_getElem?_getD, List.getElem?_append_left (by omega), ← List.getD_eq_getElem?_getD] <;> rfl
  | a :: r, q + 1, h => by
    have ih := wantL_get r q (by simpa using h)
    have hl := leB_length 2 a
    show (leB 2 a ++ wantL r).getD (2 * (q + 1)) 0 = (leB 2 (r.getD q 0)).getD 0 0 ∧ (leB 2 a ++ wantL r).getD (2 * (q + 1) + 1) 0 = (leB 2 (r.getD q 0)).getD 1 0
    rw [← ih.1, ← ih.2]
    constructor <;> rw [List.getD_eq_getElem?_getD, List.getElem?_append_right (by omega), List.getD_eq_getElem?_getD] <;> congr 2 <;> omega
theorem Cnts.byte {t : TR} {z : List Int} {h : HD} {m : List Int} (hC : Cnts t z h m) (hj : h.jend = 15360) {i : Nat} (hi : i < 2 * m.length) : t.V z (15360 + i) = (wantL m).getD i 0 := by
  have hq : i / 2 < m.length := by omega
  have hB : B8 (t.rd z (h.jend.toNat + 2 * (i / 2)) 2) := hC.b.rd _ _
  have e1 := leV_two hB (TR.rd_length _ _ _ _)
  have e2 : leV (t.rd z (h.jend.toNat + 2 * (i / 2)) 2) = m.getD (i / 2) 0 := hC.cnt _ hq
  rw [e2, hj] at e1
  obtain ⟨w0, w1⟩ := wantL_get m (i / 2) hq
  rw [e1] at w0 w1
  by_cases c : i % 2 = 0
  · rw [show i = 2 * (i / 2) by omega, w0, TR.rd_get _ _ _ _ _ (by omega)]; congr 1
  · rw [show i = 2 * (i / 2) + 1 by omega, w1, TR.rd_get _ _ _ _ _ (by omega)]; congr 1
/-- The law's end. -/
theorem Cnts.done {t : TR} {z : List Int} {h : HD} {m zz : List Int} {s3 : DF} (hC : Cnts t z h m) (hj : h.jend = 15360) (hl : m.length ≤ 99) (hz : z.length = 16896) (hl3 : s3.now.length = 16896) (hv : ∀ i, ¬ jR.inJ i → s3.V i = t.V z i) (hzz : zz.length = 14848) : putG s3.now 512 zz = putG (putG z 15360 (wantL m)) 512 zz := by
  have w := wantL_length m
  have l1 : (putG z 15360 (wantL m)).length = 16896 := by rw [putG_length (by omega)]; omega
  refine ext_getD (by rw [putG_length (by omega), putG_length (by omega)]; omega) (fun i hi => ?_)
  rw [putG_get (by omega), putG_get (by omega)]
  by_cases c : 512 ≤ i ∧ i < 512 + zz.length
  · rw [if_pos c, if_pos c]
  · rw [if_neg c, if_neg c, putG_get (by omega)]
    have hi2 : s3.now.getD i 0 = t.V z i := hv i (fun hq => by
      have : (512 : Int).toNat ≤ i ∧ i < (512 : Int).toNat + (14848 : Int).toNat := hq
      omega)
    rw [hi2]
    by_cases d : 15360 ≤ i ∧ i < 15360 + (wantL m).length
    · rw [if_pos d, ← hC.byte hj (by omega), show 15360 + (i - 15360) = i by omega]
    · rw [if_neg d]; exact hC.oth i (by omega)
end Go.Proofs.Ytcfmlnddmpiemaa.Sx


set_option maxRecDepth 10000
namespace Go.Proofs.Ytcfmlnddmpiemaa.Sx
/-! ### Which sectors are changed -/
def TR.ks (t : TR) : List Int := t.dirty.map (fun x => x.1)
theorem upS_key (n k : Int) (v : List Int) (d : List (Int × List Int)) : k ∈ (upS n v d).map (fun x => x.1) ↔ k ∈ d.map (fun x => x.1) ∨ k = n := by
  rw [upS_keys]
  by_cases h : n ∈ d.map (fun x => x.1)
  · rw [if_pos h]
    exact ⟨.inl, fun q => by rcases q with q | q; exact q; exact q ▸ h⟩
  · rw [if_neg h, List.mem_append, List.mem_singleton]
theorem wr1_ks (t : TR) (now : List Int) (a : Nat) (xs : List Int) (k : Int) : k ∈ (t.wr1 now a xs).ks ↔ k ∈ t.ks ∨ k = ((a / 512 : Nat) : Int) := upS_key _ _ _ _
theorem putF_mono : ∀ (f : Nat) (t : TR) (now : List Int) (a : Nat) (p : List Int) (k : Int), k ∈ t.ks → k ∈ (TR.putF f t now a p).ks
  | 0, t, now, a, p, k, h => h
  | f + 1, t, now, a, p, k, h => by
    by_cases h0 : p.length = 0
    · rw [putF_nil _ _ _ _ _ h0]; exact h
    · have e : TR.putF (f + 1) t now a p = TR.putF f (t.wr1 now a (p.take (min p.length (512 - a % 512)))) now (a + min p.length (512 - a % 512)) (p.drop (min p.length (512 - a % 512))) := by
        show (if _ then _ else _) = _; rw [if_neg h0]
      rw [e]
      exact putF_mono f _ _ _ _ k ((wr1_ks _ _ _ _ _).2 (.inl h))
theorem putF_ks : ∀ (f : Nat) (t : TR) (now : List Int) (a : Nat) (p : List Int) (m : Nat), 0 < p.length → p.length ≤ f → a < 512 * m + 512 → 512 * m < a + p.length → (m : Int) ∈ (TR.putF f t now a p).ks
  | 0, t, now, a, p, m, h0, hp, h1, h2 => by omega
  | f + 1, t, now, a, p, m, h00, hp, h1, h2 => by
    have h0 : ¬ p.length = 0 := by omega
    have e : TR.putF (f + 1) t now a p = TR.putF f (t.wr1 now a (p.take (min p.length (512 - a % 512)))) now (a + min p.length (512 - a % 512)) (p.drop (min p.length (512 - a % 512))) := by
      show (if _ then _ else _) = _; rw [if_neg h0]
    rw [e]
    generalize hk : min p.length (512 - a % 512) = d
    have hdl : (p.drop d).length = p.length - d := List.length_drop ..
    by_cases c : m = a / 512
    · subst c
      exact putF_mono f _ _ _ _ _ ((wr1_ks _ _ _ _ _).2 (.inr rfl))
    · exact putF_ks f _ now (a + d) (p.drop d) m (by omega) (by omega) (by omega) (by omega)
theorem put_ks (t : TR) (now : List Int) (a : Nat) (p : List Int) (k : Int) : k ∈ (t.put now a p).ks ↔ k ∈ t.ks ∨ 0 < p.length ∧ ∃ m : Nat, k = (m : Int) ∧ a < 512 * m + 512 ∧ 512 * m < a + p.length := by
  constructor
  · intro h
    by_cases h0 : p.length = 0
    · unfold TR.put at h
      rw [putF_nil _ _ _ _ _ h0] at h
      exact .inl h
    · rcases put_keys t now a p k h with h | h
      · exact .inl h
      · exact .inr ⟨by omega, h⟩
  · rintro (h | ⟨h0, m, rfl, h1, h2⟩)
    · exact putF_mono _ _ _ _ _ _ h
    · exact putF_ks _ _ _ _ _ _ h0 (Nat.le_refl _) h1 h2
end Go.Proofs.Ytcfmlnddmpiemaa.Sx


set_option maxRecDepth 10000
namespace Go.Proofs.Ytcfmlnddmpiemaa.Sx
open Go.RowKit Go.Proofs.Ytcfmlnddmpiemaa.Sx.Tb
/-! ### The law's need -/
end Go.Proofs.Ytcfmlnddmpiemaa.Sx


set_option maxRecDepth 10000
namespace Go.Proofs.Ytcfmlnddmpiemaa.Sx
/-! ### The law TxCrashes, plain -/
end Go.Proofs.Ytcfmlnddmpiemaa.Sx


set_option maxRecDepth 10000
namespace Go.Proofs.Ytcfmlnddmpiemaa.Sx
/-! ### What stands behind a crash within a commit and a replay, whole -/
structure CrashAll (j : JR) (t : TR) (b : List Int) (e : Int) (y : Int × Int × JR × DF) : Prop where
  err : y.2.1 = 0
  live : y.2.2.2.live
  b8 : B8 y.2.2.2.now
  len : y.2.2.2.now.length = b.length
  jr : y.2.2.1.pos = j.pos ∧ y.2.2.1.size = j.size
  items : y.2.2.2.items = [] ∧ y.2.2.2.now = y.2.2.2.safe
  view : (∀ i, ¬ j.inJ i → y.2.2.2.now.getD i 0 = t.V b i) ∨ e ≠ 0 ∧ ∀ i, ¬ j.inJ i → (∀ r ∈ t.fresh, ¬ covers r i) → y.2.2.2.now.getD i 0 = b.getD i 0
end Go.Proofs.Ytcfmlnddmpiemaa.Sx


set_option maxRecDepth 10000
namespace Go.Proofs.Ytcfmlnddmpiemaa.Sx
open Go.RowKit Go.Proofs.Ytcfmlnddmpiemaa.Sx.Tb
/-! ### The law MapsTables -/
/-- What stands in a table. -/
def TabV (t : TR) (now : List Int) (a : Nat) (M : List ER) : Prop := M.length = 64 ∧ ∀ i, i < 64 → (encV (M.getD i ⟨0, 0, false⟩)).2 = 0 ∧ t.rd now (a + 8 * i) 8 = leB 8 (encV (M.getD i ⟨0, 0, false⟩)).1
theorem TabV.put {t : TR} {now : List Int} {a : Nat} {M : List ER} (h : TabV t now a M) (ht : t.Ok) (i : Nat) (hi : i < 64) {x : ER} (hx : (encV x).2 = 0) : TabV (t.put now (a + 8 * i) (leB 8 (encV x).1)) now a (M.set i x) := by
  refine ⟨by rw [List.length_set]; exact h.1, fun q hq => ?_⟩
  by_cases hqi : q = i
  · subst hqi
    have e : (M.set q x).getD q ⟨0, 0, false⟩ = x := by
      rw [List.getD_eq_getElem?_getD, List.getElem?_set_self (by rw [h.1]; exact hq)]; rfl
    rw [e]
    refine ⟨hx, ?_⟩
    have := put_rd ht now (a + 8 * q) (leB 8 (encV x).1)
    rw [leB_length] at this
    exact this
  · have e : (M.set i x).getD q ⟨0, 0, false⟩ = M.getD q ⟨0, 0, false⟩ := by
      rw [List.getD_eq_getElem?_getD, List.getElem?_set_ne (fun e => hqi e.symm), List.getD_eq_getElem?_getD]
    rw [e]
    refine ⟨(h.2 q hq).1, ?_⟩
    rw [← (h.2 q hq).2]
    refine rd_congr (fun b hb => ?_)
    rw [(put_V ht now _ _).2.2.2.2, leB_length, if_neg (by omega)]
theorem TabV.zero {now : List Int} (hz : ∀ x ∈ now, x = 0) (a : Nat) : TabV TR.zero now a (List.replicate 64 ⟨0, 0, false⟩) := by
  have z : ∀ i, TR.zero.V now i = 0 := by
    intro i
    rw [zero_V, List.getD_eq_getElem?_getD]
    cases e : now[i]? with
    | none => rfl
    | some v => exact hz _ (List.mem_of_getElem? e)
  refine ⟨List.length_replicate .., fun i hi => ?_⟩
  have e : (List.replicate 64 (⟨0, 0, false⟩ : ER)).getD i ⟨0, 0, false⟩ = ⟨0, 0, false⟩ := by
    rw [List.getD_eq_getElem?_getD, List.getElem?_replicate]; split <;> rfl
  rw [e]
  refine ⟨rfl, ?_⟩
  show List.map _ _ = _
  have : (fun q => TR.zero.V now (a + 8 * i + q)) = fun _ => 0 := funext (fun q => z _)
  rw [this]
  decide
end Go.Proofs.Ytcfmlnddmpiemaa.Sx

