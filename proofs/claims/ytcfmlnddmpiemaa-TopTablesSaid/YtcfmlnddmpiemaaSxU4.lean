import Derived.Test.YtcfmlnddmpiemaaSxU3
import Derived.Test.YtcfmlnddmpiemaaSxEc
set_option linter.unusedVariables false
set_option linter.unusedSimpArgs false
set_option maxRecDepth 10000
namespace Go.Proofs.Ytcfmlnddmpiemaa.Sx
/-! ### The end -/
theorem wrs_calm {j : JR} {b : List Int} {rs : List RecR} (hc : JCase j b rs) : ∀ (rest : List RecR) (s : DF), (∀ r ∈ rest, r ∈ rs) → s.live → b.length ≤ s.now.length → (s.run (wrs rest)).1 = 0 ∧ (s.run (wrs rest)).2.live ∧ s.now.length ≤ (s.run (wrs rest)).2.now.length
  | [], s, _, hl, _ => ⟨rfl, hl, Nat.le_refl _⟩
  | r :: rest, s, hr, hl, hb => by
    have hm := hr r (List.mem_cons_self ..)
    obtain ⟨o1, o2, o3, o4, o5⟩ := hc.out r hm
    have ha := hc.at_ r hm
    have e := calm_wr hl (at_ := r.1) (xs := r.2) o1 (by omega) (by omega)
    rw [show wrs (r :: rest) = .wr r.1 r.2 :: wrs rest from rfl, DF.run, e]
    simp only [if_true]
    have hlen := putG_length (b := s.now) (p := r.1.toNat) (xs := r.2) (by omega)
    obtain ⟨i1, i2, i3⟩ := wrs_calm hc rest { s with now := putG s.now r.1.toNat r.2, items := s.items ++ segs r.2.length r.1 r.2, ops := s.ops + 1, wrote := s.wrote + 1 } (fun q hq => hr q (List.mem_cons_of_mem _ hq)) hl (by show _ ≤ (putG s.now r.1.toNat r.2).length; omega)
    refine ⟨i1, i2, ?_⟩
    have i3 : (putG s.now r.1.toNat r.2).length ≤ _ := i3
    omega
theorem apply_calm {j : JR} {b : List Int} {rs : List RecR} {z : List Int} {s : DF} (hc : JCase j b rs) (hz : z.length = 512) (hl : s.live) (hb : b.length ≤ s.now.length) : (s.run (applyOps j z rs)).1 = 0 ∧ (s.run (applyOps j z rs)).2.live := by
  obtain ⟨j1, j2, j3, j4, j5, j6⟩ := hc.ok
  have hf := hc.fit
  have hlen := hc.len
  obtain ⟨i1, i2, i3⟩ := wrs_calm hc rs s (fun r hr => hr) hl hb
  unfold applyOps
  rw [DF.run_append, if_pos i1]
  generalize (s.run (wrs rs)).2 = t at i2 i3 ⊢
  rw [DF.run, calm_fl i2]
  simp only [if_true]
  obtain ⟨s', e, l, -⟩ := calm_two (s := t.flushed) i2 (at_ := j.pos) (xs := z) j1 (by omega) (by show _ ≤ t.now.length; omega)
  rw [e]
  exact ⟨rfl, l⟩
def EndS (j : JR) (b : List Int) (rs : List RecR) (x : Int × Int × JR × DF) : Prop :=
  x.2.1 = 0 ∧ x.2.2.2.live ∧ x.2.2.2.items = [] ∧ x.2.2.2.now = x.2.2.2.safe ∧ B8 x.2.2.2.safe ∧ (j.eqJ x.2.2.2.safe b ∨ j.eqJ x.2.2.2.safe (doneL rs b)) ∧ pendB j (j.partL x.2.2.2.safe) = none
/-- A replay of what a crash left, not refused: no error, and nothing is pending any more. -/
theorem replay_end {j : JR} {b : List Int} {rs : List RecR} {C z : List Int} {s : DF} (hc : JCase j b rs) (hz : z = List.replicate 512 0) (h : Cr j b rs C) (h1 : s.safe = C) (h2 : s.now = C) (h3 : s.items = []) (hl : s.live) :
    EndS j b rs (s.replay j z) := by
  have hlen := h.len hc
  have hf := hc.fit
  have hp : j.part s = j.partL C := by unfold JR.part JR.partL; rw [h2]
  have hnl : ¬ ((s.now.length : Int) < j.pos + j.size) := by rw [h2]; omega
  have no : pendB j (j.partL C) = none → s.pend j = (0, none, j) := fun g => by
    unfold DF.pend
    rw [if_neg hl.refB, if_neg hnl, hp, g]
  have fin : pendB j (j.partL C) = none → (j.eqJ C b ∨ j.eqJ C (doneL rs b)) → EndS j b rs (s.replay j z) := fun g e => by
    have q := no g
    have : s.replay j z = (0, 0, j, s.asked) := by unfold DF.replay; rw [q]
    rw [this]
    refine ⟨rfl, hl, h3, by show s.now = s.safe; rw [h1, h2], by show B8 s.safe; rw [h1]; exact h.1, by show j.eqJ s.safe b ∨ j.eqJ s.safe _; rw [h1]; exact e, by show pendB j (j.partL s.safe) = none; rw [h1]; exact g⟩
  rcases h.2 with ⟨e, g⟩ | ⟨m, g⟩ | ⟨e, g⟩
  · exact fin g (.inl e)
  · have q : s.pend j = (0, some rs, { j with seq := le8 (j.part s) 4 }) := by
      unfold DF.pend
      rw [if_neg hl.refB, if_neg hnl, hp, g]
    obtain ⟨a1, a2⟩ := apply_calm (z := z) (s := s.asked) hc (by rw [hz]; exact List.length_replicate ..) hl (by show _ ≤ s.now.length; rw [h2]; omega)
    obtain ⟨-, d⟩ := apply_cr (s := s.asked) hc hz m g h1 h2 h3
    obtain ⟨d1, d2, d3, d4, d5⟩ := d a1
    have : s.replay j z = ((rs.length : Int), (s.asked.run (applyOps j z rs)).1, { j with seq := le8 (j.part s) 4 }, (s.asked.run (applyOps j z rs)).2) := by unfold DF.replay; rw [q]
    rw [this]
    exact ⟨a1, a2, d1, d2, d3, .inr d4, d5⟩
  · exact fin g (.inr e)
end Go.Proofs.Ytcfmlnddmpiemaa.Sx


set_option maxRecDepth 10000
namespace Go.Proofs.Ytcfmlnddmpiemaa.Sx
open Go.RowKit Go.Proofs.Ytcfmlnddmpiemaa.Sx.Tb
theorem inR_of_wf {k : IntKind} {n : Int} (h : (Lit.int k n).wf = true) : inR k n := by
  cases k <;> simp [Lit.wf, IntKind.wrap, IntKind.min, IntKind.max, IntKind.bits, IntKind.signed] at h <;> simp only [inR] <;> omega
end Go.Proofs.Ytcfmlnddmpiemaa.Sx


set_option maxRecDepth 10000
namespace Go.Proofs.Ytcfmlnddmpiemaa.Sx
open Go.RowKit Go.Proofs.Ytcfmlnddmpiemaa.Sx.Tb
/-! ### The functions of the law JournalCrashes -/
theorem recsC_noF (rs : List RecR) : (recsC true rs).noF := fun j hj => ⟨trivial, ⟨rfl, trivial⟩, trivial⟩
theorem Fin.vl {u : Value} {H : List Chunk} {k : K} (hk : k (.v u) []) : Fin 0 (.v u) H k := Fin.ren [] [] (.v u) [] rfl rfl trivial trivial (VC.mk rfl) hk
end Go.Proofs.Ytcfmlnddmpiemaa.Sx


set_option maxRecDepth 10000
namespace Go.Proofs.Ytcfmlnddmpiemaa.Sx
open Go.RowKit Go.Proofs.Ytcfmlnddmpiemaa.Sx.Tb
/-! ### Changes -/
/-- What a record has of a sector over it. -/
def layR (at_ : Int) (l : List Int) (r : RecR) : List Int :=
  if max at_ r.1 < min (at_ + l.length) (r.1 + r.2.length) then putG l (max at_ r.1 - at_).toNat ((r.2.drop (max at_ r.1 - r.1).toNat).take (min (at_ + l.length) (r.1 + r.2.length) - max at_ r.1).toNat) else l
theorem tlay_c (l : List Int) (at_ : Int) (r : RecR) (k : K) (h0 : (l.length = 512 ∧ 0 ≤ at_ ∧ at_ ≤ 1099511627776) ∧ 0 ≤ r.1 ∧ r.1 ≤ 1099511627776 ∧ r.2.length ≤ 1099511627776) (hk : k (.tup []) [.blk 154 (.ints .u8 (layR at_ l r)) 512]) : evFunc tab [] p82 Go.Proofs.Try.f82 [.s 0 0 1 512 512, .v (.int .i64 at_), .agg [.v (.int .i64 r.1), .im true 1 r.2.length (.ints .u8 r.2)]] [.blk 154 (.ints .u8 l) 512] k := by
  repeat' (first
    | (with_reducible first | exact True.intro | apply And.intro | apply If_true | apply If_false | apply If_not)
    | ((with_reducible apply VC.mk); exact vt)
    | ((with_reducible apply If_dec) <;> intro hc <;> (try (exfalso; omega)))
    | ((with_reducible apply If_any) <;> intro hc)
    | ((with_reducible first | apply PF.mk | apply DrawP.mk); (focus kernel_rfl))
    | ((with_reducible apply Same.mk); (focus rfl); (first | exact trivial | exact rfl))
    | (intro cap hcap)
    | ((fail_if_success (with_reducible apply st)); conv => whnf))
  all_goals simp only [cond_true, cond_false] at *
  · exact VC.mk ⟨trivial, by omega, by omega, by omega⟩
  · exact VC.mk ⟨trivial, by omega, by omega, by omega⟩
  · exact VC.mk ⟨trivial, trivial, by omega⟩
  · generalize hF : max at_ r.1 = F at *
    generalize hT : min (at_ + (512 : Nat)) (r.1 + (r.2.length : Int)) = T at *
    refine Fin.ren [0] [] (.tup []) [.blk 154 (.ints .u8 (layR at_ l r)) 512] rfl rfl trivial ⟨⟨VC.mk ⟨rfl, rfl⟩, VC.mk ⟨rfl, ?_⟩⟩, trivial⟩ trivial hk
    have e1 : min (at_ + (l.length : Int)) (r.1 + (r.2.length : Int)) = T := by rw [h0.1.1]; exact hT
    have e2 : (T - at_).toNat - (F - at_).toNat = (T - F).toNat := by omega
    have e3 : min (r.2.length - (F - r.1).toNat) (T - F).toNat = (T - F).toNat := by omega
    have e4 : ((r.2.drop (F - r.1).toNat).take (T - F).toNat).length = (T - F).toNat := by rw [List.length_take, List.length_drop]; omega
    have e5 : layR at_ l r = l.take (F - at_).toNat ++ ((r.2.drop (F - r.1).toNat).take (T - F).toNat ++ l.drop ((F - at_).toNat + (T - F).toNat)) := by
      unfold layR
      rw [hF, e1, if_pos hc]
      unfold putG
      rw [e4]
    rw [e5, e2, e3, List.take_take, show min (T - F).toNat (r.2.length - (F - r.1).toNat) = (T - F).toNat by omega, Nat.zero_add, List.append_assoc]
    exact List.prefix_rfl
  · have e5 : layR at_ l r = l := by
      unfold layR
      rw [h0.1.1, if_neg hc]
    rw [e5] at hk
    exact Fin.ren [0] [] (.tup []) [.blk 154 (.ints .u8 l) 512] rfl rfl trivial ⟨⟨VC.mk ⟨rfl, rfl⟩, VC.mk ⟨rfl, List.prefix_rfl⟩⟩, trivial⟩ trivial hk
theorem tlay_K : ConOk Go.Proofs.Try.prog 82 (Con.of (List Int × Int × RecR) Unit (fun x => [.s 0 0 1 512 512, .v (.int .i64 x.2.1), .agg [.v (.int .i64 x.2.2.1), .im true 1 x.2.2.2.length (.ints .u8 x.2.2.2)]]) (fun x => [.blk 154 (.ints .u8 x.1) 512]) (fun x => (x.1.length = 512 ∧ 0 ≤ x.2.1 ∧ x.2.1 ≤ 1099511627776) ∧ 0 ≤ x.2.2.1 ∧ x.2.2.1 ≤ 1099511627776 ∧ x.2.2.2.length ≤ 1099511627776) (fun _ _ => True) (fun _ _ => .tup []) (fun x _ => [.blk 154 (.ints .u8 (layR x.2.1 x.1 x.2.2)) 512])) :=
  conOk_rel (T := tab) mix Go.Proofs.Try.func82 (by decide +kernel) (by kernel_rfl) [] p82 (fun n => by rw [Go.Proofs.Try.ntmps82]; exact Nat.le_of_ble_eq_true rfl) (fun n _ _ _ => ⟨trivial, (fun c hc => by simp at hc; subst hc; exact .blk trivial), Nat.le_refl _⟩) (fun n _ c hc => by simp at hc; subst hc; trivial) (fun x k h0 hk => tlay_c x.1 x.2.1 x.2.2 k h0 (hk () trivial))
theorem tlay_at {avs : List AV} {H : List Chunk} {k : K} (l : List Int) (at_ : Int) (r : RecR) (i : Nat) (h0 : (l.length = 512 ∧ 0 ≤ at_ ∧ at_ ≤ 1099511627776) ∧ 0 ≤ r.1 ∧ r.1 ≤ 1099511627776 ∧ r.2.length ≤ 1099511627776) (hc : nth H i = some (.blk 154 (.ints .u8 l) 512)) (ha : argsM H [i] [.s 0 0 1 512 512, .v (.int .i64 at_), .agg [.v (.int .i64 r.1), .im true 1 r.2.length (.ints .u8 r.2)]] avs)
    (h : k (.tup []) (H.set i (.blk 154 (.ints .u8 (layR at_ l r)) 512))) : CallP Go.Proofs.Try.prog 82 avs H k :=
  CallP.mk ⟨_, tlay_K.real, Con.spec tlay_K, (l, at_, r), [i], ⟨h0, rfl, ⟨hc, trivial⟩, ha⟩, fun _ _ => (numK_eq _ _).mpr (by simpa [putAll, AV.ren, rens, Chunk.ren, Cont.ren] using h)⟩
/-! ### The state of changes -/
structure TR where
  dirty : List (Int × List Int)
  fresh : List RecR
  cap : Nat
  over : Bool
def TR.c0 (t : TR) (j m f : Nat) : Chunk := .blk 134 (.lst [.p j 0 1 0, .m m, .s f 0 2 t.fresh.length t.cap, .v (.bool t.over)]) 4
def TR.c1 (t : TR) : Chunk := .mp (t.dirty.map (fun x => (x.1, AV.arr .u8 x.2))) none
def TR.c2 (t : TR) : Chunk := .blk 138 (recsC true t.fresh) (t.cap * 2)
def lkS (n : Int) : List (Int × List Int) → Option (List Int)
  | [] => none
  | (a, v) :: r => if a = n then some v else lkS n r
def upS (n : Int) (v : List Int) : List (Int × List Int) → List (Int × List Int)
  | [] => [(n, v)]
  | (a, u) :: r => if a = n then (a, v) :: r else (a, u) :: upS n v r
theorem lkm_map (n : Int) : ∀ (d : List (Int × List Int)), lkm n (d.map (fun x => (x.1, AV.arr .u8 x.2))) = (lkS n d).map (AV.arr .u8)
  | [] => rfl
  | (a, v) :: r => by
    show (if a = n then _ else _) = _
    unfold lkS
    by_cases h : a = n
    · rw [if_pos h, if_pos h]; rfl
    · rw [if_neg h, if_neg h]; exact lkm_map n r
theorem upm_map (n : Int) (v : List Int) : ∀ (d : List (Int × List Int)), upm n (.arr .u8 v) (d.map (fun x => (x.1, AV.arr .u8 x.2))) = (upS n v d).map (fun x => (x.1, AV.arr .u8 x.2))
  | [] => rfl
  | (a, u) :: r => by
    show (if a = n then _ else _) = _
    unfold upS
    by_cases h : a = n
    · rw [if_pos h, if_pos h]; rfl
    · rw [if_neg h, if_neg h]
      show _ :: upm n _ (r.map _) = _
      rw [upm_map n v r]; rfl
def padS (l : List Int) : List Int := l ++ List.replicate (512 - l.length) 0
def secF (now : List Int) (n : Int) : List Int := padS ((now.drop (512 * n).toNat).take 512)
def TR.sec (t : TR) (now : List Int) (n : Int) : List Int :=
  match lkS n t.dirty with
  | some l => l
  | none => t.fresh.foldl (layR (512 * n)) (secF now n)
structure TR.Ok (t : TR) : Prop where
  sec : ∀ x ∈ t.dirty, x.2.length = 512
  frs : ∀ r ∈ t.fresh, 0 ≤ r.1 ∧ r.1 ≤ 4194304 ∧ r.2.length ≤ 4194304
  cap : t.fresh.length ≤ t.cap
  len : t.fresh.length ≤ 1073741824
def tpre (t : TR) (j : JR) (s : DF) : List Chunk := [t.c0 3 1 2, t.c1, t.c2, j.blk 4, s.pk]
theorem layR_length (at_ : Int) (l : List Int) (r : RecR) (hl : l.length = 512) (h0 : 0 ≤ at_) : (layR at_ l r).length = 512 := by
  unfold layR
  split
  · rename_i h
    rw [putG_length (by omega), List.length_take, List.length_drop]
    omega
  · exact hl
theorem secF_length (now : List Int) (n : Int) : (secF now n).length = 512 := by
  unfold secF padS
  rw [List.length_append, List.length_replicate, List.length_take]
  omega
theorem lays_length (at_ : Int) (h0 : 0 ≤ at_) : ∀ (rs : List RecR) (l : List Int), l.length = 512 → (rs.foldl (layR at_) l).length = 512
  | [], l, h => h
  | r :: rs, l, h => lays_length at_ h0 rs _ (layR_length at_ l r h h0)
theorem lkS_mem {n : Int} : ∀ {d : List (Int × List Int)} {l : List Int}, lkS n d = some l → (n, l) ∈ d
  | [], _, h => by cases h
  | (a, v) :: r, l, h => by
    unfold lkS at h
    split at h
    · rename_i e; cases h; subst e; exact List.mem_cons_self ..
    · exact List.mem_cons_of_mem _ (lkS_mem h)
theorem TR.Ok.sec_length {t : TR} (h : t.Ok) (now : List Int) (n : Int) (h0 : 0 ≤ n) : (t.sec now n).length = 512 := by
  unfold TR.sec
  split
  · rename_i l hl; exact h.sec _ (lkS_mem hl)
  · exact lays_length _ (by omega) _ _ (secF_length now n)
theorem arr_les {H : List Chunk} {fz : List Nat} {f : Nat → Nat} {ph : Nat → Bool} : ∀ (d : List (Int × List Int)), les H fz f ph ((d.map (fun x => (x.1, AV.arr .u8 x.2))).map (fun x => x.2)) ((d.map (fun x => (x.1, AV.arr .u8 x.2))).map (fun x => x.2))
  | [] => trivial
  | x :: r => ⟨VC.mk ⟨rfl, rfl⟩, arr_les r⟩
theorem arr_noF : ∀ (d : List (Int × List Int)), noFs ((d.map (fun x => (x.1, AV.arr .u8 x.2))).map (fun x => x.2))
  | [] => trivial
  | x :: r => ⟨trivial, arr_noF r⟩
theorem recs_les {H : List Chunk} {fz : List Nat} {f : Nat → Nat} {ph : Nat → Bool} (r : RecR) : les H fz f ph (recAV true r) (recAV true r) := ⟨VC.mk rfl, ⟨VC.mk ⟨rfl, rfl, rfl⟩, VC.mk ⟨rfl, rfl⟩⟩, trivial⟩
theorem T5.le {H : List Chunk} {fz : List Nat} {f : Nat → Nat} {ph : Nat → Bool} {t : TR} {j : JR} {s : DF} (f1 : f 1 = 1) (f2 : f 2 = 2) (f3 : f 3 = 3) (f4 : f 4 = 4) (h : 5 ≤ H.length) (h0 : nth H 0 = some (t.c0 3 1 2)) (h1 : nth H 1 = some t.c1) (h2 : nth H 2 = some t.c2) (h3 : nth H 3 = some (j.blk 4)) (h4 : nth H 4 = some s.pk) (hz : memN 0 fz = false ∧ memN 1 fz = false ∧ memN 2 fz = false ∧ memN 3 fz = false ∧ memN 4 fz = false := by exact ⟨rfl, rfl, rfl, rfl, rfl⟩) : chunksLe H fz f ph [0, 1, 2, 3, 4] (tpre t j s) := by
  refine ⟨?_, ?_, ?_, ?_, ?_, trivial⟩
  · unfold Chunk.le TR.c0
    simp only
    rw [show Nat.blt 0 H.length = true by rw [Nat.blt_eq]; omega, hz.1, h0]
    exact ⟨VC.mk ⟨rfl, rfl⟩, VC.mk ⟨f3, rfl, rfl, rfl⟩, VC.mk f1, VC.mk ⟨f2, rfl, rfl, rfl, rfl⟩, VC.mk rfl, trivial⟩
  · unfold Chunk.le TR.c1
    simp only
    rw [show Nat.blt 1 H.length = true by rw [Nat.blt_eq]; omega, hz.2.1, h1]
    exact ⟨VC.mk ⟨rfl, .inl trivial⟩, arr_les t.dirty⟩
  · unfold Chunk.le TR.c2
    simp only
    rw [show Nat.blt 2 H.length = true by rw [Nat.blt_eq]; omega, hz.2.2.1, h2]
    exact ⟨VC.mk ⟨rfl, rfl⟩, VC.mk ⟨rfl, Nat.le_refl _⟩, fun j _ => recs_les _⟩
  · unfold Chunk.le JR.blk
    simp only
    rw [show Nat.blt 3 H.length = true by rw [Nat.blt_eq]; omega, hz.2.2.2.1, h3]
    exact ⟨VC.mk ⟨rfl, rfl⟩, VC.mk ⟨f4, rfl, rfl, rfl⟩, VC.mk rfl, VC.mk rfl, VC.mk rfl, trivial⟩
  · unfold Chunk.le DF.pk
    simp only
    rw [show Nat.blt 4 H.length = true by rw [Nat.blt_eq]; omega, hz.2.2.2.2, h4]
    exact VC.mk ⟨rfl, rfl, rfl, rfl⟩
theorem T5.leX {H : List Chunk} {f : Nat → Nat} {ph : Nat → Bool} {t : TR} {j : JR} {s : DF} {σ : List Nat} {cs : List Chunk} (f1 : f 1 = 1) (f2 : f 2 = 2) (f3 : f 3 = 3) (f4 : f 4 = 4) (h : Nat.ble 5 H.length = true) (h0 : nth H 0 = some (t.c0 3 1 2)) (h1 : nth H 1 = some t.c1) (h2 : nth H 2 = some t.c2) (h3 : nth H 3 = some (j.blk 4)) (h4 : nth H 4 = some s.pk) (hx : chunksLe H [] f ph σ cs) : chunksLe H [] f ph (0 :: 1 :: 2 :: 3 :: 4 :: σ) (tpre t j s ++ cs) := by
  have T := T5.le (fz := []) (ph := ph) f1 f2 f3 f4 (Nat.le_of_ble_eq_true h) h0 h1 h2 h3 h4
  exact ⟨T.1, T.2.1, T.2.2.1, T.2.2.2.1, T.2.2.2.2.1, hx⟩
theorem fix5 {N : Nat} {σ : List Nat} : ∀ i, i < 5 → fren (0 :: 1 :: 2 :: 3 :: 4 :: σ) N i = i := fun i hi => by
  match i, hi with
  | 0, _ => rfl
  | 1, _ => rfl
  | 2, _ => rfl
  | 3, _ => rfl
  | 4, _ => rfl
theorem T5.fin {H : List Chunk} {t : TR} {j : JR} {s : DF} {v : AV} {k : K} (h : Nat.ble 5 H.length = true) (h0 : nth H 0 = some (t.c0 3 1 2)) (h1 : nth H 1 = some t.c1) (h2 : nth H 2 = some t.c2) (h3 : nth H 3 = some (j.blk 4)) (h4 : nth H 4 = some s.pk) (hk : k v (tpre t j s)) (hv : v.inN 5 := by simp [AV.inN, inNs, Cont.inN]) : Fin 5 v H k :=
  Fin.ren [0, 1, 2, 3, 4] [] v (tpre t j s) rfl rfl trivial (T5.le rfl rfl rfl rfl (Nat.le_of_ble_eq_true h) h0 h1 h2 h3 h4) (AV.le_refl fix5 hv) hk
theorem T5.good {t : TR} {j : JR} {s : DF} {v : AV} (h : v.noF) : Good 5 v (tpre t j s) := by
  refine ⟨h, fun c hc => ?_, Nat.le_refl _⟩
  simp [tpre] at hc
  rcases hc with rfl | rfl | rfl | rfl | rfl
  · exact .blk ⟨trivial, trivial, trivial, trivial, trivial⟩
  · exact .mp (arr_noF t.dirty)
  · exact .blk (recsC_noF _)
  · exact j.noF _
  · exact s.pk_noF
theorem T5.nd {t : TR} {j : JR} {s : DF} : ∀ c ∈ tpre t j s, c.lives := by
  intro c hc
  simp [tpre] at hc
  rcases hc with rfl | rfl | rfl | rfl | rfl <;> trivial
theorem secF_read {now l z : List Int} {n : Int} (hl : l = (now.drop (n * 512).toNat).take (min ((now.length : Int) - n * 512) 512).toNat) (hz : z = List.replicate 512 0) (h0 : 0 ≤ n) (h : 0 < min ((now.length : Int) - n * 512) 512) : secF now n = List.take (Int.toNat 0) z ++ List.take (min l.length (512 - Int.toNat 0)) l ++ List.drop (Int.toNat 0 + min l.length (512 - Int.toNat 0)) z := by
  have hll : l.length = (min ((now.length : Int) - n * 512) 512).toNat := by rw [hl, List.length_take, List.length_drop]; omega
  have e1 : (now.drop (512 * n).toNat).take 512 = l := by
    rw [hl, Int.mul_comm]
    rcases (by omega : (min ((now.length : Int) - n * 512) 512).toNat = 512 ∨ ((now.drop (n * 512).toNat).length ≤ (min ((now.length : Int) - n * 512) 512).toNat ∧ (now.drop (n * 512).toNat).length ≤ 512) ∨ ¬ (now.drop (n * 512).toNat).length ≤ (min ((now.length : Int) - n * 512) 512).toNat ∧ (min ((now.length : Int) - n * 512) 512).toNat ≠ 512 ∨ 512 < (now.drop (n * 512).toNat).length ∧ (min ((now.length : Int) - n * 512) 512).toNat ≠ 512) with h | h | h | h
    · rw [h]
    · rw [List.take_of_length_le h.1, List.take_of_length_le h.2]
    · rw [List.length_drop] at h; omega
    · rw [List.length_drop] at h; omega
  unfold secF padS
  rw [e1, show Int.toNat 0 = 0 from rfl, List.take_zero, List.nil_append, show min l.length (512 - 0) = l.length by omega, List.take_of_length_le (Nat.le_refl _), hz, List.drop_replicate, Nat.zero_add]
theorem secF_none {now z : List Int} {n : Int} (hz : z = List.replicate 512 0) (h0 : 0 ≤ n) (h : ¬ 0 < min ((now.length : Int) - n * 512) 512) : secF now n = z := by
  unfold secF padS
  rw [List.drop_eq_nil_of_le (by omega), List.take_nil, hz]
  rfl
set_option maxHeartbeats 16000000 in
theorem load_c (t : TR) (j : JR) (s : DF) (n : Int) (k : K) (h0 : t.Ok ∧ s.live ∧ (0 ≤ n ∧ n ≤ 1073741824) ∧ 0 ≤ s.ops ∧ s.ops ≤ 549755813888 ∧ s.now.length ≤ 4194304) (hk : ∀ x : List Int × DF, (x.1 = t.sec s.now n ∧ (x.2 = s ∨ x.2 = s.asked)) → k (.tup [.arr .u8 x.1, .v (.int .i64 0)]) (tpre t j x.2)) : evFunc tab [] p79 Go.Proofs.Try.f79 [.p 0 0 1 0, .v (.int .i64 n)] (tpre t j s) k := by
  obtain ⟨h1, h2, h3, h4, h5, h6⟩ := h0
  have fin : ∀ (l : List Int) (s' : DF) (H : List Chunk), l = t.sec s.now n → (s' = s ∨ s' = s.asked) → Nat.ble 5 H.length = true → nth H 0 = some (t.c0 3 1 2) → nth H 1 = some t.c1 → nth H 2 = some t.c2 → nth H 3 = some (j.blk 4) → nth H 4 = some s'.pk → Fin 5 (.tup [.arr .u8 l, .v (.int .i64 0)]) H k := by
    intro l s' H q1 q2 q3 q4 q5 q6 q7 q8
    exact T5.fin q3 q4 q5 q6 q7 q8 (hk (l, s') ⟨q1, q2⟩)
  repeat' (first
    | (with_reducible first | exact True.intro | apply And.intro | apply If_true | apply If_false | apply If_not)
    | ((with_reducible apply VC.mk); exact vt)
    | ((with_reducible apply If_dec) <;> intro hc <;> (try (exfalso; omega)))
    | ((with_reducible apply If_any) <;> intro hc)
    | ((with_reducible first | apply PF.mk | apply DrawP.mk); (focus kernel_rfl))
    | ((with_reducible apply Same.mk); (focus rfl); (first | exact trivial | exact rfl))
    | (intro cap hcap)
    | ((fail_if_success (with_reducible apply st)); conv => whnf))
  refine LookP.mk (fun v hv => ?_) (fun hn => ?_)
  · rw [lkm_map] at hv
    obtain ⟨l, hl, rfl⟩ : ∃ l, lkS n t.dirty = some l ∧ AV.arr .u8 l = v := by
      cases hq : lkS n t.dirty with
      | none => rw [hq] at hv; cases hv
      | some l => rw [hq] at hv; exact ⟨l, rfl, by simpa using hv⟩
    have hll := h1.sec _ (lkS_mem hl)
    have hl2 : l.length = 512 := hll
    have hs : l = t.sec s.now n := by unfold TR.sec; rw [hl]
    repeat' (first
    | (with_reducible first | exact True.intro | apply And.intro | apply If_true | apply If_false | apply If_not)
    | ((with_reducible apply VC.mk); exact vt)
    | ((with_reducible apply If_dec) <;> intro hc <;> (try (exfalso; omega)))
    | ((with_reducible apply If_any) <;> intro hc)
    | ((with_reducible first | apply PF.mk | apply DrawP.mk); (focus kernel_rfl))
    | ((with_reducible apply Same.mk); (focus rfl); (first | exact trivial | exact rfl))
    | (intro cap hcap)
    | ((fail_if_success (with_reducible apply st)); conv => whnf))
    have e : List.take 512 (List.drop (0 * 1 + 0) (List.take 512 (List.drop (0 * 1 + 0) l))) = l := by simp [List.take_of_length_le, hl2]
    rw [e]
    exact fin l s _ hs (.inl rfl) rfl rfl rfl rfl rfl rfl
  · rw [lkm_map] at hn
    have hn0 : lkS n t.dirty = none := by
      cases hq : lkS n t.dirty with
      | none => rfl
      | some l => rw [hq] at hn; cases hn
    have hsec : t.sec s.now n = t.fresh.foldl (layR (512 * n)) (secF s.now n) := by unfold TR.sec; rw [hn0]
    obtain ⟨z, hz⟩ : ∃ z : List Int, z = List.replicate 512 0 := ⟨_, rfl⟩
    have hzl : z.length = 512 := by rw [hz]; exact List.length_replicate ..
    repeat' (first
    | (with_reducible first | exact True.intro | apply And.intro | apply If_true | apply If_false | apply If_not)
    | ((with_reducible apply VC.mk); exact vt)
    | ((with_reducible apply If_dec) <;> intro hc <;> (try (exfalso; omega)))
    | ((with_reducible apply If_any) <;> intro hc)
    | ((with_reducible first | apply PF.mk | apply DrawP.mk); (focus kernel_rfl))
    | ((with_reducible apply Same.mk); (focus rfl); (first | exact trivial | exact rfl))
    | (intro cap hcap)
    | ((fail_if_success (with_reducible apply st)); conv => whnf))
    rw [← hz]
    refine len_at s 4 (by omega) rfl ⟨rfl, trivial⟩ (fun _ => ?_)
    repeat' (first
    | (with_reducible first | exact True.intro | apply And.intro | apply If_true | apply If_false | apply If_not)
    | ((with_reducible apply VC.mk); exact vt)
    | ((with_reducible apply If_dec) <;> intro hc <;> (try (exfalso; omega)))
    | ((with_reducible apply If_any) <;> intro hc)
    | ((with_reducible first | apply PF.mk | apply DrawP.mk); (focus kernel_rfl))
    | ((with_reducible apply Same.mk); (focus rfl); (first | exact trivial | exact rfl))
    | (intro cap hcap)
    | ((fail_if_success (with_reducible apply st)); conv => whnf))
    all_goals (try simp only [cond_true, cond_false] at *)
    · have hnr : ¬ s.refused := h2.not
      refine read_at s (n * 512) (min ((s.now.length : Int) - n * 512) 512) 4 ⟨h4, by omega, h6⟩ rfl ⟨rfl, rfl, rfl, trivial⟩ ?_
      intro r l hr
      have hr2 : r = 0 ∧ l = (s.now.drop (n * 512).toNat).take (min ((s.now.length : Int) - n * 512) 512).toNat := by
        rcases hr with ⟨_, g, _⟩ | ⟨_, _, g, _⟩ | ⟨g, _, _, _, _, _, g2⟩
        · exact absurd g hnr
        · exact absurd ⟨by omega, by omega, by omega, by omega⟩ g
        · exact ⟨g, g2⟩
      obtain ⟨rfl, hl⟩ := hr2
      clear hr
      repeat' (first
    | (with_reducible first | exact True.intro | apply And.intro | apply If_true | apply If_false | apply If_not)
    | ((with_reducible apply VC.mk); exact vt)
    | ((with_reducible apply If_dec) <;> intro hc <;> (try (exfalso; omega)))
    | ((with_reducible apply If_any) <;> intro hc)
    | ((with_reducible first | apply PF.mk | apply DrawP.mk); (focus kernel_rfl))
    | ((with_reducible apply Same.mk); (focus rfl); (first | exact trivial | exact rfl))
    | (intro cap hcap)
    | ((fail_if_success (with_reducible apply st)); conv => whnf))
      refine LoopP.mk ⟨Nat × List Int, fun y => y.1 ≤ t.fresh.length ∧ y.2 = (t.fresh.take y.1).foldl (layR (512 * n)) (secF s.now n), fun y => ([(4, .p 5 0 1 0), (8, .p 6 0 1 0), (9, .v (.int .i64 (n * 512))), (64, .s 2 0 2 t.fresh.length t.cap), (65, .v (.int .i64 t.fresh.length)), (66, .v (.int .i64 y.1))], tpre t j (s.asked) ++ [.blk 154 (.ints .u8 z) 512, .blk 154 (.ints .u8 y.2) 512]), fun y => t.fresh.length - y.1, (0, secF s.now n), ⟨Nat.zero_le _, rfl⟩, Fit.ren [0, 1, 2, 3, 4, 5, 7] [] rfl rfl trivial ?_ ?_, ?_⟩
      · refine T5.leX rfl rfl rfl rfl rfl rfl rfl rfl rfl rfl ⟨⟨VC.mk ⟨rfl, rfl⟩, VC.mk ⟨rfl, List.prefix_rfl⟩⟩, ⟨VC.mk ⟨rfl, rfl⟩, VC.mk ⟨rfl, ?_⟩⟩, trivial⟩
        rw [show ((0, secF s.now n) : Nat × List Int).2 = secF s.now n from rfl, secF_read hl hz h3.1 (by assumption)]
        exact List.prefix_rfl
      · repeat' (first
    | (with_reducible first | exact True.intro | apply And.intro | apply If_true | apply If_false | apply If_not)
    | ((with_reducible apply VC.mk); exact vt)
    | ((with_reducible apply If_dec) <;> intro hc <;> (try (exfalso; omega)))
    | ((with_reducible apply If_any) <;> intro hc)
    | ((with_reducible first | apply PF.mk | apply DrawP.mk); (focus kernel_rfl))
    | ((with_reducible apply Same.mk); (focus rfl); (first | exact trivial | exact rfl))
    | (intro cap hcap)
    | ((fail_if_success (with_reducible apply st)); conv => whnf))
      · intro y hy
        obtain ⟨g1, g2⟩ := hy
        have e : ((y.1 : Nat) : Int).toNat = y.1 := Int.toNat_natCast _
        have g3 : y.2.length = 512 := by rw [g2]; exact lays_length _ (by omega) _ _ (secF_length _ _)
        by_cases hlt : y.1 < t.fresh.length
        · have hm : t.fresh.getD y.1 (0, []) ∈ t.fresh := by
            rw [show t.fresh.getD y.1 (0, []) = t.fresh[y.1] by simp [List.getD_eq_getElem?_getD, hlt]]; exact List.getElem_mem hlt
          have hok := h1.frs _ hm
          have hcl := h1.len
          have htk : t.fresh.take (y.1 + 1) = t.fresh.take y.1 ++ [t.fresh.getD y.1 (0, [])] := by
            rw [List.take_add_one, List.getElem?_eq_getElem hlt, List.getD_eq_getElem?_getD, List.getElem?_eq_getElem hlt]; rfl
          repeat' (first
    | (with_reducible first | exact True.intro | apply And.intro | apply If_true | apply If_false | apply If_not)
    | ((with_reducible apply VC.mk); exact vt)
    | ((with_reducible apply If_dec) <;> intro hc <;> (try (exfalso; omega)))
    | ((with_reducible apply If_any) <;> intro hc)
    | ((with_reducible first | apply PF.mk | apply DrawP.mk); (focus kernel_rfl))
    | ((with_reducible apply Same.mk); (focus rfl); (first | exact trivial | exact rfl))
    | (intro cap hcap)
    | ((fail_if_success (with_reducible apply st)); conv => whnf))
          simp only [e, Nat.zero_add]
          refine tlay_at y.2 (n * 512) (t.fresh.getD y.1 (0, [])) 6 ⟨⟨g3, by omega, by omega⟩, hok.1, by omega, by omega⟩ rfl ⟨rfl, rfl, ⟨rfl, rfl, trivial⟩, trivial⟩ ?_
          repeat' (first
    | (with_reducible first | exact True.intro | apply And.intro | apply If_true | apply If_false | apply If_not)
    | ((with_reducible apply VC.mk); exact vt)
    | ((with_reducible apply If_dec) <;> intro hc <;> (try (exfalso; omega)))
    | ((with_reducible apply If_any) <;> intro hc)
    | ((with_reducible first | apply PF.mk | apply DrawP.mk); (focus kernel_rfl))
    | ((with_reducible apply Same.mk); (focus rfl); (first | exact trivial | exact rfl))
    | (intro cap hcap)
    | ((fail_if_success (with_reducible apply st)); conv => whnf))
          refine Round.mk ⟨(y.1 + 1, layR (n * 512) y.2 (t.fresh.getD y.1 (0, []))), ⟨by show y.1 + 1 ≤ _; omega, ?_⟩, by show t.fresh.length - (y.1 + 1) < t.fresh.length - y.1; omega, Fit.ren [0, 1, 2, 3, 4, 5, 6] [] rfl rfl trivial ?_ ?_⟩
          · show _ = List.foldl _ _ (t.fresh.take (y.1 + 1))
            rw [htk, List.foldl_append, ← g2, Int.mul_comm]; rfl
          · exact T5.leX rfl rfl rfl rfl rfl rfl rfl rfl rfl rfl ⟨⟨VC.mk ⟨rfl, rfl⟩, VC.mk ⟨rfl, List.prefix_rfl⟩⟩, ⟨VC.mk ⟨rfl, rfl⟩, VC.mk ⟨rfl, List.prefix_rfl⟩⟩, trivial⟩
          · repeat' (first
    | (with_reducible first | exact True.intro | apply And.intro | apply If_true | apply If_false | apply If_not)
    | ((with_reducible apply VC.mk); exact vt)
    | ((with_reducible apply If_dec) <;> intro hc <;> (try (exfalso; omega)))
    | ((with_reducible apply If_any) <;> intro hc)
    | ((with_reducible first | apply PF.mk | apply DrawP.mk); (focus kernel_rfl))
    | ((with_reducible apply Same.mk); (focus rfl); (first | exact trivial | exact rfl))
    | (intro cap hcap)
    | ((fail_if_success (with_reducible apply st)); conv => whnf))
        · repeat' (first
    | (with_reducible first | exact True.intro | apply And.intro | apply If_true | apply If_false | apply If_not)
    | ((with_reducible apply VC.mk); exact vt)
    | ((with_reducible apply If_dec) <;> intro hc <;> (try (exfalso; omega)))
    | ((with_reducible apply If_any) <;> intro hc)
    | ((with_reducible first | apply PF.mk | apply DrawP.mk); (focus kernel_rfl))
    | ((with_reducible apply Same.mk); (focus rfl); (first | exact trivial | exact rfl))
    | (intro cap hcap)
    | ((fail_if_success (with_reducible apply st)); conv => whnf))
          have e9 : List.take 512 (List.drop (0 * 1 + 0) (List.take 512 (List.drop (0 * 1 + 0) y.2))) = y.2 := by simp [List.take_of_length_le, g3]
          rw [e9]
          rw [List.take_of_length_le (by omega), ← hsec] at g2
          exact fin y.2 _ _ g2 (.inr rfl) rfl rfl rfl rfl rfl rfl
    · refine LoopP.mk ⟨Nat × List Int, fun y => y.1 ≤ t.fresh.length ∧ y.2 = (t.fresh.take y.1).foldl (layR (512 * n)) (secF s.now n), fun y => ([(4, .p 5 0 1 0), (8, .p 6 0 1 0), (9, .v (.int .i64 (n * 512))), (64, .s 2 0 2 t.fresh.length t.cap), (65, .v (.int .i64 t.fresh.length)), (66, .v (.int .i64 y.1))], tpre t j (s) ++ [.blk 154 (.ints .u8 z) 512, .blk 154 (.ints .u8 y.2) 512]), fun y => t.fresh.length - y.1, (0, secF s.now n), ⟨Nat.zero_le _, rfl⟩, Fit.ren [0, 1, 2, 3, 4, 5, 7] [] rfl rfl trivial ?_ ?_, ?_⟩
      · refine T5.leX rfl rfl rfl rfl rfl rfl rfl rfl rfl rfl ⟨⟨VC.mk ⟨rfl, rfl⟩, VC.mk ⟨rfl, List.prefix_rfl⟩⟩, ⟨VC.mk ⟨rfl, rfl⟩, VC.mk ⟨rfl, ?_⟩⟩, trivial⟩
        rw [show ((0, secF s.now n) : Nat × List Int).2 = secF s.now n from rfl, secF_none hz h3.1 hc]
        exact List.prefix_rfl
      · repeat' (first
    | (with_reducible first | exact True.intro | apply And.intro | apply If_true | apply If_false | apply If_not)
    | ((with_reducible apply VC.mk); exact vt)
    | ((with_reducible apply If_dec) <;> intro hc <;> (try (exfalso; omega)))
    | ((with_reducible apply If_any) <;> intro hc)
    | ((with_reducible first | apply PF.mk | apply DrawP.mk); (focus kernel_rfl))
    | ((with_reducible apply Same.mk); (focus rfl); (first | exact trivial | exact rfl))
    | (intro cap hcap)
    | ((fail_if_success (with_reducible apply st)); conv => whnf))
      · intro y hy
        obtain ⟨g1, g2⟩ := hy
        have e : ((y.1 : Nat) : Int).toNat = y.1 := Int.toNat_natCast _
        have g3 : y.2.length = 512 := by rw [g2]; exact lays_length _ (by omega) _ _ (secF_length _ _)
        by_cases hlt : y.1 < t.fresh.length
        · have hm : t.fresh.getD y.1 (0, []) ∈ t.fresh := by
            rw [show t.fresh.getD y.1 (0, []) = t.fresh[y.1] by simp [List.getD_eq_getElem?_getD, hlt]]; exact List.getElem_mem hlt
          have hok := h1.frs _ hm
          have hcl := h1.len
          have htk : t.fresh.take (y.1 + 1) = t.fresh.take y.1 ++ [t.fresh.getD y.1 (0, [])] := by
            rw [List.take_add_one, List.getElem?_eq_getElem hlt, List.getD_eq_getElem?_getD, List.getElem?_eq_getElem hlt]; rfl
          repeat' (first
    | (with_reducible first | exact True.intro | apply And.intro | apply If_true | apply If_false | apply If_not)
    | ((with_reducible apply VC.mk); exact vt)
    | ((with_reducible apply If_dec) <;> intro hc <;> (try (exfalso; omega)))
    | ((with_reducible apply If_any) <;> intro hc)
    | ((with_reducible first | apply PF.mk | apply DrawP.mk); (focus kernel_rfl))
    | ((with_reducible apply Same.mk); (focus rfl); (first | exact trivial | exact rfl))
    | (intro cap hcap)
    | ((fail_if_success (with_reducible apply st)); conv => whnf))
          simp only [e, Nat.zero_add]
          refine tlay_at y.2 (n * 512) (t.fresh.getD y.1 (0, [])) 6 ⟨⟨g3, by omega, by omega⟩, hok.1, by omega, by omega⟩ rfl ⟨rfl, rfl, ⟨rfl, rfl, trivial⟩, trivial⟩ ?_
          repeat' (first
    | (with_reducible first | exact True.intro | apply And.intro | apply If_true | apply If_false | apply If_not)
    | ((with_reducible apply VC.mk); exact vt)
    | ((with_reducible apply If_dec) <;> intro hc <;> (try (exfalso; omega)))
    | ((with_reducible apply If_any) <;> intro hc)
    | ((with_reducible first | apply PF.mk | apply DrawP.mk); (focus kernel_rfl))
    | ((with_reducible apply Same.mk); (focus rfl); (first | exact trivial | exact rfl))
    | (intro cap hcap)
    | ((fail_if_success (with_reducible apply st)); conv => whnf))
          refine Round.mk ⟨(y.1 + 1, layR (n * 512) y.2 (t.fresh.getD y.1 (0, []))), ⟨by show y.1 + 1 ≤ _; omega, ?_⟩, by show t.fresh.length - (y.1 + 1) < t.fresh.length - y.1; omega, Fit.ren [0, 1, 2, 3, 4, 5, 6] [] rfl rfl trivial ?_ ?_⟩
          · show _ = List.foldl _ _ (t.fresh.take (y.1 + 1))
            rw [htk, List.foldl_append, ← g2, Int.mul_comm]; rfl
          · exact T5.leX rfl rfl rfl rfl rfl rfl rfl rfl rfl rfl ⟨⟨VC.mk ⟨rfl, rfl⟩, VC.mk ⟨rfl, List.prefix_rfl⟩⟩, ⟨VC.mk ⟨rfl, rfl⟩, VC.mk ⟨rfl, List.prefix_rfl⟩⟩, trivial⟩
          · repeat' (first
    | (with_reducible first | exact True.intro | apply And.intro | apply If_true | apply If_false | apply If_not)
    | ((with_reducible apply VC.mk); exact vt)
    | ((with_reducible apply If_dec) <;> intro hc <;> (try (exfalso; omega)))
    | ((with_reducible apply If_any) <;> intro hc)
    | ((with_reducible first | apply PF.mk | apply DrawP.mk); (focus kernel_rfl))
    | ((with_reducible apply Same.mk); (focus rfl); (first | exact trivial | exact rfl))
    | (intro cap hcap)
    | ((fail_if_success (with_reducible apply st)); conv => whnf))
        · repeat' (first
    | (with_reducible first | exact True.intro | apply And.intro | apply If_true | apply If_false | apply If_not)
    | ((with_reducible apply VC.mk); exact vt)
    | ((with_reducible apply If_dec) <;> intro hc <;> (try (exfalso; omega)))
    | ((with_reducible apply If_any) <;> intro hc)
    | ((with_reducible first | apply PF.mk | apply DrawP.mk); (focus kernel_rfl))
    | ((with_reducible apply Same.mk); (focus rfl); (first | exact trivial | exact rfl))
    | (intro cap hcap)
    | ((fail_if_success (with_reducible apply st)); conv => whnf))
          have e9 : List.take 512 (List.drop (0 * 1 + 0) (List.take 512 (List.drop (0 * 1 + 0) y.2))) = y.2 := by simp [List.take_of_length_le, g3]
          rw [e9]
          rw [List.take_of_length_le (by omega), ← hsec] at g2
          exact fin y.2 _ _ g2 (.inl rfl) rfl rfl rfl rfl rfl rfl
end Go.Proofs.Ytcfmlnddmpiemaa.Sx


set_option maxRecDepth 10000
namespace Go.Proofs.Ytcfmlnddmpiemaa.Sx
open Go.RowKit Go.Proofs.Ytcfmlnddmpiemaa.Sx.Tb
/-! ### Get -/
theorem TR.c1_ren (t : TR) (f : Nat → Nat) : t.c1.ren f = t.c1 := by
  show Chunk.mp _ _ = Chunk.mp _ _
  congr 1
  rw [List.map_map]
  rfl
theorem TR.c0_ren (t : TR) (a b c : Nat) (f : Nat → Nat) : (t.c0 a b c).ren f = t.c0 (f a) (f b) (f c) := rfl
theorem JR.blk_ren (j : JR) (a : Nat) (f : Nat → Nat) : (j.blk a).ren f = j.blk (f a) := rfl
theorem DF.pk_ren (s : DF) (f : Nat → Nat) : s.pk.ren f = s.pk := rfl
theorem TR.c2_ren (t : TR) (f : Nat → Nat) : t.c2.ren f = t.c2 := rfl
def loadOk (x : TR × JR × DF × Int) : Prop := x.1.Ok ∧ x.2.2.1.live ∧ (0 ≤ x.2.2.2 ∧ x.2.2.2 ≤ 1073741824) ∧ 0 ≤ x.2.2.1.ops ∧ x.2.2.1.ops ≤ 549755813888 ∧ x.2.2.1.now.length ≤ 4194304
def loadRel (x : TR × JR × DF × Int) (r : List Int × DF) : Prop := r.1 = x.1.sec x.2.2.1.now x.2.2.2 ∧ (r.2 = x.2.2.1 ∨ r.2 = x.2.2.1.asked)
theorem load_K : ConOk Go.Proofs.Try.prog 79 (Con.of (TR × JR × DF × Int) (List Int × DF) (fun x => [.p 0 0 1 0, .v (.int .i64 x.2.2.2)]) (fun x => tpre x.1 x.2.1 x.2.2.1) loadOk loadRel (fun x r => .tup [.arr .u8 r.1, .v (.int .i64 0)]) (fun x r => tpre (x.1) (x.2.1) (r.2))) := by
  refine conOk_rel (T := tab) mix Go.Proofs.Try.func79 (by decide +kernel) (by kernel_rfl) [] p79 (fun n => by rw [Go.Proofs.Try.ntmps79]; exact Nat.le_of_ble_eq_true rfl) (fun x r _ _ => T5.good (by simp [AV.noF, noFs, Cont.noF])) (fun x _ => T5.nd) ?_
  intro x k h0 hk
  exact load_c x.1 x.2.1 x.2.2.1 x.2.2.2 k h0 (fun r hr => hk r hr)
theorem load_at {avs : List AV} {H : List Chunk} {k : K} (t : TR) (j : JR) (s : DF) (n : Int) (ta tb tc td te : Nat) (h0 : t.Ok ∧ s.live ∧ (0 ≤ n ∧ n ≤ 1073741824) ∧ 0 ≤ s.ops ∧ s.ops ≤ 549755813888 ∧ s.now.length ≤ 4194304) (hn : nodupN [ta, tb, tc, td, te] = true) (ha0 : nth H ta = some (t.c0 td tb tc)) (hb0 : nth H tb = some t.c1) (hc0 : nth H tc = some t.c2) (hd0 : nth H td = some (j.blk te)) (he0 : nth H te = some s.pk) (ha : argsM H [ta, tb, tc, td, te] [.p 0 0 1 0, .v (.int .i64 n)] avs)
    (hQ : ∀ r : List Int × DF, (r.1 = t.sec s.now n ∧ (r.2 = s ∨ r.2 = s.asked)) → k (.tup [.arr .u8 r.1, .v (.int .i64 0)]) (((((H.set ta (TR.c0 (t) td tb tc)).set tb (TR.c1 (t))).set tc (TR.c2 (t))).set td (JR.blk (j) te)).set te (DF.pk (r.2)))) : CallP Go.Proofs.Try.prog 79 avs H k :=
  CallP.mk ⟨_, load_K.real, Con.spec load_K, (t, j, s, n), [ta, tb, tc, td, te], ⟨h0, hn, ⟨ha0, hb0.trans (congrArg some (TR.c1_ren t _).symm), hc0, hd0, he0, trivial⟩, ha⟩, fun r hr => (numK_eq _ _).mpr (by simpa [tpre, putAll, TR.c0_ren, TR.c1_ren, TR.c2_ren, JR.blk_ren, DF.pk_ren, AV.ren, rens, Cont.ren, fren, nth] using hQ r hr)⟩
def inB (at_ n : Int) : Prop := 0 ≤ at_ ∧ 0 ≤ n ∧ at_ ≤ 4194304 ∧ n ≤ 4194304 - at_
def TR.V (t : TR) (now : List Int) (i : Nat) : Int := (t.sec now (i / 512 : Nat)).getD (i % 512) 0
def TR.rd (t : TR) (now : List Int) (at_ n : Nat) : List Int := (List.range n).map (fun i => t.V now (at_ + i))
def DF.tick (s : DF) (m : Nat) : DF := { s with ops := s.ops + m }
theorem TR.rd_length (t : TR) (now : List Int) (at_ n : Nat) : (t.rd now at_ n).length = n := by unfold TR.rd; rw [List.length_map, List.length_range]
theorem take_drop_map (l : List Int) (lo k : Nat) (h : lo + k ≤ l.length) : (l.drop lo).take k = (List.range k).map (fun i => l.getD (lo + i) 0) := by
  refine ext_getD (by rw [List.length_take, List.length_drop, List.length_map, List.length_range]; omega) (fun i hi => ?_)
  rw [List.length_take, List.length_drop] at hi
  have hk : i < k := by omega
  simp only [List.getD_eq_getElem?_getD, List.getElem?_take, if_pos hk, List.getElem?_drop, List.getElem?_map, List.getElem?_range, hk]
  simp
theorem TR.rd_step {t : TR} {now l : List Int} {at_ d k : Nat} (hl : l = t.sec now ((at_ + d) / 512 : Nat)) (hll : l.length = 512) (hk : k ≤ 512 - (at_ + d) % 512) : t.rd now at_ d ++ (l.drop ((at_ + d) % 512)).take k = t.rd now at_ (d + k) := by
  rw [take_drop_map l _ k (by omega)]
  unfold TR.rd
  rw [List.range_add, List.map_append, List.map_map]
  congr 1
  refine List.map_congr_left (fun i hi => ?_)
  rw [List.mem_range] at hi
  show l.getD _ 0 = (t.sec now ((at_ + (d + i)) / 512 : Nat)).getD ((at_ + (d + i)) % 512) 0
  have e1 : (at_ + (d + i)) / 512 = (at_ + d) / 512 := by omega
  have e2 : (at_ + (d + i)) % 512 = (at_ + d) % 512 + i := by omega
  rw [e1, e2, hl]
set_option maxHeartbeats 16000000 in
theorem tget_c (t : TR) (j : JR) (s : DF) (at_ n : Int) (k : K) (h0 : t.Ok ∧ s.live ∧ (inR .i64 at_ ∧ inR .i64 n) ∧ 0 ≤ s.ops ∧ s.ops ≤ 274877906944 ∧ s.now.length ≤ 4194304)
    (hk : ∀ x : List Int × Int × Nat, (inB at_ n ∧ x.2.1 = 0 ∧ x.1 = t.rd s.now at_.toNat n.toNat ∧ x.2.2 ≤ n.toNat ∨ ¬ inB at_ n ∧ x.2.1 = 4 ∧ x.1 = [] ∧ x.2.2 = 0) → k (.tup [.im true 1 x.1.length (.ints .u8 x.1), .v (.int .i64 x.2.1)]) (tpre t j (s.tick x.2.2))) : evFunc tab [] [] Go.Proofs.Try.f60 [.p 0 0 1 0, .v (.int .i64 at_), .v (.int .i64 n)] (tpre t j s) k := by
  obtain ⟨h1, h2, h3, h4, h5, h6⟩ := h0
  have s0 : s.tick 0 = s := by unfold DF.tick; simp
  have bad : ∀ H : List Chunk, ¬ inB at_ n → Nat.ble 5 H.length = true → nth H 0 = some (t.c0 3 1 2) → nth H 1 = some t.c1 → nth H 2 = some t.c2 → nth H 3 = some (j.blk 4) → nth H 4 = some s.pk → Fin 5 (.tup [.v (.slice none 0 0), .v (.int .i64 4)]) H k := by
    intro H hb q3 q4 q5 q6 q7 q8
    refine Fin.ren [0, 1, 2, 3, 4] [] (.tup [.im true 1 0 (.ints .u8 []), .v (.int .i64 4)]) (tpre t j s) rfl rfl trivial (T5.le rfl rfl rfl rfl (Nat.le_of_ble_eq_true q3) q4 q5 q6 q7 q8) ⟨⟨VC.mk rfl, VC.mk rfl⟩, VC.mk rfl, trivial⟩ ?_
    have := hk ([], 4, 0) (.inr ⟨hb, rfl, rfl, rfl⟩)
    rw [show (([], 4, 0) : List Int × Int × Nat).2.2 = 0 from rfl, s0] at this
    exact this
  repeat' (first
    | (with_reducible first | exact True.intro | apply And.intro | apply If_true | apply If_false | apply If_not)
    | ((with_reducible apply VC.mk); exact vt)
    | ((with_reducible apply If_dec) <;> intro hc <;> (try (exfalso; omega)))
    | ((with_reducible apply If_any) <;> intro hc)
    | ((with_reducible first | apply PF.mk | apply DrawP.mk); (focus kernel_rfl))
    | ((with_reducible apply Same.mk); (focus rfl); (first | exact trivial | exact rfl))
    | (intro cap hcap)
    | ((fail_if_success (with_reducible apply st)); conv => whnf))
  all_goals (try exact bad _ (by unfold inB; omega) rfl rfl rfl rfl rfl rfl)
  have hin : inB at_ n := by unfold inB; omega
  clear bad
  obtain ⟨A, hA⟩ : ∃ A : Nat, at_ = A := ⟨at_.toNat, by omega⟩
  obtain ⟨N, hN⟩ : ∃ N : Nat, n = N := ⟨n.toNat, by omega⟩
  subst hA hN
  rw [show ((A : Nat) : Int).toNat = A from Int.toNat_natCast _, show ((N : Nat) : Int).toNat = N from Int.toNat_natCast _] at hk
  refine LoopP.mk ⟨Nat × List Int × Nat × Nat, fun y => y.1 ≤ N ∧ y.2.1 = t.rd s.now A y.1 ∧ y.2.2.2 ≤ y.1 ∧ y.1 ≤ y.2.2.1, fun y => ([(0, .p 0 0 1 0), (1, .v (.int .i64 ((A + y.1 : Nat) : Int))), (2, .v (.int .i64 ((N - y.1 : Nat) : Int))), (8, .s 5 0 1 y.2.1.length y.2.2.1)], tpre t j (s.tick y.2.2.2) ++ [.blk 5 (.ints .u8 y.2.1) y.2.2.1]), fun y => N - y.1, (0, [], N, 0), ⟨Nat.zero_le _, rfl, Nat.le_refl _, Nat.zero_le _⟩, Fit.ren [0, 1, 2, 3, 4, 5] [] rfl rfl trivial ?_ ?_, ?_⟩
  · show chunksLe _ [] _ _ (0 :: 1 :: 2 :: 3 :: 4 :: [5]) (tpre t j (s.tick 0) ++ [.blk 5 (.ints .u8 []) N])
    rw [s0]
    exact T5.leX rfl rfl rfl rfl rfl rfl rfl rfl rfl rfl ⟨⟨VC.mk ⟨rfl, by omega⟩, VC.mk ⟨rfl, List.nil_prefix⟩⟩, trivial⟩
  · repeat' (first
    | (with_reducible first | exact True.intro | apply And.intro | apply If_true | apply If_false | apply If_not)
    | ((with_reducible apply VC.mk); exact vt)
    | ((with_reducible apply If_dec) <;> intro hc <;> (try (exfalso; omega)))
    | ((with_reducible apply If_any) <;> intro hc)
    | ((with_reducible first | apply PF.mk | apply DrawP.mk); (focus kernel_rfl))
    | ((with_reducible apply Same.mk); (focus rfl); (first | exact trivial | exact rfl))
    | (intro cap hcap)
    | ((fail_if_success (with_reducible apply st)); conv => whnf))
    all_goals skip
  · intro y hy
    obtain ⟨g1, g2, g3, g4⟩ := hy
    have g5 : y.2.1.length = y.1 := by rw [g2, TR.rd_length]
    have hop : 0 ≤ (s.tick y.2.2.2).ops ∧ (s.tick y.2.2.2).ops ≤ 549755813888 := by
      show 0 ≤ s.ops + (y.2.2.2 : Int) ∧ s.ops + (y.2.2.2 : Int) ≤ _
      unfold inB at hin
      omega
    have hin2 : (A : Int) ≤ 4194304 ∧ (N : Int) ≤ 4194304 - A := ⟨hin.2.2.1, hin.2.2.2⟩
    repeat' (first
    | (with_reducible first | exact True.intro | apply And.intro | apply If_true | apply If_false | apply If_not)
    | ((with_reducible apply VC.mk); exact vt)
    | ((with_reducible apply If_dec) <;> intro hc <;> (try (exfalso; omega)))
    | ((with_reducible apply If_any) <;> intro hc)
    | ((with_reducible first | apply PF.mk | apply DrawP.mk); (focus kernel_rfl))
    | ((with_reducible apply Same.mk); (focus rfl); (first | exact trivial | exact rfl))
    | (intro cap hcap)
    | ((fail_if_success (with_reducible apply st)); conv => whnf))
    · refine load_at t j (s.tick y.2.2.2) (((A + y.1 : Nat) : Int) / 512) 0 1 2 3 4 ⟨h1, h2, by omega, hop.1, hop.2, h6⟩ rfl rfl rfl rfl rfl rfl ⟨rfl, rfl, trivial⟩ ?_
      rintro ⟨l, s'⟩ ⟨r1, r2⟩
      have r1 : l = t.sec s.now ((A + y.1) / 512 : Nat) := r1
      have r1l : l.length = 512 := by rw [r1]; exact h1.sec_length _ _ (by omega)
      have r2 : ∃ m, m ≤ y.2.2.2 + 1 ∧ s' = s.tick m := by
        rcases r2 with r2 | r2
        · exact ⟨y.2.2.2, by omega, r2⟩
        · exact ⟨y.2.2.2 + 1, by omega, by
            rw [show s' = (s.tick y.2.2.2).asked from r2]
            show ({ s with ops := _ } : DF) = { s with ops := _ }
            congr 1
            show s.ops + (y.2.2.2 : Int) + 1 = s.ops + ((y.2.2.2 + 1 : Nat) : Int)
            omega⟩
      obtain ⟨m, hm, rfl⟩ := r2
      repeat' (first
    | (with_reducible first | exact True.intro | apply And.intro | apply If_true | apply If_false | apply If_not)
    | ((with_reducible apply VC.mk); exact vt)
    | ((with_reducible apply If_dec) <;> intro hc <;> (try (exfalso; omega)))
    | ((with_reducible apply If_any) <;> intro hc)
    | ((with_reducible first | apply PF.mk | apply DrawP.mk); (focus kernel_rfl))
    | ((with_reducible apply Same.mk); (focus rfl); (first | exact trivial | exact rfl))
    | (intro cap hcap)
    | ((fail_if_success (with_reducible apply st)); conv => whnf))
      simp only [cond_true, cond_false] at hcap ⊢
      obtain ⟨K0, hK⟩ : ∃ K0 : Nat, K0 = min (N - y.1) (512 - (A + y.1) % 512) := ⟨_, rfl⟩
      have e1 : min ((N - y.1 : Nat) : Int) ((512 : Int) - ((A + y.1 : Nat) : Int) % 512) = (K0 : Int) := by omega
      have e2 : (((A + y.1 : Nat) : Int) % 512).toNat = (A + y.1) % 512 := by omega
      have e3 : ((((A + y.1 : Nat) : Int) % 512 + (K0 : Int)).toNat - (A + y.1) % 512) = K0 := by omega
      rw [e1, e2, e3] at hcap
      have hrd := TR.rd_step (t := t) (now := s.now) (d := y.1) (k := K0) r1 r1l (by omega)
      refine Round.mk ⟨(y.1 + K0, y.2.1 ++ (l.drop ((A + y.1) % 512)).take K0, cap, m), ⟨by show y.1 + K0 ≤ N; omega, by show y.2.1 ++ _ = t.rd s.now A (y.1 + K0); rw [g2]; exact hrd, by show m ≤ y.1 + K0; omega, by show y.1 + K0 ≤ cap; omega⟩, by show N - (y.1 + K0) < N - y.1; omega, Fit.ren [0, 1, 2, 3, 4, 7] [] rfl rfl trivial ?_ ?_⟩
      · refine T5.leX rfl rfl rfl rfl rfl rfl rfl rfl rfl rfl ⟨⟨VC.mk ⟨rfl, ?_⟩, VC.mk ⟨rfl, ?_⟩⟩, trivial⟩
        · exact Nat.mul_one _
        · show y.2.1 ++ (l.drop ((A + y.1) % 512)).take K0 <+: _
          rw [e1, e2, e3]
          exact List.prefix_rfl
      · repeat' (first
    | (with_reducible first | exact True.intro | apply And.intro | apply If_true | apply If_false | apply If_not)
    | ((with_reducible apply VC.mk); exact vt)
    | ((with_reducible apply If_dec) <;> intro hc <;> (try (exfalso; omega)))
    | ((with_reducible apply If_any) <;> intro hc)
    | ((with_reducible first | apply PF.mk | apply DrawP.mk); (focus kernel_rfl))
    | ((with_reducible apply Same.mk); (focus rfl); (first | exact trivial | exact rfl))
    | (intro cap hcap)
    | ((fail_if_success (with_reducible apply st)); conv => whnf))
        exact VC.mk ⟨rfl, rfl, rfl, by
          show y.2.1.length + _ = (y.2.1 ++ (l.drop ((A + y.1) % 512)).take K0).length
          rw [e1, e2, e3, List.length_append, List.length_take, List.length_drop]
          omega, rfl⟩
    · have hyN : y.1 = N := by omega
      rw [hyN] at g2 g3
      exact Fin.ren [0, 1, 2, 3, 4] [5] (.tup [.im true 1 y.2.1.length (.ints .u8 y.2.1), .v (.int .i64 0)]) (tpre t j (s.tick y.2.2.2)) rfl rfl ⟨trivial, trivial⟩ (T5.le rfl rfl rfl rfl (Nat.le_of_ble_eq_true rfl) rfl rfl rfl rfl rfl) ⟨⟨VC.mk ⟨by omega, rfl, rfl, rfl, Nat.one_pos⟩, VC.mk ⟨rfl, by simp⟩⟩, VC.mk rfl, trivial⟩ (hk (y.2.1, 0, y.2.2.2) (.inl ⟨hin, rfl, g2, g3⟩))
def tgetOk (x : TR × JR × DF × Int × Int) : Prop := x.1.Ok ∧ x.2.2.1.live ∧ (inR .i64 x.2.2.2.1 ∧ inR .i64 x.2.2.2.2) ∧ 0 ≤ x.2.2.1.ops ∧ x.2.2.1.ops ≤ 274877906944 ∧ x.2.2.1.now.length ≤ 4194304
def tgetRel (x : TR × JR × DF × Int × Int) (r : List Int × Int × Nat) : Prop := (inB x.2.2.2.1 x.2.2.2.2 ∧ r.2.1 = 0 ∧ r.1 = x.1.rd x.2.2.1.now x.2.2.2.1.toNat x.2.2.2.2.toNat ∧ r.2.2 ≤ x.2.2.2.2.toNat ∨ ¬ inB x.2.2.2.1 x.2.2.2.2 ∧ r.2.1 = 4 ∧ r.1 = [] ∧ r.2.2 = 0)
theorem tget_K : ConOk Go.Proofs.Try.prog 60 (Con.of (TR × JR × DF × Int × Int) (List Int × Int × Nat) (fun x => [.p 0 0 1 0, .v (.int .i64 x.2.2.2.1), .v (.int .i64 x.2.2.2.2)]) (fun x => tpre x.1 x.2.1 x.2.2.1) tgetOk tgetRel (fun x r => .tup [.im true 1 r.1.length (.ints .u8 r.1), .v (.int .i64 r.2.1)]) (fun x r => tpre (x.1) (x.2.1) (x.2.2.1.tick r.2.2))) := by
  refine conOk_rel (T := tab) mix Go.Proofs.Try.func60 (by decide +kernel) (by kernel_rfl) [] [] (fun n => by rw [Go.Proofs.Try.ntmps60]; exact Nat.le_of_ble_eq_true rfl) (fun x r _ _ => T5.good (by simp [AV.noF, noFs, Cont.noF])) (fun x _ => T5.nd) ?_
  intro x k h0 hk
  exact tget_c x.1 x.2.1 x.2.2.1 x.2.2.2.1 x.2.2.2.2 k h0 (fun r hr => hk r hr)
theorem tget_at {avs : List AV} {H : List Chunk} {k : K} (t : TR) (j : JR) (s : DF) (at_ : Int) (n : Int) (ta tb tc td te : Nat) (h0 : t.Ok ∧ s.live ∧ (inR .i64 at_ ∧ inR .i64 n) ∧ 0 ≤ s.ops ∧ s.ops ≤ 274877906944 ∧ s.now.length ≤ 4194304) (hn : nodupN [ta, tb, tc, td, te] = true) (ha0 : nth H ta = some (t.c0 td tb tc)) (hb0 : nth H tb = some t.c1) (hc0 : nth H tc = some t.c2) (hd0 : nth H td = some (j.blk te)) (he0 : nth H te = some s.pk) (ha : argsM H [ta, tb, tc, td, te] [.p 0 0 1 0, .v (.int .i64 at_), .v (.int .i64 n)] avs)
    (hQ : ∀ r : List Int × Int × Nat, ((inB at_ n ∧ r.2.1 = 0 ∧ r.1 = t.rd s.now at_.toNat n.toNat ∧ r.2.2 ≤ n.toNat ∨ ¬ inB at_ n ∧ r.2.1 = 4 ∧ r.1 = [] ∧ r.2.2 = 0)) → k (.tup [.im true 1 r.1.length (.ints .u8 r.1), .v (.int .i64 r.2.1)]) (((((H.set ta (TR.c0 (t) td tb tc)).set tb (TR.c1 (t))).set tc (TR.c2 (t))).set td (JR.blk (j) te)).set te (DF.pk (s.tick r.2.2)))) : CallP Go.Proofs.Try.prog 60 avs H k :=
  CallP.mk ⟨_, tget_K.real, Con.spec tget_K, (t, j, s, at_, n), [ta, tb, tc, td, te], ⟨h0, hn, ⟨ha0, hb0.trans (congrArg some (TR.c1_ren t _).symm), hc0, hd0, he0, trivial⟩, ha⟩, fun r hr => (numK_eq _ _).mpr (by simpa [tpre, putAll, TR.c0_ren, TR.c1_ren, TR.c2_ren, JR.blk_ren, DF.pk_ren, AV.ren, rens, Cont.ren, fren, nth] using hQ r hr)⟩
end Go.Proofs.Ytcfmlnddmpiemaa.Sx


set_option maxRecDepth 10000
namespace Go.Proofs.Ytcfmlnddmpiemaa.Sx
open Go.RowKit Go.Proofs.Ytcfmlnddmpiemaa.Sx.Tb
/-! ### Put -/
def TR.wr1 (t : TR) (now : List Int) (a : Nat) (xs : List Int) : TR := { t with dirty := upS ((a / 512 : Nat) : Int) (putG (t.sec now ((a / 512 : Nat) : Int)) (a % 512) xs) t.dirty }
def TR.putF : Nat → TR → List Int → Nat → List Int → TR
  | 0, t, _, _, _ => t
  | f + 1, t, now, a, p => if p.length = 0 then t else TR.putF f (t.wr1 now a (p.take (min p.length (512 - a % 512)))) now (a + min p.length (512 - a % 512)) (p.drop (min p.length (512 - a % 512)))
def TR.put (t : TR) (now : List Int) (a : Nat) (p : List Int) : TR := TR.putF p.length t now a p
theorem putF_nil (f : Nat) (t : TR) (now : List Int) (a : Nat) (p : List Int) (h : p.length = 0) : TR.putF f t now a p = t := by
  cases f with
  | zero => rfl
  | succ f => show (if _ then _ else _) = _; rw [if_pos h]
theorem upS_len {n : Int} {v : List Int} (hv : v.length = 512) : ∀ (d : List (Int × List Int)), (∀ x ∈ d, x.2.length = 512) → ∀ x ∈ upS n v d, x.2.length = 512
  | [], _, x, hx => by
    simp [upS] at hx; subst hx; exact hv
  | (a, u) :: r, h, x, hx => by
    unfold upS at hx
    split at hx
    · rcases List.mem_cons.1 hx with rfl | hx
      · exact hv
      · exact h x (List.mem_cons_of_mem _ hx)
    · rcases List.mem_cons.1 hx with rfl | hx
      · exact h _ (List.mem_cons_self ..)
      · exact upS_len hv r (fun y hy => h y (List.mem_cons_of_mem _ hy)) x hx
theorem TR.Ok.wr1 {t : TR} (h : t.Ok) (now : List Int) (a : Nat) (xs : List Int) (hx : xs.length ≤ 512 - a % 512) : (t.wr1 now a xs).Ok := by
  refine ⟨?_, h.frs, h.cap, h.len⟩
  show ∀ x ∈ upS _ _ _, _
  exact upS_len (by rw [putG_length (by rw [h.sec_length _ _ (by omega)]; omega), h.sec_length _ _ (by omega)]; omega) _ h.sec
theorem put_sec {l q : List Int} {lo K0 : Nat} (hl : l.length = 512) (hk : K0 ≤ q.length) (h1 : lo + K0 ≤ 512) : List.take 512 (List.drop (0 * 1 + 0) (List.take lo l ++ List.take (min (K0 - Int.toNat 0) (512 - lo)) (List.take (K0 - Int.toNat 0) (List.drop (Int.toNat 0) q)) ++ List.drop (lo + min (K0 - Int.toNat 0) (512 - lo)) l)) = putG l lo (q.take K0) := by
  have e0 : Int.toNat 0 = 0 := rfl
  have e1 : (q.take K0).length = K0 := by rw [List.length_take]; omega
  rw [e0, Nat.sub_zero, show min K0 (512 - lo) = K0 by omega, List.drop_zero, List.take_take, Nat.min_self, List.drop_zero, List.append_assoc]
  unfold putG
  rw [e1]
  exact List.take_of_length_le (by rw [List.length_append, List.length_append, List.length_take, List.length_drop, e1]; omega)
set_option maxHeartbeats 16000000 in
theorem tput_c (t : TR) (j : JR) (s : DF) (at_ : Int) (p : List Int) (k : K) (h0 : t.Ok ∧ s.live ∧ (inR .i64 at_ ∧ p.length ≤ 9223372036854775807) ∧ 0 ≤ s.ops ∧ s.ops ≤ 274877906944 ∧ s.now.length ≤ 4194304)
    (hk : ∀ x : Int × TR × Nat, (t.over = true ∧ x.1 = 6 ∧ x.2.1 = t ∧ x.2.2 = 0 ∨ t.over = false ∧ ¬ inB at_ p.length ∧ x.1 = 4 ∧ x.2.1 = t ∧ x.2.2 = 0 ∨ t.over = false ∧ inB at_ p.length ∧ x.1 = 0 ∧ x.2.1 = t.put s.now at_.toNat p ∧ x.2.2 ≤ p.length) → k (.v (.int .i64 x.1)) (tpre x.2.1 j (s.tick x.2.2))) : evFunc tab [] p26 Go.Proofs.Try.f26 [.p 0 0 1 0, .v (.int .i64 at_), .im false 1 p.length (.ints .u8 p)] (tpre t j s) k := by
  obtain ⟨h1, h2, h3, h4, h5, h6⟩ := h0
  have s0 : s.tick 0 = s := by unfold DF.tick; simp
  have bad : ∀ (e : Int) (H : List Chunk), (t.over = true ∧ e = 6 ∨ t.over = false ∧ ¬ inB at_ p.length ∧ e = 4) → Nat.ble 5 H.length = true → nth H 0 = some (t.c0 3 1 2) → nth H 1 = some t.c1 → nth H 2 = some t.c2 → nth H 3 = some (j.blk 4) → nth H 4 = some s.pk → Fin 5 (.v (.int .i64 e)) H k := by
    intro e H hb q3 q4 q5 q6 q7 q8
    refine T5.fin q3 q4 q5 q6 q7 q8 ?_
    have := hk (e, t, 0) (by rcases hb with ⟨a, b⟩ | ⟨a, b, c⟩; exact .inl ⟨a, b, rfl, rfl⟩; exact .inr (.inl ⟨a, b, c, rfl, rfl⟩))
    rw [show ((e, t, 0) : Int × TR × Nat).2.2 = 0 from rfl, s0] at this
    exact this
  repeat' (first
    | (with_reducible first | exact True.intro | apply And.intro | apply If_true | apply If_false | apply If_not)
    | ((with_reducible apply VC.mk); exact vt)
    | ((with_reducible apply If_dec) <;> intro hc <;> (try (exfalso; omega)))
    | ((with_reducible apply If_any) <;> intro hc)
    | ((with_reducible first | apply PF.mk | apply DrawP.mk); (focus kernel_rfl))
    | ((with_reducible apply Same.mk); (focus rfl); (first | exact trivial | exact rfl))
    | (intro cap hcap)
    | ((fail_if_success (with_reducible apply st)); conv => whnf))
  all_goals (try exact bad 6 _ (.inl ⟨by assumption, rfl⟩) rfl rfl rfl rfl rfl rfl)
  all_goals (try exact bad 4 _ (.inr ⟨by assumption, by unfold inB; omega, rfl⟩) rfl rfl rfl rfl rfl rfl)
  have hin : inB at_ p.length := by unfold inB; omega
  have hov : t.over = false := by assumption
  clear bad
  obtain ⟨A, hA⟩ : ∃ A : Nat, at_ = A := ⟨at_.toNat, by omega⟩
  subst hA
  rw [show ((A : Nat) : Int).toNat = A from Int.toNat_natCast _] at hk
  have hin2 : (A : Int) ≤ 4194304 ∧ (p.length : Int) ≤ 4194304 - A := ⟨hin.2.2.1, hin.2.2.2⟩
  refine LoopP.mk ⟨Nat × TR × Nat × List Int, fun y => y.1 ≤ p.length ∧ y.2.1.Ok ∧ y.2.1.over = t.over ∧ y.2.2.1 ≤ y.1 ∧ y.2.2.2 = p.drop y.1 ∧ ∃ f, y.2.2.2.length ≤ f ∧ TR.putF f y.2.1 s.now (A + y.1) y.2.2.2 = t.put s.now A p, fun y => ([(0, .p 0 0 1 0), (1, .v (.int .i64 ((A + y.1 : Nat) : Int))), (2, .im false 1 y.2.2.2.length (.ints .u8 y.2.2.2))], tpre y.2.1 j (s.tick y.2.2.1)), fun y => p.length - y.1, (0, t, 0, p), ⟨Nat.zero_le _, h1, rfl, Nat.le_refl _, rfl, p.length, Nat.le_refl _, rfl⟩, Fit.ren [0, 1, 2, 3, 4] [] rfl rfl trivial ?_ ?_, ?_⟩
  · show chunksLe _ [] _ _ [0, 1, 2, 3, 4] (tpre t j (s.tick 0))
    rw [s0]
    exact T5.le rfl rfl rfl rfl (Nat.le_of_ble_eq_true rfl) rfl rfl rfl rfl rfl
  · repeat' (first
    | (with_reducible first | exact True.intro | apply And.intro | apply If_true | apply If_false | apply If_not)
    | ((with_reducible apply VC.mk); exact vt)
    | ((with_reducible apply If_dec) <;> intro hc <;> (try (exfalso; omega)))
    | ((with_reducible apply If_any) <;> intro hc)
    | ((with_reducible first | apply PF.mk | apply DrawP.mk); (focus kernel_rfl))
    | ((with_reducible apply Same.mk); (focus rfl); (first | exact trivial | exact rfl))
    | (intro cap hcap)
    | ((fail_if_success (with_reducible apply st)); conv => whnf))
  · intro y hy
    obtain ⟨g1, g2, g3, g4, g5, f, g6, g7⟩ := hy
    have g8 : y.2.2.2.length = p.length - y.1 := by rw [g5, List.length_drop]
    have hop : 0 ≤ (s.tick y.2.2.1).ops ∧ (s.tick y.2.2.1).ops ≤ 549755813888 := by
      show 0 ≤ s.ops + (y.2.2.1 : Int) ∧ s.ops + (y.2.2.1 : Int) ≤ _
      omega
    repeat' (first
    | (with_reducible first | exact True.intro | apply And.intro | apply If_true | apply If_false | apply If_not)
    | ((with_reducible apply VC.mk); exact vt)
    | ((with_reducible apply If_dec) <;> intro hc <;> (try (exfalso; omega)))
    | ((with_reducible apply If_any) <;> intro hc)
    | ((with_reducible first | apply PF.mk | apply DrawP.mk); (focus kernel_rfl))
    | ((with_reducible apply Same.mk); (focus rfl); (first | exact trivial | exact rfl))
    | (intro cap hcap)
    | ((fail_if_success (with_reducible apply st)); conv => whnf))
    · refine load_at y.2.1 j (s.tick y.2.2.1) (((A + y.1 : Nat) : Int) / 512) 0 1 2 3 4 ⟨g2, h2, by omega, hop.1, hop.2, h6⟩ rfl rfl rfl rfl rfl rfl ⟨rfl, rfl, trivial⟩ ?_
      rintro ⟨l, s'⟩ ⟨r1, r2⟩
      have r3 : l = y.2.1.sec s.now (((A + y.1) / 512 : Nat) : Int) := r1
      have r1l : l.length = 512 := by rw [r3]; exact g2.sec_length _ _ (by omega)
      have r2 : ∃ m, m ≤ y.2.2.1 + 1 ∧ s' = s.tick m := by
        rcases r2 with r2 | r2
        · exact ⟨y.2.2.1, by omega, r2⟩
        · exact ⟨y.2.2.1 + 1, by omega, by
            rw [show s' = (s.tick y.2.2.1).asked from r2]
            show ({ s with ops := _ } : DF) = { s with ops := _ }
            congr 1
            show s.ops + (y.2.2.1 : Int) + 1 = s.ops + ((y.2.2.1 + 1 : Nat) : Int)
            omega⟩
      obtain ⟨m, hm, rfl⟩ := r2
      repeat' (first
    | (with_reducible first | exact True.intro | apply And.intro | apply If_true | apply If_false | apply If_not)
    | ((with_reducible apply VC.mk); exact vt)
    | ((with_reducible apply If_dec) <;> intro hc <;> (try (exfalso; omega)))
    | ((with_reducible apply If_any) <;> intro hc)
    | ((with_reducible first | apply PF.mk | apply DrawP.mk); (focus kernel_rfl))
    | ((with_reducible apply Same.mk); (focus rfl); (first | exact trivial | exact rfl))
    | (intro cap hcap)
    | ((fail_if_success (with_reducible apply st)); conv => whnf))
      simp only [cond_true, cond_false]
      obtain ⟨K0, hK⟩ : ∃ K0 : Nat, K0 = min y.2.2.2.length (512 - (A + y.1) % 512) := ⟨_, rfl⟩
      have e1 : min (y.2.2.2.length : Int) ((512 : Int) - ((A + y.1 : Nat) : Int) % 512) = (K0 : Int) := by omega
      have e2 : (((A + y.1 : Nat) : Int) % 512).toNat = (A + y.1) % 512 := by omega
      have e3 : ((K0 : Nat) : Int).toNat = K0 := Int.toNat_natCast _
      have hf : ∃ f', f = f' + 1 := ⟨f - 1, by omega⟩
      obtain ⟨f', rfl⟩ := hf
      have g9 : TR.putF f' (y.2.1.wr1 s.now (A + y.1) (y.2.2.2.take K0)) s.now (A + y.1 + K0) (y.2.2.2.drop K0) = t.put s.now A p := by
        rw [← g7, hK]
        show _ = (if _ then _ else _)
        rw [if_neg (by omega)]
      refine Round.mk ⟨(y.1 + K0, y.2.1.wr1 s.now (A + y.1) (y.2.2.2.take K0), m, y.2.2.2.drop K0), ⟨by show y.1 + K0 ≤ _; omega, g2.wr1 _ _ _ (by rw [List.length_take]; omega), g3, by show m ≤ y.1 + K0; omega, by show y.2.2.2.drop K0 = _; rw [g5, List.drop_drop], f', by show (y.2.2.2.drop K0).length ≤ _; rw [List.length_drop]; omega, by show TR.putF f' _ _ (A + (y.1 + K0)) _ = _; rw [← Nat.add_assoc]; exact g9⟩, by show p.length - (y.1 + K0) < p.length - y.1; omega, Fit.ren [0, 1, 2, 3, 4] [] rfl rfl trivial ?_ ?_⟩
      · refine T5.le rfl rfl rfl rfl (Nat.le_of_ble_eq_true rfl) rfl ?_ rfl rfl rfl
        show some (Chunk.mp _ _) = some (Chunk.mp (List.map _ (upS _ _ _)) _)
        rw [e1, e2, e3, put_sec r1l (by omega) (by omega), ← upm_map, ← r3, show ((A + y.1 : Nat) : Int) / 512 = (((A + y.1) / 512 : Nat) : Int) by omega]
      · repeat' (first
    | (with_reducible first | exact True.intro | apply And.intro | apply If_true | apply If_false | apply If_not)
    | ((with_reducible apply VC.mk); exact vt)
    | ((with_reducible apply If_dec) <;> intro hc <;> (try (exfalso; omega)))
    | ((with_reducible apply If_any) <;> intro hc)
    | ((with_reducible first | apply PF.mk | apply DrawP.mk); (focus kernel_rfl))
    | ((with_reducible apply Same.mk); (focus rfl); (first | exact trivial | exact rfl))
    | (intro cap hcap)
    | ((fail_if_success (with_reducible apply st)); conv => whnf))
        exact VC.mk ⟨rfl, by
          show _ = y.2.2.2.drop K0
          rw [e1, e3]
          exact List.take_of_length_le (by rw [List.length_drop]; exact Nat.le_refl _)⟩
    · rw [putF_nil _ _ _ _ _ (by omega)] at g7
      refine T5.fin rfl rfl rfl rfl rfl rfl ?_
      exact hk (0, y.2.1, y.2.2.1) (.inr (.inr ⟨hov, hin, rfl, g7, by show y.2.2.1 ≤ _; omega⟩))
def tputOk (x : TR × JR × DF × Int × List Int) : Prop := x.1.Ok ∧ x.2.2.1.live ∧ (inR .i64 x.2.2.2.1 ∧ x.2.2.2.2.length ≤ 9223372036854775807) ∧ 0 ≤ x.2.2.1.ops ∧ x.2.2.1.ops ≤ 274877906944 ∧ x.2.2.1.now.length ≤ 4194304
def tputRel (x : TR × JR × DF × Int × List Int) (r : Int × TR × Nat) : Prop := (x.1.over = true ∧ r.1 = 6 ∧ r.2.1 = x.1 ∧ r.2.2 = 0 ∨ x.1.over = false ∧ ¬ inB x.2.2.2.1 x.2.2.2.2.length ∧ r.1 = 4 ∧ r.2.1 = x.1 ∧ r.2.2 = 0 ∨ x.1.over = false ∧ inB x.2.2.2.1 x.2.2.2.2.length ∧ r.1 = 0 ∧ r.2.1 = x.1.put x.2.2.1.now x.2.2.2.1.toNat x.2.2.2.2 ∧ r.2.2 ≤ x.2.2.2.2.length)
theorem tput_K : ConOk Go.Proofs.Try.prog 26 (Con.of (TR × JR × DF × Int × List Int) (Int × TR × Nat) (fun x => [.p 0 0 1 0, .v (.int .i64 x.2.2.2.1), .im false 1 x.2.2.2.2.length (.ints .u8 x.2.2.2.2)]) (fun x => tpre x.1 x.2.1 x.2.2.1) tputOk tputRel (fun x r => .v (.int .i64 r.1)) (fun x r => tpre (r.2.1) (x.2.1) (x.2.2.1.tick r.2.2))) := by
  refine conOk_rel (T := tab) mix Go.Proofs.Try.func26 (by decide +kernel) (by kernel_rfl) [] p26 (fun n => by rw [Go.Proofs.Try.ntmps26]; exact Nat.le_of_ble_eq_true rfl) (fun x r _ _ => T5.good (by simp [AV.noF, noFs, Cont.noF])) (fun x _ => T5.nd) ?_
  intro x k h0 hk
  exact tput_c x.1 x.2.1 x.2.2.1 x.2.2.2.1 x.2.2.2.2 k h0 (fun r hr => hk r hr)
theorem tput_at {avs : List AV} {H : List Chunk} {k : K} (t : TR) (j : JR) (s : DF) (at_ : Int) (p : List Int) (ta tb tc td te : Nat) (h0 : t.Ok ∧ s.live ∧ (inR .i64 at_ ∧ p.length ≤ 9223372036854775807) ∧ 0 ≤ s.ops ∧ s.ops ≤ 274877906944 ∧ s.now.length ≤ 4194304) (hn : nodupN [ta, tb, tc, td, te] = true) (ha0 : nth H ta = some (t.c0 td tb tc)) (hb0 : nth H tb = some t.c1) (hc0 : nth H tc = some t.c2) (hd0 : nth H td = some (j.blk te)) (he0 : nth H te = some s.pk) (ha : argsM H [ta, tb, tc, td, te] [.p 0 0 1 0, .v (.int .i64 at_), .im false 1 p.length (.ints .u8 p)] avs)
    (hQ : ∀ r : Int × TR × Nat, ((t.over = true ∧ r.1 = 6 ∧ r.2.1 = t ∧ r.2.2 = 0 ∨ t.over = false ∧ ¬ inB at_ p.length ∧ r.1 = 4 ∧ r.2.1 = t ∧ r.2.2 = 0 ∨ t.over = false ∧ inB at_ p.length ∧ r.1 = 0 ∧ r.2.1 = t.put s.now at_.toNat p ∧ r.2.2 ≤ p.length)) → k (.v (.int .i64 r.1)) (((((H.set ta (TR.c0 (r.2.1) td tb tc)).set tb (TR.c1 (r.2.1))).set tc (TR.c2 (r.2.1))).set td (JR.blk (j) te)).set te (DF.pk (s.tick r.2.2)))) : CallP Go.Proofs.Try.prog 26 avs H k :=
  CallP.mk ⟨_, tput_K.real, Con.spec tput_K, (t, j, s, at_, p), [ta, tb, tc, td, te], ⟨h0, hn, ⟨ha0, hb0.trans (congrArg some (TR.c1_ren t _).symm), hc0, hd0, he0, trivial⟩, ha⟩, fun r hr => (numK_eq _ _).mpr (by simpa [tpre, putAll, TR.c0_ren, TR.c1_ren, TR.c2_ren, JR.blk_ren, DF.pk_ren, AV.ren, rens, Cont.ren, fren, nth] using hQ r hr)⟩
end Go.Proofs.Ytcfmlnddmpiemaa.Sx

