import Derived.Test.YtcfmlnddmpiemaaSxU3
import Derived.Test.YtcfmlnddmpiemaaSxEc
import Derived.Laws.BitsAllLaws
import Derived.Test.YtcfmlnddmpiemaaSxU1
set_option linter.unusedVariables false
set_option linter.unusedSimpArgs false
set_option maxRecDepth 10000
namespace Go.Proofs.Ytcfmlnddmpiemaa.Sx
/-! ### The end -/
theorem wrs_calm {j : JR} {b : List Int} {rs : List RecR} (hc : JCase j b rs) : ∀ (rest : List RecR) (s : DF), (∀ r ∈ rest, r ∈ rs) → s.live → b.length ≤ s.now.length → (s.run (wrs rest)).1 = 0 ∧ (s.run (wrs rest)).2.live ∧ s.now.length ≤ (s.run (wrs rest)).2.now.length
  | [], s, _, hl, _ => ⟨rfl, hl, Nat.le_refl _⟩
  | r :: rest, s, hr, hl, hb => by
    have hm := hr r (List.mem_cons_self ..)
    obtain ⟨o1, o2, o3, o4, o5⟩ := hc.out r hm
    have ha := hc.at_ r hm
    have e := calm_wr hl (at_ := r.1) (xs := r.2) o1 (by omega) (by omega)
    rw [show wrs (r :: rest) = .wr r.1 r.2 :: wrs rest from rfl, DF.run, e]
    simp only [if_true]
    have hlen := putG_length (b := s.now) (p := r.1.toNat) (xs := r.2) (by omega)
    obtain ⟨i1, i2, i3⟩ := wrs_calm hc rest { s with now := putG s.now r.1.toNat r.2, items := s.items ++ segs r.2.length r.1 r.2, ops := s.ops + 1, wrote := s.wrote + 1 } (fun q hq => hr q (List.mem_cons_of_mem _ hq)) hl (by show _ ≤ (putG s.now r.1.toNat r.2).length; omega)
    refine ⟨i1, i2, ?_⟩
    have i3 : (putG s.now r.1.toNat r.2).length ≤ _ := i3
    omega
theorem apply_calm {j : JR} {b : List Int} {rs : List RecR} {z : List Int} {s : DF} (hc : JCase j b rs) (hz : z.length = 512) (hl : s.live) (hb : b.length ≤ s.now.length) : (s.run (applyOps j z rs)).1 = 0 ∧ (s.run (applyOps j z rs)).2.live := by
  obtain ⟨j1, j2, j3, j4, j5, j6⟩ := hc.ok
  have hf := hc.fit
  have hlen := hc.len
  obtain ⟨i1, i2, i3⟩ := wrs_calm hc rs s (fun r hr => hr) hl hb
  unfold applyOps
  rw [DF.run_append, if_pos i1]
  generalize (s.run (wrs rs)).2 = t at i2 i3 ⊢
  rw [DF.run, calm_fl i2]
  simp only [if_true]
  obtain ⟨s', e, l, -⟩ := calm_two (s := t.flushed) i2 (at_ := j.pos) (xs := z) j1 (by omega) (by show _ ≤ t.now.length; omega)
  rw [e]
  exact ⟨rfl, l⟩
def EndS (j : JR) (b : List Int) (rs : List RecR) (x : Int × Int × JR × DF) : Prop :=
  x.2.1 = 0 ∧ x.2.2.2.live ∧ x.2.2.2.items = [] ∧ x.2.2.2.now = x.2.2.2.safe ∧ B8 x.2.2.2.safe ∧ (j.eqJ x.2.2.2.safe b ∨ j.eqJ x.2.2.2.safe (doneL rs b)) ∧ pendB j (j.partL x.2.2.2.safe) = none
/-- A replay of what a crash left, not refused: no error, and nothing is pending any more. -/
theorem replay_end {j : JR} {b : List Int} {rs : List RecR} {C z : List Int} {s : DF} (hc : JCase j b rs) (hz : z = List.replicate 512 0) (h : Cr j b rs C) (h1 : s.safe = C) (h2 : s.now = C) (h3 : s.items = []) (hl : s.live) :
    EndS j b rs (s.replay j z) := by
  have hlen := h.len hc
  have hf := hc.fit
  have hp : j.part s = j.partL C := by unfold JR.part JR.partL; rw [h2]
  have hnl : ¬ ((s.now.length : Int) < j.pos + j.size) := by rw [h2]; omega
  have no : pendB j (j.partL C) = none → s.pend j = (0, none, j) := fun g => by
    unfold DF.pend
    rw [if_neg hl.refB, if_neg hnl, hp, g]
  have fin : pendB j (j.partL C) = none → (j.eqJ C b ∨ j.eqJ C (doneL rs b)) → EndS j b rs (s.replay j z) := fun g e => by
    have q := no g
    have : s.replay j z = (0, 0, j, s.asked) := by unfold DF.replay; rw [q]
    rw [this]
    refine ⟨rfl, hl, h3, by show s.now = s.safe; rw [h1, h2], by show B8 s.safe; rw [h1]; exact h.1, by show j.eqJ s.safe b ∨ j.eqJ s.safe _; rw [h1]; exact e, by show pendB j (j.partL s.safe) = none; rw [h1]; exact g⟩
  rcases h.2 with ⟨e, g⟩ | ⟨m, g⟩ | ⟨e, g⟩
  · exact fin g (.inl e)
  · have q : s.pend j = (0, some rs, { j with seq := le8 (j.part s) 4 }) := by
      unfold DF.pend
      rw [if_neg hl.refB, if_neg hnl, hp, g]
    obtain ⟨a1, a2⟩ := apply_calm (z := z) (s := s.asked) hc (by rw [hz]; exact List.length_replicate ..) hl (by show _ ≤ s.now.length; rw [h2]; omega)
    obtain ⟨-, d⟩ := apply_cr (s := s.asked) hc hz m g h1 h2 h3
    obtain ⟨d1, d2, d3, d4, d5⟩ := d a1
    have : s.replay j z = ((rs.length : Int), (s.asked.run (applyOps j z rs)).1, { j with seq := le8 (j.part s) 4 }, (s.asked.run (applyOps j z rs)).2) := by unfold DF.replay; rw [q]
    rw [this]
    exact ⟨a1, a2, d1, d2, d3, .inr d4, d5⟩
  · exact fin g (.inr e)
end Go.Proofs.Ytcfmlnddmpiemaa.Sx


set_option maxRecDepth 10000
namespace Go.Proofs.Ytcfmlnddmpiemaa.Sx
open Go.RowKit Go.Proofs.Ytcfmlnddmpiemaa.Sx.Tb
theorem inR_of_wf {k : IntKind} {n : Int} (h : (Lit.int k n).wf = true) : inR k n := by
  cases k <;> simp [Lit.wf, IntKind.wrap, IntKind.min, IntKind.max, IntKind.bits, IntKind.signed] at h <;> simp only [inR] <;> omega
end Go.Proofs.Ytcfmlnddmpiemaa.Sx


set_option maxRecDepth 10000
namespace Go.Proofs.Ytcfmlnddmpiemaa.Sx
open Go.RowKit Go.Proofs.Ytcfmlnddmpiemaa.Sx.Tb
/-! ### The functions of the law JournalCrashes -/
theorem recsC_noF (rs : List RecR) : (recsC true rs).noF := fun j hj => ⟨trivial, ⟨rfl, trivial⟩, trivial⟩
theorem Fin.vl {u : Value} {H : List Chunk} {k : K} (hk : k (.v u) []) : Fin 0 (.v u) H k := Fin.ren [] [] (.v u) [] rfl rfl trivial trivial (VC.mk rfl) hk
end Go.Proofs.Ytcfmlnddmpiemaa.Sx


set_option maxRecDepth 10000
namespace Go.Proofs.Ytcfmlnddmpiemaa.Sx
open Go.RowKit Go.Proofs.Ytcfmlnddmpiemaa.Sx.Tb
/-! ### Changes -/
/-- What a record has of a sector over it. -/
def layR (at_ : Int) (l : List Int) (r : RecR) : List Int :=
  if max at_ r.1 < min (at_ + l.length) (r.1 + r.2.length) then putG l (max at_ r.1 - at_).toNat ((r.2.drop (max at_ r.1 - r.1).toNat).take (min (at_ + l.length) (r.1 + r.2.length) - max at_ r.1).toNat) else l
theorem tlay_c (l : List Int) (at_ : Int) (r : RecR) (k : K) (h0 : (l.length = 512 ∧ 0 ≤ at_ ∧ at_ ≤ 1099511627776) ∧ 0 ≤ r.1 ∧ r.1 ≤ 1099511627776 ∧ r.2.length ≤ 1099511627776) (hk : k (.tup []) [.blk 154 (.ints .u8 (layR at_ l r)) 512]) : evFunc tab [] p82 Go.Proofs.Try.f82 [.s 0 0 1 512 512, .v (.int .i64 at_), .agg [.v (.int .i64 r.1), .im true 1 r.2.length (.ints .u8 r.2)]] [.blk 154 (.ints .u8 l) 512] k := by
  repeat' (first
    | (with_reducible first | exact True.intro | apply And.intro | apply If_true | apply If_false | apply If_not)
    | ((with_reducible apply VC.mk); exact vt)
    | ((with_reducible apply If_dec) <;> intro hc <;> (try (exfalso; omega)))
    | ((with_reducible apply If_any) <;> intro hc)
    | ((with_reducible first | apply PF.mk | apply DrawP.mk); (focus kernel_rfl))
    | ((with_reducible apply Same.mk); (focus rfl); (first | exact trivial | exact rfl))
    | (intro cap hcap)
    | ((fail_if_success (with_reducible apply st)); conv => whnf))
  all_goals simp only [cond_true, cond_false] at *
  · exact VC.mk ⟨trivial, by omega, by omega, by omega⟩
  · exact VC.mk ⟨trivial, by omega, by omega, by omega⟩
  · exact VC.mk ⟨trivial, trivial, by omega⟩
  · generalize hF : max at_ r.1 = F at *
    generalize hT : min (at_ + (512 : Nat)) (r.1 + (r.2.length : Int)) = T at *
    refine Fin.ren [0] [] (.tup []) [.blk 154 (.ints .u8 (layR at_ l r)) 512] rfl rfl trivial ⟨⟨VC.mk ⟨rfl, rfl⟩, VC.mk ⟨rfl, ?_⟩⟩, trivial⟩ trivial hk
    have e1 : min (at_ + (l.length : Int)) (r.1 + (r.2.length : Int)) = T := by rw [h0.1.1]; exact hT
    have e2 : (T - at_).toNat - (F - at_).toNat = (T - F).toNat := by omega
    have e3 : min (r.2.length - (F - r.1).toNat) (T - F).toNat = (T - F).toNat := by omega
    have e4 : ((r.2.drop (F - r.1).toNat).take (T - F).toNat).length = (T - F).toNat := by rw [List.length_take, List.length_drop]; omega
    have e5 : layR at_ l r = l.take (F - at_).toNat ++ ((r.2.drop (F - r.1).toNat).take (T - F).toNat ++ l.drop ((F - at_).toNat + (T - F).toNat)) := by
      unfold layR
      rw [hF, e1, if_pos hc]
      unfold putG
      rw [e4]
    rw [e5, e2, e3, List.take_take, show min (T - F).toNat (r.2.length - (F - r.1).toNat) = (T - F).toNat by omega, Nat.zero_add, List.append_assoc]
    exact List.prefix_rfl
  · have e5 : layR at_ l r = l := by
      unfold layR
      rw [h0.1.1, if_neg hc]
    rw [e5] at hk
    exact Fin.ren [0] [] (.tup []) [.blk 154 (.ints .u8 l) 512] rfl rfl trivial ⟨⟨VC.mk ⟨rfl, rfl⟩, VC.mk ⟨rfl, List.prefix_rfl⟩⟩, trivial⟩ trivial hk
theorem tlay_K : ConOk Go.Proofs.Try.prog 82 (Con.of (List Int × Int × RecR) Unit (fun x => [.s 0 0 1 512 512, .v (.int .i64 x.2.1), .agg [.v (.int .i64 x.2.2.1), .im true 1 x.2.2.2.length (.ints .u8 x.2.2.2)]]) (fun x => [.blk 154 (.ints .u8 x.1) 512]) (fun x => (x.1.length = 512 ∧ 0 ≤ x.2.1 ∧ x.2.1 ≤ 1099511627776) ∧ 0 ≤ x.2.2.1 ∧ x.2.2.1 ≤ 1099511627776 ∧ x.2.2.2.length ≤ 1099511627776) (fun _ _ => True) (fun _ _ => .tup []) (fun x _ => [.blk 154 (.ints .u8 (layR x.2.1 x.1 x.2.2)) 512])) :=
  conOk_rel (T := tab) mix Go.Proofs.Try.func82 (by decide +kernel) (by kernel_rfl) [] p82 (fun n => by rw [Go.Proofs.Try.ntmps82]; exact Nat.le_of_ble_eq_true rfl) (fun n _ _ _ => ⟨trivial, (fun c hc => by simp at hc; subst hc; exact .blk trivial), Nat.le_refl _⟩) (fun n _ c hc => by simp at hc; subst hc; trivial) (fun x k h0 hk => tlay_c x.1 x.2.1 x.2.2 k h0 (hk () trivial))
theorem tlay_at {avs : List AV} {H : List Chunk} {k : K} (l : List Int) (at_ : Int) (r : RecR) (i : Nat) (h0 : (l.length = 512 ∧ 0 ≤ at_ ∧ at_ ≤ 1099511627776) ∧ 0 ≤ r.1 ∧ r.1 ≤ 1099511627776 ∧ r.2.length ≤ 1099511627776) (hc : nth H i = some (.blk 154 (.ints .u8 l) 512)) (ha : argsM H [i] [.s 0 0 1 512 512, .v (.int .i64 at_), .agg [.v (.int .i64 r.1), .im true 1 r.2.length (.ints .u8 r.2)]] avs)
    (h : k (.tup []) (H.set i (.blk 154 (.ints .u8 (layR at_ l r)) 512))) : CallP Go.Proofs.Try.prog 82 avs H k :=
  CallP.mk ⟨_, tlay_K.real, Con.spec tlay_K, (l, at_, r), [i], ⟨h0, rfl, ⟨hc, trivial⟩, ha⟩, fun _ _ => (numK_eq _ _).mpr (by simpa [putAll, AV.ren, rens, Chunk.ren, Cont.ren] using h)⟩
/-! ### The state of changes -/
structure TR where
  dirty : List (Int × List Int)
  fresh : List RecR
  cap : Nat
  over : Bool
def TR.c0 (t : TR) (j m f : Nat) : Chunk := .blk 134 (.lst [.p j 0 1 0, .m m, .s f 0 2 t.fresh.length t.cap, .v (.bool t.over)]) 4
def TR.c1 (t : TR) : Chunk := .mp (t.dirty.map (fun x => (x.1, AV.arr .u8 x.2))) none
def TR.c2 (t : TR) : Chunk := .blk 138 (recsC true t.fresh) (t.cap * 2)
def lkS (n : Int) : List (Int × List Int) → Option (List Int)
  | [] => none
  | (a, v) :: r => if a = n then some v else lkS n r
def upS (n : Int) (v : List Int) : List (Int × List Int) → List (Int × List Int)
  | [] => [(n, v)]
  | (a, u) :: r => if a = n then (a, v) :: r else (a, u) :: upS n v r
theorem lkm_map (n : Int) : ∀ (d : List (Int × List Int)), lkm n (d.map (fun x => (x.1, AV.arr .u8 x.2))) = (lkS n d).map (AV.arr .u8)
  | [] => rfl
  | (a, v) :: r => by
    show (if a = n then _ else _) = _
    unfold lkS
    by_cases h : a = n
    · rw [if_pos h, if_pos h]; rfl
    · rw [if_neg h, if_neg h]; exact lkm_map n r
theorem upm_map (n : Int) (v : List Int) : ∀ (d : List (Int × List Int)), upm n (.arr .u8 v) (d.map (fun x => (x.1, AV.arr .u8 x.2))) = (upS n v d).map (fun x => (x.1, AV.arr .u8 x.2))
  | [] => rfl
  | (a, u) :: r => by
    show (if a = n then _ else _) = _
    unfold upS
    by_cases h : a = n
    · rw [if_pos h, if_pos h]; rfl
    · rw [if_neg h, if_neg h]
      show _ :: upm n _ (r.map _) = _
      rw [upm_map n v r]; rfl
def padS (l : List Int) : List Int := l ++ List.replicate (512 - l.length) 0
def secF (now : List Int) (n : Int) : List Int := padS ((now.drop (512 * n).toNat).take 512)
def TR.sec (t : TR) (now : List Int) (n : Int) : List Int :=
  match lkS n t.dirty with
  | some l => l
  | none => t.fresh.foldl (layR (512 * n)) (secF now n)
structure TR.Ok (t : TR) : Prop where
  sec : ∀ x ∈ t.dirty, x.2.length = 512
  frs : ∀ r ∈ t.fresh, 0 ≤ r.1 ∧ r.1 ≤ 4194304 ∧ r.2.length ≤ 4194304
  cap : t.fresh.length ≤ t.cap
  len : t.fresh.length ≤ 1073741824
def tpre (t : TR) (j : JR) (s : DF) : List Chunk := [t.c0 3 1 2, t.c1, t.c2, j.blk 4, s.pk]
theorem layR_length (at_ : Int) (l : List Int) (r : RecR) (hl : l.length = 512) (h0 : 0 ≤ at_) : (layR at_ l r).length = 512 := by
  unfold layR
  split
  · rename_i h
    rw [putG_length (by omega), List.length_take, List.length_drop]
    omega
  · exact hl
theorem secF_length (now : List Int) (n : Int) : (secF now n).length = 512 := by
  unfold secF padS
  rw [List.length_append, List.length_replicate, List.length_take]
  omega
theorem lays_length (at_ : Int) (h0 : 0 ≤ at_) : ∀ (rs : List RecR) (l : List Int), l.length = 512 → (rs.foldl (layR at_) l).length = 512
  | [], l, h => h
  | r :: rs, l, h => lays_length at_ h0 rs _ (layR_length at_ l r h h0)
theorem lkS_mem {n : Int} : ∀ {d : List (Int × List Int)} {l : List Int}, lkS n d = some l → (n, l) ∈ d
  | [], _, h => by cases h
  | (a, v) :: r, l, h => by
    unfold lkS at h
    split at h
    · rename_i e; cases h; subst e; exact List.mem_cons_self ..
    · exact List.mem_cons_of_mem _ (lkS_mem h)
theorem TR.Ok.sec_length {t : TR} (h : t.Ok) (now : List Int) (n : Int) (h0 : 0 ≤ n) : (t.sec now n).length = 512 := by
  unfold TR.sec
  split
  · rename_i l hl; exact h.sec _ (lkS_mem hl)
  · exact lays_length _ (by omega) _ _ (secF_length now n)
theorem arr_les {H : List Chunk} {fz : List Nat} {f : Nat → Nat} {ph : Nat → Bool} : ∀ (d : List (Int × List Int)), les H fz f ph ((d.map (fun x => (x.1, AV.arr .u8 x.2))).map (fun x => x.2)) ((d.map (fun x => (x.1, AV.arr .u8 x.2))).map (fun x => x.2))
  | [] => trivial
  | x :: r => ⟨VC.mk ⟨rfl, rfl⟩, arr_les r⟩
theorem arr_noF : ∀ (d : List (Int × List Int)), noFs ((d.map (fun x => (x.1, AV.arr .u8 x.2))).map (fun x => x.2))
  | [] => trivial
  | x :: r => ⟨trivial, arr_noF r⟩
theorem recs_les {H : List Chunk} {fz : List Nat} {f : Nat → Nat} {ph : Nat → Bool} (r : RecR) : les H fz f ph (recAV true r) (recAV true r) := ⟨VC.mk rfl, ⟨VC.mk ⟨rfl, rfl, rfl⟩, VC.mk ⟨rfl, rfl⟩⟩, trivial⟩
theorem T5.le {H : List Chunk} {fz : List Nat} {f : Nat → Nat} {ph : Nat → Bool} {t : TR} {j : JR} {s : DF} (f1 : f 1 = 1) (f2 : f 2 = 2) (f3 : f 3 = 3) (f4 : f 4 = 4) (h : 5 ≤ H.length) (h0 : nth H 0 = some (t.c0 3 1 2)) (h1 : nth H 1 = some t.c1) (h2 : nth H 2 = some t.c2) (h3 : nth H 3 = some (j.blk 4)) (h4 : nth H 4 = some s.pk) (hz : memN 0 fz = false ∧ memN 1 fz = false ∧ memN 2 fz = false ∧ memN 3 fz = false ∧ memN 4 fz = false := by exact ⟨rfl, rfl, rfl, rfl, rfl⟩) : chunksLe H fz f ph [0, 1, 2, 3, 4] (tpre t j s) := by
  refine ⟨?_, ?_, ?_, ?_, ?_, trivial⟩
  · unfold Chunk.le TR.c0
    simp only
    rw [show Nat.blt 0 H.length = true by rw [Nat.blt_eq]; omega, hz.1, h0]
    exact ⟨VC.mk ⟨rfl, rfl⟩, VC.mk ⟨f3, rfl, rfl, rfl⟩, VC.mk f1, VC.mk ⟨f2, rfl, rfl, rfl, rfl⟩, VC.mk rfl, trivial⟩
  · unfold Chunk.le TR.c1
    simp only
    rw [show Nat.blt 1 H.length = true by rw [Nat.blt_eq]; omega, hz.2.1, h1]
    exact ⟨VC.mk ⟨rfl, .inl trivial⟩, arr_les t.dirty⟩
  · unfold Chunk.le TR.c2
    simp only
    rw [show Nat.blt 2 H.length = true by rw [Nat.blt_eq]; omega, hz.2.2.1, h2]
    exact ⟨VC.mk ⟨rfl, rfl⟩, VC.mk ⟨rfl, Nat.le_refl _⟩, fun j _ => recs_les _⟩
  · unfold Chunk.le JR.blk
    simp only
    rw [show Nat.blt 3 H.length = true by rw [Nat.blt_eq]; omega, hz.2.2.2.1, h3]
    exact ⟨VC.mk ⟨rfl, rfl⟩, VC.mk ⟨f4, rfl, rfl, rfl⟩, VC.mk rfl, VC.mk rfl, VC.mk rfl, trivial⟩
  · unfold Chunk.le DF.pk
    simp only
    rw [show Nat.blt 4 H.length = true by rw [Nat.blt_eq]; omega, hz.2.2.2.2, h4]
    exact VC.mk ⟨rfl, rfl, rfl, rfl⟩
theorem T5.leX {H : List Chunk} {f : Nat → Nat} {ph : Nat → Bool} {t : TR} {j : JR} {s : DF} {σ : List Nat} {cs : List Chunk} (f1 : f 1 = 1) (f2 : f 2 = 2) (f3 : f 3 = 3) (f4 : f 4 = 4) (h : Nat.ble 5 H.length = true) (h0 : nth H 0 = some (t.c0 3 1 2)) (h1 : nth H 1 = some t.c1) (h2 : nth H 2 = some t.c2) (h3 : nth H 3 = some (j.blk 4)) (h4 : nth H 4 = some s.pk) (hx : chunksLe H [] f ph σ cs) : chunksLe H [] f ph (0 :: 1 :: 2 :: 3 :: 4 :: σ) (tpre t j s ++ cs) := by
  have T := T5.le (fz := []) (ph := ph) f1 f2 f3 f4 (Nat.le_of_ble_eq_true h) h0 h1 h2 h3 h4
  exact ⟨T.1, T.2.1, T.2.2.1, T.2.2.2.1, T.2.2.2.2.1, hx⟩
theorem fix5 {N : Nat} {σ : List Nat} : ∀ i, i < 5 → fren (0 :: 1 :: 2 :: 3 :: 4 :: σ) N i = i := fun i hi => by
  match i, hi with
  | 0, _ => rfl
  | 1, _ => rfl
  | 2, _ => rfl
  | 3, _ => rfl
  | 4, _ => rfl
theorem T5.fin {H : List Chunk} {t : TR} {j : JR} {s : DF} {v : AV} {k : K} (h : Nat.ble 5 H.length = true) (h0 : nth H 0 = some (t.c0 3 1 2)) (h1 : nth H 1 = some t.c1) (h2 : nth H 2 = some t.c2) (h3 : nth H 3 = some (j.blk 4)) (h4 : nth H 4 = some s.pk) (hk : k v (tpre t j s)) (hv : v.inN 5 := by simp [AV.inN, inNs, Cont.inN]) : Fin 5 v H k :=
  Fin.ren [0, 1, 2, 3, 4] [] v (tpre t j s) rfl rfl trivial (T5.le rfl rfl rfl rfl (Nat.le_of_ble_eq_true h) h0 h1 h2 h3 h4) (AV.le_refl fix5 hv) hk
theorem T5.good {t : TR} {j : JR} {s : DF} {v : AV} (h : v.noF) : Good 5 v (tpre t j s) := by
  refine ⟨h, fun c hc => ?_, Nat.le_refl _⟩
  simp [tpre] at hc
  rcases hc with rfl | rfl | rfl | rfl | rfl
  · exact .blk ⟨trivial, trivial, trivial, trivial, trivial⟩
  · exact .mp (arr_noF t.dirty)
  · exact .blk (recsC_noF _)
  · exact j.noF _
  · exact s.pk_noF
theorem T5.nd {t : TR} {j : JR} {s : DF} : ∀ c ∈ tpre t j s, c.lives := by
  intro c hc
  simp [tpre] at hc
  rcases hc with rfl | rfl | rfl | rfl | rfl <;> trivial
theorem secF_read {now l z : List Int} {n : Int} (hl : l = (now.drop (n * 512).toNat).take (min ((now.length : Int) - n * 512) 512).toNat) (hz : z = List.replicate 512 0) (h0 : 0 ≤ n) (h : 0 < min ((now.length : Int) - n * 512) 512) : secF now n = List.take (Int.toNat 0) z ++ List.take (min l.length (512 - Int.toNat 0)) l ++ List.drop (Int.toNat 0 + min l.length (512 - Int.toNat 0)) z := by
  have hll : l.length = (min ((now.length : Int) - n * 512) 512).toNat := by rw [hl, List.length_take, List.length_drop]; omega
  have e1 : (now.drop (512 * n).toNat).take 512 = l := by
    rw [hl, Int.mul_comm]
    rcases (by omega : (min ((now.length : Int) - n * 512) 512).toNat = 512 ∨ ((now.drop (n * 512).toNat).length ≤ (min ((now.length : Int) - n * 512) 512).toNat ∧ (now.drop (n * 512).toNat).length ≤ 512) ∨ ¬ (now.drop (n * 512).toNat).length ≤ (min ((now.length : Int) - n * 512) 512).toNat ∧ (min ((now.length : Int) - n * 512) 512).toNat ≠ 512 ∨ 512 < (now.drop (n * 512).toNat).length ∧ (min ((now.length : Int) - n * 512) 512).toNat ≠ 512) with h | h | h | h
    · rw [h]
    · rw [List.take_of_length_le h.1, List.take_of_length_le h.2]
    · rw [List.length_drop] at h; omega
    · rw [List.length_drop] at h; omega
  unfold secF padS
  rw [e1, show Int.toNat 0 = 0 from rfl, List.take_zero, List.nil_append, show min l.length (512 - 0) = l.length by omega, List.take_of_length_le (Nat.le_refl _), hz, List.drop_replicate, Nat.zero_add]
theorem secF_none {now z : List Int} {n : Int} (hz : z = List.replicate 512 0) (h0 : 0 ≤ n) (h : ¬ 0 < min ((now.length : Int) - n * 512) 512) : secF now n = z := by
  unfold secF padS
  rw [List.drop_eq_nil_of_le (by omega), List.take_nil, hz]
  rfl
end Go.Proofs.Ytcfmlnddmpiemaa.Sx


set_option maxRecDepth 10000
namespace Go.Proofs.Ytcfmlnddmpiemaa.Sx
open Go.RowKit Go.Proofs.Ytcfmlnddmpiemaa.Sx.Tb
/-! ### Get -/
theorem TR.c1_ren (t : TR) (f : Nat → Nat) : t.c1.ren f = t.c1 := by
  show Chunk.mp _ _ = Chunk.mp _ _
  congr 1
  rw [List.map_map]
  rfl
theorem TR.c0_ren (t : TR) (a b c : Nat) (f : Nat → Nat) : (t.c0 a b c).ren f = t.c0 (f a) (f b) (f c) := rfl
theorem JR.blk_ren (j : JR) (a : Nat) (f : Nat → Nat) : (j.blk a).ren f = j.blk (f a) := rfl
theorem DF.pk_ren (s : DF) (f : Nat → Nat) : s.pk.ren f = s.pk := rfl
theorem TR.c2_ren (t : TR) (f : Nat → Nat) : t.c2.ren f = t.c2 := rfl
def inB (at_ n : Int) : Prop := 0 ≤ at_ ∧ 0 ≤ n ∧ at_ ≤ 4194304 ∧ n ≤ 4194304 - at_
def TR.V (t : TR) (now : List Int) (i : Nat) : Int := (t.sec now (i / 512 : Nat)).getD (i % 512) 0
def TR.rd (t : TR) (now : List Int) (at_ n : Nat) : List Int := (List.range n).map (fun i => t.V now (at_ + i))
def DF.tick (s : DF) (m : Nat) : DF := { s with ops := s.ops + m }
theorem TR.rd_length (t : TR) (now : List Int) (at_ n : Nat) : (t.rd now at_ n).length = n := by unfold TR.rd; rw [List.length_map, List.length_range]
end Go.Proofs.Ytcfmlnddmpiemaa.Sx


set_option maxRecDepth 10000
namespace Go.Proofs.Ytcfmlnddmpiemaa.Sx
open Go.RowKit Go.Proofs.Ytcfmlnddmpiemaa.Sx.Tb
/-! ### Put -/
def TR.wr1 (t : TR) (now : List Int) (a : Nat) (xs : List Int) : TR := { t with dirty := upS ((a / 512 : Nat) : Int) (putG (t.sec now ((a / 512 : Nat) : Int)) (a % 512) xs) t.dirty }
def TR.putF : Nat → TR → List Int → Nat → List Int → TR
  | 0, t, _, _, _ => t
  | f + 1, t, now, a, p => if p.length = 0 then t else TR.putF f (t.wr1 now a (p.take (min p.length (512 - a % 512)))) now (a + min p.length (512 - a % 512)) (p.drop (min p.length (512 - a % 512)))
def TR.put (t : TR) (now : List Int) (a : Nat) (p : List Int) : TR := TR.putF p.length t now a p
theorem putF_nil (f : Nat) (t : TR) (now : List Int) (a : Nat) (p : List Int) (h : p.length = 0) : TR.putF f t now a p = t := by
  cases f with
  | zero => rfl
  | succ f => show (if _ then _ else _) = _; rw [if_pos h]
theorem upS_len {n : Int} {v : List Int} (hv : v.length = 512) : ∀ (d : List (Int × List Int)), (∀ x ∈ d, x.2.length = 512) → ∀ x ∈ upS n v d, x.2.length = 512
  | [], _, x, hx => by
    simp [upS] at hx; subst hx; exact hv
  | (a, u) :: r, h, x, hx => by
    unfold upS at hx
    split at hx
    · rcases List.mem_cons.1 hx with rfl | hx
      · exact hv
      · exact h x (List.mem_cons_of_mem _ hx)
    · rcases List.mem_cons.1 hx with rfl | hx
      · exact h _ (List.mem_cons_self ..)
      · exact upS_len hv r (fun y hy => h y (List.mem_cons_of_mem _ hy)) x hx
theorem TR.Ok.wr1 {t : TR} (h : t.Ok) (now : List Int) (a : Nat) (xs : List Int) (hx : xs.length ≤ 512 - a % 512) : (t.wr1 now a xs).Ok := by
  refine ⟨?_, h.frs, h.cap, h.len⟩
  show ∀ x ∈ upS _ _ _, _
  exact upS_len (by rw [putG_length (by rw [h.sec_length _ _ (by omega)]; omega), h.sec_length _ _ (by omega)]; omega) _ h.sec
theorem put_sec {l q : List Int} {lo K0 : Nat} (hl : l.length = 512) (hk : K0 ≤ q.length) (h1 : lo + K0 ≤ 512) : List.take 512 (List.drop (0 * 1 + 0) (List.take lo l ++ List.take (min (K0 - Int.toNat 0) (512 - lo)) (List.take (K0 - Int.toNat 0) (List.drop (Int.toNat 0) q)) ++ List.drop (lo + min (K0 - Int.toNat 0) (512 - lo)) l)) = putG l lo (q.take K0) := by
  have e0 : Int.toNat 0 = 0 := rfl
  have e1 : (q.take K0).length = K0 := by rw [List.length_take]; omega
  rw [e0, Nat.sub_zero, show min K0 (512 - lo) = K0 by omega, List.drop_zero, List.take_take, Nat.min_self, List.drop_zero, List.append_assoc]
  unfold putG
  rw [e1]
  exact List.take_of_length_le (by rw [List.length_append, List.length_append, List.length_take, List.length_drop, e1]; omega)
end Go.Proofs.Ytcfmlnddmpiemaa.Sx


set_option maxRecDepth 10000
namespace Go.Proofs.Ytcfmlnddmpiemaa.Sx
open Go.RowKit Go.Proofs.Ytcfmlnddmpiemaa.Sx.Tb
/-! ### A header -/
structure HD where
  bits : Int
  size : Int
  host : Int
  jr : Int
  backed : Bool
def HD.clus (h : HD) : Int := if h.bits < 9 ∨ 12 < h.bits then 512 else 2 ^ h.bits.toNat
def HD.refs (h : HD) : Int := (2 * max 0 (min h.host 8192) + h.clus - 1) / h.clus
def HD.jend (h : HD) : Int := h.clus * (1 + max 0 (min h.jr 8192))
def HD.rend (h : HD) : Int := h.jend + h.refs * h.clus
def HD.first (h : HD) : Int := (h.rend + h.clus + h.clus) / h.clus
def hR (h : HD) : Prop := inR .i64 h.bits ∧ inR .i64 h.size ∧ inR .i64 h.host ∧ inR .i64 h.jr
end Go.Proofs.Ytcfmlnddmpiemaa.Sx


set_option maxRecDepth 10000
namespace Go.Proofs.Ytcfmlnddmpiemaa.Sx
open Go.RowKit Go.Proofs.Ytcfmlnddmpiemaa.Sx.Tb
/-! ### Entries -/
structure ER where
  kind : Int
  cl : Int
  own : Bool
  deriving DecidableEq
def encV (x : ER) : Int × Int :=
  if x.kind = 0 ∨ x.kind = 1 then (if x.cl ≠ 0 ∨ x.own = true then (0, 11) else (x.kind, 0))
  else if x.kind ≠ 2 ∨ x.cl < 1 ∨ 8192 ≤ x.cl then (0, 11)
  else if x.own = true then (9223372036854775808 + x.cl * 256, 0) else (x.cl * 256, 0)
end Go.Proofs.Ytcfmlnddmpiemaa.Sx


set_option maxRecDepth 10000
namespace Go.Proofs.Ytcfmlnddmpiemaa.Sx
open Go.RowKit Go.Proofs.Ytcfmlnddmpiemaa.Sx.Tb
/-! ### Begin -/
def TR.zero : TR := ⟨[], [], 0, false⟩
theorem nth_lt {H : List Chunk} {i : Nat} {c : Chunk} (h : nth H i = some c) : Nat.blt i H.length = true := by
  rw [nth_eq] at h
  rw [Nat.blt_eq]
  exact lt_of_get h
theorem T5.leG {H : List Chunk} {fz : List Nat} {f : Nat → Nat} {ph : Nat → Bool} {t : TR} {j : JR} {s : DF} {a b c d e : Nat} {σ : List Nat} {cs : List Chunk} (f1 : f 1 = b) (f2 : f 2 = c) (f3 : f 3 = d) (f4 : f 4 = e) (h0 : nth H a = some (t.c0 d b c)) (h1 : nth H b = some t.c1) (h2 : nth H c = some t.c2) (h3 : nth H d = some (j.blk e)) (h4 : nth H e = some s.pk) (hz : memN a fz = false ∧ memN b fz = false ∧ memN c fz = false ∧ memN d fz = false ∧ memN e fz = false) (hx : chunksLe H fz f ph σ cs) : chunksLe H fz f ph (a :: b :: c :: d :: e :: σ) (tpre t j s ++ cs) := by
  refine ⟨?_, ?_, ?_, ?_, ?_, hx⟩
  · unfold Chunk.le TR.c0
    simp only
    rw [nth_lt h0, hz.1, h0]
    exact ⟨VC.mk ⟨rfl, rfl⟩, VC.mk ⟨f3, rfl, rfl, rfl⟩, VC.mk f1, VC.mk ⟨f2, rfl, rfl, rfl, rfl⟩, VC.mk rfl, trivial⟩
  · unfold Chunk.le TR.c1
    simp only
    rw [nth_lt h1, hz.2.1, h1]
    exact ⟨VC.mk ⟨rfl, .inl trivial⟩, arr_les t.dirty⟩
  · unfold Chunk.le TR.c2
    simp only
    rw [nth_lt h2, hz.2.2.1, h2]
    exact ⟨VC.mk ⟨rfl, rfl⟩, VC.mk ⟨rfl, Nat.le_refl _⟩, fun j _ => recs_les _⟩
  · unfold Chunk.le JR.blk
    simp only
    rw [nth_lt h3, hz.2.2.2.1, h3]
    exact ⟨VC.mk ⟨rfl, rfl⟩, VC.mk ⟨f4, rfl, rfl, rfl⟩, VC.mk rfl, VC.mk rfl, VC.mk rfl, trivial⟩
  · unfold Chunk.le DF.pk
    simp only
    rw [nth_lt h4, hz.2.2.2.2, h4]
    exact VC.mk ⟨rfl, rfl, rfl, rfl⟩
theorem begin_c (j : JR) (s : DF) (k : K) (hk : k (.tup [.p 2 0 1 0, .v (.int .i64 0)]) [j.blk 1, s.pk, TR.zero.c0 0 3 4, TR.zero.c1, TR.zero.c2]) : evFunc tab [] [] Go.Proofs.Try.f25 [.p 0 0 1 0] [j.blk 1, s.pk] k := by
  repeat' (first
    | (with_reducible first | exact True.intro | apply And.intro | apply If_true | apply If_false | apply If_not)
    | ((with_reducible apply VC.mk); exact vt)
    | ((with_reducible apply If_dec) <;> intro hc <;> (try (exfalso; omega)))
    | ((with_reducible apply If_any) <;> intro hc)
    | ((with_reducible first | apply PF.mk | apply DrawP.mk); (focus kernel_rfl))
    | ((with_reducible apply Same.mk); (focus rfl); (first | exact trivial | exact rfl))
    | (intro cap hcap)
    | ((fail_if_success (with_reducible apply st)); conv => whnf))
  refine Fin.ren [0, 1, 3, 2, 4] [] (.tup [.p 2 0 1 0, .v (.int .i64 0)]) [j.blk 1, s.pk, TR.zero.c0 0 3 4, TR.zero.c1, TR.zero.c2] rfl rfl trivial ⟨⟨VC.mk ⟨rfl, rfl⟩, VC.mk ⟨rfl, rfl, rfl, rfl⟩, VC.mk rfl, VC.mk rfl, VC.mk rfl, trivial⟩, VC.mk ⟨rfl, rfl, rfl, rfl⟩, ⟨VC.mk ⟨rfl, rfl⟩, VC.mk ⟨rfl, rfl, rfl, rfl⟩, VC.mk rfl, VC.mk ⟨rfl, rfl⟩, VC.mk rfl, trivial⟩, ⟨VC.mk ⟨rfl, .inl rfl⟩, trivial⟩, ⟨VC.mk rfl, VC.mk rfl⟩, trivial⟩ ⟨VC.mk ⟨rfl, rfl, rfl, rfl⟩, VC.mk rfl, trivial⟩ hk
theorem begin_K : ConOk Go.Proofs.Try.prog 25 (Con.of (JR × DF) Unit (fun _ => [.p 0 0 1 0]) (fun x => [x.1.blk 1, x.2.pk]) (fun _ => True) (fun _ _ => True) (fun _ _ => .tup [.p 2 0 1 0, .v (.int .i64 0)]) (fun x _ => [x.1.blk 1, x.2.pk, TR.zero.c0 0 3 4, TR.zero.c1, TR.zero.c2])) := by
  refine conOk_rel (T := tab) mix Go.Proofs.Try.func25 (by decide +kernel) (by kernel_rfl) [] [] (fun n => by rw [Go.Proofs.Try.ntmps25]; exact Nat.le_of_ble_eq_true rfl) (fun x r _ _ => ⟨⟨trivial, trivial, trivial⟩, (fun c hc => ?_), (by show 2 ≤ 5; decide)⟩) (fun x _ => J2.nd) (fun x k _ hk => begin_c x.1 x.2 k (hk () trivial))
  simp at hc
  rcases hc with rfl | rfl | rfl | rfl | rfl
  · exact JR.noF _ _
  · exact DF.pk_noF _
  · exact .blk ⟨trivial, trivial, trivial, trivial, trivial⟩
  · exact .mp trivial
  · exact .blk (recsC_noF _)
theorem begin_at {avs : List AV} {H : List Chunk} {k : K} (j : JR) (s : DF) (a b : Nat) (hab : nodupN [a, b] = true) (ha0 : nth H a = some (j.blk b)) (hb0 : nth H b = some s.pk) (ha : argsM H [a, b] [.p 0 0 1 0] avs)
    (hQ : k (.tup [.p H.length 0 1 0, .v (.int .i64 0)]) (((H.set a (j.blk b)).set b s.pk) ++ [TR.zero.c0 a (H.length + 1) (H.length + 2), TR.zero.c1, TR.zero.c2])) : CallP Go.Proofs.Try.prog 25 avs H k :=
  CallP.mk ⟨_, begin_K.real, Con.spec begin_K, (j, s), [a, b], ⟨trivial, hab, ⟨ha0, hb0, trivial⟩, ha⟩, fun _ _ => (numK_eq _ _).mpr (by simpa [putAll, TR.c0_ren, TR.c1_ren, TR.c2_ren, JR.blk_ren, DF.pk_ren, AV.ren, rens, fren, nth] using hQ)⟩
/-! ### Tables -/
def HD.m : HD := ⟨9, 32768, 60, 29, false⟩
end Go.Proofs.Ytcfmlnddmpiemaa.Sx


set_option maxRecDepth 10000
namespace Go.Proofs.Ytcfmlnddmpiemaa.Sx
/-! ### What is seen behind a Put, plain -/
theorem lkS_upS (n m : Int) (v : List Int) : ∀ (d : List (Int × List Int)), lkS n (upS m v d) = if n = m then some v else lkS n d
  | [] => by
    show (if m = n then _ else _) = _
    by_cases h : n = m
    · rw [if_pos h, if_pos h.symm]
    · rw [if_neg h, if_neg (fun e => h e.symm)]
  | (a, u) :: r => by
    unfold upS
    by_cases h : a = m
    · rw [if_pos h]
      show (if a = n then _ else _) = _
      subst h
      by_cases h2 : n = a
      · rw [if_pos h2, if_pos h2.symm]
      · rw [if_neg h2, if_neg (fun e => h2 e.symm)]
        show _ = (if a = n then _ else _)
        rw [if_neg (fun e => h2 e.symm)]
    · rw [if_neg h]
      show (if a = n then _ else _) = _
      by_cases h2 : a = n
      · rw [if_pos h2, if_neg (by omega)]
        show _ = (if a = n then _ else _)
        rw [if_pos h2]
      · rw [if_neg h2, lkS_upS n m v r]
        show _ = (if n = m then _ else (if a = n then _ else _))
        rw [if_neg h2]
theorem wr1_sec (t : TR) (now : List Int) (a : Nat) (xs : List Int) (n : Nat) : (t.wr1 now a xs).sec now n = if n = a / 512 then putG (t.sec now (a / 512 : Nat)) (a % 512) xs else t.sec now n := by
  unfold TR.sec
  show (match lkS (n : Int) (upS _ _ _) with | some l => l | none => _) = _
  rw [lkS_upS]
  by_cases h : n = a / 512
  · subst h
    rw [if_pos rfl, if_pos rfl]
    rfl
  · rw [if_neg h, if_neg (by omega)]
    rfl
theorem wr1_V {t : TR} (ht : t.Ok) (now : List Int) (a : Nat) (xs : List Int) (hx : a % 512 + xs.length ≤ 512) (i : Nat) : (t.wr1 now a xs).V now i = if a ≤ i ∧ i < a + xs.length then xs.getD (i - a) 0 else t.V now i := by
  unfold TR.V
  rw [wr1_sec]
  have hl := ht.sec_length now (a / 512 : Nat) (by omega)
  by_cases h : i / 512 = a / 512
  · rw [if_pos h, putG_get (by omega)]
    by_cases h2 : a ≤ i ∧ i < a + xs.length
    · rw [if_pos h2, if_pos (by omega), show i % 512 - a % 512 = i - a by omega]
    · rw [if_neg h2, if_neg (by omega), h]
  · rw [if_neg h, if_neg (by omega)]
theorem putF_V : ∀ (f : Nat) (t : TR) (now : List Int) (a : Nat) (p : List Int), t.Ok → p.length ≤ f → (TR.putF f t now a p).Ok ∧ (TR.putF f t now a p).fresh = t.fresh ∧ (TR.putF f t now a p).over = t.over ∧ (TR.putF f t now a p).cap = t.cap ∧ ∀ i, (TR.putF f t now a p).V now i = if a ≤ i ∧ i < a + p.length then p.getD (i - a) 0 else t.V now i
  | 0, t, now, a, p, h, hp => ⟨h, rfl, rfl, rfl, fun i => by rw [if_neg (by omega)]; rfl⟩
  | f + 1, t, now, a, p, h, hp => by
    by_cases h0 : p.length = 0
    · rw [putF_nil _ _ _ _ _ h0]
      exact ⟨h, rfl, rfl, rfl, fun i => by rw [if_neg (by omega)]⟩
    · have e : TR.putF (f + 1) t now a p = TR.putF f (t.wr1 now a (p.take (min p.length (512 - a % 512)))) now (a + min p.length (512 - a % 512)) (p.drop (min p.length (512 - a % 512))) := by
        show (if _ then _ else _) = _; rw [if_neg h0]
      rw [e]
      generalize hk : min p.length (512 - a % 512) = k
      have hkl : (p.take k).length = k := by rw [List.length_take]; omega
      have hdl : (p.drop k).length = p.length - k := List.length_drop ..
      have ho := h.wr1 now a (p.take k) (by omega)
      obtain ⟨i1, i2, i3, i4, i5⟩ := putF_V f (t.wr1 now a (p.take k)) now (a + k) (p.drop k) ho (by omega)
      refine ⟨i1, i2, i3, i4, fun i => ?_⟩
      rw [i5, wr1_V h now a _ (by omega), hkl, hdl]
      by_cases c1 : a + k ≤ i ∧ i < a + k + (p.length - k)
      · rw [if_pos c1, if_pos (by omega)]
        rw [List.getD_eq_getElem?_getD, List.getElem?_drop, List.getD_eq_getElem?_getD, show k + (i - (a + k)) = i - a by omega]
      · rw [if_neg c1]
        by_cases c2 : a ≤ i ∧ i < a + k
        · rw [if_pos c2, if_pos (by omega), List.getD_eq_getElem?_getD, List.getElem?_take, if_pos (by omega), List.getD_eq_getElem?_getD]
        · rw [if_neg c2, if_neg (by omega)]
theorem put_V {t : TR} (h : t.Ok) (now : List Int) (a : Nat) (p : List Int) : (t.put now a p).Ok ∧ (t.put now a p).fresh = t.fresh ∧ (t.put now a p).over = t.over ∧ (t.put now a p).cap = t.cap ∧ ∀ i, (t.put now a p).V now i = if a ≤ i ∧ i < a + p.length then p.getD (i - a) 0 else t.V now i := putF_V _ t now a p h (Nat.le_refl _)
theorem TR.rd_get (t : TR) (now : List Int) (a n i : Nat) (h : i < n) : (t.rd now a n).getD i 0 = t.V now (a + i) := by
  unfold TR.rd
  rw [List.getD_eq_getElem?_getD, List.getElem?_map, List.getElem?_range h]
  rfl
theorem rd_congr {t t' : TR} {now now' : List Int} {a n : Nat} (h : ∀ i, i < n → t.V now (a + i) = t'.V now' (a + i)) : t.rd now a n = t'.rd now' a n := by
  unfold TR.rd
  exact List.map_congr_left (fun i hi => h i (List.mem_range.1 hi))
/-- What is put is read. -/
theorem put_rd {t : TR} (h : t.Ok) (now : List Int) (a : Nat) (p : List Int) : (t.put now a p).rd now a p.length = p := by
  refine ext_getD (by rw [TR.rd_length]) (fun i hi => ?_)
  rw [TR.rd_length] at hi
  rw [TR.rd_get _ _ _ _ _ hi, (put_V h now a p).2.2.2.2, if_pos ⟨by omega, by omega⟩, show a + i - a = i by omega]
/-- All bytes are bytes. -/
def TR.B (t : TR) (now : List Int) : Prop := ∀ i, 0 ≤ t.V now i ∧ t.V now i < 256
theorem TR.B.rd {t : TR} {now : List Int} (h : t.B now) (a n : Nat) : B8 (t.rd now a n) := by
  intro x hx
  unfold TR.rd at hx
  rw [List.mem_map] at hx
  obtain ⟨i, -, rfl⟩ := hx
  exact h _
theorem TR.B.put {t : TR} {now : List Int} (h : t.B now) (ho : t.Ok) (a : Nat) {p : List Int} (hp : B8 p) : (t.put now a p).B now := by
  intro i
  rw [(put_V ho now a p).2.2.2.2]
  split
  · exact hp.getD _
  · exact h i
theorem zero_V (now : List Int) (i : Nat) : TR.zero.V now i = now.getD i 0 := by
  unfold TR.V TR.sec
  show (secF now ((i / 512 : Nat) : Int)).getD (i % 512) 0 = _
  unfold secF padS
  have e : (512 * ((i / 512 : Nat) : Int)).toNat = 512 * (i / 512) := by omega
  rw [e]
  by_cases h : i % 512 < ((now.drop (512 * (i / 512))).take 512).length
  · rw [List.getD_eq_getElem?_getD, List.getElem?_append_left h, List.getElem?_take, if_pos (by omega), List.getElem?_drop, List.getD_eq_getElem?_getD, show 512 * (i / 512) + i % 512 = i by omega]
  · rw [List.getD_eq_getElem?_getD, List.getElem?_append_right (by omega), List.getElem?_replicate]
    rw [List.length_take, List.length_drop] at h
    rw [getD_of_le (l := now) (by omega)]
    split <;> rfl
end Go.Proofs.Ytcfmlnddmpiemaa.Sx


set_option maxRecDepth 10000
namespace Go.Proofs.Ytcfmlnddmpiemaa.Sx
open Go.RowKit Go.Proofs.Ytcfmlnddmpiemaa.Sx.Tb
/-! ### Fresh -/
def TR.lay1 (t : TR) (r : RecR) (n : Int) : TR := match lkS n t.dirty with
  | some l => { t with dirty := upS n (layR (n * 512) l r) t.dirty }
  | none => t
def TR.layN : Nat → TR → RecR → Nat → TR
  | 0, t, _, _ => t
  | k + 1, t, r, n => TR.layN k (t.lay1 r (n : Int)) r (n + 1)
def TR.addF (t : TR) (r : RecR) (c : Nat) : TR := { t with fresh := t.fresh ++ [r], cap := c }
def TR.freshT (t : TR) (a : Nat) (p : List Int) (c : Nat) : TR := TR.layN ((p.length + 511) / 512) (t.addF ((a : Int), p) c) ((a : Int), p) (a / 512)
/-- The same five, the row of fresh ones under a new number. -/
def tmv (t : TR) (j : JR) (s : DF) : List Chunk := [t.c0 3 1 5, t.c1, .dead, j.blk 4, s.pk, t.c2]
theorem c2_le {H : List Chunk} {fz : List Nat} {f : Nat → Nat} {ph : Nat → Bool} {t : TR} {c : Nat} (h : nth H c = some t.c2) (hz : memN c fz = false) : (t.c2).le H fz f ph c := by
  unfold Chunk.le TR.c2
  simp only
  rw [nth_lt h, hz, h]
  exact ⟨VC.mk ⟨rfl, rfl⟩, VC.mk ⟨rfl, Nat.le_refl _⟩, fun j _ => recs_les _⟩
theorem TR.lay1_ok {t : TR} (h : t.Ok) (r : RecR) (n : Int) (hn : 0 ≤ n) : (t.lay1 r n).Ok ∧ (t.lay1 r n).fresh = t.fresh ∧ (t.lay1 r n).over = t.over ∧ (t.lay1 r n).cap = t.cap := by
  unfold TR.lay1
  cases hq : lkS n t.dirty with
  | none => exact ⟨h, rfl, rfl, rfl⟩
  | some l =>
    refine ⟨⟨?_, h.frs, h.cap, h.len⟩, rfl, rfl, rfl⟩
    show ∀ x ∈ upS _ _ _, _
    exact upS_len (layR_length _ _ _ (h.sec _ (lkS_mem hq)) (by omega)) _ h.sec
theorem M6.good {t : TR} {j : JR} {s : DF} {v : AV} (h : v.noF) : Good 5 v (tmv t j s) := by
  refine ⟨h, fun c hc => ?_, Nat.le_of_ble_eq_true rfl⟩
  simp [tmv] at hc
  rcases hc with rfl | rfl | rfl | rfl | rfl | rfl
  · exact .blk ⟨trivial, trivial, trivial, trivial, trivial⟩
  · exact .mp (arr_noF t.dirty)
  · exact .dead
  · exact j.noF _
  · exact s.pk_noF
  · exact .blk (recsC_noF _)
end Go.Proofs.Ytcfmlnddmpiemaa.Sx


set_option maxRecDepth 10000
namespace Go.Proofs.Ytcfmlnddmpiemaa.Sx
open Go.RowKit Go.Proofs.Ytcfmlnddmpiemaa.Sx.Tb
theorem sort_K : ConOk Go.Proofs.Try.prog 93 (sortC 2) :=
  sort_conOk 2 ⟨_, Go.Proofs.Try.func93, by decide +kernel, by kernel_rfl⟩ (fun blk cap zs w h1 h2 h3 => AnyG.slices_Sort_int Sx.sortI64 blk 0 cap zs w h1 h2 h3) (fun p cap w => AnyG.slices_Sort_int_none Sx.sortI64 p cap w)
theorem sort_at {avs : List AV} {H : List Chunk} {k : K} (l : List Int) (c : Nat) (i : Nat) (h0 : l.length < 4611686018427387904) (hc : nth H i = some (.blk 2 (.ints .i64 l) c)) (ha : argsM H [i] [.s 0 0 1 l.length c] avs)
    (h : ∀ r, r = l.mergeSort (fun a b => decide (a ≤ b)) → k (.tup []) (H.set i (.blk 2 (.ints .i64 r) c))) : CallP Go.Proofs.Try.prog 93 avs H k :=
  CallP.mk ⟨_, sort_K.real, Con.spec sort_K, (l, c), [i], ⟨h0, rfl, ⟨hc, trivial⟩, ha⟩, fun r hr => (numK_eq H.length (fun N => k (AV.ren (fren [i] N) (.tup [])) (putAll H [i] [Chunk.ren (fren [i] N) (.blk 2 (.ints .i64 r) c)]))).mpr (by simpa [putAll, AV.ren, rens, Chunk.ren, Cont.ren] using h r hr)⟩
#print axioms sort_K
end Go.Proofs.Ytcfmlnddmpiemaa.Sx


set_option maxRecDepth 10000
namespace Go.Proofs.Ytcfmlnddmpiemaa.Sx
open Go.RowKit Go.Proofs.Ytcfmlnddmpiemaa.Sx.Tb
/-! ### A tx's records -/
def rowsR (rr : List RecR) (dc : Nat) (i : Nat) : List AV := if i + 1 = rr.length then [.v (.int .i64 (rr.getD i (0, [])).1), .s 6 0 1 (rr.getD i (0, [])).2.length dc] else recAV true (rr.getD i (0, []))
def snocD (acc : List RecR) (x : List Int) : List RecR := acc.set (acc.length - 1) ((acc.getD (acc.length - 1) (0, [])).1, (acc.getD (acc.length - 1) (0, [])).2 ++ x)
def bldS (d : List (Int × List Int)) (ks : List Int) (acc : List RecR) (i : Nat) : List RecR :=
  if 0 < i ∧ ks.getD (i - 1) 0 = ks.getD i 0 - 1 then snocD acc ((lkS (ks.getD i 0) d).getD []) else acc ++ [(ks.getD i 0 * 512, (lkS (ks.getD i 0) d).getD [])]
def bldR (d : List (Int × List Int)) (ks : List Int) (m : Nat) : List RecR := (List.range m).foldl (bldS d ks) []
def RecRel (t : TR) (r : List RecR) : Prop := ∃ ks : List Int, ks.Perm (t.dirty.map (fun x => x.1)) ∧ ks.Pairwise (· ≤ ·) ∧ r = bldR t.dirty ks ks.length
def keyF (s : List Nat) (d : List (Int × List Int)) (b : Nat) : Int := (d.getD (s.idxOf b) (0, [])).1
theorem lkS_of_mem {n : Int} : ∀ {d : List (Int × List Int)}, n ∈ d.map (fun x => x.1) → ∃ l, lkS n d = some l
  | [], h => absurd h List.not_mem_nil
  | (a, v) :: r, h => by
    unfold lkS
    by_cases e : a = n
    · exact ⟨v, by rw [if_pos e]⟩
    · rw [if_neg e]
      refine lkS_of_mem (d := r) ?_
      rcases List.mem_cons.1 h with h | h
      · exact absurd h.symm e
      · exact h
theorem sub_len : ∀ {l s : List Nat}, l.Nodup → (∀ b ∈ l, b ∈ s) → l.length ≤ s.length
  | [], _, _, _ => Nat.zero_le _
  | a :: l, s, hn, h => by
    have hc := List.nodup_cons.1 hn
    have ha := h a (List.mem_cons_self ..)
    have i : l.length ≤ (s.erase a).length := sub_len hc.2 (fun b hb => (List.mem_erase_of_ne (fun e => hc.1 (by rw [← e]; exact hb))).2 (h b (List.mem_cons_of_mem _ hb)))
    rw [List.length_erase_of_mem ha] at i
    have : 0 < s.length := List.length_pos_of_mem ha
    simp only [List.length_cons]
    omega
theorem nodup_perm {l s : List Nat} (h1 : l.Nodup) (h2 : s.Nodup) (h : ∀ b, b ∈ l ↔ b ∈ s) : l.Perm s := by
  rw [List.perm_iff_count]
  intro a
  by_cases ha : a ∈ l
  · rw [h1.count, h2.count, if_pos ha, if_pos ((h a).1 ha)]
  · rw [List.count_eq_zero.2 ha, List.count_eq_zero.2 (fun q => ha ((h a).2 q))]
theorem keys_eq {sq : List Nat} {d : List (Int × List Int)} (hl : sq.length = d.length) (hn : sq.Nodup) : sq.map (keyF sq d) = d.map (fun x => x.1) := by
  apply List.ext_getElem (by simp [hl])
  intro i h1 h2
  have hi : i < sq.length := by simpa using h1
  rw [List.getElem_map, List.getElem_map]
  unfold keyF
  rw [hn.idxOf_getElem i hi, List.getD_eq_getElem?_getD, List.getElem?_eq_getElem (by omega)]
  rfl
theorem T5.leS {H : List Chunk} {fz : List Nat} {f : Nat → Nat} {ph : Nat → Bool} {t : TR} {j : JR} {s : DF} {st : List Nat × Nat} {a b c d e : Nat} {σ : List Nat} {cs : List Chunk} (f1 : f 1 = b) (f2 : f 2 = c) (f3 : f 3 = d) (f4 : f 4 = e) (h0 : nth H a = some (t.c0 d b c)) (h1 : nth H b = some (.mp (t.dirty.map (fun x => (x.1, AV.arr .u8 x.2))) (some st))) (h2 : nth H c = some t.c2) (h3 : nth H d = some (j.blk e)) (h4 : nth H e = some s.pk) (hz : memN a fz = false ∧ memN b fz = false ∧ memN c fz = false ∧ memN d fz = false ∧ memN e fz = false) (hx : chunksLe H fz f ph σ cs) : chunksLe H fz f ph (a :: b :: c :: d :: e :: σ) ([t.c0 3 1 2, .mp (t.dirty.map (fun x => (x.1, AV.arr .u8 x.2))) (some st), t.c2, j.blk 4, s.pk] ++ cs) := by
  refine ⟨?_, ?_, c2_le h2 hz.2.2.1, ?_, ?_, hx⟩
  · unfold Chunk.le TR.c0
    simp only
    rw [nth_lt h0, hz.1, h0]
    exact ⟨VC.mk ⟨rfl, rfl⟩, VC.mk ⟨f3, rfl, rfl, rfl⟩, VC.mk f1, VC.mk ⟨f2, rfl, rfl, rfl, rfl⟩, VC.mk rfl, trivial⟩
  · unfold Chunk.le
    simp only
    rw [nth_lt h1, hz.2.1, h1]
    exact ⟨VC.mk ⟨rfl, .inr rfl⟩, arr_les t.dirty⟩
  · unfold Chunk.le JR.blk
    simp only
    rw [nth_lt h3, hz.2.2.2.1, h3]
    exact ⟨VC.mk ⟨rfl, rfl⟩, VC.mk ⟨f4, rfl, rfl, rfl⟩, VC.mk rfl, VC.mk rfl, VC.mk rfl, trivial⟩
  · unfold Chunk.le DF.pk
    simp only
    rw [nth_lt h4, hz.2.2.2.2, h4]
    exact VC.mk ⟨rfl, rfl, rfl, rfl⟩
/-- From a map that is gone through back to a map. -/
theorem T5.leU {H : List Chunk} {fz : List Nat} {f : Nat → Nat} {ph : Nat → Bool} {t : TR} {j : JR} {s : DF} {st : Option (List Nat × Nat)} {a b c d e : Nat} {σ : List Nat} {cs : List Chunk} (f1 : f 1 = b) (f2 : f 2 = c) (f3 : f 3 = d) (f4 : f 4 = e) (h0 : nth H a = some (t.c0 d b c)) (h1 : nth H b = some (.mp (t.dirty.map (fun x => (x.1, AV.arr .u8 x.2))) st)) (h2 : nth H c = some t.c2) (h3 : nth H d = some (j.blk e)) (h4 : nth H e = some s.pk) (hz : memN a fz = false ∧ memN b fz = false ∧ memN c fz = false ∧ memN d fz = false ∧ memN e fz = false) (hx : chunksLe H fz f ph σ cs) : chunksLe H fz f ph (a :: b :: c :: d :: e :: σ) (tpre t j s ++ cs) := by
  refine ⟨?_, ?_, c2_le h2 hz.2.2.1, ?_, ?_, hx⟩
  · unfold Chunk.le TR.c0
    simp only
    rw [nth_lt h0, hz.1, h0]
    exact ⟨VC.mk ⟨rfl, rfl⟩, VC.mk ⟨f3, rfl, rfl, rfl⟩, VC.mk f1, VC.mk ⟨f2, rfl, rfl, rfl, rfl⟩, VC.mk rfl, trivial⟩
  · unfold Chunk.le TR.c1
    simp only
    rw [nth_lt h1, hz.2.1, h1]
    exact ⟨VC.mk ⟨rfl, .inl trivial⟩, arr_les t.dirty⟩
  · unfold Chunk.le JR.blk
    simp only
    rw [nth_lt h3, hz.2.2.2.1, h3]
    exact ⟨VC.mk ⟨rfl, rfl⟩, VC.mk ⟨f4, rfl, rfl, rfl⟩, VC.mk rfl, VC.mk rfl, VC.mk rfl, trivial⟩
  · unfold Chunk.le DF.pk
    simp only
    rw [nth_lt h4, hz.2.2.2.2, h4]
    exact VC.mk ⟨rfl, rfl, rfl, rfl⟩
set_option maxHeartbeats 16000000 in
theorem trecs_c (t : TR) (j : JR) (s : DF) (k : K) (h0 : t.Ok ∧ t.dirty.length ≤ 1073741824 ∧ ∀ q ∈ t.dirty, 0 ≤ q.1 ∧ q.1 ≤ 1073741824) (hk : ∀ r : List RecR, RecRel t r → k (.im true 2 r.length (recsC true r)) (tpre t j s)) : evFunc tab [] p66 Go.Proofs.Try.f66 [.p 0 0 1 0] (tpre t j s) k := by
  obtain ⟨h1, h2, hkb⟩ := h0
  repeat' (first
    | (with_reducible first | exact True.intro | apply And.intro | apply If_true | apply If_false | apply If_not)
    | ((with_reducible apply VC.mk); exact vt)
    | ((with_reducible apply If_dec) <;> intro hc <;> (try (exfalso; omega)))
    | ((with_reducible apply If_any) <;> intro hc)
    | ((with_reducible first | apply PF.mk | apply DrawP.mk); (focus kernel_rfl))
    | ((with_reducible apply Same.mk); (focus rfl); (first | exact trivial | exact rfl))
    | (intro cap hcap)
    | ((fail_if_success (with_reducible apply st)); conv => whnf))
  refine RangeP.mk (fun sq c sl sn sc => ?_)
  have sl : sq.length = t.dirty.length := by simpa using sl
  repeat' (first
    | (with_reducible first | exact True.intro | apply And.intro | apply If_true | apply If_false | apply If_not)
    | ((with_reducible apply VC.mk); exact vt)
    | ((with_reducible apply If_dec) <;> intro hc <;> (try (exfalso; omega)))
    | ((with_reducible apply If_any) <;> intro hc)
    | ((with_reducible first | apply PF.mk | apply DrawP.mk); (focus kernel_rfl))
    | ((with_reducible apply Same.mk); (focus rfl); (first | exact trivial | exact rfl))
    | (intro cap hcap)
    | ((fail_if_success (with_reducible apply st)); conv => whnf))
  refine LoopP.mk ⟨List Nat × Nat × List Int, fun y => y.1.Nodup ∧ (∀ b ∈ y.1, b ∈ sq) ∧ y.2.2 = y.1.map (keyF sq t.dirty), fun y => ([(0, .p 0 0 1 0), (3, .s 6 0 1 y.2.2.length y.2.1), (13, .p 5 0 1 0)], [t.c0 3 1 2, .mp (t.dirty.map (fun x => (x.1, AV.arr .u8 x.2))) (some (sq, c)), t.c2, j.blk 4, s.pk] ++ [.it 1 c c y.1, .blk 2 (.ints .i64 y.2.2) y.2.1]), fun y => sq.length - y.1.length, ([], 0, []), ⟨List.nodup_nil, fun b hb => absurd hb List.not_mem_nil, rfl⟩, Fit.ren [0, 1, 2, 3, 4, 5, 6] [] rfl rfl trivial ?_ ?_, ?_⟩
  · refine T5.leS rfl rfl rfl rfl rfl rfl rfl rfl rfl ⟨rfl, rfl, rfl, rfl, rfl⟩ ⟨VC.mk ⟨rfl, rfl, rfl, rfl⟩, ?_, trivial⟩
    exact ⟨VC.mk rfl, VC.mk rfl⟩
  · repeat' (first
    | (with_reducible first | exact True.intro | apply And.intro | apply If_true | apply If_false | apply If_not)
    | ((with_reducible apply VC.mk); exact vt)
    | ((with_reducible apply If_dec) <;> intro hc <;> (try (exfalso; omega)))
    | ((with_reducible apply If_any) <;> intro hc)
    | ((with_reducible first | apply PF.mk | apply DrawP.mk); (focus kernel_rfl))
    | ((with_reducible apply Same.mk); (focus rfl); (first | exact trivial | exact rfl))
    | (intro cap hcap)
    | ((fail_if_success (with_reducible apply st)); conv => whnf))
  · intro y hy
    obtain ⟨g1, g2, g3⟩ := hy
    have gl : y.2.2.length = y.1.length := by rw [g3, List.length_map]
    have gle : y.1.length ≤ sq.length := sub_len g1 g2
    repeat' (first
    | (with_reducible first | exact True.intro | apply And.intro | apply If_true | apply If_false | apply If_not)
    | ((with_reducible apply VC.mk); exact vt)
    | ((with_reducible apply If_dec) <;> intro hc <;> (try (exfalso; omega)))
    | ((with_reducible apply If_any) <;> intro hc)
    | ((with_reducible first | apply PF.mk | apply DrawP.mk); (focus kernel_rfl))
    | ((with_reducible apply Same.mk); (focus rfl); (first | exact trivial | exact rfl))
    | (intro cap hcap)
    | ((fail_if_success (with_reducible apply st)); conv => whnf))
    refine NextP.mk (fun b hb hnb => ?_) (fun hall => ?_)
    · have glt : y.1.length < sq.length := by
        have : (b :: y.1).length ≤ sq.length := sub_len (List.nodup_cons.2 ⟨hnb, g1⟩) (fun q hq => by rcases List.mem_cons.1 hq with rfl | hq; exact hb; exact g2 q hq)
        rw [List.length_cons] at this
        omega
      repeat' (first
    | (with_reducible first | exact True.intro | apply And.intro | apply If_true | apply If_false | apply If_not)
    | ((with_reducible apply VC.mk); exact vt)
    | ((with_reducible apply If_dec) <;> intro hc <;> (try (exfalso; omega)))
    | ((with_reducible apply If_any) <;> intro hc)
    | ((with_reducible first | apply PF.mk | apply DrawP.mk); (focus kernel_rfl))
    | ((with_reducible apply Same.mk); (focus rfl); (first | exact trivial | exact rfl))
    | (intro cap hcap)
    | ((fail_if_success (with_reducible apply st)); conv => whnf))
      refine EntryP.mk ⟨b, by simp, hb⟩ (fun q b' ka v e1 e2 e3 => ?_)
      have hbb : b = b' := by simpa using e1
      subst hbb
      have hka : ka = keyF sq t.dirty b := by
        rw [List.getElem?_map] at e3
        unfold keyF
        have hq : q < sq.length := (List.getElem?_eq_some_iff.1 e2).1
        have hi : sq.idxOf b = q := by
          have := sn.idxOf_getElem q hq
          rw [(List.getElem?_eq_some_iff.1 e2).2] at this
          exact this
        rw [hi, List.getD_eq_getElem?_getD]
        cases hdq : t.dirty[q]? with
        | none => rw [hdq] at e3; cases e3
        | some z => rw [hdq] at e3; cases e3; rfl
      repeat' (first
    | (with_reducible first | exact True.intro | apply And.intro | apply If_true | apply If_false | apply If_not)
    | ((with_reducible apply VC.mk); exact vt)
    | ((with_reducible apply If_dec) <;> intro hc <;> (try (exfalso; omega)))
    | ((with_reducible apply If_any) <;> intro hc)
    | ((with_reducible first | apply PF.mk | apply DrawP.mk); (focus kernel_rfl))
    | ((with_reducible apply Same.mk); (focus rfl); (first | exact trivial | exact rfl))
    | (intro cap hcap)
    | ((fail_if_success (with_reducible apply st)); conv => whnf))
      refine Round.mk ⟨(y.1 ++ [b], cap, y.2.2 ++ [ka]), ⟨?_, ?_, ?_⟩, by show sq.length - (y.1 ++ [b]).length < sq.length - y.1.length; rw [List.length_append]; simp only [List.length_cons, List.length_nil]; omega, Fit.ren [0, 1, 2, 3, 4, 5, 8] [] rfl rfl trivial (T5.leS rfl rfl rfl rfl rfl rfl rfl rfl rfl ⟨rfl, rfl, rfl, rfl, rfl⟩ ⟨VC.mk ⟨rfl, rfl, rfl, rfl⟩, ?_, trivial⟩) ?_⟩
      · show (y.1 ++ [b]).Nodup
        rw [List.nodup_append]
        exact ⟨g1, by simp, fun a ha q hq => by simp at hq; subst hq; exact fun e => hnb (e ▸ ha)⟩
      · intro q hq
        rcases List.mem_append.1 hq with hq | hq
        · exact g2 q hq
        · simp at hq; subst hq; exact hb
      · show y.2.2 ++ [ka] = _
        rw [g3, hka, List.map_append]; rfl
      · exact ⟨VC.mk ⟨rfl, Nat.mul_one _⟩, VC.mk ⟨rfl, List.prefix_refl _⟩⟩
      · repeat' (first
    | (with_reducible first | exact True.intro | apply And.intro | apply If_true | apply If_false | apply If_not)
    | ((with_reducible apply VC.mk); exact vt)
    | ((with_reducible apply If_dec) <;> intro hc <;> (try (exfalso; omega)))
    | ((with_reducible apply If_any) <;> intro hc)
    | ((with_reducible first | apply PF.mk | apply DrawP.mk); (focus kernel_rfl))
    | ((with_reducible apply Same.mk); (focus rfl); (first | exact trivial | exact rfl))
    | (intro cap hcap)
    | ((fail_if_success (with_reducible apply st)); conv => whnf))
    · repeat' (first
    | (with_reducible first | exact True.intro | apply And.intro | apply If_true | apply If_false | apply If_not)
    | ((with_reducible apply VC.mk); exact vt)
    | ((with_reducible apply If_dec) <;> intro hc <;> (try (exfalso; omega)))
    | ((with_reducible apply If_any) <;> intro hc)
    | ((with_reducible first | apply PF.mk | apply DrawP.mk); (focus kernel_rfl))
    | ((with_reducible apply Same.mk); (focus rfl); (first | exact trivial | exact rfl))
    | (intro cap hcap)
    | ((fail_if_success (with_reducible apply st)); conv => whnf))
      have hp : y.2.2.Perm (t.dirty.map (fun x => x.1)) := by
        rw [g3, ← keys_eq sl sn]
        exact List.Perm.map _ (nodup_perm g1 sn (fun b => ⟨g2 b, hall b⟩))
      refine sort_at y.2.2 y.2.1 6 (by omega) rfl ⟨rfl, trivial⟩ ?_
      intro ks hks
      have hkl : ks.length = y.2.2.length := by rw [hks]; exact List.length_mergeSort ..
      have hk1 : ks.Perm (t.dirty.map (fun x => x.1)) := by rw [hks]; exact (List.mergeSort_perm _ _).trans hp
      have hk2 : ks.Pairwise (· ≤ ·) := by
        rw [hks]
        have := List.pairwise_mergeSort (le := fun a b : Int => decide (a ≤ b)) (fun a b c h1 h2 => by simp at *; omega) (fun a b => by simp; omega) y.2.2
        simpa using this
      have hkr := hk (bldR t.dirty ks ks.length) ⟨ks, hk1, hk2, rfl⟩
      rw [← hkl]
      repeat' (first
    | (with_reducible first | exact True.intro | apply And.intro | apply If_true | apply If_false | apply If_not)
    | ((with_reducible apply VC.mk); exact vt)
    | ((with_reducible apply If_dec) <;> intro hc <;> (try (exfalso; omega)))
    | ((with_reducible apply If_any) <;> intro hc)
    | ((with_reducible first | apply PF.mk | apply DrawP.mk); (focus kernel_rfl))
    | ((with_reducible apply Same.mk); (focus rfl); (first | exact trivial | exact rfl))
    | (intro cap hcap)
    | ((fail_if_success (with_reducible apply st)); conv => whnf))
      refine LoopP.mk ⟨Nat × Nat × Nat × List RecR, fun z => z.1 ≤ ks.length ∧ z.2.2.2 = bldR t.dirty ks z.1 ∧ z.2.2.2.length ≤ z.1 ∧ (0 < z.1 → 0 < z.2.2.2.length) ∧ (z.2.2.2.getD (z.2.2.2.length - 1) (0, [])).2.length ≤ 512 * z.1, fun z => ([(0, .p 0 0 1 0), (3, .im true 1 ks.length (.ints .i64 ks)), (5, .s 5 0 2 z.2.2.2.length z.2.1), (24, .im true 1 ks.length (.ints .i64 ks)), (25, .v (.int .i64 (ks.length : Int))), (26, .v (.int .i64 (z.1 : Int)))], tpre t j s ++ [.blk 138 (.recs 2 z.2.2.2.length (rowsR z.2.2.2 z.2.2.1)) (z.2.1 * 2), .blk 5 (.ints .u8 (z.2.2.2.getD (z.2.2.2.length - 1) (0, [])).2) z.2.2.1]), fun z => ks.length - z.1, (0, 0, 0, []), ⟨Nat.zero_le _, rfl, Nat.le_refl _, fun h => absurd h (Nat.lt_irrefl _), Nat.le_refl _⟩, Fit.ren [0, 1, 2, 3, 4, 7, 8] [6] rfl rfl ⟨trivial, trivial⟩ ?_ ?_, ?_⟩
      · refine T5.leU rfl rfl rfl rfl rfl rfl rfl rfl rfl ⟨rfl, rfl, rfl, rfl, rfl⟩ ⟨?_, ?_, trivial⟩
        · exact ⟨VC.mk rfl, VC.mk rfl⟩
        · exact ⟨VC.mk rfl, VC.mk rfl⟩
      · repeat' (first
    | (with_reducible first | exact True.intro | apply And.intro | apply If_true | apply If_false | apply If_not)
    | ((with_reducible apply VC.mk); exact vt)
    | ((with_reducible apply If_dec) <;> intro hc <;> (try (exfalso; omega)))
    | ((with_reducible apply If_any) <;> intro hc)
    | ((with_reducible first | apply PF.mk | apply DrawP.mk); (focus kernel_rfl))
    | ((with_reducible apply Same.mk); (focus rfl); (first | exact trivial | exact rfl))
    | (intro cap hcap)
    | ((fail_if_success (with_reducible apply st)); conv => whnf))
        all_goals exact VC.mk ⟨rfl, by simp [List.take_of_length_le, hkl]⟩
      · intro z hz
        obtain ⟨m1, m2, m3, m4, m5⟩ := hz
        have ez : ((z.1 : Nat) : Int).toNat = z.1 := Int.toNat_natCast _
        have kll : ks.length ≤ 1073741824 := by rw [hkl, gl]; omega
        repeat' (first
    | (with_reducible first | exact True.intro | apply And.intro | apply If_true | apply If_false | apply If_not)
    | ((with_reducible apply VC.mk); exact vt)
    | ((with_reducible apply If_dec) <;> intro hc <;> (try (exfalso; omega)))
    | ((with_reducible apply If_any) <;> intro hc)
    | ((with_reducible first | apply PF.mk | apply DrawP.mk); (focus kernel_rfl))
    | ((with_reducible apply Same.mk); (focus rfl); (first | exact trivial | exact rfl))
    | (intro cap hcap)
    | ((fail_if_success (with_reducible apply st)); conv => whnf))
        · refine LookP.mk (fun v hv => ?_) (fun hn => ?_)
          rotate_left
          · exfalso
            rw [lkm_map] at hn
            have hm : ks.getD z.1 0 ∈ t.dirty.map (fun x => x.1) := by
              refine hk1.subset ?_
              rw [show ks.getD z.1 0 = ks[z.1]'(by omega) by simp [List.getD_eq_getElem?_getD, show z.1 < ks.length by omega]]
              exact List.getElem_mem _
            obtain ⟨l, hl⟩ := lkS_of_mem hm
            rw [ez, hl] at hn
            cases hn
          rw [lkm_map] at hv
          obtain ⟨x, hx, rfl⟩ : ∃ x, lkS (ks.getD ((z.1 : Nat) : Int).toNat 0) t.dirty = some x ∧ AV.arr .u8 x = v := by
            cases hq : lkS (ks.getD ((z.1 : Nat) : Int).toNat 0) t.dirty with
            | none => rw [hq] at hv; cases hv
            | some x => rw [hq] at hv; exact ⟨x, rfl, by simpa using hv⟩
          have hxl : x.length = 512 := h1.sec _ (lkS_mem hx)
          obtain ⟨n, hn⟩ : ∃ n, n = ks.getD ((z.1 : Nat) : Int).toNat 0 := ⟨_, rfl⟩
          rw [← hn] at hx ⊢
          have hnb := hkb _ (lkS_mem hx)
          dsimp only at hnb
          obtain ⟨G, hGd⟩ : ∃ G, G = rowsR z.2.2.2 z.2.2.1 := ⟨_, rfl⟩
          rw [← hGd]
          by_cases hB : 0 < (z.1 : Int) ∧ ks.getD ((z.1 : Int) - 1).toNat 0 = n - 1
          · have hlen : 0 < z.2.2.2.length := m4 (by omega)
            have hidx : 0 + ((z.2.2.2.length : Int) - 1).toNat = z.2.2.2.length - 1 := by omega
            have hG : G (0 + ((z.2.2.2.length : Int) - 1).toNat) = [.v (.int .i64 (z.2.2.2.getD (z.2.2.2.length - 1) (0, [])).1), .s 6 0 1 (z.2.2.2.getD (z.2.2.2.length - 1) (0, [])).2.length z.2.2.1] := by
              rw [hidx, hGd]; unfold rowsR; rw [if_pos (by omega)]
            have hAt : (Cont.recs 2 z.2.2.2.length G).at (0 + ((z.2.2.2.length : Int) - 1).toNat) 2 (0 + 1) = some (0 + ((z.2.2.2.length : Int) - 1).toNat < z.2.2.2.length, .s 6 0 1 (z.2.2.2.getD (z.2.2.2.length - 1) (0, [])).2.length z.2.2.1) := by
              show (match nth (G (0 + ((z.2.2.2.length : Int) - 1).toNat)) 1 with | some x => some (0 + ((z.2.2.2.length : Int) - 1).toNat < z.2.2.2.length, x) | none => none) = _
              rw [hG]; rfl
            obtain ⟨la, hla⟩ : ∃ la, la = z.2.2.2.getD (z.2.2.2.length - 1) (0, []) := ⟨_, rfl⟩
            have hbl : bldR t.dirty ks (z.1 + 1) = snocD z.2.2.2 x := by
              unfold bldR
              rw [List.range_succ, List.foldl_append, m2]
              show bldS t.dirty ks (bldR t.dirty ks z.1) z.1 = _
              unfold bldS
              rw [ez] at hn
              have h2 := hB.2
              rw [show ((z.1 : Int) - 1).toNat = z.1 - 1 by omega] at h2
              rw [if_pos ⟨by omega, by rw [← hn]; exact h2⟩, ← hn, hx]
              rfl
            have sl1 : (snocD z.2.2.2 x).length = z.2.2.2.length := by unfold snocD; rw [List.length_set]
            have sla : (snocD z.2.2.2 x).getD (z.2.2.2.length - 1) (0, []) = (la.1, la.2 ++ x) := by
              unfold snocD
              rw [List.getD_eq_getElem?_getD, List.getElem?_set_self (by omega), ← hla]; rfl
            have slo : ∀ q, q + 1 ≠ z.2.2.2.length → (snocD z.2.2.2 x).getD q (0, []) = z.2.2.2.getD q (0, []) := by
              intro q hq
              unfold snocD
              rw [List.getD_eq_getElem?_getD, List.getElem?_set_ne (by omega), List.getD_eq_getElem?_getD]
            rw [← hla] at hG hAt m5 ⊢
            repeat' (first
    | (with_reducible first | exact True.intro | apply And.intro | apply If_true | apply If_false | apply If_not)
    | ((with_reducible apply VC.mk); exact vt)
    | ((with_reducible apply If_dec) <;> intro hc <;> (try (exfalso; omega)))
    | ((with_reducible apply If_any) <;> intro hc)
    | ((with_reducible first | apply PF.mk | apply DrawP.mk); (focus kernel_rfl))
    | ((with_reducible apply Same.mk); (focus rfl); (first | exact trivial | exact rfl))
    | (intro cap hcap)
    | (rw [hAt])
    | ((fail_if_success (with_reducible apply st)); conv => whnf))
            refine Round.mk ⟨(z.1 + 1, z.2.1, cap, snocD z.2.2.2 x), ⟨by show z.1 + 1 ≤ _; omega, hbl.symm, by show (snocD z.2.2.2 x).length ≤ z.1 + 1; omega, fun _ => by show 0 < (snocD z.2.2.2 x).length; omega, by
              show ((snocD z.2.2.2 x).getD ((snocD z.2.2.2 x).length - 1) (0, [])).2.length ≤ 512 * (z.1 + 1)
              rw [sl1, sla, List.length_append]; omega⟩, by show ks.length - (z.1 + 1) < ks.length - z.1; omega, Fit.ren [0, 1, 2, 3, 4, 5, 8] [] rfl rfl trivial (T5.leU rfl rfl rfl rfl rfl rfl rfl rfl rfl ⟨rfl, rfl, rfl, rfl, rfl⟩ ⟨⟨VC.mk ⟨rfl, rfl⟩, VC.mk ⟨rfl, ?_⟩, ?_⟩, ?_, trivial⟩) ?_⟩
            · show (snocD z.2.2.2 x).length ≤ _
              rw [sl1]; exact Nat.le_refl _
            · show ∀ q, q < (snocD z.2.2.2 x).length → les _ _ _ _ (rowsR (snocD z.2.2.2 x) cap q) _
              intro q hq
              by_cases hq3 : q + 1 = z.2.2.2.length
              · have hqi : q = 0 + ((z.2.2.2.length : Int) - 1).toNat := by omega
                simp only [if_pos hqi, hG]
                unfold rowsR
                rw [if_pos (by rw [sl1]; exact hq3), show q = z.2.2.2.length - 1 by omega, sla]
                exact ⟨VC.mk rfl, VC.mk ⟨rfl, rfl, rfl, by show la.2.length + (512 - Int.toNat 0) = (la.2 ++ x).length; rw [List.length_append, hxl]; rfl, rfl⟩, trivial⟩
              · have hqi : ¬ q = 0 + ((z.2.2.2.length : Int) - 1).toNat := by omega
                have e1 : rowsR (snocD z.2.2.2 x) cap q = recAV true (z.2.2.2.getD q (0, [])) := by
                  unfold rowsR; rw [if_neg (by rw [sl1]; exact hq3), slo q hq3]
                have e3 : G q = recAV true (z.2.2.2.getD q (0, [])) := by
                  rw [hGd]; unfold rowsR; rw [if_neg hq3]
                rw [e1]
                simp only [if_neg hqi]
                rw [e3]
                exact recs_les _
            · refine ⟨VC.mk ⟨rfl, Nat.mul_one _⟩, VC.mk ⟨rfl, ?_⟩⟩
              show ((snocD z.2.2.2 x).getD ((snocD z.2.2.2 x).length - 1) (0, [])).2 <+: _
              rw [sl1, sla]
              have e2 : List.take (512 - Int.toNat 0) (List.drop (Int.toNat 0) x) = x := by
                rw [show Int.toNat 0 = 0 from rfl, List.drop_zero]; exact List.take_of_length_le (by omega)
              rw [e2]
              exact List.prefix_refl _
            · repeat' (first
    | (with_reducible first | exact True.intro | apply And.intro | apply If_true | apply If_false | apply If_not)
    | ((with_reducible apply VC.mk); exact vt)
    | ((with_reducible apply If_dec) <;> intro hc <;> (try (exfalso; omega)))
    | ((with_reducible apply If_any) <;> intro hc)
    | ((with_reducible first | apply PF.mk | apply DrawP.mk); (focus kernel_rfl))
    | ((with_reducible apply Same.mk); (focus rfl); (first | exact trivial | exact rfl))
    | (intro cap hcap)
    | ((fail_if_success (with_reducible apply st)); conv => whnf))
              exact VC.mk ⟨rfl, rfl, rfl, sl1.symm, rfl⟩
          · have hbl : bldR t.dirty ks (z.1 + 1) = z.2.2.2 ++ [(n * 512, x)] := by
              unfold bldR
              rw [List.range_succ, List.foldl_append, m2]
              show bldS t.dirty ks (bldR t.dirty ks z.1) z.1 = _
              unfold bldS
              rw [ez] at hn
              rw [if_neg (by rw [← hn]; intro h; apply hB; refine ⟨by omega, ?_⟩; rw [show ((z.1 : Int) - 1).toNat = z.1 - 1 by omega]; exact h.2), ← hn, hx]
              rfl
            have lastB : (z.2.2.2 ++ [(n * 512, x)]).getD ((z.2.2.2 ++ [(n * 512, x)]).length - 1) (0, []) = (n * 512, x) := by
              rw [List.length_append, List.getD_eq_getElem?_getD, List.getElem?_append_right (by simp)]
              simp
            repeat' (first
    | (with_reducible first | exact True.intro | apply And.intro | apply If_true | apply If_false | apply If_not)
    | ((with_reducible apply VC.mk); exact vt)
    | ((with_reducible apply If_dec) <;> intro hc <;> (try (exfalso; omega)))
    | ((with_reducible apply If_any) <;> intro hc)
    | ((with_reducible first | apply PF.mk | apply DrawP.mk); (focus kernel_rfl))
    | ((with_reducible apply Same.mk); (focus rfl); (first | exact trivial | exact rfl))
    | (intro cap hcap)
    | ((fail_if_success (with_reducible apply st)); conv => whnf))
            all_goals rename_i dcap hdcap
            all_goals (
              refine Round.mk ⟨(z.1 + 1, cap, dcap, z.2.2.2 ++ [(n * 512, x)]), ⟨by show z.1 + 1 ≤ _; omega, hbl.symm, by show (z.2.2.2 ++ [(n * 512, x)]).length ≤ z.1 + 1; simp; omega, fun _ => by show 0 < (z.2.2.2 ++ [(n * 512, x)]).length; simp, by
              show ((z.2.2.2 ++ [(n * 512, x)]).getD ((z.2.2.2 ++ [(n * 512, x)]).length - 1) (0, [])).2.length ≤ 512 * (z.1 + 1)
              rw [lastB]; show x.length ≤ _; omega⟩, by show ks.length - (z.1 + 1) < ks.length - z.1; omega, Fit.ren [0, 1, 2, 3, 4, 10, 8] [6] rfl rfl ⟨trivial, trivial⟩ (T5.leU rfl rfl rfl rfl rfl rfl rfl rfl rfl ⟨rfl, rfl, rfl, rfl, rfl⟩ ⟨⟨VC.mk ⟨rfl, rfl⟩, VC.mk ⟨rfl, ?_⟩, ?_⟩, ?_, trivial⟩) ?_⟩
              · show (z.2.2.2 ++ [(n * 512, x)]).length ≤ _; simp
              · show ∀ q, q < (z.2.2.2 ++ [(n * 512, x)]).length → les _ _ _ _ (rowsR (z.2.2.2 ++ [(n * 512, x)]) dcap q) _
                intro q hq
                have hl2 : (z.2.2.2 ++ [(n * 512, x)]).length = z.2.2.2.length + 1 := by simp
                by_cases hq2 : q < z.2.2.2.length
                · have e1 : rowsR (z.2.2.2 ++ [(n * 512, x)]) dcap q = recAV true (z.2.2.2.getD q (0, [])) := by
                    unfold rowsR
                    rw [if_neg (by omega), List.getD_eq_getElem?_getD, List.getElem?_append_left hq2, ← List.getD_eq_getElem?_getD]
                  rw [e1]
                  simp only [if_pos hq2]
                  rw [hGd]
                  by_cases hq3 : q + 1 = z.2.2.2.length
                  · unfold rowsR
                    rw [if_pos hq3]
                    have eq4 : z.2.2.2.length - 1 = q := by omega
                    refine ⟨VC.mk rfl, ⟨VC.mk ⟨?_, rfl, rfl, rfl, Nat.one_pos⟩, VC.mk ⟨rfl, ?_⟩⟩, trivial⟩
                    · rw [eq4]; omega
                    · rw [eq4]; simp
                  · unfold rowsR
                    rw [if_neg hq3]
                    exact recs_les _
                · have hq4 : q = z.2.2.2.length := by omega
                  subst hq4
                  have e1 : rowsR (z.2.2.2 ++ [(n * 512, x)]) dcap z.2.2.2.length = [.v (.int .i64 (n * 512)), .s 6 0 1 x.length dcap] := by
                    unfold rowsR
                    rw [if_pos hl2.symm, List.getD_eq_getElem?_getD, List.getElem?_append_right (Nat.le_refl _)]
                    simp
                  rw [e1]
                  simp only [Nat.lt_irrefl, if_false]
                  exact ⟨VC.mk rfl, VC.mk ⟨rfl, rfl, rfl, by rw [hxl]; rfl, rfl⟩, trivial⟩
              · refine ⟨VC.mk ⟨rfl, Nat.mul_one _⟩, VC.mk ⟨rfl, ?_⟩⟩
                have e1 : (z.2.2.2 ++ [(n * 512, x)]).getD ((z.2.2.2 ++ [(n * 512, x)]).length - 1) (0, []) = (n * 512, x) := by
                  rw [List.length_append, List.getD_eq_getElem?_getD, List.getElem?_append_right (by simp)]
                  simp
                show ((z.2.2.2 ++ [(n * 512, x)]).getD ((z.2.2.2 ++ [(n * 512, x)]).length - 1) (0, [])).2 <+: _
                rw [e1]
                have e2 : List.take (512 - Int.toNat 0) (List.drop (Int.toNat 0) x) = x := by
                  rw [show Int.toNat 0 = 0 from rfl, List.drop_zero]; exact List.take_of_length_le (by omega)
                rw [e2]
                exact List.prefix_refl _
              · repeat' (first
    | (with_reducible first | exact True.intro | apply And.intro | apply If_true | apply If_false | apply If_not)
    | ((with_reducible apply VC.mk); exact vt)
    | ((with_reducible apply If_dec) <;> intro hc <;> (try (exfalso; omega)))
    | ((with_reducible apply If_any) <;> intro hc)
    | ((with_reducible first | apply PF.mk | apply DrawP.mk); (focus kernel_rfl))
    | ((with_reducible apply Same.mk); (focus rfl); (first | exact trivial | exact rfl))
    | (intro cap hcap)
    | ((fail_if_success (with_reducible apply st)); conv => whnf)))
        · rw [show z.1 = ks.length by omega] at m2
          rw [← m2] at hkr
          refine Fin.ren [0, 1, 2, 3, 4] [5, 6] (.im true 2 z.2.2.2.length (recsC true z.2.2.2)) (tpre t j s) rfl rfl ⟨trivial, trivial, trivial⟩ ?_ ⟨VC.mk ⟨?_, rfl, rfl, rfl, by decide⟩, VC.mk ⟨rfl, rfl⟩, fun q hq => ?_⟩ hkr
          · exact T5.leU (cs := []) rfl rfl rfl rfl rfl rfl rfl rfl rfl ⟨rfl, rfl, rfl, rfl, rfl⟩ trivial
          · omega
          · simp only [Nat.zero_add]
            unfold rowsR
            by_cases hq3 : q + 1 = z.2.2.2.length
            · rw [if_pos hq3]
              have eq4 : z.2.2.2.length - 1 = q := by omega
              refine ⟨VC.mk rfl, ⟨VC.mk ⟨?_, rfl, rfl, rfl, Nat.one_pos⟩, VC.mk ⟨rfl, ?_⟩⟩, trivial⟩
              · rw [eq4]; omega
              · rw [eq4]; simp
            · rw [if_neg hq3]
              exact recs_les _
theorem recsC_ren (rs : List RecR) (f : Nat → Nat) : (recsC true rs).ren f = recsC true rs := rfl
attribute [local simp] recsC_noF recsC_ren
def trecsOk (x : TR × JR × DF) : Prop := x.1.Ok ∧ x.1.dirty.length ≤ 1073741824 ∧ ∀ q ∈ x.1.dirty, 0 ≤ q.1 ∧ q.1 ≤ 1073741824
def trecsRel (x : TR × JR × DF) (r : List RecR) : Prop := RecRel x.1 r
theorem trecs_K : ConOk Go.Proofs.Try.prog 66 (Con.of (TR × JR × DF) (List RecR) (fun x => [.p 0 0 1 0]) (fun x => tpre x.1 x.2.1 x.2.2) trecsOk trecsRel (fun x r => .im true 2 r.length (recsC true r)) (fun x r => tpre (x.1) (x.2.1) (x.2.2))) := by
  refine conOk_rel (T := tab) mix Go.Proofs.Try.func66 (by decide +kernel) (by kernel_rfl) [] p66 (fun n => by rw [Go.Proofs.Try.ntmps66]; exact Nat.le_of_ble_eq_true rfl) (fun x r _ _ => T5.good (by simp [AV.noF, noFs, Cont.noF])) (fun x _ => T5.nd) ?_
  intro x k h0 hk
  exact trecs_c x.1 x.2.1 x.2.2 k h0 (fun r hr => hk r hr)
theorem trecs_at {avs : List AV} {H : List Chunk} {k : K} (t : TR) (j : JR) (s : DF) (ta tb tc td te : Nat) (h0 : t.Ok ∧ t.dirty.length ≤ 1073741824 ∧ ∀ q ∈ t.dirty, 0 ≤ q.1 ∧ q.1 ≤ 1073741824) (hn : nodupN [ta, tb, tc, td, te] = true) (ha0 : nth H ta = some (t.c0 td tb tc)) (hb0 : nth H tb = some t.c1) (hc0 : nth H tc = some t.c2) (hd0 : nth H td = some (j.blk te)) (he0 : nth H te = some s.pk) (ha : argsM H [ta, tb, tc, td, te] [.p 0 0 1 0] avs)
    (hQ : ∀ r : List RecR, (RecRel t r) → k (.im true 2 r.length (recsC true r)) (((((H.set ta (TR.c0 (t) td tb tc)).set tb (TR.c1 (t))).set tc (TR.c2 (t))).set td (JR.blk (j) te)).set te (DF.pk (s)))) : CallP Go.Proofs.Try.prog 66 avs H k :=
  CallP.mk ⟨_, trecs_K.real, Con.spec trecs_K, (t, j, s), [ta, tb, tc, td, te], ⟨h0, hn, ⟨ha0, hb0.trans (congrArg some (TR.c1_ren t _).symm), hc0, hd0, he0, trivial⟩, ha⟩, fun r hr => (numK_eq _ _).mpr (by simpa [tpre, putAll, TR.c0_ren, TR.c1_ren, TR.c2_ren, JR.blk_ren, DF.pk_ren, AV.ren, rens, Cont.ren, fren, nth] using hQ r hr)⟩
end Go.Proofs.Ytcfmlnddmpiemaa.Sx


set_option maxRecDepth 10000
namespace Go.Proofs.Ytcfmlnddmpiemaa.Sx
/-! ### A tx's records, plain: how many and how large -/
theorem encL_cons (r : RecR) (rs : List RecR) : (encL (r :: rs)).length = 12 + r.2.length + (encL rs).length := by
  show (enc1 r ++ encL rs).length = _
  rw [List.length_append, enc1_length]
theorem encL_set (x : List Int) : ∀ (acc : List RecR) (i : Nat), i < acc.length → (encL (acc.set i ((acc.getD i (0, [])).1, (acc.getD i (0, [])).2 ++ x))).length = (encL acc).length + x.length
  | [], i, h => absurd h (Nat.not_lt_zero _)
  | a :: rs, 0, h => by
    show (encL ((a.1, a.2 ++ x) :: rs)).length = _
    rw [encL_cons, encL_cons]
    show 12 + (a.2 ++ x).length + _ = _
    rw [List.length_append]
    omega
  | a :: rs, i + 1, h => by
    show (encL (a :: rs.set i ((rs.getD i (0, [])).1, (rs.getD i (0, [])).2 ++ x))).length = _
    rw [encL_cons, encL_cons, encL_set x rs i (by simpa using h)]
    omega
theorem encL_append (a b : List RecR) : (encL (a ++ b)).length = (encL a).length + (encL b).length := by
  unfold encL; rw [List.flatMap_append, List.length_append]
def RecB (B : Int) (m : Nat) (rs : List RecR) : Prop := rs.length ≤ m ∧ (encL rs).length ≤ 524 * m ∧ ∀ r ∈ rs, 0 ≤ r.1 ∧ r.1 ≤ B * 512 ∧ r.2.length ≤ 512 * m
theorem snocD_B {B : Int} {m : Nat} {rs : List RecR} (h : RecB B m rs) {x : List Int} (hx : x.length ≤ 512) : RecB B (m + 1) (snocD rs x) := by
  obtain ⟨h1, h2, h3⟩ := h
  unfold snocD
  by_cases h0 : rs.length = 0
  · have : rs = [] := List.eq_nil_of_length_eq_zero h0
    subst this
    exact ⟨Nat.zero_le _, Nat.zero_le _, fun r hr => absurd hr List.not_mem_nil⟩
  · refine ⟨by rw [List.length_set]; omega, by rw [encL_set x rs _ (by omega)]; omega, fun r hr => ?_⟩
    rcases List.mem_or_eq_of_mem_set hr with hr | rfl
    · have := h3 r hr; omega
    · have hm : rs.getD (rs.length - 1) (0, []) ∈ rs := by
        rw [show rs.getD (rs.length - 1) (0, []) = rs[rs.length - 1]'(by omega) by simp [List.getD_eq_getElem?_getD, show rs.length - 1 < rs.length by omega]]
        exact List.getElem_mem _
      have := h3 _ hm
      refine ⟨this.1, this.2.1, ?_⟩
      show ((rs.getD (rs.length - 1) (0, [])).2 ++ x).length ≤ _
      rw [List.length_append]; omega
theorem bldR_B {d : List (Int × List Int)} {ks : List Int} {B : Int} (hd : ∀ q ∈ d, q.2.length = 512) (hk : ∀ n ∈ ks, 0 ≤ n ∧ n ≤ B) : ∀ m, m ≤ ks.length → RecB B m (bldR d ks m)
  | 0, _ => ⟨Nat.le_refl _, Nat.le_refl _, fun r hr => absurd hr List.not_mem_nil⟩
  | m + 1, hm => by
    have ih := bldR_B hd hk m (by omega)
    have e : bldR d ks (m + 1) = bldS d ks (bldR d ks m) m := by
      unfold bldR; rw [List.range_succ, List.foldl_append]; rfl
    rw [e]
    have hx : ((lkS (ks.getD m 0) d).getD []).length ≤ 512 := by
      cases hq : lkS (ks.getD m 0) d with
      | none => exact Nat.zero_le _
      | some l => exact Nat.le_of_eq (hd _ (lkS_mem hq))
    have hn : 0 ≤ ks.getD m 0 ∧ ks.getD m 0 ≤ B := by
      refine hk _ ?_
      rw [show ks.getD m 0 = ks[m]'(by omega) by simp [List.getD_eq_getElem?_getD, show m < ks.length by omega]]
      exact List.getElem_mem _
    unfold bldS
    split
    · exact snocD_B ih hx
    · obtain ⟨h1, h2, h3⟩ := ih
      refine ⟨by rw [List.length_append]; simp; omega, ?_, fun r hr => ?_⟩
      · rw [encL_append, encL_cons]
        show (encL (bldR d ks m)).length + (12 + ((lkS (ks.getD m 0) d).getD []).length + 0) ≤ 524 * (m + 1)
        omega
      · rcases List.mem_append.1 hr with hr | hr
        · have := h3 r hr; omega
        · obtain rfl := List.mem_singleton.1 hr
          refine ⟨by show 0 ≤ ks.getD m 0 * 512; omega, by show ks.getD m 0 * 512 ≤ _; omega, by show ((lkS (ks.getD m 0) d).getD []).length ≤ 512 * (m + 1); omega⟩
theorem RecRel.B {t : TR} {r : List RecR} (h : RecRel t r) (ho : t.Ok) {B : Int} (hk : ∀ q ∈ t.dirty, 0 ≤ q.1 ∧ q.1 ≤ B) : RecB B t.dirty.length r := by
  obtain ⟨ks, h1, h2, rfl⟩ := h
  have hl : ks.length = t.dirty.length := by rw [h1.length_eq, List.length_map]
  rw [← hl]
  refine bldR_B ho.sec (fun n hn => ?_) _ (Nat.le_refl _)
  obtain ⟨q, hq, rfl⟩ := List.mem_map.1 (h1.subset hn)
  exact hk q hq
end Go.Proofs.Ytcfmlnddmpiemaa.Sx


set_option maxRecDepth 10000
namespace Go.Proofs.Ytcfmlnddmpiemaa.Sx
open Go.RowKit Go.Proofs.Ytcfmlnddmpiemaa.Sx.Tb
/-! ### Size -/
end Go.Proofs.Ytcfmlnddmpiemaa.Sx


set_option maxRecDepth 10000
namespace Go.Proofs.Ytcfmlnddmpiemaa.Sx
/-! ### Law 27, put together, plain -/
theorem endL_bound (M : Nat) : ∀ (rs : List RecR) (n : Nat), n ≤ M → (∀ r ∈ rs, r.1.toNat + r.2.length ≤ M) → endL rs n ≤ M
  | [], n, h, _ => h
  | r :: rs, n, h, hr => endL_bound M rs _ (by have := hr r (List.mem_cons_self ..); show max n (r.1.toNat + r.2.length) ≤ M; omega) (fun q hq => hr q (List.mem_cons_of_mem _ hq))
theorem comRel_ok {j : JR} {s : DF} {rs : List RecR} {r : Int × JR × DF} {n : Int} (h : comRel j s rs r) (hs : s.Ok n) (hz : j.size ≤ 4194304) : r.2.2.Ok (n + 5000000) ∧ (r.2.1 = j ∨ r.2.1 = j.next) := by
  rcases h with ⟨_, rfl⟩ | ⟨_, _, rfl⟩ | ⟨_, hl, x, hx, h⟩
  · exact ⟨hs.mono (by omega), .inl rfl⟩
  · exact ⟨hs.mono (by omega), .inl rfl⟩
  · have hxo : x.2.Ok (n + 4194306) := by
      rw [hx]
      refine (DF.run_ok _ hs).mono ?_
      simp only [cost, FOp.size]
      omega
    rcases h with ⟨_, rfl⟩ | ⟨_, sg, hsg, y, hy, rfl⟩
    · exact ⟨hxo.mono (by omega), .inl rfl⟩
    · refine ⟨?_, .inr rfl⟩
      show y.2.Ok _
      rw [hy]
      refine (DF.run_ok _ hxo).mono ?_
      have : sg.length = 512 := by rw [hsg]; exact signL_length _ _ _
      simp only [cost, FOp.size]
      omega
theorem replay_ok {j : JR} {s : DF} {z : List Int} {n : Int} (hs : s.Ok n) (h8 : B8 s.now) (hj : j.Ok) (hz : z.length = 512) : (s.replay j z).2.2.2.Ok (n + 5000000) ∧ (s.replay j z).2.2.1.Ok ∧ ∃ q, (s.replay j z).2.2.1 = { j with seq := q } := by
  obtain ⟨j1, j2, j3, j4, j5, j6⟩ := hj
  unfold DF.replay
  cases hq : (s.pend j).2.1 with
  | none => exact ⟨hs.ask.mono (by omega), ⟨j1, j2, j3, j4, j5, j6⟩, j.seq, rfl⟩
  | some ss =>
    obtain ⟨q1, q2, -, -⟩ := DF.pend_ok h8 hq
    have hb8 : B8 (j.part s) := (h8.drop _).take _
    obtain ⟨o1, o2, o3⟩ := pendB_ok hb8 q1
    have hpl : (j.part s).length ≤ 4194304 := by unfold JR.part; simp only [List.length_take, List.length_drop]; omega
    have hsq : 0 ≤ le8 (j.part s) 4 ∧ le8 (j.part s) 4 < 18446744073709551616 := leV_bound (hb8.drop _) 8
    refine ⟨?_, ?_, le8 (j.part s) 4, ?_⟩
    · show DF.Ok (s.asked.run (applyOps j z ss)).2 _
      refine (DF.run_ok _ hs.ask).mono ?_
      have := cost_wrs_le ss
      unfold applyOps
      rw [cost_append]
      simp only [cost, FOp.size]
      omega
    · show (s.pend j).2.2.Ok
      rw [q2]
      exact ⟨j1, j2, j3, j4, hsq.1, hsq.2⟩
    · show (s.pend j).2.2 = _
      rw [q2]
end Go.Proofs.Ytcfmlnddmpiemaa.Sx


set_option maxRecDepth 10000
namespace Go.Proofs.Ytcfmlnddmpiemaa.Sx
open Go.RowKit Go.Proofs.Ytcfmlnddmpiemaa.Sx.Tb
/-! ### Commit of changes -/
theorem snocD_B8 {rs : List RecR} (h : ∀ r ∈ rs, B8 r.2) {x : List Int} (hx : B8 x) : ∀ r ∈ snocD rs x, B8 r.2 := by
  intro r hr
  unfold snocD at hr
  rcases List.mem_or_eq_of_mem_set hr with hr | rfl
  · exact h r hr
  · refine B8.append ?_ hx
    by_cases h0 : rs.length = 0
    · have : rs = [] := List.eq_nil_of_length_eq_zero h0
      subst this
      exact B8.nil
    · refine h _ ?_
      rw [show rs.getD (rs.length - 1) (0, []) = rs[rs.length - 1]'(by omega) by simp [List.getD_eq_getElem?_getD, show rs.length - 1 < rs.length by omega]]
      exact List.getElem_mem _
theorem bldR_B8 {d : List (Int × List Int)} (hd : ∀ q ∈ d, B8 q.2) (ks : List Int) : ∀ m, ∀ r ∈ bldR d ks m, B8 r.2
  | 0 => fun r hr => absurd hr List.not_mem_nil
  | m + 1 => by
    have ih := bldR_B8 hd ks m
    have e : bldR d ks (m + 1) = bldS d ks (bldR d ks m) m := by
      unfold bldR; rw [List.range_succ, List.foldl_append]; rfl
    rw [e]
    have hx : B8 ((lkS (ks.getD m 0) d).getD []) := by
      cases hq : lkS (ks.getD m 0) d with
      | none => exact B8.nil
      | some l => exact hd _ (lkS_mem hq)
    unfold bldS
    split
    · exact snocD_B8 ih hx
    · intro r hr
      rcases List.mem_append.1 hr with hr | hr
      · exact ih r hr
      · obtain rfl := List.mem_singleton.1 hr
        exact hx
theorem RecRel.B8 {t : TR} {r : List RecR} (h : RecRel t r) (hd : ∀ q ∈ t.dirty, B8 q.2) : ∀ q ∈ r, B8 q.2 := by
  obtain ⟨ks, h1, h2, rfl⟩ := h
  exact bldR_B8 hd ks _
def TR.close (t : TR) : TR := { t with over := true }
def frOps (t : TR) : List FOp := wrs t.fresh ++ if t.fresh.length = 0 then [] else [.fl]
def tcomRel (t : TR) (j : JR) (s : DF) (z : List Int) (x : Int × TR × JR × DF) : Prop :=
  t.over = true ∧ x = (6, t, j, s) ∨
  t.over = false ∧ ∃ rs, RecRel t rs ∧ (
    j.size - 512 < (encL rs).length ∧ x = (15, t, j, s) ∨
    (encL rs).length ≤ j.size - 512 ∧ ∃ y, y = s.run (frOps t) ∧ (
      y.1 ≠ 0 ∧ x = (y.1, t.close, j, y.2) ∨
      y.1 = 0 ∧ rs.length = 0 ∧ x = (0, t.close, j, y.2) ∨
      y.1 = 0 ∧ rs.length ≠ 0 ∧ ∃ q, comRel j y.2 rs q ∧ (
        q.1 ≠ 0 ∧ x = (q.1, t.close, q.2.1, q.2.2) ∨
        q.1 = 0 ∧ ∃ u, u = q.2.2.run (wrs rs ++ [.fl, .wr q.2.1.pos z, .fl]) ∧ x = (u.1, t.close, q.2.1, u.2))))
set_option maxHeartbeats 16000000 in
theorem tcommit_c (t : TR) (j : JR) (s : DF) (n : Int) (z : List Int) (k : K) (h0 : t.Ok ∧ (t.dirty.length ≤ 1048576 ∧ ∀ q ∈ t.dirty, 0 ≤ q.1 ∧ q.1 ≤ 1048576 ∧ B8 q.2) ∧ cost (wrs t.fresh) ≤ 34359738368 ∧ j.Ok ∧ s.Ok n ∧ n ≤ 34359738368 ∧ z = List.replicate 512 0) (hk : ∀ x : Int × TR × JR × DF, tcomRel t j s z x → k (.v (.int .i64 x.1)) (tpre x.2.1 x.2.2.1 x.2.2.2)) : evFunc tab [] p18 Go.Proofs.Try.f18 [.p 0 0 1 0] (tpre t j s) k := by
  obtain ⟨h1, ⟨h2, h3⟩, h4, h5, h6, h7, hz⟩ := h0
  have h2b : t.dirty.length ≤ 1073741824 ∧ ∀ q ∈ t.dirty, 0 ≤ q.1 ∧ q.1 ≤ 1073741824 := ⟨by omega, fun q hq => ⟨(h3 q hq).1, by have := (h3 q hq).2.1; omega⟩⟩
  have hcf := cost_nonneg (wrs t.fresh)
  repeat' (first
    | (with_reducible first | exact True.intro | apply And.intro | apply If_true | apply If_false | apply If_not)
    | ((with_reducible apply VC.mk); exact vt)
    | ((with_reducible apply If_dec) <;> intro hc <;> (try (exfalso; omega)))
    | ((with_reducible apply If_any) <;> intro hc)
    | ((with_reducible first | apply PF.mk | apply DrawP.mk); (focus kernel_rfl))
    | ((with_reducible apply Same.mk); (focus rfl); (first | exact trivial | exact rfl))
    | (intro cap hcap)
    | ((fail_if_success (with_reducible apply st)); conv => whnf))
  · exact T5.fin rfl rfl rfl rfl rfl rfl (hk (6, t, j, s) (.inl ⟨hc, rfl⟩))
  have hov : t.over = false := by simpa using hc
  refine trecs_at t j s 0 1 2 3 4 ⟨h1, h2b⟩ rfl rfl rfl rfl rfl rfl ⟨rfl, trivial⟩ ?_
  intro rs hr
  obtain ⟨b1, b2, b3⟩ := hr.B h1 (fun q hq => ⟨(h3 q hq).1, (h3 q hq).2.1⟩)
  have hr8 := hr.B8 (fun q hq => (h3 q hq).2.2)
  have bl : (encL rs).length ≤ 549453824 := by omega
  have bn : rs.length ≤ 1048576 := by omega
  clear b2 b1
  repeat' (first
    | (with_reducible first | exact True.intro | apply And.intro | apply If_true | apply If_false | apply If_not)
    | ((with_reducible apply VC.mk); exact vt)
    | ((with_reducible apply If_dec) <;> intro hc <;> (try (exfalso; omega)))
    | ((with_reducible apply If_any) <;> intro hc)
    | ((with_reducible first | apply PF.mk | apply DrawP.mk); (focus kernel_rfl))
    | ((with_reducible apply Same.mk); (focus rfl); (first | exact trivial | exact rfl))
    | (intro cap hcap)
    | ((fail_if_success (with_reducible apply st)); conv => whnf))
  refine enc_at rs ⟨by omega, by omega, fun q hq => ?_⟩ ⟨⟨rfl, rfl, rfl, rfl, fun _ _ => rfl⟩, trivial⟩ ?_
  · have := b3 q hq
    exact ⟨this.1, by omega, by omega⟩
  intro body hbody
  have hbl : body.length = (encL rs).length := by rw [hbody]
  repeat' (first
    | (with_reducible first | exact True.intro | apply And.intro | apply If_true | apply If_false | apply If_not)
    | ((with_reducible apply VC.mk); exact vt)
    | ((with_reducible apply If_dec) <;> intro hc <;> (try (exfalso; omega)))
    | ((with_reducible apply If_any) <;> intro hc)
    | ((with_reducible first | apply PF.mk | apply DrawP.mk); (focus kernel_rfl))
    | ((with_reducible apply Same.mk); (focus rfl); (first | exact trivial | exact rfl))
    | (intro cap hcap)
    | ((fail_if_success (with_reducible apply st)); conv => whnf))
  refine room_at j s 3 4 h5 rfl rfl rfl ⟨rfl, trivial⟩ ?_
  intro _ _
  repeat' (first
    | (with_reducible first | exact True.intro | apply And.intro | apply If_true | apply If_false | apply If_not)
    | ((with_reducible apply VC.mk); exact vt)
    | ((with_reducible apply If_dec) <;> intro hc <;> (try (exfalso; omega)))
    | ((with_reducible apply If_any) <;> intro hc)
    | ((with_reducible first | apply PF.mk | apply DrawP.mk); (focus kernel_rfl))
    | ((with_reducible apply Same.mk); (focus rfl); (first | exact trivial | exact rfl))
    | (intro cap hcap)
    | ((fail_if_success (with_reducible apply st)); conv => whnf))
  · exact T5.fin rfl rfl rfl rfl rfl rfl (hk (15, t, j, s) (.inr ⟨hov, rs, hr, .inl ⟨by omega, rfl⟩⟩))
  have hfit : (encL rs).length ≤ j.size - 512 := by omega
  clear hbody hbl
  have put : ∀ x, (∃ y, y = s.run (frOps t) ∧ (y.1 ≠ 0 ∧ x = (y.1, t.close, j, y.2) ∨ y.1 = 0 ∧ rs.length = 0 ∧ x = (0, t.close, j, y.2) ∨ y.1 = 0 ∧ rs.length ≠ 0 ∧ ∃ q, comRel j y.2 rs q ∧ (q.1 ≠ 0 ∧ x = (q.1, t.close, q.2.1, q.2.2) ∨ q.1 = 0 ∧ ∃ u, u = q.2.2.run (wrs rs ++ [.fl, .wr q.2.1.pos z, .fl]) ∧ x = (u.1, t.close, q.2.1, u.2)))) → k (.v (.int .i64 x.1)) (tpre x.2.1 x.2.2.1 x.2.2.2) := fun x hx => hk x (.inr ⟨hov, rs, hr, .inr ⟨hfit, hx⟩⟩)
  clear hk
  refine LoopP.mk ⟨Nat × DF, fun y => y.1 ≤ t.fresh.length ∧ s.run (wrs (t.fresh.take y.1)) = (0, y.2), fun y => ([(0, .p 0 0 1 0), (3, .im true 2 rs.length (recsC true rs)), (34, .s 2 0 2 t.fresh.length t.cap), (35, .v (.int .i64 t.fresh.length)), (36, .v (.int .i64 (y.1 : Int)))], tpre t.close j y.2), fun y => t.fresh.length - y.1, (0, s), ⟨Nat.zero_le _, rfl⟩, Fit.ren [0, 1, 2, 3, 4] [] rfl rfl trivial (T5.leX (t := t.close) rfl rfl rfl rfl rfl rfl rfl rfl rfl rfl trivial) ?_, ?_⟩
  · repeat' (first
    | (with_reducible first | exact True.intro | apply And.intro | apply If_true | apply If_false | apply If_not)
    | ((with_reducible apply VC.mk); exact vt)
    | ((with_reducible apply If_dec) <;> intro hc <;> (try (exfalso; omega)))
    | ((with_reducible apply If_any) <;> intro hc)
    | ((with_reducible first | apply PF.mk | apply DrawP.mk); (focus kernel_rfl))
    | ((with_reducible apply Same.mk); (focus rfl); (first | exact trivial | exact rfl))
    | (intro cap hcap)
    | ((fail_if_success (with_reducible apply st)); conv => whnf))
  intro y hy
  obtain ⟨g1, g2⟩ := hy
  have e : ((y.1 : Nat) : Int).toNat = y.1 := Int.toNat_natCast _
  have o := DF.run_ok (wrs (t.fresh.take y.1)) h6
  rw [g2] at o
  have o1 := cost_take t.fresh y.1
  have o2 : y.2.Ok (n + cost (wrs (t.fresh.take y.1))) := o
  have hce1 : t.close.fresh.length = t.fresh.length := rfl
  have hce2 : t.close.cap = t.cap := rfl
  by_cases hlt : y.1 < t.fresh.length
  · have hm : t.fresh.getD y.1 (0, []) ∈ t.fresh := by
      rw [show t.fresh.getD y.1 (0, []) = t.fresh[y.1] by simp [List.getD_eq_getElem?_getD, hlt]]; exact List.getElem_mem hlt
    have hok := h1.frs _ hm
    have hcl := h1.len
    have hsn := wrs_snoc t.fresh y.1 hlt
    repeat' (first
    | (with_reducible first | exact True.intro | apply And.intro | apply If_true | apply If_false | apply If_not)
    | ((with_reducible apply VC.mk); exact vt)
    | ((with_reducible apply If_dec) <;> intro hc <;> (try (exfalso; omega)))
    | ((with_reducible apply If_any) <;> intro hc)
    | ((with_reducible first | apply PF.mk | apply DrawP.mk); (focus kernel_rfl))
    | ((with_reducible apply Same.mk); (focus rfl); (first | exact trivial | exact rfl))
    | (intro cap hcap)
    | ((fail_if_success (with_reducible apply st)); conv => whnf))
    have hce : t.close.fresh = t.fresh := rfl
    simp only [e, Nat.zero_add, hce]
    generalize t.fresh.getD y.1 (0, []) = r at *
    refine doWr_at y.2 (n + cost (wrs (t.fresh.take y.1))) r.1 r.2 4 ⟨o2, by omega⟩ (by omega) rfl ⟨rfl, rfl, ⟨rfl, rfl, rfl⟩, trivial⟩ ?_
    have e1 : s.run (wrs (t.fresh.take (y.1 + 1))) = y.2.doOp (.wr r.1 r.2) := by rw [hsn, DF.run_good g2, DF.run1]
    obtain ⟨x, hx⟩ : ∃ x, x = y.2.doOp (.wr r.1 r.2) := ⟨_, rfl⟩
    rw [← hx] at e1
    rw [← hx]
    repeat' (first
    | (with_reducible first | exact True.intro | apply And.intro | apply If_true | apply If_false | apply If_not)
    | ((with_reducible apply VC.mk); exact vt)
    | ((with_reducible apply If_dec) <;> intro hc <;> (try (exfalso; omega)))
    | ((with_reducible apply If_any) <;> intro hc)
    | ((with_reducible first | apply PF.mk | apply DrawP.mk); (focus kernel_rfl))
    | ((with_reducible apply Same.mk); (focus rfl); (first | exact trivial | exact rfl))
    | (intro cap hcap)
    | ((fail_if_success (with_reducible apply st)); conv => whnf))
    · have e2 : s.run (frOps t) = x := by
        unfold frOps
        rw [wrs_cut t.fresh (y.1 + 1), List.append_assoc, DF.run_bad (by rw [e1]; exact hc), e1]
      exact T5.fin (t := t.close) rfl rfl rfl rfl rfl rfl (put (x.1, t.close, j, x.2) ⟨x, e2.symm, .inl ⟨hc, rfl⟩⟩)
    · refine Round.mk ⟨(y.1 + 1, x.2), ⟨by show y.1 + 1 ≤ _; omega, by rw [e1]; exact Prod.ext (Decidable.not_not.mp hc) rfl⟩, by show t.fresh.length - (y.1 + 1) < t.fresh.length - y.1; omega, Fit.ren [0, 1, 2, 3, 4] [] rfl rfl trivial (T5.leX (t := t.close) rfl rfl rfl rfl rfl rfl rfl rfl rfl rfl trivial) ?_⟩
      repeat' (first
    | (with_reducible first | exact True.intro | apply And.intro | apply If_true | apply If_false | apply If_not)
    | ((with_reducible apply VC.mk); exact vt)
    | ((with_reducible apply If_dec) <;> intro hc <;> (try (exfalso; omega)))
    | ((with_reducible apply If_any) <;> intro hc)
    | ((with_reducible first | apply PF.mk | apply DrawP.mk); (focus kernel_rfl))
    | ((with_reducible apply Same.mk); (focus rfl); (first | exact trivial | exact rfl))
    | (intro cap hcap)
    | ((fail_if_success (with_reducible apply st)); conv => whnf))
  · have e5 : t.fresh.take y.1 = t.fresh := List.take_of_length_le (by omega)
    rw [e5] at g2 o2
    have hsl : ∀ a n b, (signL a n b).length = 512 := signL_length
    repeat' (first
    | (with_reducible first | exact True.intro | apply And.intro | apply If_true | apply If_false | apply If_not)
    | ((with_reducible apply VC.mk); exact vt)
    | ((with_reducible apply If_dec) <;> intro hc <;> (try (exfalso; omega)))
    | ((with_reducible apply If_any) <;> intro hc)
    | ((with_reducible first | apply PF.mk | apply DrawP.mk); (focus kernel_rfl))
    | ((with_reducible apply Same.mk); (focus rfl); (first | exact trivial | exact rfl))
    | (intro cap hcap)
    | ((fail_if_success (with_reducible apply st)); conv => whnf))
    · refine doFl_at y.2 (n + cost (wrs t.fresh)) 4 ⟨o2, by omega⟩ rfl ⟨rfl, trivial⟩ ?_
      have e1 : s.run (frOps t) = y.2.doOp .fl := by
        unfold frOps
        rw [if_neg (by omega), DF.run_good g2, DF.run1]
      have o3 := DF.doOp_ok o2 .fl
      rw [show FOp.fl.size = 0 from rfl] at o3
      obtain ⟨x, hx⟩ : ∃ x, x = y.2.doOp .fl := ⟨_, rfl⟩
      rw [← hx] at e1 o3
      rw [← hx]
      repeat' (first
    | (with_reducible first | exact True.intro | apply And.intro | apply If_true | apply If_false | apply If_not)
    | ((with_reducible apply VC.mk); exact vt)
    | ((with_reducible apply If_dec) <;> intro hc <;> (try (exfalso; omega)))
    | ((with_reducible apply If_any) <;> intro hc)
    | ((with_reducible first | apply PF.mk | apply DrawP.mk); (focus kernel_rfl))
    | ((with_reducible apply Same.mk); (focus rfl); (first | exact trivial | exact rfl))
    | (intro cap hcap)
    | ((fail_if_success (with_reducible apply st)); conv => whnf))
      · exact T5.fin (t := t.close) rfl rfl rfl rfl rfl rfl (put (x.1, t.close, j, x.2) ⟨x, e1.symm, .inl ⟨hc, rfl⟩⟩)
      · exact T5.fin (t := t.close) rfl rfl rfl rfl rfl rfl (put (0, t.close, j, x.2) ⟨x, e1.symm, .inr (.inl ⟨Decidable.not_not.mp (by assumption), by omega, rfl⟩)⟩)
      have o4 : x.2.Ok (n + cost (wrs t.fresh) + 1) := o3.mono (by omega)
      have hx0 : (0, x.2) = s.run (frOps t) := by rw [e1]; exact Prod.ext (by simpa using Eq.symm (Decidable.not_not.mp (by assumption : ¬ x.1 ≠ 0))) rfl
      have hrl : ∀ r ∈ rs, r.2.length ≤ 1073741824 ∧ B8 r.2 := fun r hm => ⟨by have := (b3 r hm).2.2; omega, hr8 r hm⟩
      refine commit_at j x.2 (n + cost (wrs t.fresh) + 1) rs 3 4 ⟨h5, o4, by omega, by omega, by omega, hrl⟩ rfl rfl rfl ⟨rfl, ⟨rfl, rfl, rfl, rfl, fun _ _ => rfl⟩, trivial⟩ ?_
      rintro ⟨qe, qj, qs⟩ hq
      dsimp only at hq ⊢
      obtain ⟨p1, p2⟩ := comRel_ok hq o4 (by have := h5.2.2.2.1; omega)
      dsimp only at p1 p2
      have hjo : qj.Ok := by
        rcases p2 with rfl | rfl
        · exact h5
        · exact JR.next_ok h5
      repeat' (first
    | (with_reducible first | exact True.intro | apply And.intro | apply If_true | apply If_false | apply If_not)
    | ((with_reducible apply VC.mk); exact vt)
    | ((with_reducible apply If_dec) <;> intro hc <;> (try (exfalso; omega)))
    | ((with_reducible apply If_any) <;> intro hc)
    | ((with_reducible first | apply PF.mk | apply DrawP.mk); (focus kernel_rfl))
    | ((with_reducible apply Same.mk); (focus rfl); (first | exact trivial | exact rfl))
    | (intro cap hcap)
    | ((fail_if_success (with_reducible apply st)); conv => whnf))
      · exact T5.fin (t := t.close) rfl rfl rfl rfl rfl rfl (put (qe, t.close, qj, qs) ⟨(0, x.2), hx0, .inr (.inr ⟨rfl, by omega, (qe, qj, qs), hq, .inl ⟨hc, rfl⟩⟩)⟩)
      have hq0 : qe = 0 := Decidable.not_not.mp hc
      have hcw := cost_wrs_le rs
      refine apply_at qj qs (n + cost (wrs t.fresh) + 1 + 5000000) z rs 3 4 ⟨hjo, p1, by omega, by omega, fun r hm => (hrl r hm).1, by omega, hz⟩ rfl rfl rfl ⟨rfl, ⟨rfl, rfl, rfl, rfl, fun _ _ => rfl⟩, trivial⟩ ?_
      intro u hu
      repeat' (first
    | (with_reducible first | exact True.intro | apply And.intro | apply If_true | apply If_false | apply If_not)
    | ((with_reducible apply VC.mk); exact vt)
    | ((with_reducible apply If_dec) <;> intro hc <;> (try (exfalso; omega)))
    | ((with_reducible apply If_any) <;> intro hc)
    | ((with_reducible first | apply PF.mk | apply DrawP.mk); (focus kernel_rfl))
    | ((with_reducible apply Same.mk); (focus rfl); (first | exact trivial | exact rfl))
    | (intro cap hcap)
    | ((fail_if_success (with_reducible apply st)); conv => whnf))
      exact T5.fin (t := t.close) rfl rfl rfl rfl rfl rfl (put (u.1, t.close, qj, u.2) ⟨(0, x.2), hx0, .inr (.inr ⟨rfl, by omega, (qe, qj, qs), hq, .inr ⟨hq0, u, hu, rfl⟩⟩)⟩)
    · exact T5.fin (t := t.close) rfl rfl rfl rfl rfl rfl (put (0, t.close, j, y.2) ⟨(0, y.2), (by unfold frOps; rw [if_pos (by omega), List.append_nil, g2]), .inr (.inl ⟨rfl, by omega, rfl⟩)⟩)
    have hy0 : (0, y.2) = s.run (frOps t) := by unfold frOps; rw [if_pos (by omega), List.append_nil, g2]
    have hrl : ∀ r ∈ rs, r.2.length ≤ 1073741824 ∧ B8 r.2 := fun r hm => ⟨by have := (b3 r hm).2.2; omega, hr8 r hm⟩
    refine commit_at j y.2 (n + cost (wrs t.fresh)) rs 3 4 ⟨h5, o2, by omega, by omega, by omega, hrl⟩ rfl rfl rfl ⟨rfl, ⟨rfl, rfl, rfl, rfl, fun _ _ => rfl⟩, trivial⟩ ?_
    rintro ⟨qe, qj, qs⟩ hq
    dsimp only at hq ⊢
    obtain ⟨p1, p2⟩ := comRel_ok hq o2 (by have := h5.2.2.2.1; omega)
    dsimp only at p1 p2
    have hjo : qj.Ok := by
      rcases p2 with rfl | rfl
      · exact h5
      · exact JR.next_ok h5
    repeat' (first
    | (with_reducible first | exact True.intro | apply And.intro | apply If_true | apply If_false | apply If_not)
    | ((with_reducible apply VC.mk); exact vt)
    | ((with_reducible apply If_dec) <;> intro hc <;> (try (exfalso; omega)))
    | ((with_reducible apply If_any) <;> intro hc)
    | ((with_reducible first | apply PF.mk | apply DrawP.mk); (focus kernel_rfl))
    | ((with_reducible apply Same.mk); (focus rfl); (first | exact trivial | exact rfl))
    | (intro cap hcap)
    | ((fail_if_success (with_reducible apply st)); conv => whnf))
    · exact T5.fin (t := t.close) rfl rfl rfl rfl rfl rfl (put (qe, t.close, qj, qs) ⟨(0, y.2), hy0, .inr (.inr ⟨rfl, by omega, (qe, qj, qs), hq, .inl ⟨hc, rfl⟩⟩)⟩)
    have hq0 : qe = 0 := Decidable.not_not.mp hc
    have hcw := cost_wrs_le rs
    refine apply_at qj qs (n + cost (wrs t.fresh) + 5000000) z rs 3 4 ⟨hjo, p1, by omega, by omega, fun r hm => (hrl r hm).1, by omega, hz⟩ rfl rfl rfl ⟨rfl, ⟨rfl, rfl, rfl, rfl, fun _ _ => rfl⟩, trivial⟩ ?_
    intro u hu
    repeat' (first
    | (with_reducible first | exact True.intro | apply And.intro | apply If_true | apply If_false | apply If_not)
    | ((with_reducible apply VC.mk); exact vt)
    | ((with_reducible apply If_dec) <;> intro hc <;> (try (exfalso; omega)))
    | ((with_reducible apply If_any) <;> intro hc)
    | ((with_reducible first | apply PF.mk | apply DrawP.mk); (focus kernel_rfl))
    | ((with_reducible apply Same.mk); (focus rfl); (first | exact trivial | exact rfl))
    | (intro cap hcap)
    | ((fail_if_success (with_reducible apply st)); conv => whnf))
    exact T5.fin (t := t.close) rfl rfl rfl rfl rfl rfl (put (u.1, t.close, qj, u.2) ⟨(0, y.2), hy0, .inr (.inr ⟨rfl, by omega, (qe, qj, qs), hq, .inr ⟨hq0, u, hu, rfl⟩⟩)⟩)
def tcommitOk (x : TR × JR × DF × Int × List Int) : Prop := x.1.Ok ∧ (x.1.dirty.length ≤ 1048576 ∧ ∀ q ∈ x.1.dirty, 0 ≤ q.1 ∧ q.1 ≤ 1048576 ∧ B8 q.2) ∧ cost (wrs x.1.fresh) ≤ 34359738368 ∧ x.2.1.Ok ∧ x.2.2.1.Ok x.2.2.2.1 ∧ x.2.2.2.1 ≤ 34359738368 ∧ x.2.2.2.2 = List.replicate 512 0
def tcommitRel (x : TR × JR × DF × Int × List Int) (r : Int × TR × JR × DF) : Prop := tcomRel x.1 x.2.1 x.2.2.1 x.2.2.2.2 r
theorem tcommit_K : ConOk Go.Proofs.Try.prog 18 (Con.of (TR × JR × DF × Int × List Int) (Int × TR × JR × DF) (fun x => [.p 0 0 1 0]) (fun x => tpre x.1 x.2.1 x.2.2.1) tcommitOk tcommitRel (fun x r => .v (.int .i64 r.1)) (fun x r => tpre (r.2.1) (r.2.2.1) (r.2.2.2))) := by
  refine conOk_rel (T := tab) mix Go.Proofs.Try.func18 (by decide +kernel) (by kernel_rfl) [] p18 (fun n => by rw [Go.Proofs.Try.ntmps18]; exact Nat.le_of_ble_eq_true rfl) (fun x r _ _ => T5.good (by simp [AV.noF, noFs, Cont.noF])) (fun x _ => T5.nd) ?_
  intro x k h0 hk
  exact tcommit_c x.1 x.2.1 x.2.2.1 x.2.2.2.1 x.2.2.2.2 k h0 (fun r hr => hk r hr)
theorem tcommit_at {avs : List AV} {H : List Chunk} {k : K} (t : TR) (j : JR) (s : DF) (n : Int) (z : List Int) (ta tb tc td te : Nat) (h0 : t.Ok ∧ (t.dirty.length ≤ 1048576 ∧ ∀ q ∈ t.dirty, 0 ≤ q.1 ∧ q.1 ≤ 1048576 ∧ B8 q.2) ∧ cost (wrs t.fresh) ≤ 34359738368 ∧ j.Ok ∧ s.Ok n ∧ n ≤ 34359738368 ∧ z = List.replicate 512 0) (hn : nodupN [ta, tb, tc, td, te] = true) (ha0 : nth H ta = some (t.c0 td tb tc)) (hb0 : nth H tb = some t.c1) (hc0 : nth H tc = some t.c2) (hd0 : nth H td = some (j.blk te)) (he0 : nth H te = some s.pk) (ha : argsM H [ta, tb, tc, td, te] [.p 0 0 1 0] avs)
    (hQ : ∀ r : Int × TR × JR × DF, (tcomRel t j s z r) → k (.v (.int .i64 r.1)) (((((H.set ta (TR.c0 (r.2.1) td tb tc)).set tb (TR.c1 (r.2.1))).set tc (TR.c2 (r.2.1))).set td (JR.blk (r.2.2.1) te)).set te (DF.pk (r.2.2.2)))) : CallP Go.Proofs.Try.prog 18 avs H k :=
  CallP.mk ⟨_, tcommit_K.real, Con.spec tcommit_K, (t, j, s, n, z), [ta, tb, tc, td, te], ⟨h0, hn, ⟨ha0, hb0.trans (congrArg some (TR.c1_ren t _).symm), hc0, hd0, he0, trivial⟩, ha⟩, fun r hr => (numK_eq _ _).mpr (by simpa [tpre, putAll, TR.c0_ren, TR.c1_ren, TR.c2_ren, JR.blk_ren, DF.pk_ren, AV.ren, rens, Cont.ren, fren, nth] using hQ r hr)⟩
end Go.Proofs.Ytcfmlnddmpiemaa.Sx

