import Derived.Test.YtcfmlnddmpiemaaSxU4
import Derived.Test.YtcfmlnddmpiemaaSxEc
import Derived.Test.YtcfmlnddmpiemaaSxU1
import Derived.Test.YtcfmlnddmpiemaaSxU3
import Derived.Test.YtcfmlnddmpiemaaSxT
import Derived.Shelf.SlicesG.Cmp
import Derived.Shelf.SlLaysF0
import Derived.Shelf.SlSortCmp.WholeK
import Derived.Ground.SlgcProg
import Derived.Ground.SlsfProg
import Derived.WalkKit
import Derived.ProofKit
set_option linter.unusedVariables false
set_option linter.unusedSimpArgs false
set_option maxRecDepth 10000
namespace Go.Proofs.Ytcfmlnddmpiemaa.Sx
/-! ### What a calm file shows behind writes, plain -/
def wrV (f : Nat → Int) (a : Nat) (xs : List Int) (i : Nat) : Int := if a ≤ i ∧ i < a + xs.length then xs.getD (i - a) 0 else f i
def doneV (rs : List RecR) (f : Nat → Int) : Nat → Int := rs.foldl (fun f r => wrV f r.1.toNat r.2) f
def DF.V (s : DF) (i : Nat) : Int := s.now.getD i 0
theorem doneV_cons (r : RecR) (rs : List RecR) (f : Nat → Int) : doneV (r :: rs) f = doneV rs (wrV f r.1.toNat r.2) := rfl
theorem doneV_snoc (rs : List RecR) (r : RecR) (f : Nat → Int) : doneV (rs ++ [r]) f = wrV (doneV rs f) r.1.toNat r.2 := by
  unfold doneV; rw [List.foldl_append]; rfl
theorem wrV_append (f : Nat → Int) (a : Nat) (l m : List Int) : wrV f a (l ++ m) = wrV (wrV f a l) (a + l.length) m := by
  funext i
  unfold wrV
  rw [List.length_append]
  by_cases h1 : a ≤ i ∧ i < a + l.length
  · rw [if_pos ⟨h1.1, by omega⟩, if_neg (by omega), if_pos h1, List.getD_eq_getElem?_getD, List.getElem?_append_left (by omega), List.getD_eq_getElem?_getD]
  · by_cases h2 : a + l.length ≤ i ∧ i < a + l.length + m.length
    · rw [if_pos ⟨by omega, by omega⟩, if_pos h2, List.getD_eq_getElem?_getD, List.getElem?_append_right (by omega), List.getD_eq_getElem?_getD, show i - a - l.length = i - (a + l.length) by omega]
    · rw [if_neg (by omega), if_neg h2, if_neg h1]
def lenR (rs : List RecR) (n : Nat) : Nat := rs.foldl (fun n r => if r.2.length = 0 then n else max n (r.1.toNat + r.2.length)) n
/-! ### A tx's view is what its fresh ones and its sectors leave -/
theorem layR_get {at_ : Int} {l : List Int} {r : RecR} (hl : l.length = 512) (h0 : 0 ≤ at_) (hr : 0 ≤ r.1) {j : Nat} (hj : j < 512) : (layR at_ l r).getD j 0 = if r.1.toNat ≤ at_.toNat + j ∧ at_.toNat + j < r.1.toNat + r.2.length then r.2.getD (at_.toNat + j - r.1.toNat) 0 else l.getD j 0 := by
  unfold layR
  rw [hl]
  split
  · rename_i h
    have e : ((r.2.drop (max at_ r.1 - r.1).toNat).take (min (at_ + (512 : Nat)) (r.1 + r.2.length) - max at_ r.1).toNat).length = (min (at_ + (512 : Nat)) (r.1 + r.2.length) - max at_ r.1).toNat := by rw [List.length_take, List.length_drop]; omega
    rw [putG_get (by omega), e]
    by_cases c : r.1.toNat ≤ at_.toNat + j ∧ at_.toNat + j < r.1.toNat + r.2.length
    · rw [if_pos c, if_pos (by omega), List.getD_eq_getElem?_getD, List.getElem?_take, if_pos (by omega), List.getElem?_drop, List.getD_eq_getElem?_getD]
      congr 2; omega
    · rw [if_neg c, if_neg (by omega)]
  · rename_i h
    rw [if_neg (by omega)]
theorem lays_get {at_ : Int} (h0 : 0 ≤ at_) : ∀ (rs : List RecR) (l : List Int) (f : Nat → Int), l.length = 512 → (∀ r ∈ rs, 0 ≤ r.1) → (∀ j, j < 512 → l.getD j 0 = f (at_.toNat + j)) → ∀ j, j < 512 → (rs.foldl (layR at_) l).getD j 0 = doneV rs f (at_.toNat + j)
  | [], l, f, hl, hr, h, j, hj => h j hj
  | r :: rs, l, f, hl, hr, h, j, hj => by
    rw [doneV_cons]
    refine lays_get h0 rs _ _ (layR_length _ _ _ hl h0) (fun q hq => hr q (List.mem_cons_of_mem _ hq)) (fun i hi => ?_) j hj
    rw [layR_get hl h0 (hr r (List.mem_cons_self ..)) hi, h i hi]
    rfl
theorem secF_get (now : List Int) (n : Nat) {j : Nat} (hj : j < 512) : (secF now (n : Int)).getD j 0 = now.getD (512 * n + j) 0 := by
  have := zero_V now (512 * n + j)
  unfold TR.V TR.sec at this
  rw [← this]
  show _ = (secF now (((512 * n + j) / 512 : Nat) : Int)).getD ((512 * n + j) % 512) 0
  rw [show (512 * n + j) / 512 = n by omega, show (512 * n + j) % 512 = j by omega]
/-- The view: a sector that is dirty, or what the fresh ones leave. -/
theorem TR.V_eq {t : TR} (h : t.Ok) (s : DF) (i : Nat) : t.V s.now i = (match lkS ((i / 512 : Nat) : Int) t.dirty with | some l => l.getD (i % 512) 0 | none => doneV t.fresh s.V i) := by
  unfold TR.V TR.sec
  cases hq : lkS ((i / 512 : Nat) : Int) t.dirty with
  | some l => rfl
  | none =>
    show (t.fresh.foldl (layR (512 * ((i / 512 : Nat) : Int))) (secF s.now ((i / 512 : Nat) : Int))).getD (i % 512) 0 = _
    rw [lays_get (by omega) t.fresh _ s.V (secF_length _ _) (fun r hr => (h.frs r hr).1) (fun j hj => ?_) (i % 512) (Nat.mod_lt _ (by omega))]
    · congr 1; omega
    · rw [secF_get _ _ hj]; unfold DF.V; rw [show (512 * ((i / 512 : Nat) : Int)).toNat = 512 * (i / 512) by omega]
/-! ### The records are the sectors -/
def keyV (d : List (Int × List Int)) (ks : List Int) (f : Nat → Int) : Nat → Int := ks.foldl (fun f k => wrV f (k * 512).toNat ((lkS k d).getD [])) f
def SecsOk (d : List (Int × List Int)) (ks : List Int) : Prop := ∀ k ∈ ks, 0 ≤ k ∧ ((lkS k d).getD []).length = 512
theorem keyV_get {d : List (Int × List Int)} : ∀ (ks : List Int) (f : Nat → Int), SecsOk d ks → ∀ i, keyV d ks f i = if ((i / 512 : Nat) : Int) ∈ ks then ((lkS ((i / 512 : Nat) : Int) d).getD []).getD (i % 512) 0 else f i
  | [], f, _, i => by rw [if_neg List.not_mem_nil]; rfl
  | k :: ks, f, h, i => by
    obtain ⟨h0, h1⟩ := h k (List.mem_cons_self ..)
    show keyV d ks (wrV f (k * 512).toNat ((lkS k d).getD [])) i = _
    rw [keyV_get ks _ (fun q hq => h q (List.mem_cons_of_mem _ hq)) i]
    by_cases c : ((i / 512 : Nat) : Int) ∈ ks
    · rw [if_pos c, if_pos (List.mem_cons_of_mem _ c)]
    · rw [if_neg c]
      unfold wrV
      rw [h1]
      by_cases c2 : ((i / 512 : Nat) : Int) = k
      · rw [if_pos (by omega), if_pos (by rw [c2]; exact List.mem_cons_self ..), c2]
        congr 1; omega
      · rw [if_neg (by omega), if_neg (fun hm => by rcases List.mem_cons.1 hm with e | e; exact c2 e; exact c e)]
theorem snocD_eq {rs : List RecR} (h : rs ≠ []) (x : List Int) : ∃ init last, rs = init ++ [last] ∧ snocD rs x = init ++ [(last.1, last.2 ++ x)] := by
  refine ⟨rs.dropLast, rs.getLast h, (List.dropLast_concat_getLast h).symm, ?_⟩
  have e := (List.dropLast_concat_getLast h).symm
  generalize rs.dropLast = a at e
  generalize rs.getLast h = b at e
  subst e
  unfold snocD
  rw [show (a ++ [b]).length - 1 = a.length by simp]
  rw [List.getD_eq_getElem?_getD, List.getElem?_append_right (Nat.le_refl _), Nat.sub_self]
  rw [List.set_append_right _ _ (Nat.le_refl _), Nat.sub_self]
  rfl
/-- What is known of the records of some sectors. -/
structure RecS (d : List (Int × List Int)) (ks : List Int) (rs : List RecR) : Prop where
  view : ∀ f, doneV rs f = keyV d ks f
  last : ks ≠ [] → ∃ init r, rs = init ++ [r] ∧ r.1 + r.2.length = (ks.getD (ks.length - 1) 0 + 1) * 512
  cov : ∀ r ∈ rs, 0 ≤ r.1 ∧ 0 < r.2.length ∧ ∀ i : Nat, r.1 ≤ i → (i : Int) < r.1 + r.2.length → ((i / 512 : Nat) : Int) ∈ ks
  nil : ks = [] → rs = []
theorem keyV_snoc (d : List (Int × List Int)) (ks : List Int) (k : Int) (f : Nat → Int) : keyV d (ks ++ [k]) f = wrV (keyV d ks f) (k * 512).toNat ((lkS k d).getD []) := by
  unfold keyV; rw [List.foldl_append]; rfl
theorem bldR_S {d : List (Int × List Int)} {ks : List Int} (hk : SecsOk d ks) : ∀ m, m ≤ ks.length → RecS d (ks.take m) (bldR d ks m)
  | 0, _ => by
    rw [List.take_zero]
    exact ⟨fun f => rfl, fun h => absurd rfl h, fun r hr => absurd hr List.not_mem_nil, fun _ => rfl⟩
  | m + 1, hm => by
    have ih := bldR_S hk m (by omega)
    have hkm : ks.getD m 0 ∈ ks := by
      rw [show ks.getD m 0 = ks[m]'(by omega) by simp [List.getD_eq_getElem?_getD, show m < ks.length by omega]]
      exact List.getElem_mem _
    obtain ⟨k0, k1⟩ := hk _ hkm
    have et : ks.take (m + 1) = ks.take m ++ [ks.getD m 0] := by
      rw [List.take_add_one, List.getElem?_eq_getElem (show m < ks.length by omega), List.getD_eq_getElem?_getD, List.getElem?_eq_getElem (show m < ks.length by omega)]; rfl
    have e : bldR d ks (m + 1) = bldS d ks (bldR d ks m) m := by
      unfold bldR; rw [List.range_succ, List.foldl_append]; rfl
    have tl : (ks.take m).length = m := by rw [List.length_take]; omega
    have hlast : (ks.take (m + 1)).getD ((ks.take (m + 1)).length - 1) 0 = ks.getD m 0 := by
      rw [et, show (ks.take m ++ [ks.getD m 0]).length - 1 = m by rw [List.length_append, tl]; rfl, List.getD_eq_getElem?_getD, List.getElem?_append_right (by omega), tl, Nat.sub_self]; rfl
    rw [e]
    obtain ⟨x, hx⟩ : ∃ x, x = (lkS (ks.getD m 0) d).getD [] := ⟨_, rfl⟩
    rw [← hx] at k1
    unfold bldS
    rw [← hx]
    split
    · rename_i h
      have hne : ks.take m ≠ [] := fun h0 => by rw [h0] at tl; simp at tl; omega
      obtain ⟨init, r, hr, he⟩ := ih.last hne
      have hrn : bldR d ks m ≠ [] := by rw [hr]; simp
      have hpm : (ks.take m).getD ((ks.take m).length - 1) 0 = ks.getD (m - 1) 0 := by
        rw [tl, List.getD_eq_getElem?_getD, List.getElem?_take, if_pos (by omega), List.getD_eq_getElem?_getD]
      rw [hpm, h.2] at he
      have hs : snocD (bldR d ks m) x = init ++ [(r.1, r.2 ++ x)] := by
        obtain ⟨i2, r2, a1, a2⟩ := snocD_eq hrn x
        rw [hr] at a1
        obtain ⟨b1, b2⟩ := List.append_inj' a1 rfl
        cases b2
        rw [a2, ← b1]
      rw [hs]
      have hrr := ih.cov r (by rw [hr]; simp)
      refine ⟨fun f => ?_, fun _ => ⟨init, _, rfl, ?_⟩, fun q hq => ?_, fun h0 => ?_⟩
      · rw [doneV_snoc, et, keyV_snoc, ← hx, ← ih.view f, hr, doneV_snoc, wrV_append]
        congr 1
        omega
      · rw [hlast, List.length_append, k1]
        show r.1 + ((r.2.length + 512 : Nat) : Int) = _
        omega
      · rcases List.mem_append.1 hq with hq | hq
        · obtain ⟨q1, q2, q3⟩ := ih.cov q (by rw [hr]; exact List.mem_append_left _ hq)
          exact ⟨q1, q2, fun i a b => by rw [et]; exact List.mem_append_left _ (q3 i a b)⟩
        · obtain rfl := List.mem_singleton.1 hq
          refine ⟨hrr.1, by show 0 < (r.2 ++ x).length; rw [List.length_append]; omega, fun i a b => ?_⟩
          have b : (i : Int) < r.1 + ((r.2 ++ x).length : Int) := b
          rw [List.length_append] at b
          rw [et]
          by_cases c : (i : Int) < r.1 + r.2.length
          · exact List.mem_append_left _ (hrr.2.2 i a c)
          · refine List.mem_append_right _ (List.mem_singleton.2 ?_)
            omega
      · rw [et] at h0; simp at h0
    · refine ⟨fun f => ?_, fun _ => ⟨_, _, rfl, ?_⟩, fun q hq => ?_, fun h0 => ?_⟩
      · rw [doneV_snoc, et, keyV_snoc, ih.view f, ← hx]
      · rw [hlast]
        show ks.getD m 0 * 512 + (x.length : Int) = _
        omega
      · rcases List.mem_append.1 hq with hq | hq
        · obtain ⟨q1, q2, q3⟩ := ih.cov q hq
          exact ⟨q1, q2, fun i a b => by rw [et]; exact List.mem_append_left _ (q3 i a b)⟩
        · obtain rfl := List.mem_singleton.1 hq
          refine ⟨by show 0 ≤ ks.getD m 0 * 512; omega, by show 0 < x.length; omega, fun i a b => ?_⟩
          have a : ks.getD m 0 * 512 ≤ (i : Int) := a
          have b : (i : Int) < ks.getD m 0 * 512 + (x.length : Int) := b
          rw [et]
          exact List.mem_append_right _ (List.mem_singleton.2 (by omega))
      · rw [et] at h0; simp at h0
theorem secs_of {t : TR} (h : t.Ok) (hk : ∀ q ∈ t.dirty, 0 ≤ q.1) {ks : List Int} (hp : ∀ k ∈ ks, k ∈ t.dirty.map (fun x => x.1)) : SecsOk t.dirty ks := by
  intro k hq
  obtain ⟨l, hl⟩ := lkS_of_mem (hp k hq)
  rw [hl]
  exact ⟨hk _ (lkS_mem hl), h.sec _ (lkS_mem hl)⟩
theorem lkS_key {n : Int} : ∀ {d : List (Int × List Int)} {l : List Int}, lkS n d = some l → n ∈ d.map (fun x => x.1) := fun h => List.mem_map.2 ⟨_, lkS_mem h, rfl⟩
/-- All in one: the records of a tx. -/
theorem RecRel.S {t : TR} {rs : List RecR} (h : RecRel t rs) (ho : t.Ok) (hk : ∀ q ∈ t.dirty, 0 ≤ q.1) : (∀ (s : DF) (i : Nat), doneV rs (doneV t.fresh s.V) i = t.V s.now i) ∧ (∀ r ∈ rs, 0 ≤ r.1 ∧ 0 < r.2.length ∧ ∀ i : Nat, r.1 ≤ i → (i : Int) < r.1 + r.2.length → ((i / 512 : Nat) : Int) ∈ t.dirty.map (fun x => x.1)) := by
  obtain ⟨ks, h1, h2, rfl⟩ := h
  have hs := secs_of ho hk (ks := ks) (fun k hk => h1.subset hk)
  have hS := bldR_S hs ks.length (Nat.le_refl _)
  rw [List.take_length] at hS
  refine ⟨fun s i => ?_, fun r hr => ?_⟩
  · rw [hS.view, keyV_get ks _ hs, TR.V_eq ho]
    cases hq : lkS ((i / 512 : Nat) : Int) t.dirty with
    | some l => rw [if_pos (h1.symm.subset (lkS_key hq))]; rfl
    | none =>
      rw [if_neg (fun hm => ?_)]
      obtain ⟨l, hl⟩ := lkS_of_mem (h1.subset hm)
      rw [hq] at hl; cases hl
  · obtain ⟨q1, q2, q3⟩ := hS.cov r hr
    exact ⟨q1, q2, fun i a b => h1.subset (q3 i a b)⟩
end Go.Proofs.Ytcfmlnddmpiemaa.Sx


set_option maxRecDepth 10000
namespace Go.Proofs.Ytcfmlnddmpiemaa.Sx
/-! ### A commit on a calm file, plain -/
theorem perm_sorted_eq : ∀ {l m : List Int}, l.Perm m → l.Pairwise (· ≤ ·) → m.Pairwise (· ≤ ·) → l = m
  | [], m, h, _, _ => (List.nil_perm.1 h).symm
  | a :: l, [], h, _, _ => absurd h.length_eq (by simp)
  | a :: l, b :: m, h, h1, h2 => by
    have hab : a = b := by
      rcases List.mem_cons.1 (h.symm.subset (List.mem_cons_self (a := b) (l := m))) with e | hb
      · exact e.symm
      rcases List.mem_cons.1 (h.subset (List.mem_cons_self (a := a) (l := l))) with e | ha
      · exact e
      exact Int.le_antisymm ((List.pairwise_cons.1 h1).1 b hb) ((List.pairwise_cons.1 h2).1 a ha)
    subst hab
    rw [perm_sorted_eq (List.Perm.cons_inv h) (List.pairwise_cons.1 h1).2 (List.pairwise_cons.1 h2).2]
theorem RecRel.unique {t : TR} {r r' : List RecR} (h : RecRel t r) (h' : RecRel t r') : r = r' := by
  obtain ⟨ks, a1, a2, rfl⟩ := h
  obtain ⟨ks', b1, b2, rfl⟩ := h'
  rw [perm_sorted_eq (a1.trans b1.symm) a2 b2]
/-- A tx whose changes may be committed by a journal. -/
structure TR.In (t : TR) (j : JR) : Prop where
  keys : ∀ q ∈ t.dirty, 0 ≤ q.1 ∧ q.1 ≤ 8191 ∧ (q.1 * 512 + 512 ≤ j.pos ∨ j.pos + j.size ≤ q.1 * 512) ∧ B8 q.2
  nodup : (t.dirty.map (fun x => x.1)).Nodup
  frs : ∀ r ∈ t.fresh, 0 ≤ r.1 ∧ r.1 + r.2.length ≤ 4194304 ∧ (r.1 + r.2.length ≤ j.pos ∨ j.pos + j.size ≤ r.1) ∧ B8 r.2
theorem TR.In.recs {t : TR} {j : JR} (h : t.In j) (ho : t.Ok) (hj : j.Ok) {rs : List RecR} (hr : RecRel t rs) : ∀ r ∈ rs, j.out r.1 r.2.length ∧ r.1 + r.2.length ≤ 4194304 := by
  obtain ⟨-, hc⟩ := hr.S ho (fun q hq => (h.keys q hq).1)
  obtain ⟨j1, j2, j3, j4, j5, j6⟩ := hj
  intro r hm
  obtain ⟨c1, c2, c3⟩ := hc r hm
  have key : ∀ i : Nat, r.1 ≤ i → (i : Int) < r.1 + r.2.length → (i : Int) < 4194304 ∧ ((i : Int) < j.pos ∨ j.pos + j.size ≤ i) := by
    intro i a b
    obtain ⟨q, hq, e⟩ := List.mem_map.1 (c3 i a b)
    have := h.keys q hq
    omega
  have h1 := key (r.1.toNat + r.2.length - 1) (by omega) (by omega)
  refine ⟨⟨c1, by omega, by omega, by omega, ?_⟩, by omega⟩
  by_cases c : r.1 + r.2.length ≤ j.pos
  · exact .inl c
  · refine .inr (Int.not_lt.1 (fun c4 => ?_))
    have := key (max r.1 j.pos).toNat (by omega) (by omega)
    omega
theorem doneV_congr : ∀ (rs : List RecR) (f g : Nat → Int) (i : Nat), f i = g i → doneV rs f i = doneV rs g i
  | [], f, g, i, h => h
  | r :: rs, f, g, i, h => by
    rw [doneV_cons, doneV_cons]
    refine doneV_congr rs _ _ i ?_
    unfold wrV
    rw [h]
/-- What a commit does on a calm file. -/
structure ComEnd (t : TR) (j : JR) (s : DF) (rs : List RecR) (x : Int × TR × JR × DF) : Prop where
  err : x.1 = 0
  tx : x.2.1 = t.close
  jr : x.2.2.1 = j ∨ x.2.2.1 = j.next
  live : x.2.2.2.live
  view : ∀ i, ¬ j.inJ i → x.2.2.2.V i = t.V s.now i
  len : x.2.2.2.now.length = lenR rs (lenR t.fresh s.now.length)
  items : s.items = [] → x.2.2.2.items = []
end Go.Proofs.Ytcfmlnddmpiemaa.Sx


set_option maxRecDepth 10000
namespace Go.Proofs.Ytcfmlnddmpiemaa.Sx
/-! ### Put and Fresh keep what a commit needs, plain -/
theorem upS_keys (n : Int) (v : List Int) : ∀ (d : List (Int × List Int)), (upS n v d).map (fun x => x.1) = if n ∈ d.map (fun x => x.1) then d.map (fun x => x.1) else d.map (fun x => x.1) ++ [n]
  | [] => by
    show [n] = if n ∈ ([] : List Int) then [] else [n]
    rw [if_neg List.not_mem_nil]
  | (a, u) :: r => by
    unfold upS
    by_cases h : a = n
    · rw [if_pos h, if_pos (List.mem_map.2 ⟨_, List.mem_cons_self .., h⟩)]; rfl
    · rw [if_neg h, List.map_cons, upS_keys n v r, List.map_cons]
      by_cases h2 : n ∈ r.map (fun x => x.1)
      · rw [if_pos h2, if_pos (List.mem_cons_of_mem _ h2)]
      · rw [if_neg h2, if_neg (fun hm => by rcases List.mem_cons.1 hm with e | e; exact h e.symm; exact h2 e)]; rfl
theorem upS_nodup {n : Int} {v : List Int} {d : List (Int × List Int)} (h : (d.map (fun x => x.1)).Nodup) : ((upS n v d).map (fun x => x.1)).Nodup := by
  rw [upS_keys]
  split
  · exact h
  · rename_i h2
    rw [List.nodup_append]
    exact ⟨h, by simp, fun a ha q hq => by simp at hq; subst hq; exact fun e => h2 (e ▸ ha)⟩
theorem upS_mem {n : Int} {v : List Int} : ∀ {d : List (Int × List Int)} {q : Int × List Int}, q ∈ upS n v d → q = (n, v) ∨ q ∈ d
  | [], q, h => .inl (List.mem_singleton.1 h)
  | (a, u) :: r, q, h => by
    unfold upS at h
    split at h
    · rename_i e
      rcases List.mem_cons.1 h with h | h
      · rw [← e]; exact .inl h
      · exact .inr (List.mem_cons_of_mem _ h)
    · rcases List.mem_cons.1 h with h | h
      · exact .inr (h ▸ List.mem_cons_self ..)
      · rcases upS_mem h with h | h
        · exact .inl h
        · exact .inr (List.mem_cons_of_mem _ h)
theorem sec_B8 {t : TR} {now : List Int} (hb : t.B now) (ho : t.Ok) (n : Nat) : B8 (t.sec now (n : Int)) := by
  intro x hx
  obtain ⟨i, hi, rfl⟩ := List.mem_iff_getElem.1 hx
  have hl := ho.sec_length now (n : Int) (by omega)
  have := hb (512 * n + i)
  unfold TR.V at this
  rw [show (512 * n + i) / 512 = n by omega, show (512 * n + i) % 512 = i by omega, List.getD_eq_getElem?_getD, List.getElem?_eq_getElem hi] at this
  exact this
def JR.al (j : JR) : Prop := j.pos % 512 = 0 ∧ j.size % 512 = 0
theorem wr1_In {t : TR} {j : JR} {now : List Int} (h : t.In j) (ho : t.Ok) (hb : t.B now) {a : Nat} {xs : List Int} (hx : B8 xs) (ha : j.al) (h0 : 0 < xs.length) (h1 : a + xs.length ≤ 4194304) (h2 : a + xs.length ≤ j.pos ∨ j.pos + j.size ≤ a) (h3 : a % 512 + xs.length ≤ 512) : (t.wr1 now a xs).In j := by
  obtain ⟨a1, a2⟩ := ha
  refine ⟨fun q hq => ?_, upS_nodup h.nodup, h.frs⟩
  rcases upS_mem (show q ∈ upS _ _ _ from hq) with rfl | hq
  · exact ⟨by show (0 : Int) ≤ ((a / 512 : Nat) : Int); omega, by show ((a / 512 : Nat) : Int) ≤ 8191; omega, by show ((a / 512 : Nat) : Int) * 512 + 512 ≤ j.pos ∨ j.pos + j.size ≤ ((a / 512 : Nat) : Int) * 512; omega, putG_B8 (sec_B8 hb ho _) hx⟩
  · exact h.keys q hq
theorem wr1_B {t : TR} {now : List Int} (ho : t.Ok) (hb : t.B now) {a : Nat} {xs : List Int} (hx : B8 xs) (h3 : a % 512 + xs.length ≤ 512) : (t.wr1 now a xs).B now := by
  intro i
  rw [wr1_V ho now a xs h3]
  split
  · exact hx.getD _
  · exact hb i
theorem putF_In : ∀ (f : Nat) (t : TR) (j : JR) (now : List Int) (a : Nat) (p : List Int), t.In j → t.Ok → t.B now → B8 p → j.al → a + p.length ≤ 4194304 → (p.length = 0 ∨ a + p.length ≤ j.pos ∨ j.pos + j.size ≤ a) → p.length ≤ f → (TR.putF f t now a p).In j
  | 0, t, j, now, a, p, h, _, _, _, _, _, _, _ => h
  | f + 1, t, j, now, a, p, h, ho, hb, hp, ha, h1, h2, hf => by
    by_cases h0 : p.length = 0
    · rw [putF_nil _ _ _ _ _ h0]; exact h
    · have e : TR.putF (f + 1) t now a p = TR.putF f (t.wr1 now a (p.take (min p.length (512 - a % 512)))) now (a + min p.length (512 - a % 512)) (p.drop (min p.length (512 - a % 512))) := by
        show (if _ then _ else _) = _; rw [if_neg h0]
      rw [e]
      generalize hk : min p.length (512 - a % 512) = k
      have hkl : (p.take k).length = k := by rw [List.length_take]; omega
      have hdl : (p.drop k).length = p.length - k := List.length_drop ..
      have h2 : a + p.length ≤ j.pos ∨ j.pos + j.size ≤ a := by omega
      exact putF_In f _ j now (a + k) (p.drop k) (wr1_In h ho hb (hp.take _) ha (by omega) (by omega) (by omega) (by omega)) (ho.wr1 now a (p.take k) (by omega)) (wr1_B ho hb (hp.take _) (by omega)) (hp.drop _) ha (by omega) (by omega) (by omega)
theorem put_In {t : TR} {j : JR} {now : List Int} {a : Nat} {p : List Int} (h : t.In j) (ho : t.Ok) (hb : t.B now) (hp : B8 p) (ha : j.al) (h1 : a + p.length ≤ 4194304) (h2 : p.length = 0 ∨ a + p.length ≤ j.pos ∨ j.pos + j.size ≤ a) : (t.put now a p).In j := putF_In _ t j now a p h ho hb hp ha h1 h2 (Nat.le_refl _)
theorem lay1_lk (t : TR) (r : RecR) (n m : Int) : lkS m (t.lay1 r n).dirty = if m = n then (lkS n t.dirty).map (fun l => layR (n * 512) l r) else lkS m t.dirty := by
  unfold TR.lay1
  cases hq : lkS n t.dirty with
  | none =>
    show lkS m t.dirty = _
    split
    · rename_i e; rw [e, hq]; rfl
    · rfl
  | some l =>
    show lkS m (upS n _ t.dirty) = _
    rw [lkS_upS]; rfl
theorem lay1_In {t : TR} {j : JR} (h : t.In j) {r : RecR} (hr : B8 r.2) (n : Int) : (t.lay1 r n).In j := by
  unfold TR.lay1
  cases hq : lkS n t.dirty with
  | none => exact h
  | some l =>
    have hl := h.keys _ (lkS_mem hq)
    refine ⟨fun q hm => ?_, upS_nodup h.nodup, h.frs⟩
    rcases upS_mem (show q ∈ upS _ _ _ from hm) with rfl | hm
    · refine ⟨hl.1, hl.2.1, hl.2.2.1, ?_⟩
      show B8 (layR _ l r)
      unfold layR
      split
      · exact putG_B8 hl.2.2.2 ((hr.drop _).take _)
      · exact hl.2.2.2
    · exact h.keys q hm
theorem layN_all : ∀ (k : Nat) (t : TR) (r : RecR) (n : Nat), t.Ok → (TR.layN k t r n).Ok ∧ (TR.layN k t r n).fresh = t.fresh ∧ (TR.layN k t r n).over = t.over ∧ (TR.layN k t r n).cap = t.cap ∧ (∀ j : JR, t.In j → B8 r.2 → (TR.layN k t r n).In j) ∧
    ∀ m : Nat, lkS (m : Int) (TR.layN k t r n).dirty = if n ≤ m ∧ m < n + k then (lkS (m : Int) t.dirty).map (fun l => layR ((m : Int) * 512) l r) else lkS (m : Int) t.dirty
  | 0, t, r, n, h => ⟨h, rfl, rfl, rfl, fun _ h _ => h, fun m => by rw [if_neg (by omega)]; rfl⟩
  | k + 1, t, r, n, h => by
    obtain ⟨o1, o2, o3, o4⟩ := TR.lay1_ok h r (n : Int) (by omega)
    obtain ⟨i1, i2, i3, i4, i5, i6⟩ := layN_all k (t.lay1 r (n : Int)) r (n + 1) o1
    refine ⟨i1, i2.trans o2, i3.trans o3, i4.trans o4, fun j hI hr => i5 j (lay1_In hI hr _) hr, fun m => ?_⟩
    show lkS (m : Int) (TR.layN k (t.lay1 r (n : Int)) r (n + 1)).dirty = _
    rw [i6, lay1_lk]
    by_cases c : m = n
    · subst c
      rw [if_neg (by omega), if_pos rfl, if_pos (by omega)]
    · by_cases c2 : n + 1 ≤ m ∧ m < n + 1 + k
      · rw [if_pos c2, if_neg (by omega), if_pos (by omega)]
      · rw [if_neg c2, if_neg (by omega), if_neg (by omega)]
/-- What is written ahead is seen. -/
theorem fresh_V {t : TR} (h : t.Ok) (s : DF) {a : Nat} {p : List Int} {c : Nat} (ha : a % 512 = 0) (h1 : a + p.length ≤ 4194304) (hc : t.fresh.length + 1 ≤ c) (hn : t.fresh.length + 1 ≤ 1073741824) :
    (t.freshT a p c).Ok ∧ (t.freshT a p c).fresh = t.fresh ++ [((a : Int), p)] ∧ (t.freshT a p c).over = t.over ∧ (t.freshT a p c).cap = c ∧ (∀ j : JR, t.In j → B8 p → (p.length = 0 ∨ a + p.length ≤ j.pos ∨ j.pos + j.size ≤ a) → (a + p.length ≤ j.pos ∨ j.pos + j.size ≤ a) → (t.freshT a p c).In j) ∧
    ∀ i, (t.freshT a p c).V s.now i = wrV (t.V s.now) a p i := by
  have hO : (t.addF ((a : Int), p) c).Ok := by
    refine ⟨h.sec, ?_, ?_, ?_⟩
    · intro q hq
      rcases List.mem_append.1 (show q ∈ t.fresh ++ [((a : Int), p)] from hq) with hq | hq
      · exact h.frs q hq
      · obtain rfl := List.mem_singleton.1 hq
        exact ⟨by show (0 : Int) ≤ a; omega, by show (a : Int) ≤ _; omega, by show p.length ≤ _; omega⟩
    · show (t.fresh ++ [((a : Int), p)]).length ≤ c; rw [List.length_append]; exact hc
    · show (t.fresh ++ [((a : Int), p)]).length ≤ _; rw [List.length_append]; exact hn
  obtain ⟨i1, i2, i3, i4, i5, i6⟩ := layN_all ((p.length + 511) / 512) (t.addF ((a : Int), p) c) ((a : Int), p) (a / 512) hO
  refine ⟨i1, i2, i3, i4, fun j hI hp _ hr => i5 j ⟨hI.keys, hI.nodup, fun r hm => ?_⟩ hp, fun i => ?_⟩
  · rcases List.mem_append.1 (show r ∈ t.fresh ++ [((a : Int), p)] from hm) with hm | hm
    · exact hI.frs r hm
    · obtain rfl := List.mem_singleton.1 hm
      exact ⟨by show (0 : Int) ≤ a; omega, by show (a : Int) + p.length ≤ _; omega, hr, hp⟩
  · rw [TR.V_eq (t := t.freshT a p c) i1]
    have e6 := i6 (i / 512)
    have e6 : lkS ((i / 512 : Nat) : Int) (t.freshT a p c).dirty = if a / 512 ≤ i / 512 ∧ i / 512 < a / 512 + (p.length + 511) / 512 then (lkS ((i / 512 : Nat) : Int) t.dirty).map (fun l => layR (((i / 512 : Nat) : Int) * 512) l ((a : Int), p)) else lkS ((i / 512 : Nat) : Int) t.dirty := e6
    rw [e6]
    have e2 : doneV (t.freshT a p c).fresh s.V i = wrV (doneV t.fresh s.V) a p i := by
      have : (t.freshT a p c).fresh = t.fresh ++ [((a : Int), p)] := i2
      rw [this, doneV_snoc]; rfl
    cases hq : lkS ((i / 512 : Nat) : Int) t.dirty with
    | none =>
      have : (if a / 512 ≤ i / 512 ∧ i / 512 < a / 512 + (p.length + 511) / 512 then (none : Option (List Int)).map (fun l => layR (((i / 512 : Nat) : Int) * 512) l ((a : Int), p)) else none) = none := by split <;> rfl
      rw [this]
      show doneV (t.freshT a p c).fresh s.V i = wrV (t.V s.now) a p i
      rw [e2]
      unfold wrV
      split
      · rfl
      · rw [TR.V_eq h, hq]
    | some l =>
      have hl : l.length = 512 := h.sec _ (lkS_mem hq)
      have hVi : t.V s.now i = l.getD (i % 512) 0 := by rw [TR.V_eq h, hq]
      unfold wrV
      rw [hVi]
      by_cases c1 : a / 512 ≤ i / 512 ∧ i / 512 < a / 512 + (p.length + 511) / 512
      · rw [if_pos c1]
        show (layR (((i / 512 : Nat) : Int) * 512) l ((a : Int), p)).getD (i % 512) 0 = _
        rw [layR_get hl (by omega) (by show (0 : Int) ≤ a; omega) (Nat.mod_lt _ (by omega))]
        have e3 : (((i / 512 : Nat) : Int) * 512).toNat + i % 512 = i := by omega
        have e4 : ((a : Int), p).1.toNat = a := Int.toNat_natCast _
        rw [e3, e4]
      · rw [if_neg c1]
        show l.getD (i % 512) 0 = _
        rw [if_neg (by omega)]
theorem TR.In.count {t : TR} {j : JR} (h : t.In j) : t.dirty.length ≤ 8192 := by
  have hn : ((t.dirty.map (fun x => x.1)).map Int.toNat).Nodup := by
    rw [List.nodup_iff_pairwise_ne, List.pairwise_map]
    refine List.Pairwise.imp_of_mem ?_ (List.nodup_iff_pairwise_ne.1 h.nodup)
    intro a b ha hb hne e
    obtain ⟨q, hq, rfl⟩ := List.mem_map.1 ha
    obtain ⟨r, hr, rfl⟩ := List.mem_map.1 hb
    have := h.keys q hq
    have := h.keys r hr
    omega
  have := sub_len (s := List.range 8192) hn (fun b hb => by
    obtain ⟨k, hk, rfl⟩ := List.mem_map.1 hb
    obtain ⟨q, hq, rfl⟩ := List.mem_map.1 hk
    have := h.keys q hq
    exact List.mem_range.2 (by omega))
  rwa [List.length_map, List.length_map, List.length_range] at this
theorem frOps_cost (t : TR) : cost (frOps t) ≤ cost (wrs t.fresh) + 1 := by
  unfold frOps
  rw [cost_append]
  split
  · simp only [cost]; omega
  · simp only [cost, FOp.size]; omega
theorem tcomRel_ok {t : TR} {j : JR} {s : DF} {z : List Int} {x : Int × TR × JR × DF} {n : Int} (h : tcomRel t j s z x) (hs : s.Ok n) (hz : z.length = 512) (hj : j.size ≤ 4194304) : x.2.2.2.Ok (n + cost (wrs t.fresh) + 10000001) := by
  have h0 := cost_nonneg (wrs t.fresh)
  rcases h with ⟨_, rfl⟩ | ⟨_, rs, hr, h⟩
  · exact hs.mono (by omega)
  rcases h with ⟨_, rfl⟩ | ⟨hf, y, hy, h⟩
  · exact hs.mono (by omega)
  have hyo : y.2.Ok (n + (cost (wrs t.fresh) + 1)) := by
    rw [hy]
    exact (DF.run_ok _ hs).mono (by have := frOps_cost t; omega)
  rcases h with ⟨_, rfl⟩ | ⟨_, _, rfl⟩ | ⟨_, _, q, hq, h⟩
  · exact hyo.mono (by omega)
  · exact hyo.mono (by omega)
  · have hqo := (comRel_ok hq hyo hj).1
    rcases h with ⟨_, rfl⟩ | ⟨_, u, hu, rfl⟩
    · exact hqo.mono (by omega)
    · show u.2.Ok _
      rw [hu]
      refine (DF.run_ok _ hqo).mono ?_
      have := cost_wrs_le rs
      rw [cost_append]
      simp only [cost, FOp.size]
      omega
end Go.Proofs.Ytcfmlnddmpiemaa.Sx


set_option maxRecDepth 10000
namespace Go.Proofs.Ytcfmlnddmpiemaa.Sx
/-! ### A tx's commit, cut off anywhere, plain -/
/-- Writes within a file, cut off anywhere: only their bytes may be laid. -/
theorem wrs_items : ∀ (rs : List RecR) (s : DF), (∀ r ∈ rs, 0 ≤ r.1 ∧ r.1.toNat + r.2.length ≤ s.now.length) →
    (s.run (wrs rs)).2.safe = s.safe ∧ (s.run (wrs rs)).2.now.length = s.now.length ∧ (∀ it ∈ (s.run (wrs rs)).2.items, it ∈ s.items ∨ ∃ r ∈ rs, it ∈ segs r.2.length r.1 r.2) ∧ ((s.run (wrs rs)).1 = 0 → (s.run (wrs rs)).2.now = doneL rs s.now)
  | [], s, _ => ⟨rfl, rfl, fun it h => .inl h, fun _ => rfl⟩
  | r :: rs, s, h => by
    obtain ⟨h0, h1⟩ := h r (List.mem_cons_self ..)
    rw [show wrs (r :: rs) = .wr r.1 r.2 :: wrs rs from rfl, DF.run]
    by_cases hA : (s.doOp (.wr r.1 r.2)).1 = 0
    · rw [if_pos hA]
      obtain ⟨-, hd⟩ := DF.doOp_did hA (by omega)
      rw [hd]
      have hl : (putG s.now r.1.toNat r.2).length = s.now.length := by rw [putG_length (by omega)]; omega
      obtain ⟨i1, i2, i3, i4⟩ := wrs_items rs { s with now := putG s.now r.1.toNat r.2, items := s.items ++ segs r.2.length r.1 r.2, ops := s.ops + 1, wrote := s.wrote + 1 } (fun q hq => by
        have := h q (List.mem_cons_of_mem _ hq)
        show 0 ≤ q.1 ∧ q.1.toNat + q.2.length ≤ (putG s.now r.1.toNat r.2).length
        omega)
      refine ⟨i1, i2.trans hl, fun it hit => ?_, fun he => (i4 he).trans rfl⟩
      rcases i3 it hit with h2 | ⟨q, hq, h2⟩
      · rcases List.mem_append.1 (show it ∈ s.items ++ segs r.2.length r.1 r.2 from h2) with h2 | h2
        · exact .inl h2
        · exact .inr ⟨r, List.mem_cons_self .., h2⟩
      · exact .inr ⟨q, List.mem_cons_of_mem _ hq, h2⟩
    · rw [if_neg hA]
      have he := DF.doOp_err hA
      rw [he]
      exact ⟨rfl, rfl, fun it h => .inl h, fun h => absurd h hA⟩
/-- What a crash may leave of a file when some of the fresh ones were written. -/
def FrC (j : JR) (b : List Int) (fr : List RecR) (C : List Int) : Prop := C.length = b.length ∧ B8 C ∧ (∀ i, j.inJ i → C.getD i 0 = b.getD i 0) ∧ ∀ i, (∀ r ∈ fr, ¬ covers r i) → C.getD i 0 = b.getD i 0
structure FrIn (j : JR) (b : List Int) (fr : List RecR) : Prop where
  in_ : ∀ r ∈ fr, 0 ≤ r.1 ∧ r.1.toNat + r.2.length ≤ b.length
  out : ∀ r ∈ fr, r.1 + r.2.length ≤ j.pos ∨ j.pos + j.size ≤ r.1
  b8 : ∀ r ∈ fr, B8 r.2
theorem fr_crash {j : JR} {b : List Int} {fr : List RecR} {s : DF} (hj : j.Ok) (hF : FrIn j b fr) (h8 : B8 b) (hs : s.safe = b) (hi : ∀ it ∈ s.items, ∃ r ∈ fr, it ∈ segs r.2.length r.1 r.2) (ks : List Bool) : FrC j b fr (crashL s.safe s.items ks) := by
  obtain ⟨j1, j2, j3, j4, j5, j6⟩ := hj
  rw [hs]
  refine crash_keeps (FrC j b fr) s.items b ks (fun it hit C hC => ?_) ⟨rfl, h8, fun _ _ => rfl, fun _ _ => rfl⟩
  obtain ⟨r, hr, hm⟩ := hi it hit
  obtain ⟨i1, i2, i3, i4⟩ := segs_in _ _ _ it hm
  obtain ⟨f0, f1⟩ := hF.in_ r hr
  have fo := hF.out r hr
  obtain ⟨c1, c2, c3, c4⟩ := hC
  rw [i1]
  have hl := layL_length (b := C) (at_ := it.2.1) (xs := it.2.2) (by omega)
  refine ⟨by rw [hl]; omega, ?_, fun i hi => ?_, fun i hi => ?_⟩
  · rw [layL_eq (by omega)]
    refine putG_B8 ?_ (i4 (hF.b8 r hr))
    unfold layP
    exact c2.append (B8.replicate _)
  · have hi2 : j.pos.toNat ≤ i ∧ i < j.pos.toNat + j.size.toNat := hi
    rw [layL_at (by omega), if_neg (by omega)]
    exact c3 i hi
  · rw [layL_at (by omega), if_neg (fun hq => hi r hr ⟨by omega, by omega⟩)]
    exact c4 i hi
theorem doneL_in {fr : List RecR} {b : List Int} (h : ∀ r ∈ fr, 0 ≤ r.1 ∧ r.1.toNat + r.2.length ≤ b.length) : (doneL fr b).length = b.length := by
  rw [doneL_length fr b (fun r hr => by have := h r hr; omega)]
  refine Nat.le_antisymm (endL_bound b.length fr b.length (Nat.le_refl _) (fun r hr => (h r hr).2)) (endL_ge _ _)
/-- Wherever a tx's commit is cut off. -/
theorem tcrash {t : TR} {j : JR} {s : DF} {z b : List Int} {x : Int × TR × JR × DF} (h : tcomRel t j s z x) (ho : t.over = false) (hs : s.safe = b) (hn : s.now = b) (hi : s.items = []) (hj : j.Ok) (hal : j.pos % 512 = 0) (hf : j.pos + j.size ≤ b.length) (hm : b.length ≤ 4194304) (h8 : B8 b) (h0 : ∀ i, i < 512 → b.getD (j.pos.toNat + i) 0 = 0)
    (hT : t.Ok) (hI : t.In j) (hF : ∀ r ∈ t.fresh, r.1.toNat + r.2.length ≤ b.length) (hD : ∀ q ∈ t.dirty, q.1 * 512 + 512 ≤ b.length) (hz : z = List.replicate 512 0) {rs : List RecR} (hr : RecRel t rs) (hfit : (encL rs).length ≤ j.size - 512) :
    JCase j (doneL t.fresh b) rs ∧ ∀ ks, FrC j b t.fresh (crashL x.2.2.2.safe x.2.2.2.items ks) ∨ Cr j (doneL t.fresh b) rs (crashL x.2.2.2.safe x.2.2.2.items ks) := by
  have hFI : FrIn j b t.fresh := ⟨fun r hm => ⟨(hI.frs r hm).1, hF r hm⟩, fun r hm => (hI.frs r hm).2.2.1, fun r hm => (hI.frs r hm).2.2.2⟩
  have hl1 := doneL_in hFI.in_
  have hout := hI.recs hT hj hr
  have hcov := (hr.S hT (fun q hq => (hI.keys q hq).1)).2
  have hr8 := hr.B8 (fun q hq => (hI.keys q hq).2.2.2)
  obtain ⟨j1, j2, j3, j4, j5, j6⟩ := hj
  have hj : j.Ok := ⟨j1, j2, j3, j4, j5, j6⟩
  have hend : ∀ r ∈ rs, r.1 + r.2.length ≤ b.length := fun r hm => by
    obtain ⟨c1, c2, c3⟩ := hcov r hm
    obtain ⟨q, hq, e⟩ := List.mem_map.1 (c3 (r.1.toNat + r.2.length - 1) (by omega) (by omega))
    have := hD q hq
    omega
  have hJ : JCase j (doneL t.fresh b) rs := ⟨hj, hal, by rw [hl1]; exact hf, doneL_B8 _ _ h8 hFI.b8, fun r hm => (hout r hm).1, fun r hm => ⟨(hout r hm).1.1, (hout r hm).1.2.2.1, by have := (hout r hm).1.1; have := hend r hm; omega⟩, hr8, fun r hm => by rw [hl1]; have := hend r hm; have := (hcov r hm).1; omega, by rw [hl1]; exact hm, hfit⟩
  refine ⟨hJ, ?_⟩
  have hz1 : ∀ i, i < 512 → (doneL t.fresh b).getD (j.pos.toNat + i) 0 = 0 := fun i hi => by
    rw [doneL_off t.fresh b _ (fun r hm => by have := hFI.in_ r hm; omega) (fun r hm hc => ?_)]
    · exact h0 i hi
    · have := hFI.out r hm
      have := hFI.in_ r hm
      have hc : r.1.toNat ≤ j.pos.toNat + i ∧ j.pos.toNat + i < r.1.toNat + r.2.length := hc
      omega
  rcases h with ⟨h, _⟩ | ⟨_, rs', hr', h⟩
  · rw [ho] at h; cases h
  obtain rfl := hr.unique hr'
  rcases h with ⟨h, _⟩ | ⟨_, y, hy, h⟩
  · omega
  obtain ⟨w1, w2, w3, w4⟩ := wrs_items t.fresh s (fun r hm => by rw [hn]; exact hFI.in_ r hm)
  have w3 : ∀ it ∈ (s.run (wrs t.fresh)).2.items, ∃ r ∈ t.fresh, it ∈ segs r.2.length r.1 r.2 := fun it hit => by
    rcases w3 it hit with h | h
    · rw [hi] at h; cases h
    · exact h
  -- what stands behind the fresh ones
  have ends : (y.1 ≠ 0 → y.2.safe = b ∧ ∀ it ∈ y.2.items, ∃ r ∈ t.fresh, it ∈ segs r.2.length r.1 r.2) ∧ (y.1 = 0 → y.2.safe = doneL t.fresh b ∧ y.2.now = doneL t.fresh b ∧ y.2.items = []) := by
    rw [hy]
    unfold frOps
    by_cases hA : (s.run (wrs t.fresh)).1 = 0
    · by_cases hL : t.fresh.length = 0
      · have hf0 : t.fresh = [] := List.eq_nil_of_length_eq_zero hL
        rw [if_pos hL, List.append_nil, hf0]
        exact ⟨fun h => absurd rfl h, fun _ => ⟨hs, hn, hi⟩⟩
      · rw [if_neg hL]
        have e1 : s.run (wrs t.fresh) = (0, (s.run (wrs t.fresh)).2) := Prod.ext hA rfl
        rw [DF.run_good e1, DF.run1]
        have w4 := w4 hA
        rw [hn] at w4
        refine ⟨fun hB => ?_, fun hB => ?_⟩
        · rw [DF.doOp_err hB]
          exact ⟨w1.trans hs, w3⟩
        · rw [DF.doOp_fled hB]
          exact ⟨w4, w4, rfl⟩
    · rw [DF.run_bad hA]
      exact ⟨fun _ => ⟨w1.trans hs, w3⟩, fun h => absurd h hA⟩
  rcases h with ⟨h1, rfl⟩ | ⟨h1, h2, rfl⟩ | ⟨h1, h2, q, hq, h3⟩
  · intro ks
    obtain ⟨e1, e2⟩ := ends.1 h1
    exact .inl (fr_crash hj hFI h8 e1 e2 ks)
  · intro ks
    obtain ⟨e1, e2, e3⟩ := ends.2 h1
    refine .inr ?_
    show Cr j _ rs (crashL y.2.safe y.2.items ks)
    exact body_cr hJ hz1 e1 (by rw [e3]; intro it hit; cases hit) ks
  · obtain ⟨e1, e2, e3⟩ := ends.2 h1
    obtain ⟨k1, k2⟩ := commit_cr hJ hz1 e1 e2 e3 hq
    rcases h3 with ⟨h3, rfl⟩ | ⟨h3, u, hu, rfl⟩
    · exact fun ks => .inr (k1 ks)
    · obtain ⟨n1, n2, n3, n4, n5⟩ := k2 h3
      have hap := (apply_cr hJ hz n4 n5 rfl n3 n2).1
      intro ks
      refine .inr ?_
      show Cr j _ rs (crashL u.2.safe u.2.items ks)
      rw [hu, n1]
      exact hap ks
/-- Where only fresh ones may stand nothing is pending. -/
theorem FrC.pend {j : JR} {b C : List Int} {fr : List RecR} (hj : j.Ok) (hf : j.pos + j.size ≤ b.length) (h0 : ∀ i, i < 512 → b.getD (j.pos.toNat + i) 0 = 0) (h : FrC j b fr C) : pendB j (j.partL C) = none := by
  obtain ⟨j1, j2, j3, j4, j5, j6⟩ := hj
  refine zero_none ⟨j1, j2, j3, j4, j5, j6⟩ (by rw [h.1]; omega) (fun i hi => ?_)
  have hJ : j.inJ (j.pos.toNat + i) := ⟨by omega, by omega⟩
  exact (h.2.2.1 _ hJ).trans (h0 i (by omega))
end Go.Proofs.Ytcfmlnddmpiemaa.Sx


set_option maxRecDepth 10000
namespace Go.Proofs.Ytcfmlnddmpiemaa.Sx
/-! ### How many bytes the records take: each sector 512, each run of them 12 more -/
def encI (ks : List Int) : Nat → Nat
  | 0 => 0
  | m + 1 => encI ks m + (if 0 < m ∧ ks.getD (m - 1) 0 = ks.getD m 0 - 1 then 512 else 524)
theorem encL_bld {d : List (Int × List Int)} {ks : List Int} (hk : SecsOk d ks) : ∀ m, m ≤ ks.length → (encL (bldR d ks m)).length = encI ks m
  | 0, _ => rfl
  | m + 1, hm => by
    have ih := encL_bld hk m (by omega)
    have hkm : ks.getD m 0 ∈ ks := by
      rw [show ks.getD m 0 = ks[m]'(by omega) by simp [List.getD_eq_getElem?_getD, show m < ks.length by omega]]
      exact List.getElem_mem _
    obtain ⟨k0, k1⟩ := hk _ hkm
    have e : bldR d ks (m + 1) = bldS d ks (bldR d ks m) m := by
      unfold bldR; rw [List.range_succ, List.foldl_append]; rfl
    rw [e]
    show _ = encI ks m + _
    rw [← ih]
    unfold bldS
    by_cases h : 0 < m ∧ ks.getD (m - 1) 0 = ks.getD m 0 - 1
    · rw [if_pos h, if_pos h]
      have hS := bldR_S hk m (by omega)
      have tl : (ks.take m).length = m := by rw [List.length_take]; omega
      obtain ⟨init, r, hr, -⟩ := hS.last (fun h0 => by rw [h0] at tl; simp at tl; omega)
      have hn : 0 < (bldR d ks m).length := by rw [hr]; simp
      unfold snocD
      rw [encL_set _ _ _ (by omega), k1]
    · rw [if_neg h, if_neg h, encL_append, encL_cons]
      show _ + (12 + ((lkS (ks.getD m 0) d).getD []).length + 0) = _
      rw [k1]
def cntK (ks : List Int) (S : Int) : Nat := (ks.filter (fun k => decide (k < S))).length
theorem cntK_split {ks : List Int} {S : Int} {i : Nat} (h1 : ∀ x ∈ ks.take i, x < S) (h2 : ∀ x ∈ ks.drop i, S ≤ x) (hi : i ≤ ks.length) : cntK ks S = i := by
  unfold cntK
  conv => lhs; rw [← List.take_append_drop i ks]
  rw [List.filter_append, List.filter_eq_self.2 (fun x hx => by simpa using h1 x hx), List.filter_eq_nil_iff.2 (fun x hx => by have := h2 x hx; simp; omega), List.append_nil, List.length_take]
  omega
/-- By the law: the sectors one by one. -/
def needV (p : Int → Bool) : Nat → Int
  | 0 => 0
  | s + 1 => needV p s + (if p s then (if p ((s : Int) - 1) then 512 else 524) else 0)
theorem sorted_get {ks : List Int} (h : ks.Pairwise (· < ·)) {i j : Nat} (hij : i < j) (hj : j < ks.length) : ks.getD i 0 < ks.getD j 0 := by
  have := List.pairwise_iff_getElem.1 h i j (by omega) hj hij
  simpa [List.getD_eq_getElem?_getD, show i < ks.length by omega, hj] using this
theorem getD_mem {ks : List Int} {i : Nat} (h : i < ks.length) : ks.getD i 0 ∈ ks := by
  rw [show ks.getD i 0 = ks[i] by simp [List.getD_eq_getElem?_getD, h]]; exact List.getElem_mem h
theorem mem_getD {ks : List Int} {x : Int} (h : x ∈ ks) : ∃ i, i < ks.length ∧ ks.getD i 0 = x := by
  obtain ⟨i, hi, e⟩ := List.mem_iff_getElem.1 h
  exact ⟨i, hi, by simpa [List.getD_eq_getElem?_getD, hi] using e⟩
theorem mem_take_getD {ks : List Int} {x : Int} {n : Nat} (h : x ∈ ks.take n) : ∃ i, i < n ∧ i < ks.length ∧ ks.getD i 0 = x := by
  obtain ⟨i, hi, e⟩ := List.mem_iff_getElem.1 h
  rw [List.length_take] at hi
  refine ⟨i, by omega, by omega, ?_⟩
  rw [List.getElem_take] at e
  simpa [List.getD_eq_getElem?_getD, show i < ks.length by omega] using e
theorem mem_drop_getD {ks : List Int} {x : Int} {n : Nat} (h : x ∈ ks.drop n) : ∃ i, n ≤ i ∧ i < ks.length ∧ ks.getD i 0 = x := by
  obtain ⟨i, hi, e⟩ := List.mem_iff_getElem.1 h
  rw [List.length_drop] at hi
  refine ⟨n + i, by omega, by omega, ?_⟩
  rw [List.getElem_drop] at e
  simpa [List.getD_eq_getElem?_getD, show n + i < ks.length by omega] using e
theorem needV_eq {ks : List Int} (h : ks.Pairwise (· < ·)) (h0 : ∀ k ∈ ks, 0 ≤ k) : ∀ S : Nat, needV (fun s => decide (s ∈ ks)) S = encI ks (cntK ks S)
  | 0 => by
    rw [show cntK ks ((0 : Nat) : Int) = 0 from cntK_split (i := 0) (fun x hx => by simp at hx) (fun x hx => by rw [List.drop_zero] at hx; have := h0 x hx; omega) (Nat.zero_le _)]
    rfl
  | S + 1 => by
    have ih := needV_eq h h0 S
    show needV _ S + _ = _
    rw [ih]
    by_cases hm : ((S : Nat) : Int) ∈ ks
    · obtain ⟨i, hi, e⟩ := mem_getD hm
      have c1 : cntK ks ((S : Nat) : Int) = i := by
        refine cntK_split (fun x hx => ?_) (fun x hx => ?_) (by omega)
        · obtain ⟨j, j1, j2, rfl⟩ := mem_take_getD hx
          have := sorted_get h j1 hi
          omega
        · obtain ⟨j, j1, j2, rfl⟩ := mem_drop_getD hx
          by_cases q : j = i
          · rw [q, e]; exact Int.le_refl _
          · have := sorted_get h (show i < j by omega) j2
            omega
      have c2 : cntK ks (((S + 1 : Nat)) : Int) = i + 1 := by
        refine cntK_split (fun x hx => ?_) (fun x hx => ?_) (by omega)
        · obtain ⟨j, j1, j2, rfl⟩ := mem_take_getD hx
          by_cases q : j = i
          · rw [q, e]; omega
          · have := sorted_get h (show j < i by omega) hi
            omega
        · obtain ⟨j, j1, j2, rfl⟩ := mem_drop_getD hx
          have := sorted_get h (show i < j by omega) j2
          omega
      rw [c1, c2, if_pos (by simpa using hm)]
      show _ = ((encI ks i + _ : Nat) : Int)
      by_cases q : ((S : Nat) : Int) - 1 ∈ ks
      · rw [if_pos (by simpa using q)]
        obtain ⟨j, j1, j2⟩ := mem_getD q
        have hji : j + 1 = i := by
          have l1 : j < i := by
            rcases Nat.lt_trichotomy j i with r | r | r
            · exact r
            · rw [r, e] at j2; omega
            · have := sorted_get h r j1; omega
          by_cases r : j + 1 = i
          · exact r
          · have a1 := sorted_get h (show j < j + 1 by omega) (by omega)
            have a2 := sorted_get h (show j + 1 < i by omega) hi
            omega
        rw [if_pos ⟨by omega, by rw [show i - 1 = j by omega, j2, e]⟩]
        omega
      · rw [if_neg (by simpa using q), if_neg]
        · omega
        · rintro ⟨r1, r2⟩
          rw [e] at r2
          exact q (r2 ▸ getD_mem (by omega))
    · have c2 : cntK ks (((S + 1 : Nat)) : Int) = cntK ks ((S : Nat) : Int) := by
        unfold cntK
        congr 1
        refine List.filter_congr (fun x hx => ?_)
        have : x ≠ (S : Int) := fun e => hm (e ▸ hx)
        simp
        omega
      rw [c2, if_neg (by simpa using hm)]
      omega
/-- The size of a tx's records, by the law. -/
theorem RecRel.size {t : TR} {rs : List RecR} (h : RecRel t rs) (ho : t.Ok) (hk : ∀ q ∈ t.dirty, 0 ≤ q.1 ∧ q.1 < 80) (hn : (t.dirty.map (fun x => x.1)).Nodup) : ((encL rs).length : Int) = needV (fun s => decide (s ∈ t.dirty.map (fun x => x.1))) 80 := by
  obtain ⟨ks, h1, h2, rfl⟩ := h
  have hs := secs_of ho (fun q hq => (hk q hq).1) (ks := ks) (fun k hk => h1.subset hk)
  have h3 : ks.Pairwise (· < ·) := by
    have hnd := (h1.nodup_iff).2 hn
    rw [List.nodup_iff_pairwise_ne] at hnd
    exact (h2.and hnd).imp (fun ⟨a, b⟩ => by omega)
  have hm : ∀ k ∈ ks, 0 ≤ k ∧ k < 80 := fun k hq => by
    obtain ⟨q, hm, rfl⟩ := List.mem_map.1 (h1.subset hq)
    exact hk q hm
  rw [encL_bld hs ks.length (Nat.le_refl _)]
  have e := needV_eq h3 (fun k hk => (hm k hk).1) 80
  rw [show cntK ks ((80 : Nat) : Int) = ks.length from cntK_split (fun x hx => (hm x (List.mem_of_mem_take hx)).2) (fun x hx => by rw [List.drop_length] at hx; cases hx) (Nat.le_refl _)] at e
  rw [← e]
  congr 1
  funext s
  rw [decide_eq_decide]
  exact ⟨fun h => h1.subset h, fun h => h1.symm.subset h⟩
end Go.Proofs.Ytcfmlnddmpiemaa.Sx


set_option maxRecDepth 10000
namespace Go.Proofs.Ytcfmlnddmpiemaa.Sx
open Go.RowKit Go.Proofs.Ytcfmlnddmpiemaa.Sx.Tb
/-! ### At -/
def mtb (h : HD) (n : Int) (i : Nat) : Chunk := .blk 119 (.lst [.v (.int .i64 h.bits), .v (.int .i64 h.size), .v (.int .i64 h.host), .v (.int .i64 h.jr), .v (.bool h.backed), .p i 0 1 0, .v (.int .i64 n)]) 7
/-! ### The law MapsNils -/
end Go.Proofs.Ytcfmlnddmpiemaa.Sx


set_option maxRecDepth 10000
namespace Go.Proofs.Ytcfmlnddmpiemaa.Sx
open Go.RowKit Go.Proofs.Ytcfmlnddmpiemaa.Sx.Tb
/-! ### A table over its tx -/
def entAV (x : ER) : List AV := [.v (.int .i64 x.kind), .v (.int .i64 x.cl), .v (.bool x.own)]
def entsC (es : List ER) : Cont := .recs 3 es.length (fun i => entAV (es.getD i ⟨0, 0, false⟩))
theorem entsC_noF (es : List ER) : (entsC es).noF := fun j hj => ⟨trivial, trivial, trivial, trivial⟩
theorem entsC_ren (es : List ER) (f : Nat → Nat) : (entsC es).ren f = entsC es := rfl
def tp6 (t : TR) (j : JR) (s : DF) (h : HD) (n : Int) : List Chunk := [t.c0 3 1 2, t.c1, t.c2, j.blk 4, s.pk, mtb h n 0]
theorem mtb_le {H : List Chunk} {fz : List Nat} {f : Nat → Nat} {ph : Nat → Bool} {h : HD} {n : Int} {a i : Nat} (fi : f 0 = a) (h0 : nth H i = some (mtb h n a)) (hz : memN i fz = false) : (mtb h n 0).le H fz f ph i := by
  unfold Chunk.le mtb
  simp only
  rw [nth_lt h0, hz, h0]
  exact ⟨VC.mk ⟨rfl, rfl⟩, VC.mk rfl, VC.mk rfl, VC.mk rfl, VC.mk rfl, VC.mk rfl, VC.mk ⟨fi, rfl, rfl, rfl⟩, VC.mk rfl, trivial⟩
theorem fix6 {N : Nat} {σ : List Nat} : ∀ i, i < 6 → fren (0 :: 1 :: 2 :: 3 :: 4 :: 5 :: σ) N i = i := fun i hi => by
  match i, hi with
  | 0, _ => rfl
  | 1, _ => rfl
  | 2, _ => rfl
  | 3, _ => rfl
  | 4, _ => rfl
  | 5, _ => rfl
theorem T6.le {H : List Chunk} {f : Nat → Nat} {ph : Nat → Bool} {t : TR} {j : JR} {s : DF} {h : HD} {n : Int} {σ : List Nat} {cs : List Chunk} (f0 : f 0 = 0) (f1 : f 1 = 1) (f2 : f 2 = 2) (f3 : f 3 = 3) (f4 : f 4 = 4) (h0 : nth H 0 = some (t.c0 3 1 2)) (h1 : nth H 1 = some t.c1) (h2 : nth H 2 = some t.c2) (h3 : nth H 3 = some (j.blk 4)) (h4 : nth H 4 = some s.pk) (h5 : nth H 5 = some (mtb h n 0)) (hx : chunksLe H [] f ph σ cs) : chunksLe H [] f ph (0 :: 1 :: 2 :: 3 :: 4 :: 5 :: σ) (tp6 t j s h n ++ cs) :=
  T5.leG f1 f2 f3 f4 h0 h1 h2 h3 h4 ⟨rfl, rfl, rfl, rfl, rfl⟩ (cs := mtb h n 0 :: cs) ⟨mtb_le f0 h5 rfl, hx⟩
theorem T6.fin {H : List Chunk} {t : TR} {j : JR} {s : DF} {h : HD} {n : Int} {v : AV} {k : K} (h0 : nth H 0 = some (t.c0 3 1 2)) (h1 : nth H 1 = some t.c1) (h2 : nth H 2 = some t.c2) (h3 : nth H 3 = some (j.blk 4)) (h4 : nth H 4 = some s.pk) (h5 : nth H 5 = some (mtb h n 0)) (hk : k v (tp6 t j s h n)) (hv : v.inN 6 := by simp [AV.inN, inNs, Cont.inN]) : Fin 6 v H k :=
  Fin.ren [0, 1, 2, 3, 4, 5] [] v (tp6 t j s h n) rfl rfl trivial (T6.le rfl rfl rfl rfl rfl h0 h1 h2 h3 h4 h5 (cs := []) trivial) (AV.le_refl fix6 hv) hk
theorem T6.good {t : TR} {j : JR} {s : DF} {h : HD} {n : Int} {v : AV} (hv : v.noF) : Good 6 v (tp6 t j s h n) := by
  refine ⟨hv, fun c hc => ?_, Nat.le_refl _⟩
  rcases List.mem_append.1 (show c ∈ tpre t j s ++ [mtb h n 0] from hc) with hc | hc
  · exact (T5.good (v := .v (.bool true)) trivial).2.1 c hc
  · simp at hc; subst hc; exact .blk ⟨trivial, trivial, trivial, trivial, trivial, trivial, trivial, trivial⟩
theorem T6.nd {t : TR} {j : JR} {s : DF} {h : HD} {n : Int} : ∀ c ∈ tp6 t j s h n, c.lives := by
  intro c hc
  rcases List.mem_append.1 (show c ∈ tpre t j s ++ [mtb h n 0] from hc) with hc | hc
  · exact T5.nd c hc
  · simp at hc; subst hc; trivial
end Go.Proofs.Ytcfmlnddmpiemaa.Sx


set_option maxRecDepth 10000
namespace Go.Proofs.Ytcfmlnddmpiemaa.Sx
open Go.RowKit Go.Proofs.Ytcfmlnddmpiemaa.Sx.Tb
/-! ### Set -/
end Go.Proofs.Ytcfmlnddmpiemaa.Sx


set_option maxRecDepth 10000
namespace Go.Proofs.Ytcfmlnddmpiemaa.Sx
open Go.RowKit Go.Proofs.Ytcfmlnddmpiemaa.Sx.Tb
/-! ### List, All -/
attribute [local simp] entsC_noF entsC_ren
end Go.Proofs.Ytcfmlnddmpiemaa.Sx


set_option maxRecDepth 10000
namespace Go.Proofs.Ytcfmlnddmpiemaa.Sx
open Go.RowKit Go.Proofs.Ytcfmlnddmpiemaa.Sx.Tb
attribute [local simp] entsC_noF entsC_ren
/-! ### The reference -/
end Go.Proofs.Ytcfmlnddmpiemaa.Sx


set_option maxRecDepth 10000
namespace Go.Proofs.Ytcfmlnddmpiemaa.Sx
open Go.RowKit Go.Proofs.Ytcfmlnddmpiemaa.Sx.Tb
/-! ### The counts' header, the nil ones, New -/
def HD.r (H : Int) : HD := ⟨9, 32768, H, 29, false⟩
def rfb (h : HD) (i : Nat) : Chunk := .blk 126 (.lst [.v (.int .i64 h.bits), .v (.int .i64 h.size), .v (.int .i64 h.host), .v (.int .i64 h.jr), .v (.bool h.backed), .p i 0 1 0]) 6
end Go.Proofs.Ytcfmlnddmpiemaa.Sx


set_option maxRecDepth 10000
namespace Go.Proofs.Ytcfmlnddmpiemaa.Sx
open Go.RowKit Go.Proofs.Ytcfmlnddmpiemaa.Sx.Tb
/-! ### A nil tx; the law's files -/
end Go.Proofs.Ytcfmlnddmpiemaa.Sx


set_option maxRecDepth 10000
namespace Go.Proofs.Ytcfmlnddmpiemaa.Sx
open Go.RowKit Go.Proofs.Ytcfmlnddmpiemaa.Sx.Tb
/-! ### The law's records -/
/-! ### The law's file -/
structure CaseR where
  n : Int
  fill : List Int
  pos : Int
  size : Int
  recs : List RecR
end Go.Proofs.Ytcfmlnddmpiemaa.Sx


set_option maxRecDepth 10000
namespace Go.Proofs.Ytcfmlnddmpiemaa.Sx
open Go.RowKit Go.Proofs.Ytcfmlnddmpiemaa.Sx.Tb
/-! ### The document's Done -/
/-! ### The law -/
end Go.Proofs.Ytcfmlnddmpiemaa.Sx



set_option maxRecDepth 10000
namespace Go.Proofs.Ytcfmlnddmpiemaa.Sx
open Go.RowKit Go.Proofs.Ytcfmlnddmpiemaa.Sx.Tb
/-! ### The functions of the tx's laws -/
end Go.Proofs.Ytcfmlnddmpiemaa.Sx


set_option maxRecDepth 10000
namespace Go.Proofs.Ytcfmlnddmpiemaa.Sx
open Go.RowKit Go.Proofs.Ytcfmlnddmpiemaa.Sx.Tb
/-! ### The tx's example -/
abbrev jX : JR := ⟨512, 10240, 0⟩
theorem jX_al : jX.al := ⟨by decide, by decide⟩
theorem TR.zero_ok : TR.zero.Ok := ⟨fun x hx => absurd hx List.not_mem_nil, fun x hx => absurd hx List.not_mem_nil, Nat.le_refl _, Nat.zero_le _⟩
theorem TR.zero_In (j : JR) : TR.zero.In j := ⟨fun x hx => absurd hx List.not_mem_nil, List.nodup_nil, fun x hx => absurd hx List.not_mem_nil⟩
theorem TR.zero_B {z : List Int} (h : B8 z) : TR.zero.B z := fun i => by rw [zero_V]; exact h.getD i
theorem DF.Ok.tick {s : DF} {n : Int} (h : s.Ok n) (m : Nat) : (s.tick m).Ok (n + m) := ⟨h.safe, h.now, h.its, by have := h.len; show (s.items.length : Int) ≤ _; omega, by have := h.ops; show 0 ≤ s.ops + m ∧ s.ops + m ≤ _; omega, by have := h.wrote; show 0 ≤ s.wrote ∧ s.wrote ≤ _; omega, h.all⟩
end Go.Proofs.Ytcfmlnddmpiemaa.Sx


set_option maxRecDepth 10000
namespace Go.Proofs.Ytcfmlnddmpiemaa.Sx
open Go.RowKit Go.Proofs.Ytcfmlnddmpiemaa.Sx.Tb
/-! ### begun, for the counts -/
theorem HD.r_vals {H : Int} (h : 40 ≤ H ∧ H ≤ 99) : (HD.r H).clus = 512 ∧ (HD.r H).refs = 1 ∧ (HD.r H).jend = 15360 ∧ (HD.r H).rend = 15872 ∧ (HD.r H).first = 33 := by
  have c : (HD.r H).clus = 512 := by unfold HD.clus HD.r; rw [if_neg (by simp)]; rfl
  have r : (HD.r H).refs = 1 := by
    unfold HD.refs; rw [c]
    show (2 * max 0 (min H 8192) + 512 - 1) / 512 = 1
    omega
  have e : (HD.r H).jend = 15360 := by
    unfold HD.jend; rw [c]
    show 512 * (1 + max 0 (min 29 8192)) = (15360 : Int)
    decide
  have e2 : (HD.r H).rend = 15872 := by
    unfold HD.rend; rw [c, r, e]; decide
  refine ⟨c, r, e, e2, ?_⟩
  unfold HD.first; rw [c, e2]; decide
def oneAt (c i : Nat) : Int := if 15360 ≤ i ∧ i < 15360 + 2 * c ∧ i % 2 = 0 then 1 else 0
def RZ (c : Nat) (z : List Int) : Prop := z.length = 16896 ∧ ∀ i, z.getD i 0 = oneAt c i
theorem RZ.set {c : Nat} {z : List Int} (h : RZ c z) (hc : c < 33) : RZ (c + 1) (z.set (15360 + 2 * c) 1) := by
  refine ⟨by rw [List.length_set]; exact h.1, fun i => ?_⟩
  by_cases hi : i = 15360 + 2 * c
  · subst hi
    rw [List.getD_eq_getElem?_getD, List.getElem?_set_self (by rw [h.1]; omega)]
    unfold oneAt; rw [if_pos (by omega)]; rfl
  · rw [List.getD_eq_getElem?_getD, List.getElem?_set_ne (fun e => hi e.symm), ← List.getD_eq_getElem?_getD, h.2 i]
    unfold oneAt
    by_cases q : 15360 ≤ i ∧ i < 15360 + 2 * c ∧ i % 2 = 0
    · rw [if_pos q, if_pos (by omega)]
    · rw [if_neg q, if_neg (by omega)]
theorem RZ.zero : RZ 0 (List.replicate 16896 0) := by
  refine ⟨List.length_replicate .., fun i => ?_⟩
  unfold oneAt; rw [if_neg (by omega), List.getD_eq_getElem?_getD, List.getElem?_replicate]; split <;> rfl
end Go.Proofs.Ytcfmlnddmpiemaa.Sx


set_option maxRecDepth 10000
namespace Go.Proofs.Ytcfmlnddmpiemaa.Sx
open Go.RowKit Go.Proofs.Ytcfmlnddmpiemaa.Sx.Tb
attribute [local simp] entsC_noF entsC_ren
/-! ### Counts over their tx -/
def rp6 (t : TR) (j : JR) (s : DF) (h : HD) : List Chunk := [t.c0 3 1 2, t.c1, t.c2, j.blk 4, s.pk, rfb h 0]
theorem rfb_le {H : List Chunk} {fz : List Nat} {f : Nat → Nat} {ph : Nat → Bool} {h : HD} {a i : Nat} (fi : f 0 = a) (h0 : nth H i = some (rfb h a)) (hz : memN i fz = false) : (rfb h 0).le H fz f ph i := by
  unfold Chunk.le rfb
  simp only
  rw [nth_lt h0, hz, h0]
  exact ⟨VC.mk ⟨rfl, rfl⟩, VC.mk rfl, VC.mk rfl, VC.mk rfl, VC.mk rfl, VC.mk rfl, VC.mk ⟨fi, rfl, rfl, rfl⟩, trivial⟩
theorem R6.le {H : List Chunk} {f : Nat → Nat} {ph : Nat → Bool} {t : TR} {j : JR} {s : DF} {h : HD} {σ : List Nat} {cs : List Chunk} (f0 : f 0 = 0) (f1 : f 1 = 1) (f2 : f 2 = 2) (f3 : f 3 = 3) (f4 : f 4 = 4) (h0 : nth H 0 = some (t.c0 3 1 2)) (h1 : nth H 1 = some t.c1) (h2 : nth H 2 = some t.c2) (h3 : nth H 3 = some (j.blk 4)) (h4 : nth H 4 = some s.pk) (h5 : nth H 5 = some (rfb h 0)) (hx : chunksLe H [] f ph σ cs) : chunksLe H [] f ph (0 :: 1 :: 2 :: 3 :: 4 :: 5 :: σ) (rp6 t j s h ++ cs) :=
  T5.leG f1 f2 f3 f4 h0 h1 h2 h3 h4 ⟨rfl, rfl, rfl, rfl, rfl⟩ (cs := rfb h 0 :: cs) ⟨rfb_le f0 h5 rfl, hx⟩
theorem R6.fin {H : List Chunk} {t : TR} {j : JR} {s : DF} {h : HD} {v : AV} {k : K} (h0 : nth H 0 = some (t.c0 3 1 2)) (h1 : nth H 1 = some t.c1) (h2 : nth H 2 = some t.c2) (h3 : nth H 3 = some (j.blk 4)) (h4 : nth H 4 = some s.pk) (h5 : nth H 5 = some (rfb h 0)) (hk : k v (rp6 t j s h)) (hv : v.inN 6 := by simp [AV.inN, inNs, Cont.inN]) : Fin 6 v H k :=
  Fin.ren [0, 1, 2, 3, 4, 5] [] v (rp6 t j s h) rfl rfl trivial (R6.le rfl rfl rfl rfl rfl h0 h1 h2 h3 h4 h5 (cs := []) trivial) (AV.le_refl fix6 hv) hk
theorem R6.good {t : TR} {j : JR} {s : DF} {h : HD} {v : AV} (hv : v.noF) : Good 6 v (rp6 t j s h) := by
  refine ⟨hv, fun c hc => ?_, Nat.le_refl _⟩
  rcases List.mem_append.1 (show c ∈ tpre t j s ++ [rfb h 0] from hc) with hc | hc
  · exact (T5.good (v := .v (.bool true)) trivial).2.1 c hc
  · simp at hc; subst hc; exact .blk ⟨trivial, trivial, trivial, trivial, trivial, trivial, trivial⟩
theorem R6.nd {t : TR} {j : JR} {s : DF} {h : HD} : ∀ c ∈ rp6 t j s h, c.lives := by
  intro c hc
  rcases List.mem_append.1 (show c ∈ tpre t j s ++ [rfb h 0] from hc) with hc | hc
  · exact T5.nd c hc
  · simp at hc; subst hc; trivial
def RefOk (t : TR) (s : DF) (h : HD) : Prop := t.Ok ∧ s.live ∧ hR h ∧ t.B s.now ∧ (0 ≤ h.host ∧ h.host ≤ 8192 ∧ h.jend + 2 * h.host ≤ 4194304) ∧ 0 ≤ s.ops ∧ s.ops ≤ 274877906944 ∧ s.now.length ≤ 4194304
end Go.Proofs.Ytcfmlnddmpiemaa.Sx


set_option maxRecDepth 10000
namespace Go.Proofs.Ytcfmlnddmpiemaa.Sx
open Go.RowKit Go.Proofs.Ytcfmlnddmpiemaa.Sx.Tb
attribute [local simp] entsC_noF entsC_ren
/-! ### All and Alloc of the counts -/
def cntV (t : TR) (now : List Int) (h : HD) (i : Nat) : Int := leV (t.rd now (h.jend.toNat + 2 * i) 2)
def cntL (t : TR) (now : List Int) (h : HD) : List Int := (List.range h.host.toNat).map (cntV t now h)
end Go.Proofs.Ytcfmlnddmpiemaa.Sx


set_option maxRecDepth 10000
namespace Go.Proofs.Ytcfmlnddmpiemaa.Sx
open Go.RowKit Go.Proofs.Ytcfmlnddmpiemaa.Sx.Tb
attribute [local simp] entsC_noF entsC_ren
theorem tick_tick (s : DF) (a b : Nat) : (s.tick a).tick b = s.tick (a + b) := by unfold DF.tick; simp [Int.add_assoc]
end Go.Proofs.Ytcfmlnddmpiemaa.Sx


set_option maxRecDepth 10000
namespace Go.Proofs.Ytcfmlnddmpiemaa.Sx
open Go.RowKit Go.Proofs.Ytcfmlnddmpiemaa.Sx.Tb
attribute [local simp] entsC_noF entsC_ren
/-! ### counted -/
theorem cnt_put {t : TR} (ht : t.Ok) (now : List Int) {h : HD} (hj : 0 ≤ h.jend) (i q : Nat) (c : Int) (hc : 0 ≤ c ∧ c ≤ 65535) : cntV (t.put now (h.jend + 2 * (i : Int)).toNat (leB 2 c)) now h q = if q = i then c else cntV t now h q := by
  have e : (h.jend + 2 * (i : Int)).toNat = h.jend.toNat + 2 * i := by omega
  rw [e]
  unfold cntV
  by_cases hq : q = i
  · subst hq
    rw [if_pos rfl]
    have := put_rd ht now (h.jend.toNat + 2 * q) (leB 2 c)
    rw [leB_length] at this
    rw [this, leV_leB 2 c hc.1 (by have := hc.2; simp; omega)]
  · rw [if_neg hq]
    refine congrArg leV (rd_congr (fun b hb => ?_))
    rw [(put_V ht now _ _).2.2.2.2, leB_length, if_neg (by omega)]
theorem RZ.cnt {z : List Int} (hz : RZ 33 z) {h : HD} (hj : h.jend = 15360) (q : Nat) : cntV TR.zero z h q = if q < 33 then 1 else 0 := by
  unfold cntV
  have e : TR.zero.rd z (h.jend.toNat + 2 * q) 2 = [oneAt 33 (15360 + 2 * q), oneAt 33 (15360 + 2 * q + 1)] := by
    unfold TR.rd
    rw [hj]
    show [TR.zero.V z (15360 + 2 * q + 0), TR.zero.V z (15360 + 2 * q + 1)] = _
    rw [zero_V, zero_V, hz.2, hz.2, Nat.add_zero]
  rw [e]
  have e2 : oneAt 33 (15360 + 2 * q + 1) = 0 := by unfold oneAt; rw [if_neg (by omega)]
  have e1 : oneAt 33 (15360 + 2 * q) = if q < 33 then 1 else 0 := by
    unfold oneAt
    by_cases hq : q < 33
    · rw [if_pos (by omega), if_pos hq]
    · rw [if_neg (by omega), if_neg hq]
  rw [e1, e2]
  split <;> decide
theorem RZ.refOk {z : List Int} (hz : RZ 33 z) {H : Int} (h : 40 ≤ H ∧ H ≤ 99) : RefOk TR.zero (DF.mk0 z) (HD.r H) := by
  obtain ⟨vc, vr, vj, ve, vf⟩ := HD.r_vals h
  refine ⟨⟨fun x hx => absurd hx List.not_mem_nil, fun x hx => absurd hx List.not_mem_nil, Nat.le_refl _, Nat.zero_le _⟩, ⟨rfl, rfl⟩, ⟨by simp [HD.r, inR], by simp [HD.r, inR], ?_, by simp [HD.r, inR]⟩, ?_, ⟨?_, ?_, ?_⟩, Int.le_refl _, by show (0 : Int) ≤ _; decide, ?_⟩
  · show inR .i64 H
    simp only [inR]; omega
  · intro i
    show 0 ≤ TR.zero.V z i ∧ TR.zero.V z i < 256
    rw [zero_V, hz.2]; unfold oneAt; split <;> decide
  · show 0 ≤ H; omega
  · show H ≤ 8192; omega
  · rw [vj]; show 15360 + 2 * H ≤ 4194304; omega
  · show z.length ≤ 4194304
    rw [hz.1]; decide
theorem RefOk.next {t t' : TR} {s : DF} {h : HD} (hr : RefOk t s h) (ho : t'.Ok) (hb : t'.B s.now) (m : Nat) (hm : s.ops + (m : Int) ≤ 274877906944) : RefOk t' (s.tick m) h := by
  obtain ⟨h1, h2, h3, h4, h5, h6, h7, h8⟩ := hr
  exact ⟨ho, h2, h3, hb, h5, by show 0 ≤ s.ops + (m : Int); omega, hm, h8⟩
/-! ### The law RefsNils -/
end Go.Proofs.Ytcfmlnddmpiemaa.Sx


set_option maxRecDepth 10000
namespace Go.Proofs.Ytcfmlnddmpiemaa.Sx
/-! ### Counts that are changed, plain -/
theorem wr1_keys (t : TR) (now : List Int) (a : Nat) (xs : List Int) : ∀ k ∈ (t.wr1 now a xs).dirty.map (fun x => x.1), k ∈ t.dirty.map (fun x => x.1) ∨ k = ((a / 512 : Nat) : Int) := by
  intro k hk
  have hk : k ∈ (upS ((a / 512 : Nat) : Int) (putG (t.sec now ((a / 512 : Nat) : Int)) (a % 512) xs) t.dirty).map (fun x => x.1) := hk
  rw [upS_keys] at hk
  split at hk
  · exact .inl hk
  · rcases List.mem_append.1 hk with hk | hk
    · exact .inl hk
    · exact .inr (List.mem_singleton.1 hk)
theorem putF_keys : ∀ (f : Nat) (t : TR) (now : List Int) (a : Nat) (p : List Int), ∀ k : Int, k ∈ (TR.putF f t now a p).dirty.map (fun x => x.1) → k ∈ t.dirty.map (fun x => x.1) ∨ ∃ m : Nat, k = (m : Int) ∧ a < 512 * m + 512 ∧ 512 * m < a + p.length
  | 0, t, now, a, p => fun k hk => .inl hk
  | f + 1, t, now, a, p => by
    intro k hk
    by_cases h0 : p.length = 0
    · rw [putF_nil _ _ _ _ _ h0] at hk; exact .inl hk
    · have e : TR.putF (f + 1) t now a p = TR.putF f (t.wr1 now a (p.take (min p.length (512 - a % 512)))) now (a + min p.length (512 - a % 512)) (p.drop (min p.length (512 - a % 512))) := by
        show (if _ then _ else _) = _; rw [if_neg h0]
      rw [e] at hk
      generalize hd : min p.length (512 - a % 512) = d at hk
      rcases putF_keys f _ _ _ _ k hk with hk | ⟨m, h1, h2, h3⟩
      · rcases wr1_keys _ _ _ _ k hk with hk | hk
        · exact .inl hk
        · exact .inr ⟨a / 512, hk, by omega, by omega⟩
      · rw [List.length_drop] at h3
        exact .inr ⟨m, h1, by omega, by omega⟩
theorem put_keys (t : TR) (now : List Int) (a : Nat) (p : List Int) : ∀ k : Int, k ∈ (t.put now a p).dirty.map (fun x => x.1) → k ∈ t.dirty.map (fun x => x.1) ∨ ∃ m : Nat, k = (m : Int) ∧ a < 512 * m + 512 ∧ 512 * m < a + p.length := putF_keys _ t now a p
abbrev jR : JR := ⟨512, 14848, 0⟩
theorem jR_al : jR.al := ⟨by decide, by decide⟩
/-- A tx in which only counts were changed. -/
structure Cnts (t : TR) (z : List Int) (h : HD) (m : List Int) : Prop where
  ok : t.Ok
  over : t.over = false
  fresh : t.fresh = []
  inn : t.In jR
  b : t.B z
  len : m.length = h.host.toNat
  cnt : ∀ q, q < m.length → cntV t z h q = m.getD q 0
  oth : ∀ i, ¬ (15360 ≤ i ∧ i < 15360 + 2 * m.length) → t.V z i = z.getD i 0
  keys : ∀ k ∈ t.dirty.map (fun x => x.1), k = 30
theorem Cnts.put {t : TR} {z : List Int} {h : HD} {m : List Int} (hC : Cnts t z h m) (hj : h.jend = 15360) (hl : m.length ≤ 99) {i : Nat} (hi : i < m.length) {c : Int} (hc : 0 ≤ c ∧ c ≤ 65535) : Cnts (t.put z (h.jend + 2 * (i : Int)).toNat (leB 2 c)) z h (m.set i c) := by
  have p1 := put_V hC.ok z (h.jend + 2 * (i : Int)).toNat (leB 2 c)
  have ha : (h.jend + 2 * (i : Int)).toNat = 15360 + 2 * i := by rw [hj]; omega
  have hl2 : (leB 2 c).length = 2 := leB_length 2 c
  refine ⟨p1.1, p1.2.2.1.trans hC.over, p1.2.1.trans hC.fresh, put_In hC.inn hC.ok hC.b (leB_B8 _ _) jR_al (by rw [ha, hl2]; omega) (.inr (.inr (by show (512 : Int) + 14848 ≤ _; rw [ha]; omega))), hC.b.put hC.ok _ (leB_B8 _ _), by rw [List.length_set]; exact hC.len, fun q hq => ?_, fun q hq => ?_, fun k hk => ?_⟩
  · rw [List.length_set] at hq
    rw [cnt_put hC.ok z (by rw [hj]; decide) i q c hc]
    by_cases e : q = i
    · subst e; rw [if_pos rfl, List.getD_eq_getElem?_getD, List.getElem?_set_self hi]; rfl
    · rw [if_neg e, List.getD_eq_getElem?_getD, List.getElem?_set_ne (fun e2 => e e2.symm), ← List.getD_eq_getElem?_getD]
      exact hC.cnt q hq
  · rw [List.length_set] at hq
    rw [p1.2.2.2.2, if_neg (by rw [ha, hl2]; omega)]
    exact hC.oth q hq
  · rcases put_keys _ _ _ _ k hk with hk | ⟨n, h1, h2, h3⟩
    · exact hC.keys k hk
    · rw [ha, hl2] at *
      omega
theorem Cnts.zero {z : List Int} (hz : RZ 33 z) {H : Int} (h : 40 ≤ H ∧ H ≤ 99) {m : List Int} (hm : m = List.replicate 33 1 ++ List.replicate (H.toNat - 33) 0) : Cnts TR.zero z (HD.r H) m := by
  obtain ⟨vc, vr, vj, ve, vf⟩ := HD.r_vals h
  have hR := hz.refOk h
  have hml : m.length = H.toNat := by rw [hm, List.length_append, List.length_replicate, List.length_replicate]; omega
  refine ⟨TR.zero_ok, rfl, rfl, TR.zero_In _, hR.2.2.2.1, hml, fun q hq => ?_, fun i _ => zero_V z i, fun k hk => absurd hk List.not_mem_nil⟩
  rw [hz.cnt vj, hm]
  by_cases e : q < 33
  · rw [if_pos e, List.getD_eq_getElem?_getD, List.getElem?_append_left (by rw [List.length_replicate]; exact e), List.getElem?_replicate, if_pos e]; rfl
  · rw [if_neg e, List.getD_eq_getElem?_getD, List.getElem?_append_right (by rw [List.length_replicate]; omega), List.length_replicate, List.getElem?_replicate]
    split <;> rfl
theorem Cnts.bound {t : TR} {z : List Int} {h : HD} {m : List Int} (hC : Cnts t z h m) (q : Nat) (hq : q < m.length) : 0 ≤ m.getD q 0 ∧ m.getD q 0 ≤ 65535 := by
  rw [← hC.cnt q hq]
  have hb : B8 (t.rd z (h.jend.toNat + 2 * q) 2) := hC.b.rd _ _
  have := leV_bound hb 2
  rw [List.take_of_length_le (by rw [TR.rd_length]; exact Nat.le_refl _)] at this
  unfold cntV
  have h2 := this.2
  have h3 : ((256 ^ 2 : Nat) : Int) = 65536 := by decide
  omega
/-- At most one sector: the records fit. -/
theorem Cnts.recs {t : TR} {z : List Int} {h : HD} {m : List Int} (hC : Cnts t z h m) {rs : List RecR} (hr : RecRel t rs) : (encL rs).length ≤ 524 := by
  have hB := hr.B hC.ok (B := 8191) (fun q hq => ⟨(hC.inn.keys q hq).1, (hC.inn.keys q hq).2.1⟩)
  have hd : t.dirty.length ≤ 1 := by
    have hn := hC.inn.nodup
    have hk := hC.keys
    generalize t.dirty = d at hn hk
    match d, hn, hk with
    | [], _, _ => exact Nat.zero_le _
    | [a], _, _ => exact Nat.le_refl _
    | a :: b :: r, hn, hk =>
      exfalso
      have ha := hk a.1 (List.mem_cons_self ..)
      have hb := hk b.1 (List.mem_cons_of_mem _ (List.mem_cons_self ..))
      have := (List.nodup_cons.1 hn).1
      exact this (by show a.1 ∈ _; rw [ha, ← hb]; exact List.mem_cons_self ..)
  have := hB.2.1
  omega
/-- Two bytes are their number's. -/
theorem leV_two {l : List Int} (h : B8 l) (hl : l.length = 2) : leB 2 (leV l) = l := by
  match l, hl with
  | [a, b], _ =>
    have ha := h a (List.mem_cons_self ..)
    have hb := h b (List.mem_cons_of_mem _ (List.mem_cons_self ..))
    show [(a + 256 * (b + 256 * 0)) % 256, (a + 256 * (b + 256 * 0)) / 256 % 256] = [a, b]
    congr 1
    · omega
    · congr 1; omega
def wantL (m : List Int) : List Int := m.flatMap (leB 2)
theorem wantL_length : ∀ (m : List Int), (wantL m).length = 2 * m.length
  | [] => rfl
  | a :: r => by
    show (leB 2 a ++ wantL r).length = _
    rw [List.length_append, leB_length, wantL_length r, List.length_cons]; omega
theorem wantL_get : ∀ (m : List Int) (q : Nat), q < m.length → (wantL m).getD (2 * q) 0 = (leB 2 (m.getD q 0)).getD 0 0 ∧ (wantL m).getD (2 * q + 1) 0 = (leB 2 (m.getD q 0)).getD 1 0
  | [], q, h => absurd h (Nat.not_lt_zero _)
  | a :: r, 0, h => by
    show (leB 2 a ++ wantL r).getD 0 0 = _ ∧ (leB 2 a ++ wantL r).getD 1 0 = _
    have hl := leB_length 2 a
    constructor <;> rw [List.getD_eq_getElem?_getD, List.getElem?_append_left (by omega), ← List.getD_eq_getElem?_getD] <;> rfl
  | a :: r, q + 1, h => by
    have ih := wantL_get r q (by simpa using h)
    have hl := leB_length 2 a
    show (leB 2 a ++ wantL r).getD (2 * (q + 1)) 0 = (leB 2 (r.getD q 0)).getD 0 0 ∧ (leB 2 a ++ wantL r).getD (2 * (q + 1) + 1) 0 = (leB 2 (r.getD q 0)).getD 1 0
    rw [← ih.1, ← ih.2]
    constructor <;> rw [List.getD_eq_getElem?_getD, List.getElem?_append_right (by omega), List.getD_eq_getElem?_getD] <;> congr 2 <;> omega
theorem Cnts.byte {t : TR} {z : List Int} {h : HD} {m : List Int} (hC : Cnts t z h m) (hj : h.jend = 15360) {i : Nat} (hi : i < 2 * m.length) : t.V z (15360 + i) = (wantL m).getD i 0 := by
  have hq : i / 2 < m.length := by omega
  have hB : B8 (t.rd z (h.jend.toNat + 2 * (i / 2)) 2) := hC.b.rd _ _
  have e1 := leV_two hB (TR.rd_length _ _ _ _)
  have e2 : leV (t.rd z (h.jend.toNat + 2 * (i / 2)) 2) = m.getD (i / 2) 0 := hC.cnt _ hq
  rw [e2, hj] at e1
  obtain ⟨w0, w1⟩ := wantL_get m (i / 2) hq
  rw [e1] at w0 w1
  by_cases c : i % 2 = 0
  · rw [show i = 2 * (i / 2) by omega, w0, TR.rd_get _ _ _ _ _ (by omega)]; congr 1
  · rw [show i = 2 * (i / 2) + 1 by omega, w1, TR.rd_get _ _ _ _ _ (by omega)]; congr 1
/-- The law's end. -/
theorem Cnts.done {t : TR} {z : List Int} {h : HD} {m zz : List Int} {s3 : DF} (hC : Cnts t z h m) (hj : h.jend = 15360) (hl : m.length ≤ 99) (hz : z.length = 16896) (hl3 : s3.now.length = 16896) (hv : ∀ i, ¬ jR.inJ i → s3.V i = t.V z i) (hzz : zz.length = 14848) : putG s3.now 512 zz = putG (putG z 15360 (wantL m)) 512 zz := by
  have w := wantL_length m
  have l1 : (putG z 15360 (wantL m)).length = 16896 := by rw [putG_length (by omega)]; omega
  refine ext_getD (by rw [putG_length (by omega), putG_length (by omega)]; omega) (fun i hi => ?_)
  rw [putG_get (by omega), putG_get (by omega)]
  by_cases c : 512 ≤ i ∧ i < 512 + zz.length
  · rw [if_pos c, if_pos c]
  · rw [if_neg c, if_neg c, putG_get (by omega)]
    have hi2 : s3.now.getD i 0 = t.V z i := hv i (fun hq => by
      have : (512 : Int).toNat ≤ i ∧ i < (512 : Int).toNat + (14848 : Int).toNat := hq
      omega)
    rw [hi2]
    by_cases d : 15360 ≤ i ∧ i < 15360 + (wantL m).length
    · rw [if_pos d, ← hC.byte hj (by omega), show 15360 + (i - 15360) = i by omega]
    · rw [if_neg d]; exact hC.oth i (by omega)
end Go.Proofs.Ytcfmlnddmpiemaa.Sx


set_option maxRecDepth 10000
namespace Go.Proofs.Ytcfmlnddmpiemaa.Sx
/-! ### Which sectors are changed -/
def TR.ks (t : TR) : List Int := t.dirty.map (fun x => x.1)
theorem upS_key (n k : Int) (v : List Int) (d : List (Int × List Int)) : k ∈ (upS n v d).map (fun x => x.1) ↔ k ∈ d.map (fun x => x.1) ∨ k = n := by
  rw [upS_keys]
  by_cases h : n ∈ d.map (fun x => x.1)
  · rw [if_pos h]
    exact ⟨.inl, fun q => by rcases q with q | q; exact q; exact q ▸ h⟩
  · rw [if_neg h, List.mem_append, List.mem_singleton]
theorem wr1_ks (t : TR) (now : List Int) (a : Nat) (xs : List Int) (k : Int) : k ∈ (t.wr1 now a xs).ks ↔ k ∈ t.ks ∨ k = ((a / 512 : Nat) : Int) := upS_key _ _ _ _
theorem putF_mono : ∀ (f : Nat) (t : TR) (now : List Int) (a : Nat) (p : List Int) (k : Int), k ∈ t.ks → k ∈ (TR.putF f t now a p).ks
  | 0, t, now, a, p, k, h => h
  | f + 1, t, now, a, p, k, h => by
    by_cases h0 : p.length = 0
    · rw [putF_nil _ _ _ _ _ h0]; exact h
    · have e : TR.putF (f + 1) t now a p = TR.putF f (t.wr1 now a (p.take (min p.length (512 - a % 512)))) now (a + min p.length (512 - a % 512)) (p.drop (min p.length (512 - a % 512))) := by
        show (if _ then _ else _) = _; rw [if_neg h0]
      rw [e]
      exact putF_mono f _ _ _ _ k ((wr1_ks _ _ _ _ _).2 (.inl h))
theorem putF_ks : ∀ (f : Nat) (t : TR) (now : List Int) (a : Nat) (p : List Int) (m : Nat), 0 < p.length → p.length ≤ f → a < 512 * m + 512 → 512 * m < a + p.length → (m : Int) ∈ (TR.putF f t now a p).ks
  | 0, t, now, a, p, m, h0, hp, h1, h2 => by omega
  | f + 1, t, now, a, p, m, h00, hp, h1, h2 => by
    have h0 : ¬ p.length = 0 := by omega
    have e : TR.putF (f + 1) t now a p = TR.putF f (t.wr1 now a (p.take (min p.length (512 - a % 512)))) now (a + min p.length (512 - a % 512)) (p.drop (min p.length (512 - a % 512))) := by
      show (if _ then _ else _) = _; rw [if_neg h0]
    rw [e]
    generalize hk : min p.length (512 - a % 512) = d
    have hdl : (p.drop d).length = p.length - d := List.length_drop ..
    by_cases c : m = a / 512
    · subst c
      exact putF_mono f _ _ _ _ _ ((wr1_ks _ _ _ _ _).2 (.inr rfl))
    · exact putF_ks f _ now (a + d) (p.drop d) m (by omega) (by omega) (by omega) (by omega)
theorem put_ks (t : TR) (now : List Int) (a : Nat) (p : List Int) (k : Int) : k ∈ (t.put now a p).ks ↔ k ∈ t.ks ∨ 0 < p.length ∧ ∃ m : Nat, k = (m : Int) ∧ a < 512 * m + 512 ∧ 512 * m < a + p.length := by
  constructor
  · intro h
    by_cases h0 : p.length = 0
    · unfold TR.put at h
      rw [putF_nil _ _ _ _ _ h0] at h
      exact .inl h
    · rcases put_keys t now a p k h with h | h
      · exact .inl h
      · exact .inr ⟨by omega, h⟩
  · rintro (h | ⟨h0, m, rfl, h1, h2⟩)
    · exact putF_mono _ _ _ _ _ _ h
    · exact putF_ks _ _ _ _ _ _ h0 (Nat.le_refl _) h1 h2
theorem ks_iff {t : TR} {k : Int} : k ∈ t.ks ↔ ∃ l, lkS k t.dirty = some l := ⟨lkS_of_mem, fun ⟨_, h⟩ => lkS_key h⟩
theorem fresh_ks {t : TR} (h : t.Ok) {a : Nat} {p : List Int} {c : Nat} (h1 : a + p.length ≤ 4194304) (hc : t.fresh.length + 1 ≤ c) (hn : t.fresh.length + 1 ≤ 1073741824) (m : Nat) : (m : Int) ∈ (t.freshT a p c).ks ↔ (m : Int) ∈ t.ks := by
  have hO : (t.addF ((a : Int), p) c).Ok := by
    refine ⟨h.sec, ?_, ?_, ?_⟩
    · intro q hq
      rcases List.mem_append.1 (show q ∈ t.fresh ++ [((a : Int), p)] from hq) with hq | hq
      · exact h.frs q hq
      · obtain rfl := List.mem_singleton.1 hq
        exact ⟨by show (0 : Int) ≤ a; omega, by show (a : Int) ≤ _; omega, by show p.length ≤ _; omega⟩
    · show (t.fresh ++ [((a : Int), p)]).length ≤ c; rw [List.length_append]; exact hc
    · show (t.fresh ++ [((a : Int), p)]).length ≤ _; rw [List.length_append]; exact hn
  have e := (layN_all ((p.length + 511) / 512) (t.addF ((a : Int), p) c) ((a : Int), p) (a / 512) hO).2.2.2.2.2 m
  have e : lkS (m : Int) (t.freshT a p c).dirty = if a / 512 ≤ m ∧ m < a / 512 + (p.length + 511) / 512 then (lkS (m : Int) t.dirty).map (fun l => layR ((m : Int) * 512) l ((a : Int), p)) else lkS (m : Int) t.dirty := e
  rw [ks_iff, ks_iff, e]
  cases hq : lkS (m : Int) t.dirty with
  | none => split <;> simp
  | some l => split <;> simp
end Go.Proofs.Ytcfmlnddmpiemaa.Sx


set_option maxRecDepth 10000
namespace Go.Proofs.Ytcfmlnddmpiemaa.Sx
open Go.RowKit Go.Proofs.Ytcfmlnddmpiemaa.Sx.Tb
/-! ### The law's need -/
end Go.Proofs.Ytcfmlnddmpiemaa.Sx


set_option maxRecDepth 10000
namespace Go.Proofs.Ytcfmlnddmpiemaa.Sx
/-! ### The law TxCrashes, plain -/
/-- A replay of a file in whose journal nothing is pending. -/
theorem replay_none {j : JR} {C z : List Int} {s : DF} (h2 : s.now = C) (hl : s.live) (hf : j.pos + j.size ≤ C.length) (hp : pendB j (j.partL C) = none) : s.replay j z = (0, 0, j, s.asked) := by
  have hpp : j.part s = j.partL C := by unfold JR.part JR.partL; rw [h2]
  have q : s.pend j = (0, none, j) := by
    unfold DF.pend
    rw [if_neg hl.refB, if_neg (show ¬ ((s.now.length : Int) < j.pos + j.size) by rw [h2]; omega), hpp, hp]
  unfold DF.replay
  rw [q]
theorem doneL_V : ∀ (rs : List RecR) (C : List Int) (i : Nat), (∀ r ∈ rs, r.1.toNat + r.2.length ≤ C.length) → (doneL rs C).getD i 0 = doneV rs (fun i => C.getD i 0) i
  | [], _, _, _ => rfl
  | r :: rs, C, i, h => by
    have h1 := h r (List.mem_cons_self ..)
    have hl : (putG C r.1.toNat r.2).length = C.length := by rw [putG_length (by omega)]; omega
    show (doneL rs (putG C r.1.toNat r.2)).getD i 0 = _
    rw [doneL_V rs _ i (fun q hq => by rw [hl]; exact h q (List.mem_cons_of_mem _ hq)), doneV_cons]
    refine doneV_congr rs _ _ i ?_
    show (putG C r.1.toNat r.2).getD i 0 = wrV (fun i => C.getD i 0) r.1.toNat r.2 i
    rw [putG_get (by omega)]; rfl
theorem crashL_none (b : List Int) (ks : List Bool) : crashL b [] ks = b := by cases ks <;> rfl
/-- A commit that was not cut off: all that was put is safe. -/
theorem tcrash_done {t : TR} {j : JR} {s : DF} {z b : List Int} {x : Int × TR × JR × DF} (h : tcomRel t j s z x) (ho : t.over = false) (hs : s.safe = b) (hn : s.now = b) (hi : s.items = []) (hj : j.Ok) (hal : j.pos % 512 = 0) (hf : j.pos + j.size ≤ b.length) (hm : b.length ≤ 4194304) (h8 : B8 b) (h0 : ∀ i, i < 512 → b.getD (j.pos.toNat + i) 0 = 0)
    (hT : t.Ok) (hI : t.In j) (hF : ∀ r ∈ t.fresh, r.1.toNat + r.2.length ≤ b.length) (hD : ∀ q ∈ t.dirty, q.1 * 512 + 512 ≤ b.length) (hz : z = List.replicate 512 0) {rs : List RecR} (hr : RecRel t rs) (hfit : (encL rs).length ≤ j.size - 512) (he : x.1 = 0) :
    x.2.2.2.items = [] ∧ x.2.2.2.now = x.2.2.2.safe ∧ B8 x.2.2.2.safe ∧ j.eqJ x.2.2.2.safe (doneL rs (doneL t.fresh b)) ∧ pendB j (j.partL x.2.2.2.safe) = none := by
  obtain ⟨hJ, -⟩ := tcrash h ho hs hn hi hj hal hf hm h8 h0 hT hI hF hD hz hr hfit
  have hin : ∀ r ∈ t.fresh, 0 ≤ r.1 ∧ r.1.toNat + r.2.length ≤ b.length := fun r hr => ⟨(hI.frs r hr).1, hF r hr⟩
  have hl1 := doneL_in hin
  obtain ⟨j1, j2, j3, j4, j5, j6⟩ := hj
  have hj : j.Ok := ⟨j1, j2, j3, j4, j5, j6⟩
  have hz1 : ∀ i, i < 512 → (doneL t.fresh b).getD (j.pos.toNat + i) 0 = 0 := fun i hi => by
    rw [doneL_off t.fresh b _ (fun r hm => by have := hin r hm; omega) (fun r hm hc => ?_)]
    · exact h0 i hi
    · have := hI.frs r hm
      have hc : r.1.toNat ≤ j.pos.toNat + i ∧ j.pos.toNat + i < r.1.toNat + r.2.length := hc
      omega
  rcases h with ⟨h, _⟩ | ⟨_, rs', hr', h⟩
  · rw [ho] at h; cases h
  obtain rfl := hr.unique hr'
  rcases h with ⟨h, _⟩ | ⟨_, y, hy, h⟩
  · omega
  obtain ⟨w1, w2, w3, w4⟩ := wrs_items t.fresh s (fun r hm => by rw [hn]; exact hin r hm)
  have ends : y.1 = 0 → y.2.safe = doneL t.fresh b ∧ y.2.now = doneL t.fresh b ∧ y.2.items = [] := by
    rw [hy]
    unfold frOps
    by_cases hA : (s.run (wrs t.fresh)).1 = 0
    · by_cases hL : t.fresh.length = 0
      · have hf0 : t.fresh = [] := List.eq_nil_of_length_eq_zero hL
        rw [if_pos hL, List.append_nil, hf0]
        exact fun _ => ⟨hs, hn, hi⟩
      · rw [if_neg hL]
        have e1 : s.run (wrs t.fresh) = (0, (s.run (wrs t.fresh)).2) := Prod.ext hA rfl
        rw [DF.run_good e1, DF.run1]
        have w4 := w4 hA
        rw [hn] at w4
        intro hB
        rw [DF.doOp_fled hB]
        exact ⟨w4, w4, rfl⟩
    · rw [DF.run_bad hA]
      exact fun h => absurd h hA
  rcases h with ⟨h1, rfl⟩ | ⟨h1, h2, rfl⟩ | ⟨h1, h2, q, hq, h3⟩
  · exact absurd he h1
  · obtain ⟨e1, e2, e3⟩ := ends h1
    have hrs : rs = [] := List.eq_nil_of_length_eq_zero h2
    subst hrs
    have hB : B8 (doneL t.fresh b) := doneL_B8 _ _ h8 (fun r hm => (hI.frs r hm).2.2.2)
    refine ⟨e3, e2.trans e1.symm, by rw [e1]; exact hB, by rw [e1]; exact JR.eqJ.refl _, ?_⟩
    show pendB j (j.partL y.2.safe) = none
    rw [e1]
    exact zero_none hj (by rw [hl1]; omega) (fun i hi => hz1 i (by omega))
  · obtain ⟨e1, e2, e3⟩ := ends h1
    obtain ⟨k1, k2⟩ := commit_cr hJ hz1 e1 e2 e3 hq
    rcases h3 with ⟨h3, rfl⟩ | ⟨h3, u, hu, rfl⟩
    · exact absurd he h3
    · obtain ⟨n1, n2, n3, n4, n5⟩ := k2 h3
      have hap := (apply_cr hJ hz n4 n5 rfl n3 n2).2
      have he : u.1 = 0 := he
      rw [hu, n1] at he ⊢
      exact hap he
end Go.Proofs.Ytcfmlnddmpiemaa.Sx


set_option maxRecDepth 10000
namespace Go.Proofs.Ytcfmlnddmpiemaa.Sx
/-! ### What stands behind a crash within a commit and a replay, whole -/
structure CrashAll (j : JR) (t : TR) (b : List Int) (e : Int) (y : Int × Int × JR × DF) : Prop where
  err : y.2.1 = 0
  live : y.2.2.2.live
  b8 : B8 y.2.2.2.now
  len : y.2.2.2.now.length = b.length
  jr : y.2.2.1.pos = j.pos ∧ y.2.2.1.size = j.size
  items : y.2.2.2.items = [] ∧ y.2.2.2.now = y.2.2.2.safe
  view : (∀ i, ¬ j.inJ i → y.2.2.2.now.getD i 0 = t.V b i) ∨ e ≠ 0 ∧ ∀ i, ¬ j.inJ i → (∀ r ∈ t.fresh, ¬ covers r i) → y.2.2.2.now.getD i 0 = b.getD i 0
theorem replay_jr (j : JR) (s : DF) (z : List Int) : (s.replay j z).2.2.1.pos = j.pos ∧ (s.replay j z).2.2.1.size = j.size := by
  unfold DF.replay
  cases hq : (s.pend j).2.1 with
  | none => exact ⟨rfl, rfl⟩
  | some ss =>
    show (s.pend j).2.2.pos = j.pos ∧ (s.pend j).2.2.size = j.size
    unfold DF.pend
    repeat' split
    all_goals exact ⟨rfl, rfl⟩
theorem tcrash_all {t : TR} {j : JR} {s : DF} {z b : List Int} {x : Int × TR × JR × DF} (h : tcomRel t j s z x) (ho : t.over = false) (hs : s.safe = b) (hn : s.now = b) (hi : s.items = []) (hj : j.Ok) (hal : j.pos % 512 = 0) (hf : j.pos + j.size ≤ b.length) (hm : b.length ≤ 4194304) (h8 : B8 b) (h0 : ∀ i, i < 512 → b.getD (j.pos.toNat + i) 0 = 0)
    (hT : t.Ok) (hI : t.In j) (hF : ∀ r ∈ t.fresh, r.1.toNat + r.2.length ≤ b.length) (hD : ∀ q ∈ t.dirty, q.1 * 512 + 512 ≤ b.length) (hz : z = List.replicate 512 0) {rs : List RecR} (hr : RecRel t rs) (hfit : (encL rs).length ≤ j.size - 512) (ks : List Bool) :
    B8 (crashL x.2.2.2.safe x.2.2.2.items ks) ∧ (crashL x.2.2.2.safe x.2.2.2.items ks).length = b.length ∧ ∀ y, y = (DF.mk0 (crashL x.2.2.2.safe x.2.2.2.items ks)).replay j z → CrashAll j t b x.1 y := by
  obtain ⟨hJ, hk⟩ := tcrash h ho hs hn hi hj hal hf hm h8 h0 hT hI hF hD hz hr hfit
  have hin : ∀ r ∈ t.fresh, 0 ≤ r.1 ∧ r.1.toNat + r.2.length ≤ b.length := fun r hr => ⟨(hI.frs r hr).1, hF r hr⟩
  have hl1 := doneL_in hin
  obtain ⟨hV, hcov⟩ := hr.S hT (fun q hq => (hI.keys q hq).1)
  have hrin : ∀ r ∈ rs, r.1.toNat + r.2.length ≤ b.length := fun r hm => by
    obtain ⟨c1, c2, c3⟩ := hcov r hm
    obtain ⟨q, hq, e⟩ := List.mem_map.1 (c3 (r.1.toNat + r.2.length - 1) (by omega) (by omega))
    have := hD q hq
    omega
  have hl2 : (doneL rs (doneL t.fresh b)).length = b.length := by
    rw [doneL_in (fun r hm => ⟨(hcov r hm).1, by rw [hl1]; exact hrin r hm⟩), hl1]
  have hend : endL rs (doneL t.fresh b).length = b.length := by
    rw [← doneL_length rs _ (fun r hm => by rw [hl1]; have := hrin r hm; omega), hl2]
  have hview : ∀ i, (doneL rs (doneL t.fresh b)).getD i 0 = t.V b i := fun i => by
    rw [doneL_V rs _ i (fun r hm => by rw [hl1]; exact hrin r hm), ← hn, ← hV s i]
    refine doneV_congr rs _ _ i ?_
    rw [doneL_V t.fresh _ i (fun r hm => by rw [hn]; exact (hin r hm).2)]
    rfl
  have none : ∀ C, B8 C → C.length = b.length → pendB j (j.partL C) = none → ∀ y, y = (DF.mk0 C).replay j z → ((∀ i, ¬ j.inJ i → C.getD i 0 = t.V b i) ∨ x.1 ≠ 0 ∧ ∀ i, ¬ j.inJ i → (∀ r ∈ t.fresh, ¬ covers r i) → C.getD i 0 = b.getD i 0) → CrashAll j t b x.1 y := fun C c8 cl cp y hy hv => by
    rw [replay_none (s := DF.mk0 C) rfl ⟨rfl, rfl⟩ (by show j.pos + j.size ≤ (C.length : Int); rw [cl]; exact hf) cp] at hy
    subst hy
    exact ⟨rfl, ⟨rfl, rfl⟩, c8, cl, ⟨rfl, rfl⟩, ⟨rfl, rfl⟩, hv⟩
  by_cases he : x.1 = 0
  · obtain ⟨d1, d2, d3, d4, d5⟩ := tcrash_done h ho hs hn hi hj hal hf hm h8 h0 hT hI hF hD hz hr hfit he
    rw [d1, crashL_none]
    have dl : x.2.2.2.safe.length = b.length := d4.1.trans hl2
    exact ⟨d3, dl, fun y hy => none _ d3 dl d5 y hy (.inl (fun i hi => (d4.2 i hi).trans (hview i)))⟩
  generalize hC : crashL x.2.2.2.safe x.2.2.2.items ks = C
  have hk := hk ks
  rw [hC] at hk
  rcases hk with hk | hk
  · exact ⟨hk.2.1, hk.1, fun y hy => none C hk.2.1 hk.1 (hk.pend hj hf h0) y hy (.inr ⟨he, fun i _ hc => hk.2.2.2 i hc⟩)⟩
  · have hlen := hk.len hJ
    rw [hend, hl1] at hlen
    refine ⟨hk.1, Nat.le_antisymm hlen.2 hlen.1, fun y hy => ?_⟩
    obtain ⟨n1, n2, n3, n4, n5, n6, n7⟩ := replay_end (s := DF.mk0 C) hJ hz hk rfl rfl rfl ⟨rfl, rfl⟩
    have hjr := replay_jr j (DF.mk0 C) z
    rw [← hy] at n1 n2 n3 n4 n5 n6 hjr
    rcases n6 with n6 | n6
    · refine ⟨n1, n2, by rw [n4]; exact n5, by rw [n4]; exact n6.1.trans hl1, hjr, ⟨n3, n4⟩, .inr ⟨he, fun i hi hc => ?_⟩⟩
      rw [n4, n6.2 i hi]
      exact doneL_off t.fresh b i (fun r hm => by have := hin r hm; omega) hc
    · refine ⟨n1, n2, by rw [n4]; exact n5, by rw [n4]; exact n6.1.trans hl2, hjr, ⟨n3, n4⟩, .inl (fun i hi => ?_)⟩
      rw [n4, n6.2 i hi]
      exact hview i
end Go.Proofs.Ytcfmlnddmpiemaa.Sx


set_option maxRecDepth 10000
namespace Go.Proofs.Ytcfmlnddmpiemaa.Sx
open Go.RowKit
/-! ### slices.SortFunc of an owned row of pairs of numbers, as a contract -/
abbrev ExR := Int × Int
def exAV (x : ExR) : List AV := [.v (.int .i64 x.1), .v (.int .i64 x.2)]
def exC (l : List ExR) : Cont := .recs 2 l.length (fun i => exAV (l.getD i (0, 0)))
def encE (x : ExR) : List Value := [.int .i64 x.1, .int .i64 x.2]
def flatE : List ExR → List Value
  | [] => []
  | x :: r => .int .i64 x.1 :: .int .i64 x.2 :: flatE r
theorem flatE_length : ∀ l, (flatE l).length = l.length * 2
  | [] => rfl
  | x :: r => by simp [flatE, flatE_length r]; omega
theorem flatE_get : ∀ (l : List ExR) (t : Nat), t < l.length * 2 → (flatE l)[t]? = (encE (l.getD (t / 2) (0, 0)))[t % 2]?
  | [], t, h => by simp at h
  | x :: r, 0, _ => rfl
  | x :: r, 1, _ => rfl
  | x :: r, t + 2, h => by
    have e1 : (t + 2) / 2 = t / 2 + 1 := by omega
    have e2 : (t + 2) % 2 = t % 2 := by omega
    rw [e1, e2]
    simp only [flatE, List.getElem?_cons_succ, List.getD_cons_succ]
    exact flatE_get r t (by simp at h; omega)
theorem flatE_one (l : List ExR) : ∀ u ∈ flatE l, u.oneCell' = true := by
  intro u hu
  induction l with
  | nil => cases hu
  | cons x r ih =>
    simp only [flatE, List.mem_cons] at hu
    rcases hu with rfl | rfl | hu
    · rfl
    · rfl
    · exact ih hu
section
variable {ρ : Nat → Option Nat} {J : Bool → Nat → Prop} {w : World}
theorem exAV_open {x : ExR} {us : List Value} (h : Reps ρ J w (exAV x) us) : us = encE x := by
  cases h with
  | cons h1 h2 => cases h1; cases h2 with
    | cons h3 h4 => cases h3; cases h4; rfl
theorem exAV_shut (x : ExR) : Reps ρ J w (exAV x) (encE x) := .cons (.v _) (.cons (.v _) .nil)
theorem exC_open {l : List ExR} {cs : List Value} (h : Cells ρ J w (exC l) cs) : cs = flatE l := by
  unfold exC at h
  cases h with
  | recs us h hz hc hl =>
    apply List.ext_getElem?
    intro t
    by_cases ht : t < l.length * 2
    · have h1 := hc (t / 2) (t % 2) (by omega) (by omega)
      rw [show t / 2 * 2 + t % 2 = t by omega, exAV_open (h (t / 2) (by omega))] at h1
      rw [h1, flatE_get l t ht]
    · rw [List.getElem?_eq_none (by omega), List.getElem?_eq_none (by rw [flatE_length]; omega)]
theorem exC_shut (l : List ExR) : Cells ρ J w (exC l) (flatE l) := by
  unfold exC
  refine .recs (fun i => encE (l.getD i (0, 0))) (fun i _ => exAV_shut _) (fun i _ => rfl) (fun i o hi ho => ?_) (flatE_length l)
  rw [flatE_get l _ (by omega), show (i * 2 + o) / 2 = i by omega, show (i * 2 + o) % 2 = o by omega]
end
def SrtE (l : List ExR) : Prop := l.Pairwise (fun a b => a.1 ≤ b.1)
def sortEC (T : TypeId) (cmp : Value) : Con := Con.of (List ExR × Nat) (List ExR) (fun x => [.s 0 0 2 x.1.length x.2, .v cmp]) (fun x => [.blk T (exC x.1) (x.2 * 2)]) (fun x => 0 < x.1.length ∧ x.1.length < 4611686018427387904) (fun x r => r.Perm x.1 ∧ SrtE r) (fun _ _ => .tup []) (fun x r => [.blk T (exC r) (x.2 * 2)])
theorem sortE_conOk {P : Program} {f : FuncId} (T : TypeId) {cmp : Value} (hr : Real P f)
    (hS : ∀ (blk cap : Nat) (l : List ExR) (w : World), Go.Sort.Holds id w blk 0 (flatE l).toArray → blk < w.heap.size → l.length < 4611686018427387904 → Calls P f #[.slice (some ⟨blk, 0, none⟩) l.length cap, cmp] w fun e w' => e = .returned (.tuple #[]) ∧ ∃ r n os, r.Perm l ∧ SrtE r ∧ w' = Go.Sort.grow (Go.Sort.putRow id (Go.Sort.ahead w n) blk 0 (flatE r).toArray) os) : ConOk P f (sortEC T cmp) := by
  refine ⟨hr, ?_, ?_, ?_⟩
  · intro x k hok hk r hrel
    refine ⟨hk r hrel, trivial, fun c hc => ?_, Nat.le_refl _⟩
    simp at hc; subst hc; exact .blk (fun _ _ => ⟨trivial, trivial, trivial⟩)
  · intro x hok c hc
    simp [sortEC, Con.of] at hc; subst hc; trivial
  · rintro ⟨l, c⟩ k w0 M J0 J ρ φ w vs hok hk hs ha
    obtain ⟨hpos, hok⟩ : 0 < l.length ∧ l.length < 4611686018427387904 := hok
    obtain ⟨v, rfl, hv⟩ : ∃ v, vs = [v, cmp] ∧ Rep ρ J w (.s 0 0 2 l.length c) v := by
      cases ha with
      | cons h hs => cases hs with
        | cons h2 hs => cases h2; cases hs; exact ⟨_, rfl, h⟩
    have h0 := hs.hold 0 _ rfl
    · have hll : l.length ≠ 0 := by omega
      generalize hb0 : ρ 0 = b0 at h0
      cases hv with
      | @s i e sz n c' b a h ha0 h1 h2 =>
        have hbb : b0 = some b := hb0.symm.trans h
        subst hbb
        have hc0 : c ≠ 0 := by omega
        obtain rfl := ha0 hc0
        rw [Nat.zero_mul]
        generalize hc2 : c * 2 = c2 at h0
        cases h0 with
        | @blk _ _ _ _ _ _ cs gs hc hb hz h1' hp =>
          have hc := exC_open hc
          subst hc
          have hz : (flatE l ++ gs).length = c2 := hz
          have hlt : b < w.heap.size := (Array.getElem?_eq_some_iff.1 hb).1
          have hfl := flatE_length l
          refine (hS b c l w ?_ hlt hok).mono ?_
          · intro j hj
            have hj : j < (flatE l).length := by simpa using hj
            have hjv : ((flatE l).toArray)[j]! = (flatE l)[j] := by simp [hj]
            have hcell : (flatE l ++ gs).toArray[0 + j]? = some ((flatE l)[j]) := by
              rw [Nat.zero_add, List.getElem?_toArray, List.getElem?_append_left hj, List.getElem?_eq_getElem hj]
            constructor
            · rw [hjv]
              simp only [World.cell?, hb]
              exact hcell
            · simp only [World.frozen?, hb]
              simp
          · rintro e w' ⟨rfl, r, n, os, hperm, hsrt, rfl⟩
            have hk : k (.tup []) [.blk T (exC r) (c * 2)] := hk r ⟨hperm, hsrt⟩
            have hrl : r.length = l.length := hperm.length_eq
            have hfr := flatE_length r
            obtain ⟨w1, hw1⟩ : ∃ w1, w1 = Go.Sort.putRow id (Go.Sort.ahead w n) b 0 (flatE r).toArray := ⟨_, rfl⟩
            rw [← hw1]
            have hsz : w1.heap.size = w.heap.size := by rw [hw1, Go.Sort.size_putRow]; rfl
            have hoth : ∀ q, q ≠ b → w1.heap[q]? = w.heap[q]? := by
              intro q hq
              rw [hw1]
              simp only [Go.Sort.putRow, Go.Sort.mapBlock, Go.Sort.ahead, Array.getElem?_modify]
              rw [if_neg (fun e => hq e.symm)]
            have hblk : w1.heap[b]? = some (.cells (flatE r ++ gs).toArray T (0, 0)) := by
              rw [hw1]
              simp only [Go.Sort.putRow, Go.Sort.mapBlock, Go.Sort.ahead, Array.getElem?_modify, if_true, hb, Option.map_some, Go.Sort.onCells]
              congr 2
              apply Array.ext_getElem?
              intro q
              simp only [Go.Sort.putCells, Array.getElem?_mapIdx, List.getElem?_toArray, List.size_toArray, Nat.sub_zero]
              by_cases hq : q < (flatE l).length
              · have hq2 : q < (flatE r).length := by omega
                rw [List.getElem?_append_left hq, List.getElem?_append_left hq2, List.getElem?_eq_getElem hq, List.getElem?_eq_getElem hq2]
                simp [hq2]
              · rw [List.getElem?_append_right (Nat.le_of_not_lt hq), List.getElem?_append_right (by omega), show (flatE r).length = (flatE l).length by omega]
                cases gs[q - (flatE l).length]? with
                | none => rfl
                | some u => simp only [Option.map_some]; rw [if_neg (by omega)]
            have P1 := hs.put (w' := w1) (i := 0) (c := .blk T (exC r) (c * 2)) (p' := φ 0) (fun q h => .inl h) (fun q h => by rw [hsz]; exact hs.lt _ _ h) (fun q h1 h2 => hoth q (fun e => h2 ((hp q).2 e))) (by rw [hsz]; exact Nat.le_refl _) (by rw [hw1]; rfl) (by rw [hw1]; rfl) (by rw [hw1]; rfl) Nat.one_pos ?_
            rotate_left
            · rw [hb0, hc2]
              exact .blk (exC_shut r) hblk (by rw [← hz, List.length_append, List.length_append]; omega) (flatE_one r) hp
            have P2 := P1.1.below (w' := Go.Sort.grow w1 os) ⟨rfl, rfl, rfl, by simp [Go.Sort.grow], fun q h => by simp only [Go.Sort.grow]; rw [Array.getElem?_append_left h]⟩
            exact ⟨_, _, _, ρ, _, J, rfl, hk, P2.1, .tup .nil⟩
        | none hc hp => omega
end Go.Proofs.Ytcfmlnddmpiemaa.Sx


set_option maxRecDepth 10000
namespace Go.Proofs.Ytcfmlnddmpiemaa.Sx
open Go.Shelf
def cmpInt_ren : Go.Shelf.Ren := ⟨fun | 5 => 78 | 7 => 101 | n => n, fun | 22 => 2 | 3 => 3 | 4 => 4 | n => n, fun | n => n⟩
theorem cmpInt : Go.Proofs.SlLaysC2.n5 Try.prog cmpInt_ren := {
  mixed := by kernel_rfl
  f5 := ⟨Try.f78.name, by decide, Try.func78.trans (congrArg some (by kernel_rfl))⟩
  f7 := ⟨Try.f101.name, by decide, Try.func101.trans (congrArg some (by kernel_rfl))⟩
  t3 := Try.underlying3
  a3 := Try.isAgg3
  z3 := Try.sizeOf3
  v3 := Try.zeroValue3
  t4 := Try.underlying4
  a4 := Try.isAgg4
  z4 := Try.sizeOf4
  v4 := Try.zeroValue4
  t22 := Try.underlying2
  a22 := Try.isAgg2
  z22 := Try.sizeOf2
  v22 := Try.zeroValue2 }
def sortExt_ren : Go.Shelf.Ren := ⟨fun | 6 => 76 | 15 => 100 | 14 => 99 | 28 => 116 | 29 => 117 | 20 => 108 | 21 => 109 | 22 => 110 | 23 => 111 | 24 => 112 | 25 => 113 | 26 => 114 | 27 => 115 | 46 => 127 | 47 => 128 | 48 => 129 | 49 => 130 | 50 => 131 | 57 => 135 | n => n, fun | 22 => 63 | 24 => 31 | 25 => 152 | 3 => 3 | 39 => 169 | 0 => 0 | 53 => 99 | 55 => 96 | 4 => 4 | 46 => 187 | 45 => 186 | 50 => 191 | 5 => 5 | 9 => 9 | 66 => 200 | 70 => 204 | 76 => 208 | 77 => 209 | n => n, fun | n => n⟩
theorem sortExt : Go.Proofs.SlLaysF0.n6 Try.prog sortExt_ren := {
  mixed := by kernel_rfl
  f6 := ⟨Try.f76.name, by decide, Try.func76.trans (congrArg some (by kernel_rfl))⟩
  f14 := ⟨Try.f99.name, by decide, Try.func99.trans (congrArg some (by kernel_rfl))⟩
  f15 := Try.func100.trans (congrArg some (by kernel_rfl))
  f20 := ⟨Try.f108.name, by decide, Try.func108.trans (congrArg some (by kernel_rfl))⟩
  f21 := ⟨Try.f109.name, by decide, Try.func109.trans (congrArg some (by kernel_rfl))⟩
  f22 := ⟨Try.f110.name, by decide, Try.func110.trans (congrArg some (by kernel_rfl))⟩
  f23 := ⟨Try.f111.name, by decide, Try.func111.trans (congrArg some (by kernel_rfl))⟩
  f24 := ⟨Try.f112.name, by decide, Try.func112.trans (congrArg some (by kernel_rfl))⟩
  f25 := ⟨Try.f113.name, by decide, Try.func113.trans (congrArg some (by kernel_rfl))⟩
  f26 := ⟨Try.f114.name, by decide, Try.func114.trans (congrArg some (by kernel_rfl))⟩
  f27 := ⟨Try.f115.name, by decide, Try.func115.trans (congrArg some (by kernel_rfl))⟩
  f28 := Try.func116.trans (congrArg some (by kernel_rfl))
  f29 := Try.func117.trans (congrArg some (by kernel_rfl))
  f46 := ⟨Try.f127.name, by decide, Try.func127.trans (congrArg some (by kernel_rfl))⟩
  f47 := Try.func128.trans (congrArg some (by kernel_rfl))
  f48 := Try.func129.trans (congrArg some (by kernel_rfl))
  f49 := ⟨Try.f130.name, by decide, Try.func130.trans (congrArg some (by kernel_rfl))⟩
  f50 := ⟨Try.f131.name, by decide, Try.func131.trans (congrArg some (by kernel_rfl))⟩
  f57 := ⟨Try.f135.name, by decide, Try.func135.trans (congrArg some (by kernel_rfl))⟩
  t0 := Try.underlying0
  a0 := Try.isAgg0
  z0 := Try.sizeOf0
  v0 := Try.zeroValue0
  t3 := Try.underlying3
  a3 := Try.isAgg3
  z3 := Try.sizeOf3
  v3 := Try.zeroValue3
  t4 := Try.underlying4
  a4 := Try.isAgg4
  z4 := Try.sizeOf4
  v4 := Try.zeroValue4
  t5 := Try.underlying5
  a5 := Try.isAgg5
  z5 := Try.sizeOf5
  v5 := Try.zeroValue5
  t9 := Try.underlying9
  a9 := Try.isAgg9
  z9 := Try.sizeOf9
  v9 := Try.zeroValue9
  t22 := Try.underlying63
  a22 := Try.isAgg63
  z22 := Try.sizeOf63
  v22 := Try.zeroValue63
  t25 := Try.underlying152
  a25 := Try.isAgg152
  z25 := Try.sizeOf152
  v25 := Try.zeroValue152
  t39 := Try.underlying169
  a39 := Try.isAgg169
  z39 := Try.sizeOf169
  v39 := Try.zeroValue169
  t45 := Try.underlying186
  a45 := Try.isAgg186
  z45 := Try.sizeOf186
  v45 := Try.zeroValue186
  t46 := Try.underlying187
  a46 := Try.isAgg187
  z46 := Try.sizeOf187
  v46 := Try.zeroValue187
  t50 := Try.underlying191
  a50 := Try.isAgg191
  z50 := Try.sizeOf191
  v50 := Try.zeroValue191
  t53 := Try.underlying99
  a53 := Try.isAgg99
  z53 := Try.sizeOf99
  v53 := Try.zeroValue99
  t55 := Try.underlying96
  a55 := Try.isAgg96
  z55 := Try.sizeOf96
  v55 := Try.zeroValue96
  t66 := Try.underlying200
  a66 := Try.isAgg200
  z66 := Try.sizeOf200
  v66 := Try.zeroValue200
  t70 := Try.underlying204
  a70 := Try.isAgg204
  z70 := Try.sizeOf204
  v70 := Try.zeroValue204
  t76 := Try.underlying208
  a76 := Try.isAgg208
  z76 := Try.sizeOf208
  v76 := Try.zeroValue208
  t77 := Try.underlying209
  a77 := Try.isAgg209
  z77 := Try.sizeOf209
  v77 := Try.zeroValue209 }
end Go.Proofs.Ytcfmlnddmpiemaa.Sx


set_option maxRecDepth 10000
namespace Go.Proofs.Ytcfmlnddmpiemaa.Sx
open Go.RowKit
open Go.Shelf
/-! ### extent.Norm's sort -/
open Go.Sort (SWO PermIn SortedIn HoldsK flatK grow putRowK)
set_option maxHeartbeats 1000000 in
theorem ecmp_c (x y : ExR) (W : World) : Calls Try.prog 77 #[.agg #[.int .i64 x.1, .int .i64 x.2], .agg #[.int .i64 y.1, .int .i64 y.2]] W fun e w' => e = .returned (.int .i64 (Lib.compareInt x.1 y.1)) ∧ ∃ q os', w' = grow (W.drewN q) os' := by
  have hcon := fun W' => AnyG.cmp_Compare_int cmpInt x.1 y.1 W'
  change ∀ W', Calls Try.prog 78 _ _ _ at hcon
  generalize Lib.compareInt x.1 y.1 = r at hcon ⊢
  go_enter Try.func77, Try.ntmps77
  go_wp2_with (go_at_call 78; refine (hcon _).mono ?_; rintro e w' ⟨rfl, rfl⟩)
  go_ret
  exact ⟨rfl, 0, _, by rw [Go.Sort.alloc_eq_grow, Go.Sort.alloc_eq_grow, Go.Sort.grow_grow]; rfl⟩
theorem ltE (x y : ExR) : ltOf (fun x y : ExR => Lib.compareInt x.1 y.1) x y = decide (x.1 < y.1) := by
  unfold ltOf Lib.compareInt
  by_cases h1 : x.1 < y.1
  · simp [h1]
  · by_cases h2 : y.1 < x.1 <;> simp [h1, h2]
theorem swoE : SWO (ltOf fun x y : ExR => Lib.compareInt x.1 y.1) where
  irrefl x := by rw [ltE]; simp
  trans x y z h1 h2 := by rw [ltE] at *; simp at *; omega
  ntrans x y z h1 h2 := by rw [ltE] at *; simp at *; omega
theorem flatK_E (d : Array ExR) : flatK encE 2 d = (flatE d.toList).toArray := by
  apply Array.ext_getElem?
  intro t
  by_cases ht : t < d.size * 2
  · have h1 := Go.Sort.get_flatK encE 2 d t ht
    rw [getElem!_pos _ _ (by rw [Go.Sort.size_flatK]; exact ht)] at h1
    rw [Array.getElem?_eq_getElem (by rw [Go.Sort.size_flatK]; exact ht), h1, List.getElem?_toArray, flatE_get _ _ (by simpa using ht)]
    have hd : d[t / 2]! = d.toList.getD (t / 2) (0, 0) := by
      have hh : t / 2 < d.size := by omega
      rw [getElem!_pos d _ hh]
      simp [List.getD_eq_getElem?_getD, hh]
    rw [hd]
    generalize d.toList.getD (t / 2) (0, 0) = x
    have : t % 2 = 0 ∨ t % 2 = 1 := by omega
    rcases this with h | h <;> rw [h] <;> rfl
  · rw [Array.getElem?_eq_none (by rw [Go.Sort.size_flatK]; omega), List.getElem?_toArray, List.getElem?_eq_none (by rw [flatE_length]; simp; omega)]
abbrev ecmpV : Value := .func (.func 77) #[] #[]
set_option maxHeartbeats 1000000 in
theorem esort_c (blk cap : Nat) (l : List ExR) (w : World) (hH : Go.Sort.Holds id w blk 0 (flatE l).toArray) (hlt : blk < w.heap.size) (hlen : l.length < 4611686018427387904) : Calls Try.prog 76 #[.slice (some ⟨blk, 0, none⟩) l.length cap, ecmpV] w fun e w' => e = .returned (.tuple #[]) ∧ ∃ r n os, r.Perm l ∧ SrtE r ∧ w' = grow (Go.Sort.putRow id (Go.Sort.ahead w n) blk 0 (flatE r).toArray) os := by
  have eg : ∀ args w, (callFunc 77 args).run Try.prog w = .ok (.enter 77 args) w := enters_of Try.func77 (by kernel_rfl) rfl
  have hH2 : HoldsK encE 2 w blk 0 l.toArray := by
    unfold HoldsK
    rw [flatK_E]; exact hH
  have hcon := AnyQ.slices_SortFunc sortExt 2 Try.isAgg31 Try.sizeOf31 encE (fun _ => rfl) (fun x v hv => by simp [encE] at hv; rcases hv with rfl | rfl <;> rfl) (fun x y : ExR => Lib.compareInt x.1 y.1) swoE 77 #[] blk 0 cap l.toArray w eg (fun _ _ _ _ x y => ecmp_c x y _) hH2 hlt (by simpa using hlen)
  change Calls Try.prog 76 _ _ _ at hcon
  simp only [List.size_toArray] at hcon
  refine hcon.mono ?_
  rintro e w' ⟨rfl, d', n, os, hp, hs, rfl⟩
  have hsz : d'.size = l.length := by simpa using hp.1
  have hperm : d'.toList.Perm l := by
    have := hp.2.2
    have e2 : d'.extract 0 l.length = d' := by rw [← hsz]; simp
    simpa [e2] using this
  refine ⟨rfl, d'.toList, n, os, hperm, ?_, ?_⟩
  · refine List.pairwise_iff_getElem.2 fun i j hi hj hij => ?_
    have hi' : i < d'.size := by simpa using hi
    have hj' : j < d'.size := by simpa using hj
    have := hs i j (Nat.zero_le _) hij (by omega)
    rw [ltE, getElem!_pos d' j hj', getElem!_pos d' i hi'] at this
    simp at this
    simpa using this
  · rw [← flatK_E]; rfl
theorem esort_K : ConOk Go.Proofs.Try.prog 76 (sortEC 31 ecmpV) :=
  sortE_conOk 31 ⟨_, Go.Proofs.Try.func76, by decide +kernel, by kernel_rfl⟩ (fun blk cap l w h1 h2 h3 => esort_c blk cap l w h1 h2 h3)
theorem esort_at {avs : List AV} {H : List Chunk} {k : K} (l : List ExR) (c : Nat) (i : Nat) (h0 : 0 < l.length ∧ l.length < 4611686018427387904) (hc : nth H i = some (.blk 31 (exC l) (c * 2))) (ha : argsM H [i] [.s 0 0 2 l.length c, .v ecmpV] avs)
    (h : ∀ r, r.Perm l ∧ SrtE r → k (.tup []) (H.set i (.blk 31 (exC r) (c * 2)))) : CallP Go.Proofs.Try.prog 76 avs H k :=
  CallP.mk ⟨_, esort_K.real, Con.spec esort_K, (l, c), [i], ⟨h0, rfl, ⟨hc, trivial⟩, ha⟩, fun r hr => (numK_eq H.length (fun N => k (AV.ren (fren [i] N) (.tup [])) (putAll H [i] [Chunk.ren (fren [i] N) (.blk 31 (exC r) (c * 2))]))).mpr (by simpa [putAll, AV.ren, rens, Chunk.ren, Cont.ren, exC, exAV] using h r hr)⟩
#print axioms esort_K
end Go.Proofs.Ytcfmlnddmpiemaa.Sx


set_option maxRecDepth 10000
namespace Go.Proofs.Ytcfmlnddmpiemaa.Sx
open Go.RowKit Go.Proofs.Ytcfmlnddmpiemaa.Sx.Tb
/-! ### The law MapsTables -/
/-- What stands in a table. -/
def TabV (t : TR) (now : List Int) (a : Nat) (M : List ER) : Prop := M.length = 64 ∧ ∀ i, i < 64 → (encV (M.getD i ⟨0, 0, false⟩)).2 = 0 ∧ t.rd now (a + 8 * i) 8 = leB 8 (encV (M.getD i ⟨0, 0, false⟩)).1
theorem TabV.put {t : TR} {now : List Int} {a : Nat} {M : List ER} (h : TabV t now a M) (ht : t.Ok) (i : Nat) (hi : i < 64) {x : ER} (hx : (encV x).2 = 0) : TabV (t.put now (a + 8 * i) (leB 8 (encV x).1)) now a (M.set i x) := by
  refine ⟨by rw [List.length_set]; exact h.1, fun q hq => ?_⟩
  by_cases hqi : q = i
  · subst hqi
    have e : (M.set q x).getD q ⟨0, 0, false⟩ = x := by
      rw [List.getD_eq_getElem?_getD, List.getElem?_set_self (by rw [h.1]; exact hq)]; rfl
    rw [e]
    refine ⟨hx, ?_⟩
    have := put_rd ht now (a + 8 * q) (leB 8 (encV x).1)
    rw [leB_length] at this
    exact this
  · have e : (M.set i x).getD q ⟨0, 0, false⟩ = M.getD q ⟨0, 0, false⟩ := by
      rw [List.getD_eq_getElem?_getD, List.getElem?_set_ne (fun e => hqi e.symm), List.getD_eq_getElem?_getD]
    rw [e]
    refine ⟨(h.2 q hq).1, ?_⟩
    rw [← (h.2 q hq).2]
    refine rd_congr (fun b hb => ?_)
    rw [(put_V ht now _ _).2.2.2.2, leB_length, if_neg (by omega)]
theorem TabV.zero {now : List Int} (hz : ∀ x ∈ now, x = 0) (a : Nat) : TabV TR.zero now a (List.replicate 64 ⟨0, 0, false⟩) := by
  have z : ∀ i, TR.zero.V now i = 0 := by
    intro i
    rw [zero_V, List.getD_eq_getElem?_getD]
    cases e : now[i]? with
    | none => rfl
    | some v => exact hz _ (List.mem_of_getElem? e)
  refine ⟨List.length_replicate .., fun i hi => ?_⟩
  have e : (List.replicate 64 (⟨0, 0, false⟩ : ER)).getD i ⟨0, 0, false⟩ = ⟨0, 0, false⟩ := by
    rw [List.getD_eq_getElem?_getD, List.getElem?_replicate]; split <;> rfl
  rw [e]
  refine ⟨rfl, ?_⟩
  show List.map _ _ = _
  have : (fun q => TR.zero.V now (a + 8 * i + q)) = fun _ => 0 := funext (fun q => z _)
  rw [this]
  decide
end Go.Proofs.Ytcfmlnddmpiemaa.Sx

