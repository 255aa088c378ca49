import Derived.Test.YtcfmlnddmpiemaaSxU4
import Derived.Test.YtcfmlnddmpiemaaSxU3
import Derived.Test.YtcfmlnddmpiemaaSxU1
import Derived.Test.YtcfmlnddmpiemaaSxU2
set_option linter.unusedVariables false
set_option linter.unusedSimpArgs false
set_option maxRecDepth 10000
namespace Go.Proofs.Ytcfmlnddmpiemaa.Sx
/-! ### What a calm file shows behind writes, plain -/
def wrV (f : Nat → Int) (a : Nat) (xs : List Int) (i : Nat) : Int := if a ≤ i ∧ i < a + xs.length then xs.getD (i - a) 0 else f i
def doneV (rs : List RecR) (f : Nat → Int) : Nat → Int := rs.foldl (fun f r => wrV f r.1.toNat r.2) f
def DF.V (s : DF) (i : Nat) : Int := s.now.getD i 0
theorem doneV_cons (r : RecR) (rs : List RecR) (f : Nat → Int) : doneV (r :: rs) f = doneV rs (wrV f r.1.toNat r.2) := rfl
theorem doneV_snoc (rs : List RecR) (r : RecR) (f : Nat → Int) : doneV (rs ++ [r]) f = wrV (doneV rs f) r.1.toNat r.2 := by
  unfold doneV; rw [List.foldl_append]; rfl
theorem wrV_nil (f : Nat → Int) (a : Nat) : wrV f a [] = f := by
  funext i; unfold wrV; rw [if_neg (by simp)]
theorem wrV_append (f : Nat → Int) (a : Nat) (l m : List Int) : wrV f a (l ++ m) = wrV (wrV f a l) (a + l.length) m := by
  funext i
  unfold wrV
  rw [List.length_append]
  by_cases h1 : a ≤ i ∧ i < a + l.length
  · rw [if_pos ⟨h1.1, by omega⟩, if_neg (by omega), if_pos h1, List.getD_eq_getElem?_getD, List.getElem?_append_left (by omega), List.getD_eq_getElem?_getD]
  · by_cases h2 : a + l.length ≤ i ∧ i < a + l.length + m.length
    · rw [if_pos ⟨by omega, by omega⟩, if_pos h2, List.getD_eq_getElem?_getD, List.getElem?_append_right (by omega), List.getD_eq_getElem?_getD, show i - a - l.length = i - (a + l.length) by omega]
    · rw [if_neg (by omega), if_neg h2, if_neg h1]
theorem wrN_now : ∀ (k : Nat) (s : DF) (at_ : Int) (xs : List Int), xs.length ≤ k → 0 ≤ at_ →
    (∀ i, (wrN k s at_ xs).V i = wrV s.V at_.toNat xs i) ∧ (wrN k s at_ xs).now.length = (if xs.length = 0 then s.now.length else max s.now.length (at_.toNat + xs.length)) ∧
    (wrN k s at_ xs).fail = s.fail ∧ (wrN k s at_ xs).stop = s.stop ∧ (wrN k s at_ xs).safe = s.safe
  | 0, s, at_, xs, h, h0 => by
    have : xs = [] := List.eq_nil_of_length_eq_zero (by omega)
    subst this
    rw [wrN, wrV_nil]; exact ⟨fun _ => rfl, rfl, rfl, rfl, rfl⟩
  | k + 1, s, at_, xs, h, h0 => by
    rw [wrN]
    by_cases hx : xs = []
    · rw [if_pos hx]; subst hx; rw [wrV_nil]; exact ⟨fun _ => rfl, rfl, rfl, rfl, rfl⟩
    · rw [if_neg hx]
      have hl : 0 < xs.length := List.length_pos_iff.2 hx
      obtain ⟨c1, c2⟩ : 0 < secN at_ xs.length ∧ secN at_ xs.length ≤ xs.length := by unfold secN; omega
      generalize secN at_ xs.length = d at c1 c2 ⊢
      have tl : (xs.take d).length = d := by rw [List.length_take]; omega
      have dl : (xs.drop d).length = xs.length - d := List.length_drop ..
      obtain ⟨i1, i2, i3, i4, i5⟩ := wrN_now k { s with now := layL s.now false at_ (xs.take d), items := s.items ++ [(false, at_, xs.take d)] } (at_ + d) (xs.drop d) (by omega) (by omega)
      refine ⟨fun i => ?_, ?_, i3, i4, i5⟩
      · rw [i1]
        have e : (fun i => DF.V { s with now := layL s.now false at_ (xs.take d), items := s.items ++ [(false, at_, xs.take d)] } i) = wrV s.V at_.toNat (xs.take d) := by
          funext i
          show (layL s.now false at_ (xs.take d)).getD i 0 = _
          rw [layL_at h0]; rfl
        have e2 := congrFun (wrV_append s.V at_.toNat (xs.take d) (xs.drop d)) i
        rw [List.take_append_drop, tl] at e2
        rw [e2, ← e, show (at_ + d).toNat = at_.toNat + d by omega]
      · rw [i2, dl]
        have e3 : DF.now { s with now := layL s.now false at_ (xs.take d), items := s.items ++ [(false, at_, xs.take d)] } = layL s.now false at_ (xs.take d) := rfl
        rw [e3, layL_length h0, tl, if_neg (show ¬ xs.length = 0 by omega)]
        split
        · omega
        · omega
theorem live_wr {s : DF} (c : s.live) {at_ : Int} {xs : List Int} (h0 : 0 ≤ at_) (h1 : at_ + xs.length ≤ 4194304) : s.doOp (.wr at_ xs) = (0, s.wrote1 at_ xs) ∧ (s.wrote1 at_ xs).live ∧ (∀ i, (s.wrote1 at_ xs).V i = wrV s.V at_.toNat xs i) ∧ (s.wrote1 at_ xs).now.length = (if xs.length = 0 then s.now.length else max s.now.length (at_.toNat + xs.length)) := by
  obtain ⟨i1, i2, i3, i4, i5⟩ := wrN_now xs.length { s with ops := s.ops + 1, wrote := s.wrote + 1 } at_ xs (Nat.le_refl _) h0
  refine ⟨?_, ⟨i3.trans c.1, i4.trans c.2⟩, i1, i2⟩
  rw [DF.doOp_wr, if_neg c.refB, if_neg (by omega), if_neg (by omega)]
def lenR (rs : List RecR) (n : Nat) : Nat := rs.foldl (fun n r => if r.2.length = 0 then n else max n (r.1.toNat + r.2.length)) n
theorem lenR_ge : ∀ (rs : List RecR) (n : Nat), n ≤ lenR rs n
  | [], n => Nat.le_refl _
  | r :: rs, n => by
    refine Nat.le_trans ?_ (lenR_ge rs (if r.2.length = 0 then n else max n (r.1.toNat + r.2.length)))
    split <;> omega
theorem lenR_le : ∀ (rs : List RecR) (n M : Nat), n ≤ M → (∀ r ∈ rs, r.1.toNat + r.2.length ≤ M) → lenR rs n ≤ M
  | [], n, M, h, _ => h
  | r :: rs, n, M, h, hr => by
    refine lenR_le rs _ M ?_ (fun q hq => hr q (List.mem_cons_of_mem _ hq))
    have := hr r (List.mem_cons_self ..)
    show (if r.2.length = 0 then n else max n (r.1.toNat + r.2.length)) ≤ M
    split <;> omega
theorem wrs_view : ∀ (rs : List RecR) (s : DF), s.live → (∀ r ∈ rs, 0 ≤ r.1 ∧ r.1 + r.2.length ≤ 4194304) → ∃ s', s.run (wrs rs) = (0, s') ∧ s'.live ∧ s'.V = doneV rs s.V ∧ s'.now.length = lenR rs s.now.length
  | [], s, hl, h => ⟨s, rfl, hl, rfl, rfl⟩
  | r :: rs, s, hl, h => by
    obtain ⟨h0, h1⟩ := h r (List.mem_cons_self ..)
    obtain ⟨e, l, v, n⟩ := live_wr hl (at_ := r.1) (xs := r.2) h0 h1
    obtain ⟨s', i1, i2, i3, i4⟩ := wrs_view rs (s.wrote1 r.1 r.2) l (fun q hq => h q (List.mem_cons_of_mem _ hq))
    refine ⟨s', ?_, i2, ?_, ?_⟩
    · rw [show wrs (r :: rs) = .wr r.1 r.2 :: wrs rs from rfl, DF.run, e]; simp only [if_true]; exact i1
    · rw [i3, doneV_cons]; congr 1; funext i; exact v i
    · rw [i4, n]; rfl
theorem live_fl {s : DF} (c : s.live) : s.doOp .fl = (0, s.flushed) ∧ s.flushed.live ∧ s.flushed.now = s.now ∧ s.flushed.items = [] ∧ s.flushed.safe = s.now := ⟨calm_fl c, c, rfl, rfl, rfl⟩
/-! ### A tx's view is what its fresh ones and its sectors leave -/
theorem layR_get {at_ : Int} {l : List Int} {r : RecR} (hl : l.length = 512) (h0 : 0 ≤ at_) (hr : 0 ≤ r.1) {j : Nat} (hj : j < 512) : (layR at_ l r).getD j 0 = if r.1.toNat ≤ at_.toNat + j ∧ at_.toNat + j < r.1.toNat + r.2.length then r.2.getD (at_.toNat + j - r.1.toNat) 0 else l.getD j 0 := by
  unfold layR
  rw [hl]
  split
  · rename_i h
    have e : ((r.2.drop (max at_ r.1 - r.1).toNat).take (min (at_ + (512 : Nat)) (r.1 + r.2.length) - max at_ r.1).toNat).length = (min (at_ + (512 : Nat)) (r.1 + r.2.length) - max at_ r.1).toNat := by rw [List.length_take, List.length_drop]; omega
    rw [putG_get (by omega), e]
    by_cases c : r.1.toNat ≤ at_.toNat + j ∧ at_.toNat + j < r.1.toNat + r.2.length
    · rw [if_pos c, if_pos (by omega), List.getD_eq_getElem?_getD, List.getElem?_take, if_pos (by omega), List.getElem?_drop, List.getD_eq_getElem?_getD]
      congr 2; omega
    · rw [if_neg c, if_neg (by omega)]
  · rename_i h
    rw [if_neg (by omega)]
theorem lays_get {at_ : Int} (h0 : 0 ≤ at_) : ∀ (rs : List RecR) (l : List Int) (f : Nat → Int), l.length = 512 → (∀ r ∈ rs, 0 ≤ r.1) → (∀ j, j < 512 → l.getD j 0 = f (at_.toNat + j)) → ∀ j, j < 512 → (rs.foldl (layR at_) l).getD j 0 = doneV rs f (at_.toNat + j)
  | [], l, f, hl, hr, h, j, hj => h j hj
  | r :: rs, l, f, hl, hr, h, j, hj => by
    rw [doneV_cons]
    refine lays_get h0 rs _ _ (layR_length _ _ _ hl h0) (fun q hq => hr q (List.mem_cons_of_mem _ hq)) (fun i hi => ?_) j hj
    rw [layR_get hl h0 (hr r (List.mem_cons_self ..)) hi, h i hi]
    rfl
theorem secF_get (now : List Int) (n : Nat) {j : Nat} (hj : j < 512) : (secF now (n : Int)).getD j 0 = now.getD (512 * n + j) 0 := by
  have := zero_V now (512 * n + j)
  unfold TR.V TR.sec at this
  rw [← this]
  show _ = (secF now (((512 * n + j) / 512 : Nat) : Int)).getD ((512 * n + j) % 512) 0
  rw [show (512 * n + j) / 512 = n by omega, show (512 * n + j) % 512 = j by omega]
/-- The view: a sector that is dirty, or what the fresh ones leave. -/
theorem TR.V_eq {t : TR} (h : t.Ok) (s : DF) (i : Nat) : t.V s.now i = (match lkS ((i / 512 : Nat) : Int) t.dirty with | some l => l.getD (i % 512) 0 | none => doneV t.fresh s.V i) := by
  unfold TR.V TR.sec
  cases hq : lkS ((i / 512 : Nat) : Int) t.dirty with
  | some l => rfl
  | none =>
    show (t.fresh.foldl (layR (512 * ((i / 512 : Nat) : Int))) (secF s.now ((i / 512 : Nat) : Int))).getD (i % 512) 0 = _
    rw [lays_get (by omega) t.fresh _ s.V (secF_length _ _) (fun r hr => (h.frs r hr).1) (fun j hj => ?_) (i % 512) (Nat.mod_lt _ (by omega))]
    · congr 1; omega
    · rw [secF_get _ _ hj]; unfold DF.V; rw [show (512 * ((i / 512 : Nat) : Int)).toNat = 512 * (i / 512) by omega]
/-! ### The records are the sectors -/
def keyV (d : List (Int × List Int)) (ks : List Int) (f : Nat → Int) : Nat → Int := ks.foldl (fun f k => wrV f (k * 512).toNat ((lkS k d).getD [])) f
def SecsOk (d : List (Int × List Int)) (ks : List Int) : Prop := ∀ k ∈ ks, 0 ≤ k ∧ ((lkS k d).getD []).length = 512
theorem keyV_get {d : List (Int × List Int)} : ∀ (ks : List Int) (f : Nat → Int), SecsOk d ks → ∀ i, keyV d ks f i = if ((i / 512 : Nat) : Int) ∈ ks then ((lkS ((i / 512 : Nat) : Int) d).getD []).getD (i % 512) 0 else f i
  | [], f, _, i => by rw [if_neg List.not_mem_nil]; rfl
  | k :: ks, f, h, i => by
    obtain ⟨h0, h1⟩ := h k (List.mem_cons_self ..)
    show keyV d ks (wrV f (k * 512).toNat ((lkS k d).getD [])) i = _
    rw [keyV_get ks _ (fun q hq => h q (List.mem_cons_of_mem _ hq)) i]
    by_cases c : ((i / 512 : Nat) : Int) ∈ ks
    · rw [if_pos c, if_pos (List.mem_cons_of_mem _ c)]
    · rw [if_neg c]
      unfold wrV
      rw [h1]
      by_cases c2 : ((i / 512 : Nat) : Int) = k
      · rw [if_pos (by omega), if_pos (by rw [c2]; exact List.mem_cons_self ..), c2]
        congr 1; omega
      · rw [if_neg (by omega), if_neg (fun hm => by rcases List.mem_cons.1 hm with e | e; exact c2 e; exact c e)]
theorem snocD_eq {rs : List RecR} (h : rs ≠ []) (x : List Int) : ∃ init last, rs = init ++ [last] ∧ snocD rs x = init ++ [(last.1, last.2 ++ x)] := by
  refine ⟨rs.dropLast, rs.getLast h, (List.dropLast_concat_getLast h).symm, ?_⟩
  have e := (List.dropLast_concat_getLast h).symm
  generalize rs.dropLast = a at e
  generalize rs.getLast h = b at e
  subst e
  unfold snocD
  rw [show (a ++ [b]).length - 1 = a.length by simp]
  rw [List.getD_eq_getElem?_getD, List.getElem?_append_right (Nat.le_refl _), Nat.sub_self]
  rw [List.set_append_right _ _ (Nat.le_refl _), Nat.sub_self]
  rfl
/-- What is known of the records of some sectors. -/
structure RecS (d : List (Int × List Int)) (ks : List Int) (rs : List RecR) : Prop where
  view : ∀ f, doneV rs f = keyV d ks f
  last : ks ≠ [] → ∃ init r, rs = init ++ [r] ∧ r.1 + r.2.length = (ks.getD (ks.length - 1) 0 + 1) * 512
  cov : ∀ r ∈ rs, 0 ≤ r.1 ∧ 0 < r.2.length ∧ ∀ i : Nat, r.1 ≤ i → (i : Int) < r.1 + r.2.length → ((i / 512 : Nat) : Int) ∈ ks
  nil : ks = [] → rs = []
theorem keyV_snoc (d : List (Int × List Int)) (ks : List Int) (k : Int) (f : Nat → Int) : keyV d (ks ++ [k]) f = wrV (keyV d ks f) (k * 512).toNat ((lkS k d).getD []) := by
  unfold keyV; rw [List.foldl_append]; rfl
theorem bldR_S {d : List (Int × List Int)} {ks : List Int} (hk : SecsOk d ks) : ∀ m, m ≤ ks.length → RecS d (ks.take m) (bldR d ks m)
  | 0, _ => by
    rw [List.take_zero]
    exact ⟨fun f => rfl, fun h => absurd rfl h, fun r hr => absurd hr List.not_mem_nil, fun _ => rfl⟩
  | m + 1, hm => by
    have ih := bldR_S hk m (by omega)
    have hkm : ks.getD m 0 ∈ ks := by
      rw [show ks.getD m 0 = ks[m]'(by omega) by simp [List.getD_eq_getElem?_getD, show m < ks.length by omega]]
      exact List.getElem_mem _
    obtain ⟨k0, k1⟩ := hk _ hkm
    have et : ks.take (m + 1) = ks.take m ++ [ks.getD m 0] := by
      rw [List.take_add_one, List.getElem?_eq_getElem (show m < ks.length by omega), List.getD_eq_getElem?_getD, List.getElem?_eq_getElem (show m < ks.length by omega)]; rfl
    have e : bldR d ks (m + 1) = bldS d ks (bldR d ks m) m := by
      unfold bldR; rw [List.range_succ, List.foldl_append]; rfl
    have tl : (ks.take m).length = m := by rw [List.length_take]; omega
    have hlast : (ks.take (m + 1)).getD ((ks.take (m + 1)).length - 1) 0 = ks.getD m 0 := by
      rw [et, show (ks.take m ++ [ks.getD m 0]).length - 1 = m by rw [List.length_append, tl]; rfl, List.getD_eq_getElem?_getD, List.getElem?_append_right (by omega), tl, Nat.sub_self]; rfl
    rw [e]
    obtain ⟨x, hx⟩ : ∃ x, x = (lkS (ks.getD m 0) d).getD [] := ⟨_, rfl⟩
    rw [← hx] at k1
    unfold bldS
    rw [← hx]
    split
    · rename_i h
      have hne : ks.take m ≠ [] := fun h0 => by rw [h0] at tl; simp at tl; omega
      obtain ⟨init, r, hr, he⟩ := ih.last hne
      have hrn : bldR d ks m ≠ [] := by rw [hr]; simp
      have hpm : (ks.take m).getD ((ks.take m).length - 1) 0 = ks.getD (m - 1) 0 := by
        rw [tl, List.getD_eq_getElem?_getD, List.getElem?_take, if_pos (by omega), List.getD_eq_getElem?_getD]
      rw [hpm, h.2] at he
      have hs : snocD (bldR d ks m) x = init ++ [(r.1, r.2 ++ x)] := by
        obtain ⟨i2, r2, a1, a2⟩ := snocD_eq hrn x
        rw [hr] at a1
        obtain ⟨b1, b2⟩ := List.append_inj' a1 rfl
        cases b2
        rw [a2, ← b1]
      rw [hs]
      have hrr := ih.cov r (by rw [hr]; simp)
      refine ⟨fun f => ?_, fun _ => ⟨init, _, rfl, ?_⟩, fun q hq => ?_, fun h0 => ?_⟩
      · rw [doneV_snoc, et, keyV_snoc, ← hx, ← ih.view f, hr, doneV_snoc, wrV_append]
        congr 1
        omega
      · rw [hlast, List.length_append, k1]
        show r.1 + ((r.2.length + 512 : Nat) : Int) = _
        omega
      · rcases List.mem_append.1 hq with hq | hq
        · obtain ⟨q1, q2, q3⟩ := ih.cov q (by rw [hr]; exact List.mem_append_left _ hq)
          exact ⟨q1, q2, fun i a b => by rw [et]; exact List.mem_append_left _ (q3 i a b)⟩
        · obtain rfl := List.mem_singleton.1 hq
          refine ⟨hrr.1, by show 0 < (r.2 ++ x).length; rw [List.length_append]; omega, fun i a b => ?_⟩
          have b : (i : Int) < r.1 + ((r.2 ++ x).length : Int) := b
          rw [List.length_append] at b
          rw [et]
          by_cases c : (i : Int) < r.1 + r.2.length
          · exact List.mem_append_left _ (hrr.2.2 i a c)
          · refine List.mem_append_right _ (List.mem_singleton.2 ?_)
            omega
      · rw [et] at h0; simp at h0
    · refine ⟨fun f => ?_, fun _ => ⟨_, _, rfl, ?_⟩, fun q hq => ?_, fun h0 => ?_⟩
      · rw [doneV_snoc, et, keyV_snoc, ih.view f, ← hx]
      · rw [hlast]
        show ks.getD m 0 * 512 + (x.length : Int) = _
        omega
      · rcases List.mem_append.1 hq with hq | hq
        · obtain ⟨q1, q2, q3⟩ := ih.cov q hq
          exact ⟨q1, q2, fun i a b => by rw [et]; exact List.mem_append_left _ (q3 i a b)⟩
        · obtain rfl := List.mem_singleton.1 hq
          refine ⟨by show 0 ≤ ks.getD m 0 * 512; omega, by show 0 < x.length; omega, fun i a b => ?_⟩
          have a : ks.getD m 0 * 512 ≤ (i : Int) := a
          have b : (i : Int) < ks.getD m 0 * 512 + (x.length : Int) := b
          rw [et]
          exact List.mem_append_right _ (List.mem_singleton.2 (by omega))
      · rw [et] at h0; simp at h0
theorem secs_of {t : TR} (h : t.Ok) (hk : ∀ q ∈ t.dirty, 0 ≤ q.1) {ks : List Int} (hp : ∀ k ∈ ks, k ∈ t.dirty.map (fun x => x.1)) : SecsOk t.dirty ks := by
  intro k hq
  obtain ⟨l, hl⟩ := lkS_of_mem (hp k hq)
  rw [hl]
  exact ⟨hk _ (lkS_mem hl), h.sec _ (lkS_mem hl)⟩
theorem lkS_key {n : Int} : ∀ {d : List (Int × List Int)} {l : List Int}, lkS n d = some l → n ∈ d.map (fun x => x.1) := fun h => List.mem_map.2 ⟨_, lkS_mem h, rfl⟩
/-- All in one: the records of a tx. -/
theorem RecRel.S {t : TR} {rs : List RecR} (h : RecRel t rs) (ho : t.Ok) (hk : ∀ q ∈ t.dirty, 0 ≤ q.1) : (∀ (s : DF) (i : Nat), doneV rs (doneV t.fresh s.V) i = t.V s.now i) ∧ (∀ r ∈ rs, 0 ≤ r.1 ∧ 0 < r.2.length ∧ ∀ i : Nat, r.1 ≤ i → (i : Int) < r.1 + r.2.length → ((i / 512 : Nat) : Int) ∈ t.dirty.map (fun x => x.1)) := by
  obtain ⟨ks, h1, h2, rfl⟩ := h
  have hs := secs_of ho hk (ks := ks) (fun k hk => h1.subset hk)
  have hS := bldR_S hs ks.length (Nat.le_refl _)
  rw [List.take_length] at hS
  refine ⟨fun s i => ?_, fun r hr => ?_⟩
  · rw [hS.view, keyV_get ks _ hs, TR.V_eq ho]
    cases hq : lkS ((i / 512 : Nat) : Int) t.dirty with
    | some l => rw [if_pos (h1.symm.subset (lkS_key hq))]; rfl
    | none =>
      rw [if_neg (fun hm => ?_)]
      obtain ⟨l, hl⟩ := lkS_of_mem (h1.subset hm)
      rw [hq] at hl; cases hl
  · obtain ⟨q1, q2, q3⟩ := hS.cov r hr
    exact ⟨q1, q2, fun i a b => h1.subset (q3 i a b)⟩
end Go.Proofs.Ytcfmlnddmpiemaa.Sx


set_option maxRecDepth 10000
namespace Go.Proofs.Ytcfmlnddmpiemaa.Sx
/-! ### A commit on a calm file, plain -/
theorem perm_sorted_eq : ∀ {l m : List Int}, l.Perm m → l.Pairwise (· ≤ ·) → m.Pairwise (· ≤ ·) → l = m
  | [], m, h, _, _ => (List.nil_perm.1 h).symm
  | a :: l, [], h, _, _ => absurd h.length_eq (by simp)
  | a :: l, b :: m, h, h1, h2 => by
    have hab : a = b := by
      rcases List.mem_cons.1 (h.symm.subset (List.mem_cons_self (a := b) (l := m))) with e | hb
      · exact e.symm
      rcases List.mem_cons.1 (h.subset (List.mem_cons_self (a := a) (l := l))) with e | ha
      · exact e
      exact Int.le_antisymm ((List.pairwise_cons.1 h1).1 b hb) ((List.pairwise_cons.1 h2).1 a ha)
    subst hab
    rw [perm_sorted_eq (List.Perm.cons_inv h) (List.pairwise_cons.1 h1).2 (List.pairwise_cons.1 h2).2]
theorem RecRel.unique {t : TR} {r r' : List RecR} (h : RecRel t r) (h' : RecRel t r') : r = r' := by
  obtain ⟨ks, a1, a2, rfl⟩ := h
  obtain ⟨ks', b1, b2, rfl⟩ := h'
  rw [perm_sorted_eq (a1.trans b1.symm) a2 b2]
/-- A tx whose changes may be committed by a journal. -/
structure TR.In (t : TR) (j : JR) : Prop where
  keys : ∀ q ∈ t.dirty, 0 ≤ q.1 ∧ q.1 ≤ 8191 ∧ (q.1 * 512 + 512 ≤ j.pos ∨ j.pos + j.size ≤ q.1 * 512) ∧ B8 q.2
  nodup : (t.dirty.map (fun x => x.1)).Nodup
  frs : ∀ r ∈ t.fresh, 0 ≤ r.1 ∧ r.1 + r.2.length ≤ 4194304 ∧ (r.1 + r.2.length ≤ j.pos ∨ j.pos + j.size ≤ r.1) ∧ B8 r.2
theorem TR.In.recs {t : TR} {j : JR} (h : t.In j) (ho : t.Ok) (hj : j.Ok) {rs : List RecR} (hr : RecRel t rs) : ∀ r ∈ rs, j.out r.1 r.2.length ∧ r.1 + r.2.length ≤ 4194304 := by
  obtain ⟨-, hc⟩ := hr.S ho (fun q hq => (h.keys q hq).1)
  obtain ⟨j1, j2, j3, j4, j5, j6⟩ := hj
  intro r hm
  obtain ⟨c1, c2, c3⟩ := hc r hm
  have key : ∀ i : Nat, r.1 ≤ i → (i : Int) < r.1 + r.2.length → (i : Int) < 4194304 ∧ ((i : Int) < j.pos ∨ j.pos + j.size ≤ i) := by
    intro i a b
    obtain ⟨q, hq, e⟩ := List.mem_map.1 (c3 i a b)
    have := h.keys q hq
    omega
  have h1 := key (r.1.toNat + r.2.length - 1) (by omega) (by omega)
  refine ⟨⟨c1, by omega, by omega, by omega, ?_⟩, by omega⟩
  by_cases c : r.1 + r.2.length ≤ j.pos
  · exact .inl c
  · refine .inr (Int.not_lt.1 (fun c4 => ?_))
    have := key (max r.1 j.pos).toNat (by omega) (by omega)
    omega
theorem doneV_congr : ∀ (rs : List RecR) (f g : Nat → Int) (i : Nat), f i = g i → doneV rs f i = doneV rs g i
  | [], f, g, i, h => h
  | r :: rs, f, g, i, h => by
    rw [doneV_cons, doneV_cons]
    refine doneV_congr rs _ _ i ?_
    unfold wrV
    rw [h]
theorem putG_V {s s' : DF} {p : Nat} {xs : List Int} (h : s'.now = putG s.now p xs) (hp : p + xs.length ≤ s.now.length) : s'.now.length = s.now.length ∧ ∀ i, ¬ (p ≤ i ∧ i < p + xs.length) → s'.V i = s.V i := by
  refine ⟨by rw [h, putG_length (by omega)]; omega, fun i hi => ?_⟩
  unfold DF.V
  rw [h, putG_get (by omega), if_neg hi]
theorem fr_calm {t : TR} {s : DF} (hl : s.live) (hf : ∀ r ∈ t.fresh, 0 ≤ r.1 ∧ r.1 + r.2.length ≤ 4194304) : ∃ s', s.run (frOps t) = (0, s') ∧ s'.live ∧ s'.V = doneV t.fresh s.V ∧ s'.now.length = lenR t.fresh s.now.length ∧ (t.fresh.length = 0 → s' = s) ∧ (s.items = [] → s'.items = []) := by
  unfold frOps
  obtain ⟨s1, e1, l1, v1, n1⟩ := wrs_view t.fresh s hl hf
  by_cases h0 : t.fresh.length = 0
  · rw [if_pos h0, List.append_nil]
    have : t.fresh = [] := List.eq_nil_of_length_eq_zero h0
    rw [this] at e1 v1 n1 ⊢
    have e1 : (0, s) = ((0 : Int), s1) := e1
    cases e1
    exact ⟨s, rfl, l1, v1, n1, fun _ => rfl, fun h => h⟩
  · rw [if_neg h0]
    obtain ⟨f1, f2, f3, f4, f5⟩ := live_fl l1
    refine ⟨s1.flushed, ?_, f2, ?_, ?_, fun h => absurd h h0, fun _ => f4⟩
    · rw [DF.run_good e1, DF.run1, f1]
    · exact v1
    · rw [f3, n1]
/-- What a commit does on a calm file. -/
structure ComEnd (t : TR) (j : JR) (s : DF) (rs : List RecR) (x : Int × TR × JR × DF) : Prop where
  err : x.1 = 0
  tx : x.2.1 = t.close
  jr : x.2.2.1 = j ∨ x.2.2.1 = j.next
  live : x.2.2.2.live
  view : ∀ i, ¬ j.inJ i → x.2.2.2.V i = t.V s.now i
  len : x.2.2.2.now.length = lenR rs (lenR t.fresh s.now.length)
  items : s.items = [] → x.2.2.2.items = []
theorem tcommit_calm {t : TR} {j : JR} {s : DF} {z : List Int} {x : Int × TR × JR × DF} (h : tcomRel t j s z x) (ho : t.over = false) (hl : s.live) (hj : j.Ok) (hf : j.pos + j.size ≤ s.now.length) (hm : s.now.length ≤ 4194304) (hT : t.Ok) (hI : t.In j) (hz : z.length = 512) {rs : List RecR} (hr : RecRel t rs) :
    (j.size - 512 < (encL rs).length → x = (15, t, j, s)) ∧ ((encL rs).length ≤ j.size - 512 → ComEnd t j s rs x) := by
  rcases h with ⟨h, _⟩ | ⟨_, rs', hr', h⟩
  · rw [ho] at h; cases h
  obtain rfl := hr.unique hr'
  have hout := hI.recs hT hj hr
  have hview := (hr.S hT (fun q hq => (hI.keys q hq).1)).1
  have hj0 := hj
  obtain ⟨j1, j2, j3, j4, j5, j6⟩ := hj0
  rcases h with ⟨h1, h2⟩ | ⟨h1, y, hy, h2⟩
  · exact ⟨fun _ => h2, fun h => by omega⟩
  refine ⟨fun h => by omega, fun _ => ?_⟩
  obtain ⟨s1, e1, l1, v1, n1, k1, i1⟩ := fr_calm (t := t) hl (fun r hr => ⟨(hI.frs r hr).1, (hI.frs r hr).2.1⟩)
  rw [e1] at hy
  subst hy
  have hge := lenR_ge t.fresh s.now.length
  have hle : lenR t.fresh s.now.length ≤ 4194304 := lenR_le _ _ _ hm (fun r hr => by have := hI.frs r hr; omega)
  rcases h2 with ⟨h2, _⟩ | ⟨_, h2, rfl⟩ | ⟨_, h2, q, hq, h3⟩
  · exact absurd rfl h2
  · have : rs = [] := List.eq_nil_of_length_eq_zero h2
    subst this
    refine ⟨rfl, rfl, .inl rfl, l1, fun i hi => ?_, n1, i1⟩
    show s1.V i = _
    rw [v1]; exact hview s i
  · obtain ⟨c1, c2, c3, c4, c5, c6⟩ := commit_calm hq l1 hj (fun q hq => (hout q hq).1) h1 (by show _ ≤ (s1.now.length : Int); omega) (by show s1.now.length ≤ _; omega)
    have hsl := signL_length j.next.seq rs.length (encL rs)
    obtain ⟨p1, p2⟩ := putG_V (s := s1) (s' := q.2.2) c4 (by rw [List.length_append, hsl]; omega)
    rcases h3 with ⟨h3, _⟩ | ⟨_, u, hu, rfl⟩
    · exact absurd c1 h3
    obtain ⟨s2, e2, l2, v2, n2⟩ := wrs_view rs q.2.2 c3 (fun r hr => ⟨(hout r hr).1.1, (hout r hr).2⟩)
    have hg2 := lenR_ge rs q.2.2.now.length
    rw [DF.run_good e2, DF.run, calm_fl l2] at hu
    simp only [if_true] at hu
    rw [c2] at hu
    obtain ⟨s3, e3, l3, n3, _, i3⟩ := calm_two (s := s2.flushed) l2 (at_ := j.next.pos) (xs := z) j1 (by show j.pos + z.length ≤ 4194304; omega) (by show j.pos.toNat ≤ s2.now.length; omega)
    rw [e3] at hu
    subst hu
    obtain ⟨p3, p4⟩ := putG_V (s := s2) (s' := s3) n3 (by show j.pos.toNat + z.length ≤ _; omega)
    refine ⟨rfl, rfl, .inr c2, l3, fun i hi => ?_, ?_, fun _ => i3⟩
    · show s3.V i = _
      have hi : ¬ (j.pos.toNat ≤ i ∧ i < j.pos.toNat + j.size.toNat) := hi
      rw [p4 i (by rw [hz]; show ¬ (j.pos.toNat ≤ i ∧ i < j.pos.toNat + 512); omega), v2, ← hview s i]
      refine doneV_congr rs _ _ i ?_
      rw [p2 i (by rw [List.length_append, hsl]; omega), v1]
    · show s3.now.length = _
      rw [p3, n2, p1, n1]
end Go.Proofs.Ytcfmlnddmpiemaa.Sx


set_option maxRecDepth 10000
namespace Go.Proofs.Ytcfmlnddmpiemaa.Sx
/-! ### Put and Fresh keep what a commit needs, plain -/
theorem upS_keys (n : Int) (v : List Int) : ∀ (d : List (Int × List Int)), (upS n v d).map (fun x => x.1) = if n ∈ d.map (fun x => x.1) then d.map (fun x => x.1) else d.map (fun x => x.1) ++ [n]
  | [] => by
    show [n] = if n ∈ ([] : List Int) then [] else [n]
    rw [if_neg List.not_mem_nil]
  | (a, u) :: r => by
    unfold upS
    by_cases h : a = n
    · rw [if_pos h, if_pos (List.mem_map.2 ⟨_, List.mem_cons_self .., h⟩)]; rfl
    · rw [if_neg h, List.map_cons, upS_keys n v r, List.map_cons]
      by_cases h2 : n ∈ r.map (fun x => x.1)
      · rw [if_pos h2, if_pos (List.mem_cons_of_mem _ h2)]
      · rw [if_neg h2, if_neg (fun hm => by rcases List.mem_cons.1 hm with e | e; exact h e.symm; exact h2 e)]; rfl
theorem upS_nodup {n : Int} {v : List Int} {d : List (Int × List Int)} (h : (d.map (fun x => x.1)).Nodup) : ((upS n v d).map (fun x => x.1)).Nodup := by
  rw [upS_keys]
  split
  · exact h
  · rename_i h2
    rw [List.nodup_append]
    exact ⟨h, by simp, fun a ha q hq => by simp at hq; subst hq; exact fun e => h2 (e ▸ ha)⟩
theorem upS_mem {n : Int} {v : List Int} : ∀ {d : List (Int × List Int)} {q : Int × List Int}, q ∈ upS n v d → q = (n, v) ∨ q ∈ d
  | [], q, h => .inl (List.mem_singleton.1 h)
  | (a, u) :: r, q, h => by
    unfold upS at h
    split at h
    · rename_i e
      rcases List.mem_cons.1 h with h | h
      · rw [← e]; exact .inl h
      · exact .inr (List.mem_cons_of_mem _ h)
    · rcases List.mem_cons.1 h with h | h
      · exact .inr (h ▸ List.mem_cons_self ..)
      · rcases upS_mem h with h | h
        · exact .inl h
        · exact .inr (List.mem_cons_of_mem _ h)
theorem sec_B8 {t : TR} {now : List Int} (hb : t.B now) (ho : t.Ok) (n : Nat) : B8 (t.sec now (n : Int)) := by
  intro x hx
  obtain ⟨i, hi, rfl⟩ := List.mem_iff_getElem.1 hx
  have hl := ho.sec_length now (n : Int) (by omega)
  have := hb (512 * n + i)
  unfold TR.V at this
  rw [show (512 * n + i) / 512 = n by omega, show (512 * n + i) % 512 = i by omega, List.getD_eq_getElem?_getD, List.getElem?_eq_getElem hi] at this
  exact this
def JR.al (j : JR) : Prop := j.pos % 512 = 0 ∧ j.size % 512 = 0
theorem wr1_In {t : TR} {j : JR} {now : List Int} (h : t.In j) (ho : t.Ok) (hb : t.B now) {a : Nat} {xs : List Int} (hx : B8 xs) (ha : j.al) (h0 : 0 < xs.length) (h1 : a + xs.length ≤ 4194304) (h2 : a + xs.length ≤ j.pos ∨ j.pos + j.size ≤ a) (h3 : a % 512 + xs.length ≤ 512) : (t.wr1 now a xs).In j := by
  obtain ⟨a1, a2⟩ := ha
  refine ⟨fun q hq => ?_, upS_nodup h.nodup, h.frs⟩
  rcases upS_mem (show q ∈ upS _ _ _ from hq) with rfl | hq
  · exact ⟨by show (0 : Int) ≤ ((a / 512 : Nat) : Int); omega, by show ((a / 512 : Nat) : Int) ≤ 8191; omega, by show ((a / 512 : Nat) : Int) * 512 + 512 ≤ j.pos ∨ j.pos + j.size ≤ ((a / 512 : Nat) : Int) * 512; omega, putG_B8 (sec_B8 hb ho _) hx⟩
  · exact h.keys q hq
theorem wr1_B {t : TR} {now : List Int} (ho : t.Ok) (hb : t.B now) {a : Nat} {xs : List Int} (hx : B8 xs) (h3 : a % 512 + xs.length ≤ 512) : (t.wr1 now a xs).B now := by
  intro i
  rw [wr1_V ho now a xs h3]
  split
  · exact hx.getD _
  · exact hb i
theorem putF_In : ∀ (f : Nat) (t : TR) (j : JR) (now : List Int) (a : Nat) (p : List Int), t.In j → t.Ok → t.B now → B8 p → j.al → a + p.length ≤ 4194304 → (p.length = 0 ∨ a + p.length ≤ j.pos ∨ j.pos + j.size ≤ a) → p.length ≤ f → (TR.putF f t now a p).In j
  | 0, t, j, now, a, p, h, _, _, _, _, _, _, _ => h
  | f + 1, t, j, now, a, p, h, ho, hb, hp, ha, h1, h2, hf => by
    by_cases h0 : p.length = 0
    · rw [putF_nil _ _ _ _ _ h0]; exact h
    · have e : TR.putF (f + 1) t now a p = TR.putF f (t.wr1 now a (p.take (min p.length (512 - a % 512)))) now (a + min p.length (512 - a % 512)) (p.drop (min p.length (512 - a % 512))) := by
        show (if _ then _ else _) = _; rw [if_neg h0]
      rw [e]
      generalize hk : min p.length (512 - a % 512) = k
      have hkl : (p.take k).length = k := by rw [List.length_take]; omega
      have hdl : (p.drop k).length = p.length - k := List.length_drop ..
      have h2 : a + p.length ≤ j.pos ∨ j.pos + j.size ≤ a := by omega
      exact putF_In f _ j now (a + k) (p.drop k) (wr1_In h ho hb (hp.take _) ha (by omega) (by omega) (by omega) (by omega)) (ho.wr1 now a (p.take k) (by omega)) (wr1_B ho hb (hp.take _) (by omega)) (hp.drop _) ha (by omega) (by omega) (by omega)
theorem put_In {t : TR} {j : JR} {now : List Int} {a : Nat} {p : List Int} (h : t.In j) (ho : t.Ok) (hb : t.B now) (hp : B8 p) (ha : j.al) (h1 : a + p.length ≤ 4194304) (h2 : p.length = 0 ∨ a + p.length ≤ j.pos ∨ j.pos + j.size ≤ a) : (t.put now a p).In j := putF_In _ t j now a p h ho hb hp ha h1 h2 (Nat.le_refl _)
theorem lay1_lk (t : TR) (r : RecR) (n m : Int) : lkS m (t.lay1 r n).dirty = if m = n then (lkS n t.dirty).map (fun l => layR (n * 512) l r) else lkS m t.dirty := by
  unfold TR.lay1
  cases hq : lkS n t.dirty with
  | none =>
    show lkS m t.dirty = _
    split
    · rename_i e; rw [e, hq]; rfl
    · rfl
  | some l =>
    show lkS m (upS n _ t.dirty) = _
    rw [lkS_upS]; rfl
theorem lay1_In {t : TR} {j : JR} (h : t.In j) {r : RecR} (hr : B8 r.2) (n : Int) : (t.lay1 r n).In j := by
  unfold TR.lay1
  cases hq : lkS n t.dirty with
  | none => exact h
  | some l =>
    have hl := h.keys _ (lkS_mem hq)
    refine ⟨fun q hm => ?_, upS_nodup h.nodup, h.frs⟩
    rcases upS_mem (show q ∈ upS _ _ _ from hm) with rfl | hm
    · refine ⟨hl.1, hl.2.1, hl.2.2.1, ?_⟩
      show B8 (layR _ l r)
      unfold layR
      split
      · exact putG_B8 hl.2.2.2 ((hr.drop _).take _)
      · exact hl.2.2.2
    · exact h.keys q hm
theorem layN_all : ∀ (k : Nat) (t : TR) (r : RecR) (n : Nat), t.Ok → (TR.layN k t r n).Ok ∧ (TR.layN k t r n).fresh = t.fresh ∧ (TR.layN k t r n).over = t.over ∧ (TR.layN k t r n).cap = t.cap ∧ (∀ j : JR, t.In j → B8 r.2 → (TR.layN k t r n).In j) ∧
    ∀ m : Nat, lkS (m : Int) (TR.layN k t r n).dirty = if n ≤ m ∧ m < n + k then (lkS (m : Int) t.dirty).map (fun l => layR ((m : Int) * 512) l r) else lkS (m : Int) t.dirty
  | 0, t, r, n, h => ⟨h, rfl, rfl, rfl, fun _ h _ => h, fun m => by rw [if_neg (by omega)]; rfl⟩
  | k + 1, t, r, n, h => by
    obtain ⟨o1, o2, o3, o4⟩ := TR.lay1_ok h r (n : Int) (by omega)
    obtain ⟨i1, i2, i3, i4, i5, i6⟩ := layN_all k (t.lay1 r (n : Int)) r (n + 1) o1
    refine ⟨i1, i2.trans o2, i3.trans o3, i4.trans o4, fun j hI hr => i5 j (lay1_In hI hr _) hr, fun m => ?_⟩
    show lkS (m : Int) (TR.layN k (t.lay1 r (n : Int)) r (n + 1)).dirty = _
    rw [i6, lay1_lk]
    by_cases c : m = n
    · subst c
      rw [if_neg (by omega), if_pos rfl, if_pos (by omega)]
    · by_cases c2 : n + 1 ≤ m ∧ m < n + 1 + k
      · rw [if_pos c2, if_neg (by omega), if_pos (by omega)]
      · rw [if_neg c2, if_neg (by omega), if_neg (by omega)]
/-- What is written ahead is seen. -/
theorem fresh_V {t : TR} (h : t.Ok) (s : DF) {a : Nat} {p : List Int} {c : Nat} (ha : a % 512 = 0) (h1 : a + p.length ≤ 4194304) (hc : t.fresh.length + 1 ≤ c) (hn : t.fresh.length + 1 ≤ 1073741824) :
    (t.freshT a p c).Ok ∧ (t.freshT a p c).fresh = t.fresh ++ [((a : Int), p)] ∧ (t.freshT a p c).over = t.over ∧ (t.freshT a p c).cap = c ∧ (∀ j : JR, t.In j → B8 p → (p.length = 0 ∨ a + p.length ≤ j.pos ∨ j.pos + j.size ≤ a) → (a + p.length ≤ j.pos ∨ j.pos + j.size ≤ a) → (t.freshT a p c).In j) ∧
    ∀ i, (t.freshT a p c).V s.now i = wrV (t.V s.now) a p i := by
  have hO : (t.addF ((a : Int), p) c).Ok := by
    refine ⟨h.sec, ?_, ?_, ?_⟩
    · intro q hq
      rcases List.mem_append.1 (show q ∈ t.fresh ++ [((a : Int), p)] from hq) with hq | hq
      · exact h.frs q hq
      · obtain rfl := List.mem_singleton.1 hq
        exact ⟨by show (0 : Int) ≤ a; omega, by show (a : Int) ≤ _; omega, by show p.length ≤ _; omega⟩
    · show (t.fresh ++ [((a : Int), p)]).length ≤ c; rw [List.length_append]; exact hc
    · show (t.fresh ++ [((a : Int), p)]).length ≤ _; rw [List.length_append]; exact hn
  obtain ⟨i1, i2, i3, i4, i5, i6⟩ := layN_all ((p.length + 511) / 512) (t.addF ((a : Int), p) c) ((a : Int), p) (a / 512) hO
  refine ⟨i1, i2, i3, i4, fun j hI hp _ hr => i5 j ⟨hI.keys, hI.nodup, fun r hm => ?_⟩ hp, fun i => ?_⟩
  · rcases List.mem_append.1 (show r ∈ t.fresh ++ [((a : Int), p)] from hm) with hm | hm
    · exact hI.frs r hm
    · obtain rfl := List.mem_singleton.1 hm
      exact ⟨by show (0 : Int) ≤ a; omega, by show (a : Int) + p.length ≤ _; omega, hr, hp⟩
  · rw [TR.V_eq (t := t.freshT a p c) i1]
    have e6 := i6 (i / 512)
    have e6 : lkS ((i / 512 : Nat) : Int) (t.freshT a p c).dirty = if a / 512 ≤ i / 512 ∧ i / 512 < a / 512 + (p.length + 511) / 512 then (lkS ((i / 512 : Nat) : Int) t.dirty).map (fun l => layR (((i / 512 : Nat) : Int) * 512) l ((a : Int), p)) else lkS ((i / 512 : Nat) : Int) t.dirty := e6
    rw [e6]
    have e2 : doneV (t.freshT a p c).fresh s.V i = wrV (doneV t.fresh s.V) a p i := by
      have : (t.freshT a p c).fresh = t.fresh ++ [((a : Int), p)] := i2
      rw [this, doneV_snoc]; rfl
    cases hq : lkS ((i / 512 : Nat) : Int) t.dirty with
    | none =>
      have : (if a / 512 ≤ i / 512 ∧ i / 512 < a / 512 + (p.length + 511) / 512 then (none : Option (List Int)).map (fun l => layR (((i / 512 : Nat) : Int) * 512) l ((a : Int), p)) else none) = none := by split <;> rfl
      rw [this]
      show doneV (t.freshT a p c).fresh s.V i = wrV (t.V s.now) a p i
      rw [e2]
      unfold wrV
      split
      · rfl
      · rw [TR.V_eq h, hq]
    | some l =>
      have hl : l.length = 512 := h.sec _ (lkS_mem hq)
      have hVi : t.V s.now i = l.getD (i % 512) 0 := by rw [TR.V_eq h, hq]
      unfold wrV
      rw [hVi]
      by_cases c1 : a / 512 ≤ i / 512 ∧ i / 512 < a / 512 + (p.length + 511) / 512
      · rw [if_pos c1]
        show (layR (((i / 512 : Nat) : Int) * 512) l ((a : Int), p)).getD (i % 512) 0 = _
        rw [layR_get hl (by omega) (by show (0 : Int) ≤ a; omega) (Nat.mod_lt _ (by omega))]
        have e3 : (((i / 512 : Nat) : Int) * 512).toNat + i % 512 = i := by omega
        have e4 : ((a : Int), p).1.toNat = a := Int.toNat_natCast _
        rw [e3, e4]
      · rw [if_neg c1]
        show l.getD (i % 512) 0 = _
        rw [if_neg (by omega)]
theorem TR.In.count {t : TR} {j : JR} (h : t.In j) : t.dirty.length ≤ 8192 := by
  have hn : ((t.dirty.map (fun x => x.1)).map Int.toNat).Nodup := by
    rw [List.nodup_iff_pairwise_ne, List.pairwise_map]
    refine List.Pairwise.imp_of_mem ?_ (List.nodup_iff_pairwise_ne.1 h.nodup)
    intro a b ha hb hne e
    obtain ⟨q, hq, rfl⟩ := List.mem_map.1 ha
    obtain ⟨r, hr, rfl⟩ := List.mem_map.1 hb
    have := h.keys q hq
    have := h.keys r hr
    omega
  have := sub_len (s := List.range 8192) hn (fun b hb => by
    obtain ⟨k, hk, rfl⟩ := List.mem_map.1 hb
    obtain ⟨q, hq, rfl⟩ := List.mem_map.1 hk
    have := h.keys q hq
    exact List.mem_range.2 (by omega))
  rwa [List.length_map, List.length_map, List.length_range] at this
theorem frOps_cost (t : TR) : cost (frOps t) ≤ cost (wrs t.fresh) + 1 := by
  unfold frOps
  rw [cost_append]
  split
  · simp only [cost]; omega
  · simp only [cost, FOp.size]; omega
theorem tcomRel_ok {t : TR} {j : JR} {s : DF} {z : List Int} {x : Int × TR × JR × DF} {n : Int} (h : tcomRel t j s z x) (hs : s.Ok n) (hz : z.length = 512) (hj : j.size ≤ 4194304) : x.2.2.2.Ok (n + cost (wrs t.fresh) + 10000001) := by
  have h0 := cost_nonneg (wrs t.fresh)
  rcases h with ⟨_, rfl⟩ | ⟨_, rs, hr, h⟩
  · exact hs.mono (by omega)
  rcases h with ⟨_, rfl⟩ | ⟨hf, y, hy, h⟩
  · exact hs.mono (by omega)
  have hyo : y.2.Ok (n + (cost (wrs t.fresh) + 1)) := by
    rw [hy]
    exact (DF.run_ok _ hs).mono (by have := frOps_cost t; omega)
  rcases h with ⟨_, rfl⟩ | ⟨_, _, rfl⟩ | ⟨_, _, q, hq, h⟩
  · exact hyo.mono (by omega)
  · exact hyo.mono (by omega)
  · have hqo := (comRel_ok hq hyo hj).1
    rcases h with ⟨_, rfl⟩ | ⟨_, u, hu, rfl⟩
    · exact hqo.mono (by omega)
    · show u.2.Ok _
      rw [hu]
      refine (DF.run_ok _ hqo).mono ?_
      have := cost_wrs_le rs
      rw [cost_append]
      simp only [cost, FOp.size]
      omega
end Go.Proofs.Ytcfmlnddmpiemaa.Sx


set_option maxRecDepth 10000
namespace Go.Proofs.Ytcfmlnddmpiemaa.Sx
/-! ### How many bytes the records take: each sector 512, each run of them 12 more -/
def encI (ks : List Int) : Nat → Nat
  | 0 => 0
  | m + 1 => encI ks m + (if 0 < m ∧ ks.getD (m - 1) 0 = ks.getD m 0 - 1 then 512 else 524)
theorem encL_bld {d : List (Int × List Int)} {ks : List Int} (hk : SecsOk d ks) : ∀ m, m ≤ ks.length → (encL (bldR d ks m)).length = encI ks m
  | 0, _ => rfl
  | m + 1, hm => by
    have ih := encL_bld hk m (by omega)
    have hkm : ks.getD m 0 ∈ ks := by
      rw [show ks.getD m 0 = ks[m]'(by omega) by simp [List.getD_eq_getElem?_getD, show m < ks.length by omega]]
      exact List.getElem_mem _
    obtain ⟨k0, k1⟩ := hk _ hkm
    have e : bldR d ks (m + 1) = bldS d ks (bldR d ks m) m := by
      unfold bldR; rw [List.range_succ, List.foldl_append]; rfl
    rw [e]
    show _ = encI ks m + _
    rw [← ih]
    unfold bldS
    by_cases h : 0 < m ∧ ks.getD (m - 1) 0 = ks.getD m 0 - 1
    · rw [if_pos h, if_pos h]
      have hS := bldR_S hk m (by omega)
      have tl : (ks.take m).length = m := by rw [List.length_take]; omega
      obtain ⟨init, r, hr, -⟩ := hS.last (fun h0 => by rw [h0] at tl; simp at tl; omega)
      have hn : 0 < (bldR d ks m).length := by rw [hr]; simp
      unfold snocD
      rw [encL_set _ _ _ (by omega), k1]
    · rw [if_neg h, if_neg h, encL_append, encL_cons]
      show _ + (12 + ((lkS (ks.getD m 0) d).getD []).length + 0) = _
      rw [k1]
def cntK (ks : List Int) (S : Int) : Nat := (ks.filter (fun k => decide (k < S))).length
theorem cntK_split {ks : List Int} {S : Int} {i : Nat} (h1 : ∀ x ∈ ks.take i, x < S) (h2 : ∀ x ∈ ks.drop i, S ≤ x) (hi : i ≤ ks.length) : cntK ks S = i := by
  unfold cntK
  conv => lhs; rw [← List.take_append_drop i ks]
  rw [List.filter_append, List.filter_eq_self.2 (fun x hx => by simpa using h1 x hx), List.filter_eq_nil_iff.2 (fun x hx => by have := h2 x hx; simp; omega), List.append_nil, List.length_take]
  omega
/-- By the law: the sectors one by one. -/
def needV (p : Int → Bool) : Nat → Int
  | 0 => 0
  | s + 1 => needV p s + (if p s then (if p ((s : Int) - 1) then 512 else 524) else 0)
theorem sorted_get {ks : List Int} (h : ks.Pairwise (· < ·)) {i j : Nat} (hij : i < j) (hj : j < ks.length) : ks.getD i 0 < ks.getD j 0 := by
  have := List.pairwise_iff_getElem.1 h i j (by omega) hj hij
  simpa [List.getD_eq_getElem?_getD, show i < ks.length by omega, hj] using this
theorem getD_mem {ks : List Int} {i : Nat} (h : i < ks.length) : ks.getD i 0 ∈ ks := by
  rw [show ks.getD i 0 = ks[i] by simp [List.getD_eq_getElem?_getD, h]]; exact List.getElem_mem h
theorem mem_getD {ks : List Int} {x : Int} (h : x ∈ ks) : ∃ i, i < ks.length ∧ ks.getD i 0 = x := by
  obtain ⟨i, hi, e⟩ := List.mem_iff_getElem.1 h
  exact ⟨i, hi, by simpa [List.getD_eq_getElem?_getD, hi] using e⟩
theorem mem_take_getD {ks : List Int} {x : Int} {n : Nat} (h : x ∈ ks.take n) : ∃ i, i < n ∧ i < ks.length ∧ ks.getD i 0 = x := by
  obtain ⟨i, hi, e⟩ := List.mem_iff_getElem.1 h
  rw [List.length_take] at hi
  refine ⟨i, by omega, by omega, ?_⟩
  rw [List.getElem_take] at e
  simpa [List.getD_eq_getElem?_getD, show i < ks.length by omega] using e
theorem mem_drop_getD {ks : List Int} {x : Int} {n : Nat} (h : x ∈ ks.drop n) : ∃ i, n ≤ i ∧ i < ks.length ∧ ks.getD i 0 = x := by
  obtain ⟨i, hi, e⟩ := List.mem_iff_getElem.1 h
  rw [List.length_drop] at hi
  refine ⟨n + i, by omega, by omega, ?_⟩
  rw [List.getElem_drop] at e
  simpa [List.getD_eq_getElem?_getD, show n + i < ks.length by omega] using e
theorem needV_eq {ks : List Int} (h : ks.Pairwise (· < ·)) (h0 : ∀ k ∈ ks, 0 ≤ k) : ∀ S : Nat, needV (fun s => decide (s ∈ ks)) S = encI ks (cntK ks S)
  | 0 => by
    rw [show cntK ks ((0 : Nat) : Int) = 0 from cntK_split (i := 0) (fun x hx => by simp at hx) (fun x hx => by rw [List.drop_zero] at hx; have := h0 x hx; omega) (Nat.zero_le _)]
    rfl
  | S + 1 => by
    have ih := needV_eq h h0 S
    show needV _ S + _ = _
    rw [ih]
    by_cases hm : ((S : Nat) : Int) ∈ ks
    · obtain ⟨i, hi, e⟩ := mem_getD hm
      have c1 : cntK ks ((S : Nat) : Int) = i := by
        refine cntK_split (fun x hx => ?_) (fun x hx => ?_) (by omega)
        · obtain ⟨j, j1, j2, rfl⟩ := mem_take_getD hx
          have := sorted_get h j1 hi
          omega
        · obtain ⟨j, j1, j2, rfl⟩ := mem_drop_getD hx
          by_cases q : j = i
          · rw [q, e]; exact Int.le_refl _
          · have := sorted_get h (show i < j by omega) j2
            omega
      have c2 : cntK ks (((S + 1 : Nat)) : Int) = i + 1 := by
        refine cntK_split (fun x hx => ?_) (fun x hx => ?_) (by omega)
        · obtain ⟨j, j1, j2, rfl⟩ := mem_take_getD hx
          by_cases q : j = i
          · rw [q, e]; omega
          · have := sorted_get h (show j < i by omega) hi
            omega
        · obtain ⟨j, j1, j2, rfl⟩ := mem_drop_getD hx
          have := sorted_get h (show i < j by omega) j2
          omega
      rw [c1, c2, if_pos (by simpa using hm)]
      show _ = ((encI ks i + _ : Nat) : Int)
      by_cases q : ((S : Nat) : Int) - 1 ∈ ks
      · rw [if_pos (by simpa using q)]
        obtain ⟨j, j1, j2⟩ := mem_getD q
        have hji : j + 1 = i := by
          have l1 : j < i := by
            rcases Nat.lt_trichotomy j i with r | r | r
            · exact r
            · rw [r, e] at j2; omega
            · have := sorted_get h r j1; omega
          by_cases r : j + 1 = i
          · exact r
          · have a1 := sorted_get h (show j < j + 1 by omega) (by omega)
            have a2 := sorted_get h (show j + 1 < i by omega) hi
            omega
        rw [if_pos ⟨by omega, by rw [show i - 1 = j by omega, j2, e]⟩]
        omega
      · rw [if_neg (by simpa using q), if_neg]
        · omega
        · rintro ⟨r1, r2⟩
          rw [e] at r2
          exact q (r2 ▸ getD_mem (by omega))
    · have c2 : cntK ks (((S + 1 : Nat)) : Int) = cntK ks ((S : Nat) : Int) := by
        unfold cntK
        congr 1
        refine List.filter_congr (fun x hx => ?_)
        have : x ≠ (S : Int) := fun e => hm (e ▸ hx)
        simp
        omega
      rw [c2, if_neg (by simpa using hm)]
      omega
/-- The size of a tx's records, by the law. -/
theorem RecRel.size {t : TR} {rs : List RecR} (h : RecRel t rs) (ho : t.Ok) (hk : ∀ q ∈ t.dirty, 0 ≤ q.1 ∧ q.1 < 80) (hn : (t.dirty.map (fun x => x.1)).Nodup) : ((encL rs).length : Int) = needV (fun s => decide (s ∈ t.dirty.map (fun x => x.1))) 80 := by
  obtain ⟨ks, h1, h2, rfl⟩ := h
  have hs := secs_of ho (fun q hq => (hk q hq).1) (ks := ks) (fun k hk => h1.subset hk)
  have h3 : ks.Pairwise (· < ·) := by
    have hnd := (h1.nodup_iff).2 hn
    rw [List.nodup_iff_pairwise_ne] at hnd
    exact (h2.and hnd).imp (fun ⟨a, b⟩ => by omega)
  have hm : ∀ k ∈ ks, 0 ≤ k ∧ k < 80 := fun k hq => by
    obtain ⟨q, hm, rfl⟩ := List.mem_map.1 (h1.subset hq)
    exact hk q hm
  rw [encL_bld hs ks.length (Nat.le_refl _)]
  have e := needV_eq h3 (fun k hk => (hm k hk).1) 80
  rw [show cntK ks ((80 : Nat) : Int) = ks.length from cntK_split (fun x hx => (hm x (List.mem_of_mem_take hx)).2) (fun x hx => by rw [List.drop_length] at hx; cases hx) (Nat.le_refl _)] at e
  rw [← e]
  congr 1
  funext s
  rw [decide_eq_decide]
  exact ⟨fun h => h1.subset h, fun h => h1.symm.subset h⟩
end Go.Proofs.Ytcfmlnddmpiemaa.Sx


set_option maxRecDepth 10000
namespace Go.Proofs.Ytcfmlnddmpiemaa.Sx
open Go.RowKit Go.Proofs.Ytcfmlnddmpiemaa.Sx.Tb
/-! ### At -/
def mtb (h : HD) (n : Int) (i : Nat) : Chunk := .blk 119 (.lst [.v (.int .i64 h.bits), .v (.int .i64 h.size), .v (.int .i64 h.host), .v (.int .i64 h.jr), .v (.bool h.backed), .p i 0 1 0, .v (.int .i64 n)]) 7
/-! ### The law MapsNils -/
end Go.Proofs.Ytcfmlnddmpiemaa.Sx


set_option maxRecDepth 10000
namespace Go.Proofs.Ytcfmlnddmpiemaa.Sx
open Go.RowKit Go.Proofs.Ytcfmlnddmpiemaa.Sx.Tb
/-! ### A table over its tx -/
def entAV (x : ER) : List AV := [.v (.int .i64 x.kind), .v (.int .i64 x.cl), .v (.bool x.own)]
def entsC (es : List ER) : Cont := .recs 3 es.length (fun i => entAV (es.getD i ⟨0, 0, false⟩))
theorem entsC_noF (es : List ER) : (entsC es).noF := fun j hj => ⟨trivial, trivial, trivial, trivial⟩
theorem entsC_ren (es : List ER) (f : Nat → Nat) : (entsC es).ren f = entsC es := rfl
def tp6 (t : TR) (j : JR) (s : DF) (h : HD) (n : Int) : List Chunk := [t.c0 3 1 2, t.c1, t.c2, j.blk 4, s.pk, mtb h n 0]
theorem mtb_le {H : List Chunk} {fz : List Nat} {f : Nat → Nat} {ph : Nat → Bool} {h : HD} {n : Int} {a i : Nat} (fi : f 0 = a) (h0 : nth H i = some (mtb h n a)) (hz : memN i fz = false) : (mtb h n 0).le H fz f ph i := by
  unfold Chunk.le mtb
  simp only
  rw [nth_lt h0, hz, h0]
  exact ⟨VC.mk ⟨rfl, rfl⟩, VC.mk rfl, VC.mk rfl, VC.mk rfl, VC.mk rfl, VC.mk rfl, VC.mk ⟨fi, rfl, rfl, rfl⟩, VC.mk rfl, trivial⟩
theorem fix6 {N : Nat} {σ : List Nat} : ∀ i, i < 6 → fren (0 :: 1 :: 2 :: 3 :: 4 :: 5 :: σ) N i = i := fun i hi => by
  match i, hi with
  | 0, _ => rfl
  | 1, _ => rfl
  | 2, _ => rfl
  | 3, _ => rfl
  | 4, _ => rfl
  | 5, _ => rfl
theorem T6.le {H : List Chunk} {f : Nat → Nat} {ph : Nat → Bool} {t : TR} {j : JR} {s : DF} {h : HD} {n : Int} {σ : List Nat} {cs : List Chunk} (f0 : f 0 = 0) (f1 : f 1 = 1) (f2 : f 2 = 2) (f3 : f 3 = 3) (f4 : f 4 = 4) (h0 : nth H 0 = some (t.c0 3 1 2)) (h1 : nth H 1 = some t.c1) (h2 : nth H 2 = some t.c2) (h3 : nth H 3 = some (j.blk 4)) (h4 : nth H 4 = some s.pk) (h5 : nth H 5 = some (mtb h n 0)) (hx : chunksLe H [] f ph σ cs) : chunksLe H [] f ph (0 :: 1 :: 2 :: 3 :: 4 :: 5 :: σ) (tp6 t j s h n ++ cs) :=
  T5.leG f1 f2 f3 f4 h0 h1 h2 h3 h4 ⟨rfl, rfl, rfl, rfl, rfl⟩ (cs := mtb h n 0 :: cs) ⟨mtb_le f0 h5 rfl, hx⟩
theorem T6.fin {H : List Chunk} {t : TR} {j : JR} {s : DF} {h : HD} {n : Int} {v : AV} {k : K} (h0 : nth H 0 = some (t.c0 3 1 2)) (h1 : nth H 1 = some t.c1) (h2 : nth H 2 = some t.c2) (h3 : nth H 3 = some (j.blk 4)) (h4 : nth H 4 = some s.pk) (h5 : nth H 5 = some (mtb h n 0)) (hk : k v (tp6 t j s h n)) (hv : v.inN 6 := by simp [AV.inN, inNs, Cont.inN]) : Fin 6 v H k :=
  Fin.ren [0, 1, 2, 3, 4, 5] [] v (tp6 t j s h n) rfl rfl trivial (T6.le rfl rfl rfl rfl rfl h0 h1 h2 h3 h4 h5 (cs := []) trivial) (AV.le_refl fix6 hv) hk
theorem T6.good {t : TR} {j : JR} {s : DF} {h : HD} {n : Int} {v : AV} (hv : v.noF) : Good 6 v (tp6 t j s h n) := by
  refine ⟨hv, fun c hc => ?_, Nat.le_refl _⟩
  rcases List.mem_append.1 (show c ∈ tpre t j s ++ [mtb h n 0] from hc) with hc | hc
  · exact (T5.good (v := .v (.bool true)) trivial).2.1 c hc
  · simp at hc; subst hc; exact .blk ⟨trivial, trivial, trivial, trivial, trivial, trivial, trivial, trivial⟩
theorem T6.nd {t : TR} {j : JR} {s : DF} {h : HD} {n : Int} : ∀ c ∈ tp6 t j s h n, c.lives := by
  intro c hc
  rcases List.mem_append.1 (show c ∈ tpre t j s ++ [mtb h n 0] from hc) with hc | hc
  · exact T5.nd c hc
  · simp at hc; subst hc; trivial
end Go.Proofs.Ytcfmlnddmpiemaa.Sx


set_option maxRecDepth 10000
namespace Go.Proofs.Ytcfmlnddmpiemaa.Sx
open Go.RowKit Go.Proofs.Ytcfmlnddmpiemaa.Sx.Tb
/-! ### Set -/
end Go.Proofs.Ytcfmlnddmpiemaa.Sx


set_option maxRecDepth 10000
namespace Go.Proofs.Ytcfmlnddmpiemaa.Sx
open Go.RowKit Go.Proofs.Ytcfmlnddmpiemaa.Sx.Tb
/-! ### List, All -/
attribute [local simp] entsC_noF entsC_ren
end Go.Proofs.Ytcfmlnddmpiemaa.Sx


set_option maxRecDepth 10000
namespace Go.Proofs.Ytcfmlnddmpiemaa.Sx
open Go.RowKit Go.Proofs.Ytcfmlnddmpiemaa.Sx.Tb
attribute [local simp] entsC_noF entsC_ren
/-! ### The reference -/
end Go.Proofs.Ytcfmlnddmpiemaa.Sx


set_option maxRecDepth 10000
namespace Go.Proofs.Ytcfmlnddmpiemaa.Sx
open Go.RowKit Go.Proofs.Ytcfmlnddmpiemaa.Sx.Tb
/-! ### The counts' header, the nil ones, New -/
def HD.r (H : Int) : HD := ⟨9, 32768, H, 29, false⟩
def rfb (h : HD) (i : Nat) : Chunk := .blk 126 (.lst [.v (.int .i64 h.bits), .v (.int .i64 h.size), .v (.int .i64 h.host), .v (.int .i64 h.jr), .v (.bool h.backed), .p i 0 1 0]) 6
end Go.Proofs.Ytcfmlnddmpiemaa.Sx


set_option maxRecDepth 10000
namespace Go.Proofs.Ytcfmlnddmpiemaa.Sx
open Go.RowKit Go.Proofs.Ytcfmlnddmpiemaa.Sx.Tb
/-! ### A nil tx; the law's files -/
/-- The law's file. -/
def baseL (n c : Int) : List Int := List.replicate 10752 0 ++ List.replicate (n % 18446744073709551616 % 7000).toNat c
set_option maxHeartbeats 4000000 in
theorem tbase_c (n c : Int) (k : K) (h0 : inR .i64 n ∧ 0 ≤ c ∧ c < 256) (hk : ∀ r : List Int, r = baseL n c → k (.im true 1 r.length (.ints .u8 r)) []) : evFunc tab [8] [] Go.Proofs.Try.f33 [.v (.int .i64 n), .v (.int .u8 c)] [] k := by
  have w : IntKind.u64.wrap n = n % 18446744073709551616 := rfl
  repeat' (first
 | (with_reducible first | exact True.intro | apply And.intro | apply If_true | apply If_false | apply If_not)
 | ((with_reducible apply VC.mk); (first | trivial | omega | (simp only [inR]; omega) | (exact ⟨rfl, List.prefix_rfl⟩) | (refine ⟨rfl, rfl, rfl, ?_, rfl⟩; (simp; done)) | (focus (repeat' (first | exact True.intro | apply And.intro | rfl | exact Nat.le_of_ble_eq_true rfl)); done) | (simp [inR, Cont.cells]; done) | (simp [inR, Cont.cells]; omega)))
 | ((with_reducible apply If_dec) <;> intro hc <;> (try (exfalso; omega)))
 | ((with_reducible apply If_any) <;> intro hc)
 | ((with_reducible first | apply PF.mk | apply DrawP.mk); (focus kernel_rfl))
 | ((with_reducible apply Same.mk); (focus rfl); (first | exact trivial | exact rfl))
 | (intro cap hcap)
 | ((fail_if_success (with_reducible first | apply Fin.mk | apply CallP.mk | apply LoopP.mk | apply VC.mk | apply falseMk | apply Round.mk | apply LookP.mk | apply RangeP.mk | apply NextP.mk | apply EntryP.mk | apply Eq.symm)); conv => whnf))
  rw [w]
  obtain ⟨M, hM⟩ : ∃ M : Nat, n % 18446744073709551616 % 7000 = M := ⟨(n % 18446744073709551616 % 7000).toNat, by omega⟩
  rw [hM]
  refine zerosO_at (10752 + (M : Int)) ⟨by omega, by omega⟩ ⟨rfl, trivial⟩ ?_
  intro z hz
  have hz : z = List.replicate (10752 + M) 0 := by rw [hz]; congr 1
  have hzl : z.length = 10752 + M := by rw [hz]; exact List.length_replicate ..
  obtain ⟨P, hP⟩ : ∃ P : List Int, P = List.replicate 10752 0 := ⟨_, rfl⟩
  have hPl : P.length = 10752 := by rw [hP]; exact List.length_replicate ..
  have hzP : z = P ++ ([] ++ List.replicate M 0) := by rw [hz, hP, List.nil_append, List.replicate_append_replicate]
  have hbP : baseL n c = P ++ List.replicate M c := by unfold baseL; rw [hM, hP, Int.toNat_natCast]
  clear hz hP
  repeat' (first
 | (with_reducible first | exact True.intro | apply And.intro | apply If_true | apply If_false | apply If_not)
 | ((with_reducible apply VC.mk); (first | trivial | omega | (simp only [inR]; omega) | (exact ⟨rfl, List.prefix_rfl⟩) | (refine ⟨rfl, rfl, rfl, ?_, rfl⟩; (simp; done)) | (focus (repeat' (first | exact True.intro | apply And.intro | rfl | exact Nat.le_of_ble_eq_true rfl)); done) | (simp [inR, Cont.cells]; done) | (simp [inR, Cont.cells]; omega)))
 | ((with_reducible apply If_dec) <;> intro hc <;> (try (exfalso; omega)))
 | ((with_reducible apply If_any) <;> intro hc)
 | ((with_reducible first | apply PF.mk | apply DrawP.mk); (focus kernel_rfl))
 | ((with_reducible apply Same.mk); (focus rfl); (first | exact trivial | exact rfl))
 | (intro cap hcap)
 | ((fail_if_success (with_reducible first | apply Fin.mk | apply CallP.mk | apply LoopP.mk | apply VC.mk | apply falseMk | apply Round.mk | apply LookP.mk | apply RangeP.mk | apply NextP.mk | apply EntryP.mk | apply Eq.symm)); conv => whnf))
  refine LoopP.mk ⟨Nat × List Int, fun y => y.1 ≤ M ∧ y.2 = P ++ (List.replicate y.1 c ++ List.replicate (M - y.1) 0), fun y => ([(1, .v (.int .u8 c)), (5, .s 0 0 1 z.length z.length), (6, .v (.int .i64 ((10752 + y.1 : Nat) : Int)))], [.blk 5 (.ints .u8 y.2) z.length]), fun y => M - y.1, (0, z), ⟨Nat.zero_le _, hzP⟩, Fit.ren [0] [] rfl rfl trivial ?_ ?_, ?_⟩
  · exact ⟨⟨VC.mk ⟨rfl, rfl⟩, VC.mk ⟨rfl, List.prefix_refl _⟩⟩, trivial⟩
  · repeat' (first
 | (with_reducible first | exact True.intro | apply And.intro | apply If_true | apply If_false | apply If_not)
 | ((with_reducible apply VC.mk); (first | trivial | omega | (simp only [inR]; omega) | (exact ⟨rfl, List.prefix_rfl⟩) | (refine ⟨rfl, rfl, rfl, ?_, rfl⟩; (simp; done)) | (focus (repeat' (first | exact True.intro | apply And.intro | rfl | exact Nat.le_of_ble_eq_true rfl)); done) | (simp [inR, Cont.cells]; done) | (simp [inR, Cont.cells]; omega)))
 | ((with_reducible apply If_dec) <;> intro hc <;> (try (exfalso; omega)))
 | ((with_reducible apply If_any) <;> intro hc)
 | ((with_reducible first | apply PF.mk | apply DrawP.mk); (focus kernel_rfl))
 | ((with_reducible apply Same.mk); (focus rfl); (first | exact trivial | exact rfl))
 | (intro cap hcap)
 | ((fail_if_success (with_reducible first | apply Fin.mk | apply CallP.mk | apply LoopP.mk | apply VC.mk | apply falseMk | apply Round.mk | apply LookP.mk | apply RangeP.mk | apply NextP.mk | apply EntryP.mk | apply Eq.symm)); conv => whnf))
  · intro y hy
    obtain ⟨g1, g2⟩ := hy
    have gl : y.2.length = 10752 + M := by rw [g2, List.length_append, hPl, List.length_append, List.length_replicate, List.length_replicate]; omega
    have e2 : (10752 + (y.1 : Int)).toNat = 10752 + y.1 := by omega
    have e1 : (((10752 + y.1 : Nat) : Int)).toNat = 10752 + y.1 := Int.toNat_natCast _
    repeat' (first
 | (with_reducible first | exact True.intro | apply And.intro | apply If_true | apply If_false | apply If_not)
 | ((with_reducible apply VC.mk); (first | trivial | omega | (simp only [inR]; omega) | (exact ⟨rfl, List.prefix_rfl⟩) | (refine ⟨rfl, rfl, rfl, ?_, rfl⟩; (simp; done)) | (focus (repeat' (first | exact True.intro | apply And.intro | rfl | exact Nat.le_of_ble_eq_true rfl)); done) | (simp [inR, Cont.cells]; done) | (simp [inR, Cont.cells]; omega)))
 | ((with_reducible apply If_dec) <;> intro hc <;> (try (exfalso; omega)))
 | ((with_reducible apply If_any) <;> intro hc)
 | ((with_reducible first | apply PF.mk | apply DrawP.mk); (focus kernel_rfl))
 | ((with_reducible apply Same.mk); (focus rfl); (first | exact trivial | exact rfl))
 | (intro cap hcap)
 | ((fail_if_success (with_reducible first | apply Fin.mk | apply CallP.mk | apply LoopP.mk | apply VC.mk | apply falseMk | apply Round.mk | apply LookP.mk | apply RangeP.mk | apply NextP.mk | apply EntryP.mk | apply Eq.symm)); conv => whnf))
    · refine Round.mk ⟨(y.1 + 1, y.2.set (10752 + y.1) c), ⟨by show y.1 + 1 ≤ M; omega, ?_⟩, by show M - (y.1 + 1) < M - y.1; omega, Fit.ren [0] [] rfl rfl trivial ?_ ?_⟩
      · show y.2.set (10752 + y.1) c = _
        rw [g2, List.set_append_right _ _ (by omega), hPl, Nat.add_sub_cancel_left, List.set_append_right _ _ (by rw [List.length_replicate]; exact Nat.le_refl _), List.length_replicate, Nat.sub_self, show M - y.1 = (M - (y.1 + 1)) + 1 by omega]
        show P ++ (List.replicate y.1 c ++ c :: List.replicate (M - (y.1 + 1)) 0) = P ++ (List.replicate (y.1 + 1) c ++ List.replicate (M - (y.1 + 1)) 0)
        rw [List.replicate_succ', List.append_assoc]; rfl
      · refine ⟨⟨VC.mk ⟨rfl, rfl⟩, VC.mk ⟨rfl, ?_⟩⟩, trivial⟩
        rw [e1, Nat.zero_add]
        exact List.prefix_refl _
      · repeat' (first
 | (with_reducible first | exact True.intro | apply And.intro | apply If_true | apply If_false | apply If_not)
 | ((with_reducible apply VC.mk); (first | trivial | omega | (simp only [inR]; omega) | (exact ⟨rfl, List.prefix_rfl⟩) | (refine ⟨rfl, rfl, rfl, ?_, rfl⟩; (simp; done)) | (focus (repeat' (first | exact True.intro | apply And.intro | rfl | exact Nat.le_of_ble_eq_true rfl)); done) | (simp [inR, Cont.cells]; done) | (simp [inR, Cont.cells]; omega)))
 | ((with_reducible apply If_dec) <;> intro hc <;> (try (exfalso; omega)))
 | ((with_reducible apply If_any) <;> intro hc)
 | ((with_reducible first | apply PF.mk | apply DrawP.mk); (focus kernel_rfl))
 | ((with_reducible apply Same.mk); (focus rfl); (first | exact trivial | exact rfl))
 | (intro cap hcap)
 | ((fail_if_success (with_reducible first | apply Fin.mk | apply CallP.mk | apply LoopP.mk | apply VC.mk | apply falseMk | apply Round.mk | apply LookP.mk | apply RangeP.mk | apply NextP.mk | apply EntryP.mk | apply Eq.symm)); conv => whnf))
    · have hy1 : y.1 = M := by omega
      have hy2 : y.2 = baseL n c := by
        rw [g2, hy1, Nat.sub_self, hbP, List.replicate_zero, List.append_nil]
      have hk2 := hk y.2 hy2
      refine Fin.ren [] [0] (.im true 1 y.2.length (.ints .u8 y.2)) [] rfl rfl ⟨trivial, trivial⟩ trivial ⟨VC.mk ⟨?_, rfl, rfl, ?_, Nat.one_pos⟩, VC.mk ⟨rfl, ?_⟩⟩ hk2
      · omega
      · omega
      · simp [List.take_of_length_le, hzl, gl]
def tbaseOk (x : Int × Int) : Prop := inR .i64 x.1 ∧ 0 ≤ x.2 ∧ x.2 < 256
def tbaseRel (x : Int × Int) (r : List Int) : Prop := r = baseL x.1 x.2
theorem tbase_K : ConOk Go.Proofs.Try.prog 33 (Con.of (Int × Int) (List Int) (fun x => [.v (.int .i64 x.1), .v (.int .u8 x.2)]) (fun _ => []) tbaseOk tbaseRel (fun _ r => .im true 1 r.length (.ints .u8 r)) (fun _ _ => [])) := by
  refine conOk_rel (T := tab) mix Go.Proofs.Try.func33 (by decide +kernel) (by kernel_rfl) [8] [] (fun n => by rw [Go.Proofs.Try.ntmps33]; exact Nat.le_of_ble_eq_true rfl) (fun x r _ _ => ⟨by simp [AV.noF, noFs, Cont.noF, recsC_noF], (fun c hc => by cases hc), Nat.le_refl _⟩) (fun x _ c hc => by cases hc) ?_
  intro x k h0 hk
  exact tbase_c x.1 x.2 k h0 (fun r hr => hk r hr)
theorem tbase_at {avs : List AV} {H : List Chunk} {k : K} (n : Int) (c : Int) (h0 : inR .i64 n ∧ 0 ≤ c ∧ c < 256) (ha : argsM H [] [.v (.int .i64 n), .v (.int .u8 c)] avs) (hQ : ∀ r : List Int, (r = baseL n c) → k (.im true 1 r.length (.ints .u8 r)) H) : CallP Go.Proofs.Try.prog 33 avs H k :=
  CallP.mk ⟨_, tbase_K.real, Con.spec tbase_K, (n, c), [], ⟨h0, rfl, trivial, ha⟩, fun r hr => (numK_eq H.length (fun N => k (AV.ren (fren [] N) (.im true 1 r.length (.ints .u8 r))) (putAll H [] []))).mpr (by simpa [putAll, AV.ren, rens, Cont.ren, recsC, recAV] using hQ r hr)⟩
set_option maxHeartbeats 4000000 in
theorem topen_c (b : List Int) (k : K) (h0 : 10752 ≤ b.length ∧ b.length ≤ 4194304) (hk : k (.tup [.p 1 0 1 0, .p 0 0 1 0, .v (.bool true)]) [JR.blk ⟨512, 10240, 0⟩ 1, (DF.mk0 b).pk]) : evFunc tab [] [] Go.Proofs.Try.f34 [.im false 1 b.length (.ints .u8 b)] [] k := by
  repeat' (first
 | (with_reducible first | exact True.intro | apply And.intro | apply If_true | apply If_false | apply If_not)
 | ((with_reducible apply VC.mk); (first | trivial | omega | (simp only [inR]; omega) | (exact ⟨rfl, List.prefix_rfl⟩) | (refine ⟨rfl, rfl, rfl, ?_, rfl⟩; (simp; done)) | (focus (repeat' (first | exact True.intro | apply And.intro | rfl | exact Nat.le_of_ble_eq_true rfl)); done) | (simp [inR, Cont.cells]; done) | (simp [inR, Cont.cells]; omega)))
 | ((with_reducible apply If_dec) <;> intro hc <;> (try (exfalso; omega)))
 | ((with_reducible apply If_any) <;> intro hc)
 | ((with_reducible first | apply PF.mk | apply DrawP.mk); (focus kernel_rfl))
 | ((with_reducible apply Same.mk); (focus rfl); (first | exact trivial | exact rfl))
 | (intro cap hcap)
 | ((fail_if_success (with_reducible first | apply Fin.mk | apply CallP.mk | apply LoopP.mk | apply VC.mk | apply falseMk | apply Round.mk | apply LookP.mk | apply RangeP.mk | apply NextP.mk | apply EntryP.mk | apply Eq.symm)); conv => whnf))
  refine new_at b (by omega) ⟨⟨rfl, rfl, rfl⟩, trivial⟩ (fun h => absurd h (by omega)) (fun _ => ?_)
  repeat' (first
 | (with_reducible first | exact True.intro | apply And.intro | apply If_true | apply If_false | apply If_not)
 | ((with_reducible apply VC.mk); (first | trivial | omega | (simp only [inR]; omega) | (exact ⟨rfl, List.prefix_rfl⟩) | (refine ⟨rfl, rfl, rfl, ?_, rfl⟩; (simp; done)) | (focus (repeat' (first | exact True.intro | apply And.intro | rfl | exact Nat.le_of_ble_eq_true rfl)); done) | (simp [inR, Cont.cells]; done) | (simp [inR, Cont.cells]; omega)))
 | ((with_reducible apply If_dec) <;> intro hc <;> (try (exfalso; omega)))
 | ((with_reducible apply If_any) <;> intro hc)
 | ((with_reducible first | apply PF.mk | apply DrawP.mk); (focus kernel_rfl))
 | ((with_reducible apply Same.mk); (focus rfl); (first | exact trivial | exact rfl))
 | (intro cap hcap)
 | ((fail_if_success (with_reducible first | apply Fin.mk | apply CallP.mk | apply LoopP.mk | apply VC.mk | apply falseMk | apply Round.mk | apply LookP.mk | apply RangeP.mk | apply NextP.mk | apply EntryP.mk | apply Eq.symm)); conv => whnf))
  have hE : newE (DF.mk0 b) 512 10240 = 0 := by
    unfold newE
    rw [if_neg (by decide), if_neg]
    show ¬ ((10240 : Int) < 1024 ∨ (b.length : Int) < 512 ∨ (b.length : Int) - 512 < 10240)
    omega
  refine jnew_at (DF.mk0 b) 512 10240 0 ⟨by show b.length ≤ _; omega, by simp [inR], by simp [inR]⟩ rfl ⟨rfl, rfl, rfl, trivial⟩ (fun h => absurd hE h) (fun _ => ?_)
  repeat' (first
 | (with_reducible first | exact True.intro | apply And.intro | apply If_true | apply If_false | apply If_not)
 | ((with_reducible apply VC.mk); (first | trivial | omega | (simp only [inR]; omega) | (exact ⟨rfl, List.prefix_rfl⟩) | (refine ⟨rfl, rfl, rfl, ?_, rfl⟩; (simp; done)) | (focus (repeat' (first | exact True.intro | apply And.intro | rfl | exact Nat.le_of_ble_eq_true rfl)); done) | (simp [inR, Cont.cells]; done) | (simp [inR, Cont.cells]; omega)))
 | ((with_reducible apply If_dec) <;> intro hc <;> (try (exfalso; omega)))
 | ((with_reducible apply If_any) <;> intro hc)
 | ((with_reducible first | apply PF.mk | apply DrawP.mk); (focus kernel_rfl))
 | ((with_reducible apply Same.mk); (focus rfl); (first | exact trivial | exact rfl))
 | (intro cap hcap)
 | ((fail_if_success (with_reducible first | apply Fin.mk | apply CallP.mk | apply LoopP.mk | apply VC.mk | apply falseMk | apply Round.mk | apply LookP.mk | apply RangeP.mk | apply NextP.mk | apply EntryP.mk | apply Eq.symm)); conv => whnf))
  refine Fin.ren [1, 0] [] (.tup [.p 1 0 1 0, .p 0 0 1 0, .v (.bool true)]) [JR.blk ⟨512, 10240, 0⟩ 1, (DF.mk0 b).pk] rfl rfl trivial ?_ ⟨VC.mk ⟨rfl, rfl, rfl, rfl⟩, VC.mk ⟨rfl, rfl, rfl, rfl⟩, VC.mk rfl, trivial⟩ hk
  exact ⟨⟨VC.mk ⟨rfl, rfl⟩, VC.mk ⟨rfl, rfl, rfl, rfl⟩, VC.mk rfl, VC.mk rfl, VC.mk rfl, trivial⟩, VC.mk ⟨rfl, rfl, rfl, rfl⟩, trivial⟩
theorem topen_K : ConOk Go.Proofs.Try.prog 34 (Con.of (List Int) Unit (fun b => [.im false 1 b.length (.ints .u8 b)]) (fun _ => []) (fun b => 10752 ≤ b.length ∧ b.length ≤ 4194304) (fun _ _ => True) (fun _ _ => .tup [.p 1 0 1 0, .p 0 0 1 0, .v (.bool true)]) (fun b _ => [JR.blk ⟨512, 10240, 0⟩ 1, (DF.mk0 b).pk])) :=
  conOk_rel (T := tab) mix Go.Proofs.Try.func34 (by decide +kernel) (by kernel_rfl) [] [] (fun n => by rw [Go.Proofs.Try.ntmps34]; exact Nat.le_of_ble_eq_true rfl) (fun x r _ _ => ⟨⟨trivial, trivial, trivial, trivial⟩, (fun c hc => by simp at hc; rcases hc with rfl | rfl; exact JR.noF _ _; exact DF.pk_noF _), Nat.zero_le _⟩) (fun x _ c hc => by cases hc) (fun x k h0 hk => topen_c x k h0 (hk () trivial))
theorem topen_at {avs : List AV} {Hp : List Chunk} {k : K} (b : List Int) (h0 : 10752 ≤ b.length ∧ b.length ≤ 4194304) (ha : argsM Hp [] [.im false 1 b.length (.ints .u8 b)] avs)
    (hQ : k (.tup [.p (Hp.length + 1) 0 1 0, .p Hp.length 0 1 0, .v (.bool true)]) (Hp ++ [JR.blk ⟨512, 10240, 0⟩ (Hp.length + 1), (DF.mk0 b).pk])) : CallP Go.Proofs.Try.prog 34 avs Hp k :=
  CallP.mk ⟨_, topen_K.real, Con.spec topen_K, b, [], ⟨h0, rfl, trivial, ha⟩, fun z hz => (numK_eq _ _).mpr (by simpa [putAll, JR.blk_ren, DF.pk_ren, AV.ren, rens, fren, nth] using hQ)⟩
end Go.Proofs.Ytcfmlnddmpiemaa.Sx


set_option maxRecDepth 10000
namespace Go.Proofs.Ytcfmlnddmpiemaa.Sx
open Go.RowKit Go.Proofs.Ytcfmlnddmpiemaa.Sx.Tb
/-! ### The law's records -/
/-! ### The law's file -/
structure CaseR where
  n : Int
  fill : List Int
  pos : Int
  size : Int
  recs : List RecR
end Go.Proofs.Ytcfmlnddmpiemaa.Sx


set_option maxRecDepth 10000
namespace Go.Proofs.Ytcfmlnddmpiemaa.Sx
open Go.RowKit Go.Proofs.Ytcfmlnddmpiemaa.Sx.Tb
/-! ### The document's Done -/
/-- A part that the caller owns. -/
theorem partO_c (l : List Int) (p n : Nat) (k : K) (h0 : p + n ≤ l.length ∧ l.length ≤ 1099511627776) (hk : ∀ x : List Int × Nat, (x.1 = (l.drop p).take n ∧ x.1.length ≤ x.2) → k (.s 0 0 1 x.1.length x.2) [.blk 5 (.ints .u8 x.1) x.2]) : evFunc tab [] [] Go.Proofs.Try.f44 [.im false 1 l.length (.ints .u8 l), .v (.int .i64 p), .v (.int .i64 n)] [] k := by
  repeat' (first
 | (with_reducible first | exact True.intro | apply And.intro | apply If_true | apply If_false | apply If_not)
 | ((with_reducible apply VC.mk); (first | trivial | omega | (simp only [inR]; omega) | (exact ⟨rfl, List.prefix_rfl⟩) | (refine ⟨rfl, rfl, rfl, ?_, rfl⟩; (simp; done)) | (focus (repeat' (first | exact True.intro | apply And.intro | rfl | exact Nat.le_of_ble_eq_true rfl)); done) | (simp [inR, Cont.cells]; done) | (simp [inR, Cont.cells]; omega)))
 | ((with_reducible apply If_dec) <;> intro hc <;> (try (exfalso; omega)))
 | ((with_reducible apply If_any) <;> intro hc)
 | ((with_reducible first | apply PF.mk | apply DrawP.mk); (focus kernel_rfl))
 | ((with_reducible apply Same.mk); (focus rfl); (first | exact trivial | exact rfl))
 | (intro cap hcap)
 | ((fail_if_success (with_reducible first | apply Fin.mk | apply CallP.mk | apply LoopP.mk | apply VC.mk | apply falseMk | apply Round.mk | apply LookP.mk | apply RangeP.mk | apply NextP.mk | apply EntryP.mk | apply Eq.symm)); conv => whnf))
  have e1 : ((p : Int) + (n : Int)).toNat - ((p : Nat) : Int).toNat = n := by omega
  have e2 : ((p : Nat) : Int).toNat = p := by omega
  have e3 : ((l.drop p).take n).length = n := by rw [List.length_take, List.length_drop]; omega
  rw [e1, e2]
  rw [e1] at hcap
  have hk2 := hk ((l.drop p).take n, cap) ⟨rfl, by rw [e3]; exact hcap⟩
  rw [e3] at hk2
  rw [Nat.mul_one]
  exact Fin.same hk2
theorem partO_K : ConOk Go.Proofs.Try.prog 44 (Con.of (List Int × Nat × Nat) (List Int × Nat) (fun x => [.im false 1 x.1.length (.ints .u8 x.1), .v (.int .i64 x.2.1), .v (.int .i64 x.2.2)]) (fun _ => []) (fun x => x.2.1 + x.2.2 ≤ x.1.length ∧ x.1.length ≤ 1099511627776) (fun x r => r.1 = (x.1.drop x.2.1).take x.2.2 ∧ r.1.length ≤ r.2) (fun _ r => .s 0 0 1 r.1.length r.2) (fun _ r => [.blk 5 (.ints .u8 r.1) r.2])) := by
  refine conOk_rel (T := tab) mix Go.Proofs.Try.func44 (by decide +kernel) (by kernel_rfl) [] [] (fun n => by rw [Go.Proofs.Try.ntmps44]; exact Nat.le_of_ble_eq_true rfl) (fun x r _ _ => ⟨trivial, (fun c hc => by simp at hc; subst hc; exact .blk trivial), Nat.zero_le _⟩) (fun x _ c hc => by cases hc) (fun x k h0 hk => partO_c x.1 x.2.1 x.2.2 k h0 (fun r hr => hk r hr))
theorem partO_at {avs : List AV} {H : List Chunk} {k : K} (l : List Int) (p n : Nat) (h0 : p + n ≤ l.length ∧ l.length ≤ 1099511627776) (ha : argsM H [] [.im false 1 l.length (.ints .u8 l), .v (.int .i64 p), .v (.int .i64 n)] avs)
    (h : ∀ (m : List Int) (cap : Nat), m = (l.drop p).take n → m.length ≤ cap → k (.s H.length 0 1 m.length cap) (H ++ [.blk 5 (.ints .u8 m) cap])) : CallP Go.Proofs.Try.prog 44 avs H k :=
  CallP.mk ⟨_, partO_K.real, Con.spec partO_K, (l, p, n), [], ⟨h0, rfl, trivial, ha⟩, fun r hr => (numK_eq _ _).mpr (by simpa [putAll, AV.ren, rens, fren, nth, Chunk.ren, Cont.ren] using h r.1 r.2 hr.1 hr.2)⟩
/-! ### The law -/
end Go.Proofs.Ytcfmlnddmpiemaa.Sx



set_option maxRecDepth 10000
namespace Go.Proofs.Ytcfmlnddmpiemaa.Sx
open Go.RowKit Go.Proofs.Ytcfmlnddmpiemaa.Sx.Tb
/-! ### The functions of the tx's laws -/
def lightX (row : List OpR) : Prop := row.length ≤ 25 ∧ ∀ i, i < row.length → (row.getD i OpR.z).b.length ≤ 1500
set_option maxHeartbeats 4000000 in
theorem xlight_c (row : List OpR) (k : K) (h0 : row.length ≤ 9223372036854775807) (hk : ∀ b : Bool, (b = true → lightX row) → k (.v (.bool b)) []) : evFunc tab [] [] Go.Proofs.Try.f32 [.im false 4 row.length (opsC false row)] [] k := by
  repeat' (first
 | (with_reducible first | exact True.intro | apply And.intro | apply If_true | apply If_false | apply If_not)
 | ((with_reducible apply VC.mk); (first | trivial | omega | (simp only [inR]; omega) | (exact ⟨rfl, List.prefix_rfl⟩) | (refine ⟨rfl, rfl, rfl, ?_, rfl⟩; (simp; done)) | (focus (repeat' (first | exact True.intro | apply And.intro | rfl | exact Nat.le_of_ble_eq_true rfl)); done) | (simp [inR, Cont.cells]; done) | (simp [inR, Cont.cells]; omega)))
 | ((with_reducible apply If_dec) <;> intro hc <;> (try (exfalso; omega)))
 | ((with_reducible apply If_any) <;> intro hc)
 | ((with_reducible first | apply PF.mk | apply DrawP.mk); (focus kernel_rfl))
 | ((with_reducible apply Same.mk); (focus rfl); (first | exact trivial | exact rfl))
 | (intro cap hcap)
 | ((fail_if_success (with_reducible first | apply Fin.mk | apply CallP.mk | apply LoopP.mk | apply VC.mk | apply falseMk | apply Round.mk | apply LookP.mk | apply RangeP.mk | apply NextP.mk | apply EntryP.mk | apply Eq.symm)); conv => whnf))
  · exact Fin.same (hk false (fun h => by cases h))
  refine LoopP.mk ⟨Nat, fun i => i ≤ row.length ∧ ∀ j, j < i → (row.getD j OpR.z).b.length ≤ 1500, fun i => ([(0, .im false 4 row.length (opsC false row)), (3, .v (.int .i64 i))], []), fun i => row.length - i, 0, ⟨Nat.zero_le _, fun j hj => absurd hj (Nat.not_lt_zero _)⟩, Fit.ren [] [] rfl rfl trivial trivial ?_, ?_⟩
  · repeat' (first
 | (with_reducible first | exact True.intro | apply And.intro | apply If_true | apply If_false | apply If_not)
 | ((with_reducible apply VC.mk); (first | trivial | omega | (simp only [inR]; omega) | (exact ⟨rfl, List.prefix_rfl⟩) | (refine ⟨rfl, rfl, rfl, ?_, rfl⟩; (simp; done)) | (focus (repeat' (first | exact True.intro | apply And.intro | rfl | exact Nat.le_of_ble_eq_true rfl)); done) | (simp [inR, Cont.cells]; done) | (simp [inR, Cont.cells]; omega)))
 | ((with_reducible apply If_dec) <;> intro hc <;> (try (exfalso; omega)))
 | ((with_reducible apply If_any) <;> intro hc)
 | ((with_reducible first | apply PF.mk | apply DrawP.mk); (focus kernel_rfl))
 | ((with_reducible apply Same.mk); (focus rfl); (first | exact trivial | exact rfl))
 | (intro cap hcap)
 | ((fail_if_success (with_reducible first | apply Fin.mk | apply CallP.mk | apply LoopP.mk | apply VC.mk | apply falseMk | apply Round.mk | apply LookP.mk | apply RangeP.mk | apply NextP.mk | apply EntryP.mk | apply Eq.symm)); conv => whnf))
  intro i hi
  obtain ⟨g1, g2⟩ := hi
  have e : ((i : Nat) : Int).toNat = i := Int.toNat_natCast i
  repeat' (first
 | (with_reducible first | exact True.intro | apply And.intro | apply If_true | apply If_false | apply If_not)
 | ((with_reducible apply VC.mk); (first | trivial | omega | (simp only [inR]; omega) | (exact ⟨rfl, List.prefix_rfl⟩) | (refine ⟨rfl, rfl, rfl, ?_, rfl⟩; (simp; done)) | (focus (repeat' (first | exact True.intro | apply And.intro | rfl | exact Nat.le_of_ble_eq_true rfl)); done) | (simp [inR, Cont.cells]; done) | (simp [inR, Cont.cells]; omega)))
 | ((with_reducible apply If_dec) <;> intro hc <;> (try (exfalso; omega)))
 | ((with_reducible apply If_any) <;> intro hc)
 | ((with_reducible first | apply PF.mk | apply DrawP.mk); (focus kernel_rfl))
 | ((with_reducible apply Same.mk); (focus rfl); (first | exact trivial | exact rfl))
 | (intro cap hcap)
 | ((fail_if_success (with_reducible first | apply Fin.mk | apply CallP.mk | apply LoopP.mk | apply VC.mk | apply falseMk | apply Round.mk | apply LookP.mk | apply RangeP.mk | apply NextP.mk | apply EntryP.mk | apply Eq.symm)); conv => whnf))
  all_goals simp only [e] at *
  all_goals first
    | exact Fin.same (hk false (fun h => by cases h))
    | exact Fin.same (hk true (fun _ => ⟨by omega, fun j hj => g2 j (by omega)⟩))
    | skip
  all_goals
    refine Round.mk ⟨i + 1, ⟨by omega, fun j hj => ?_⟩, (by show row.length - (i + 1) < row.length - i; omega), Fit.ren [] [] rfl rfl trivial trivial ?_⟩
    · by_cases hji : j = i
      · subst hji; omega
      · exact g2 j (by omega)
    · repeat' (first
 | (with_reducible first | exact True.intro | apply And.intro | apply If_true | apply If_false | apply If_not)
 | ((with_reducible apply VC.mk); (first | trivial | omega | (simp only [inR]; omega) | (exact ⟨rfl, List.prefix_rfl⟩) | (refine ⟨rfl, rfl, rfl, ?_, rfl⟩; (simp; done)) | (focus (repeat' (first | exact True.intro | apply And.intro | rfl | exact Nat.le_of_ble_eq_true rfl)); done) | (simp [inR, Cont.cells]; done) | (simp [inR, Cont.cells]; omega)))
 | ((with_reducible apply If_dec) <;> intro hc <;> (try (exfalso; omega)))
 | ((with_reducible apply If_any) <;> intro hc)
 | ((with_reducible first | apply PF.mk | apply DrawP.mk); (focus kernel_rfl))
 | ((with_reducible apply Same.mk); (focus rfl); (first | exact trivial | exact rfl))
 | (intro cap hcap)
 | ((fail_if_success (with_reducible first | apply Fin.mk | apply CallP.mk | apply LoopP.mk | apply VC.mk | apply falseMk | apply Round.mk | apply LookP.mk | apply RangeP.mk | apply NextP.mk | apply EntryP.mk | apply Eq.symm)); conv => whnf))
def xlightOk (x : List OpR) : Prop := x.length ≤ 9223372036854775807
def xlightRel (x : List OpR) (r : Bool) : Prop := (r = true → lightX x)
theorem xlight_K : ConOk Go.Proofs.Try.prog 32 (Con.of (List OpR) (Bool) (fun x => [.im false 4 x.length (opsC false x)]) (fun _ => []) xlightOk xlightRel (fun _ r => .v (.bool r)) (fun _ _ => [])) := by
  refine conOk_rel (T := tab) mix Go.Proofs.Try.func32 (by decide +kernel) (by kernel_rfl) [] [] (fun n => by rw [Go.Proofs.Try.ntmps32]; exact Nat.le_of_ble_eq_true rfl) (fun x r _ _ => ⟨by simp [AV.noF, noFs, Cont.noF, recsC_noF], (fun c hc => by cases hc), Nat.le_refl _⟩) (fun x _ c hc => by cases hc) ?_
  intro x k h0 hk
  exact xlight_c x k h0 (fun r hr => hk r hr)
theorem xlight_at {avs : List AV} {H : List Chunk} {k : K} (row : List OpR) (h0 : row.length ≤ 9223372036854775807) (ha : argsM H [] [.im false 4 row.length (opsC false row)] avs) (hQ : ∀ r : Bool, ((r = true → lightX row)) → k (.v (.bool r)) H) : CallP Go.Proofs.Try.prog 32 avs H k :=
  CallP.mk ⟨_, xlight_K.real, Con.spec xlight_K, (row), [], ⟨h0, rfl, trivial, ha⟩, fun r hr => (numK_eq H.length (fun N => k (AV.ren (fren [] N) (.v (.bool r))) (putAll H [] []))).mpr (by simpa [putAll, AV.ren, rens, Cont.ren, recsC, recAV] using hQ r hr)⟩
theorem Fin.vl' {u : Value} {c : Chunk} {k : K} (hk : k (.v u) []) : Fin 0 (.v u) [c] k := Fin.ren [] [] (.v u) [] rfl rfl trivial trivial (VC.mk rfl) hk
def placeX (o : OpR) : Int := if o.kind = 2 then (10752 + o.pos % 18446744073709551616 % 6000) / 512 * 512 else 10752 + o.pos % 18446744073709551616 % 6000
set_option maxHeartbeats 4000000 in
theorem place_c (o : OpR) (k : K) (h0 : inR .i64 o.pos) (hk : ∀ r : Int, r = placeX o → k (.v (.int .i64 r)) []) : evFunc tab [6] [] Go.Proofs.Try.f35 [.agg (opAV true o)] [] k := by
  have w : IntKind.u64.wrap o.pos = o.pos % 18446744073709551616 := rfl
  repeat' (first
 | (with_reducible first | exact True.intro | apply And.intro | apply If_true | apply If_false | apply If_not)
 | ((with_reducible apply VC.mk); (first | trivial | omega | (simp only [inR]; omega) | (exact ⟨rfl, List.prefix_rfl⟩) | (refine ⟨rfl, rfl, rfl, ?_, rfl⟩; (simp; done)) | (focus (repeat' (first | exact True.intro | apply And.intro | rfl | exact Nat.le_of_ble_eq_true rfl)); done) | (simp [inR, Cont.cells]; done) | (simp [inR, Cont.cells]; omega)))
 | ((with_reducible apply If_dec) <;> intro hc <;> (try (exfalso; omega)))
 | ((with_reducible apply If_any) <;> intro hc)
 | ((with_reducible first | apply PF.mk | apply DrawP.mk); (focus kernel_rfl))
 | ((with_reducible apply Same.mk); (focus rfl); (first | exact trivial | exact rfl))
 | (intro cap hcap)
 | ((fail_if_success (with_reducible first | apply Fin.mk | apply CallP.mk | apply LoopP.mk | apply VC.mk | apply falseMk | apply Round.mk | apply LookP.mk | apply RangeP.mk | apply NextP.mk | apply EntryP.mk | apply Eq.symm)); conv => whnf))
  · exact Fin.vl' (hk _ (by unfold placeX; rw [if_pos hc, w]))
  · exact Fin.vl' (hk _ (by unfold placeX; rw [if_neg hc, w]))
def placeOk (x : OpR) : Prop := inR .i64 x.pos
def placeRel (x : OpR) (r : Int) : Prop := r = placeX x
theorem place_K : ConOk Go.Proofs.Try.prog 35 (Con.of (OpR) (Int) (fun x => [.agg (opAV true x)]) (fun _ => []) placeOk placeRel (fun _ r => .v (.int .i64 r)) (fun _ _ => [])) := by
  refine conOk_rel (T := tab) mix Go.Proofs.Try.func35 (by decide +kernel) (by kernel_rfl) [6] [] (fun n => by rw [Go.Proofs.Try.ntmps35]; exact Nat.le_of_ble_eq_true rfl) (fun x r _ _ => ⟨by simp [AV.noF, noFs, Cont.noF, recsC_noF], (fun c hc => by cases hc), Nat.le_refl _⟩) (fun x _ c hc => by cases hc) ?_
  intro x k h0 hk
  exact place_c x k h0 (fun r hr => hk r hr)
theorem place_at {avs : List AV} {H : List Chunk} {k : K} (o : OpR) (h0 : inR .i64 o.pos) (ha : argsM H [] [.agg (opAV true o)] avs) (hQ : ∀ r : Int, (r = placeX o) → k (.v (.int .i64 r)) H) : CallP Go.Proofs.Try.prog 35 avs H k :=
  CallP.mk ⟨_, place_K.real, Con.spec place_K, (o), [], ⟨h0, rfl, trivial, ha⟩, fun r hr => (numK_eq H.length (fun N => k (AV.ren (fren [] N) (.v (.int .i64 r))) (putAll H [] []))).mpr (by simpa [putAll, AV.ren, rens, Cont.ren, recsC, recAV] using hQ r hr)⟩
def longL (b : List Int) (n : Int) : List Int := b ++ List.replicate (n.toNat - b.length) 0
theorem longL_length (b : List Int) (n : Int) : (longL b n).length = max b.length n.toNat := by
  unfold longL; rw [List.length_append, List.length_replicate]; omega
theorem longL_get (b : List Int) (n : Int) (i : Nat) : (longL b n).getD i 0 = b.getD i 0 := by
  unfold longL
  by_cases h : i < b.length
  · rw [List.getD_eq_getElem?_getD, List.getElem?_append_left h, ← List.getD_eq_getElem?_getD]
  · rw [getD_of_le (l := b) (by omega), List.getD_eq_getElem?_getD, List.getElem?_append_right (by omega), List.getElem?_replicate]
    split <;> rfl
set_option maxHeartbeats 4000000 in
theorem longer_c (b : List Int) (n : Int) (k : K) (h0 : b.length ≤ 1099511627776 ∧ 0 ≤ n ∧ n ≤ 1099511627776) (hk : ∀ r : List Int, r = longL b n → k (.im true 1 r.length (.ints .u8 r)) []) : evFunc tab [] [] Go.Proofs.Try.f38 [.im true 1 b.length (.ints .u8 b), .v (.int .i64 n)] [] k := by
  repeat' (first
 | (with_reducible first | exact True.intro | apply And.intro | apply If_true | apply If_false | apply If_not)
 | ((with_reducible apply VC.mk); (first | trivial | omega | (simp only [inR]; omega) | (exact ⟨rfl, List.prefix_rfl⟩) | (refine ⟨rfl, rfl, rfl, ?_, rfl⟩; (simp; done)) | (focus (repeat' (first | exact True.intro | apply And.intro | rfl | exact Nat.le_of_ble_eq_true rfl)); done) | (simp [inR, Cont.cells]; done) | (simp [inR, Cont.cells]; omega)))
 | ((with_reducible apply If_dec) <;> intro hc <;> (try (exfalso; omega)))
 | ((with_reducible apply If_any) <;> intro hc)
 | ((with_reducible first | apply PF.mk | apply DrawP.mk); (focus kernel_rfl))
 | ((with_reducible apply Same.mk); (focus rfl); (first | exact trivial | exact rfl))
 | (intro cap hcap)
 | ((fail_if_success (with_reducible first | apply Fin.mk | apply CallP.mk | apply LoopP.mk | apply VC.mk | apply falseMk | apply Round.mk | apply LookP.mk | apply RangeP.mk | apply NextP.mk | apply EntryP.mk | apply Eq.symm)); conv => whnf))
  · exact Fin.same (hk b (by unfold longL; rw [show n.toNat - b.length = 0 by omega]; simp))
  · refine partO_at b 0 b.length ⟨by omega, by omega⟩ ⟨⟨rfl, rfl, rfl⟩, rfl, rfl, trivial⟩ ?_
    intro m c1 hm1 hc1
    have hmw : m = b := by rw [hm1, List.drop_zero]; exact List.take_of_length_le (Nat.le_refl _)
    subst hmw
    repeat' (first
 | (with_reducible first | exact True.intro | apply And.intro | apply If_true | apply If_false | apply If_not)
 | ((with_reducible apply VC.mk); (first | trivial | omega | (simp only [inR]; omega) | (exact ⟨rfl, List.prefix_rfl⟩) | (refine ⟨rfl, rfl, rfl, ?_, rfl⟩; (simp; done)) | (focus (repeat' (first | exact True.intro | apply And.intro | rfl | exact Nat.le_of_ble_eq_true rfl)); done) | (simp [inR, Cont.cells]; done) | (simp [inR, Cont.cells]; omega)))
 | ((with_reducible apply If_dec) <;> intro hc <;> (try (exfalso; omega)))
 | ((with_reducible apply If_any) <;> intro hc)
 | ((with_reducible first | apply PF.mk | apply DrawP.mk); (focus kernel_rfl))
 | ((with_reducible apply Same.mk); (focus rfl); (first | exact trivial | exact rfl))
 | (intro cap hcap)
 | ((fail_if_success (with_reducible first | apply Fin.mk | apply CallP.mk | apply LoopP.mk | apply VC.mk | apply falseMk | apply Round.mk | apply LookP.mk | apply RangeP.mk | apply NextP.mk | apply EntryP.mk | apply Eq.symm)); conv => whnf))
    refine zerosO_at (n - m.length) ⟨by omega, by omega⟩ ⟨rfl, trivial⟩ ?_
    intro z hz
    have hzl : z.length = n.toNat - m.length := by rw [hz, List.length_replicate]; omega
    have hk2 := hk (m ++ z) (by unfold longL; rw [hz, show (n - (m.length : Int)).toNat = n.toNat - m.length by omega])
    clear hz hm1
    repeat' (first
 | (with_reducible first | exact True.intro | apply And.intro | apply If_true | apply If_false | apply If_not)
 | ((with_reducible apply VC.mk); (first | trivial | omega | (simp only [inR]; omega) | (exact ⟨rfl, List.prefix_rfl⟩) | (refine ⟨rfl, rfl, rfl, ?_, rfl⟩; (simp; done)) | (focus (repeat' (first | exact True.intro | apply And.intro | rfl | exact Nat.le_of_ble_eq_true rfl)); done) | (simp [inR, Cont.cells]; done) | (simp [inR, Cont.cells]; omega)))
 | ((with_reducible apply If_dec) <;> intro hc <;> (try (exfalso; omega)))
 | ((with_reducible apply If_any) <;> intro hc)
 | ((with_reducible first | apply PF.mk | apply DrawP.mk); (focus kernel_rfl))
 | ((with_reducible apply Same.mk); (focus rfl); (first | exact trivial | exact rfl))
 | (intro cap hcap)
 | ((fail_if_success (with_reducible first | apply Fin.mk | apply CallP.mk | apply LoopP.mk | apply VC.mk | apply falseMk | apply Round.mk | apply LookP.mk | apply RangeP.mk | apply NextP.mk | apply EntryP.mk | apply Eq.symm)); conv => whnf))
    rw [List.length_append] at hk2
    rw [show List.take z.length (List.drop 0 z) = z by simp]
    refine Fin.ren [] [2] (.im true 1 (m.length + z.length) (.ints .u8 (m ++ z))) [] rfl rfl ⟨trivial, trivial⟩ trivial ⟨VC.mk ⟨?_, rfl, rfl, rfl, Nat.one_pos⟩, VC.mk ⟨rfl, ?_⟩⟩ hk2
    · rw [List.length_append]; omega
    · rw [List.drop_zero]; exact List.take_of_length_le (by rw [List.length_append]; exact Nat.le_refl _)
def longerOk (x : List Int × Int) : Prop := x.1.length ≤ 1099511627776 ∧ 0 ≤ x.2 ∧ x.2 ≤ 1099511627776
def longerRel (x : List Int × Int) (r : List Int) : Prop := r = longL x.1 x.2
theorem longer_K : ConOk Go.Proofs.Try.prog 38 (Con.of (List Int × Int) (List Int) (fun x => [.im true 1 x.1.length (.ints .u8 x.1), .v (.int .i64 x.2)]) (fun _ => []) longerOk longerRel (fun _ r => .im true 1 r.length (.ints .u8 r)) (fun _ _ => [])) := by
  refine conOk_rel (T := tab) mix Go.Proofs.Try.func38 (by decide +kernel) (by kernel_rfl) [] [] (fun n => by rw [Go.Proofs.Try.ntmps38]; exact Nat.le_of_ble_eq_true rfl) (fun x r _ _ => ⟨by simp [AV.noF, noFs, Cont.noF, recsC_noF], (fun c hc => by cases hc), Nat.le_refl _⟩) (fun x _ c hc => by cases hc) ?_
  intro x k h0 hk
  exact longer_c x.1 x.2 k h0 (fun r hr => hk r hr)
theorem longer_at {avs : List AV} {H : List Chunk} {k : K} (b : List Int) (n : Int) (h0 : b.length ≤ 1099511627776 ∧ 0 ≤ n ∧ n ≤ 1099511627776) (ha : argsM H [] [.im true 1 b.length (.ints .u8 b), .v (.int .i64 n)] avs) (hQ : ∀ r : List Int, (r = longL b n) → k (.im true 1 r.length (.ints .u8 r)) H) : CallP Go.Proofs.Try.prog 38 avs H k :=
  CallP.mk ⟨_, longer_K.real, Con.spec longer_K, (b, n), [], ⟨h0, rfl, trivial, ha⟩, fun r hr => (numK_eq H.length (fun N => k (AV.ren (fren [] N) (.im true 1 r.length (.ints .u8 r))) (putAll H [] []))).mpr (by simpa [putAll, AV.ren, rens, Cont.ren, recsC, recAV] using hQ r hr)⟩
end Go.Proofs.Ytcfmlnddmpiemaa.Sx


set_option maxRecDepth 10000
namespace Go.Proofs.Ytcfmlnddmpiemaa.Sx
open Go.RowKit Go.Proofs.Ytcfmlnddmpiemaa.Sx.Tb
/-! ### The tx's example -/
abbrev jX : JR := ⟨512, 10240, 0⟩
theorem jX_ok : jX.Ok := by unfold JR.Ok jX; simp
theorem jX_al : jX.al := ⟨by decide, by decide⟩
theorem baseL_length (n c : Int) : (baseL n c).length = 10752 + (n % 18446744073709551616 % 7000).toNat := by
  unfold baseL; rw [List.length_append, List.length_replicate, List.length_replicate]
theorem baseL_get {n c : Int} {i : Nat} (h : 10752 ≤ i) (h2 : i < (baseL n c).length) : (baseL n c).getD i 0 = c := by
  rw [baseL_length] at h2
  unfold baseL
  rw [List.getD_eq_getElem?_getD, List.getElem?_append_right (by rw [List.length_replicate]; exact h), List.length_replicate, List.getElem?_replicate, if_pos (by omega)]
  rfl
theorem baseL_B8 {n c : Int} (h : 0 ≤ c ∧ c < 256) : B8 (baseL n c) := by
  unfold baseL
  refine B8.append (B8.replicate _) (fun x hx => ?_)
  rw [List.eq_of_mem_replicate hx]; exact h
theorem TR.zero_ok : TR.zero.Ok := ⟨fun x hx => absurd hx List.not_mem_nil, fun x hx => absurd hx List.not_mem_nil, Nat.le_refl _, Nat.zero_le _⟩
theorem TR.zero_In (j : JR) : TR.zero.In j := ⟨fun x hx => absurd hx List.not_mem_nil, List.nodup_nil, fun x hx => absurd hx List.not_mem_nil⟩
theorem TR.zero_B {z : List Int} (h : B8 z) : TR.zero.B z := fun i => by rw [zero_V]; exact h.getD i
theorem DF.mk0_ok {b : List Int} (h : b.length ≤ 4194304) (n : Int) (hn : 0 ≤ n) : (DF.mk0 b).Ok n := ⟨h, h, fun it hi => absurd hi List.not_mem_nil, by show (0 : Int) ≤ n; exact hn, ⟨Int.le_refl _, hn⟩, ⟨Int.le_refl _, hn⟩, rfl⟩
theorem DF.Ok.tick {s : DF} {n : Int} (h : s.Ok n) (m : Nat) : (s.tick m).Ok (n + m) := ⟨h.safe, h.now, h.its, by have := h.len; show (s.items.length : Int) ≤ _; omega, by have := h.ops; show 0 ≤ s.ops + m ∧ s.ops + m ≤ _; omega, by have := h.wrote; show 0 ≤ s.wrote ∧ s.wrote ≤ _; omega, h.all⟩
/-- One sector changed: it is the one record. -/
theorem one_rec {t : TR} {rs : List RecR} {n : Int} {l : List Int} (h : RecRel t rs) (hd : t.dirty = [(n, l)]) (hl : l.length = 512) : (encL rs).length = 524 := by
  obtain ⟨ks, h1, h2, rfl⟩ := h
  rw [hd] at h1 ⊢
  have : ks = [n] := List.perm_singleton.1 h1
  subst this
  have e : bldR [(n, l)] [n] [n].length = [(n * 512, l)] := by
    unfold bldR
    rw [show List.range [n].length = [0] from rfl]
    show bldS [(n, l)] [n] [] 0 = _
    unfold bldS
    rw [if_neg (by omega)]
    show [] ++ [(n * 512, (lkS n [(n, l)]).getD [])] = _
    unfold lkS
    rw [if_pos rfl]; rfl
  rw [e, encL_cons, hl]; rfl
set_option maxHeartbeats 16000000 in
theorem changed_c (k : K) (h0 : True) (hk : ∀ r : Unit, True → k (.v (.bool true)) []) : evFunc tab [] [] Go.Proofs.Try.f31 [] [] k := by
  repeat' (first
 | (with_reducible first | exact True.intro | apply And.intro | apply If_true | apply If_false | apply If_not)
 | ((with_reducible apply VC.mk); (first | trivial | omega | (simp only [inR]; omega) | (exact ⟨rfl, List.prefix_rfl⟩) | (refine ⟨rfl, rfl, rfl, ?_, rfl⟩; (simp; done)) | (focus (repeat' (first | exact True.intro | apply And.intro | rfl | exact Nat.le_of_ble_eq_true rfl)); done) | (simp [inR, Cont.cells]; done) | (simp [inR, Cont.cells]; omega)))
 | ((with_reducible apply If_dec) <;> intro hc <;> (try (exfalso; omega)))
 | ((with_reducible apply If_any) <;> intro hc)
 | ((with_reducible first | apply PF.mk | apply DrawP.mk); (focus kernel_rfl))
 | ((with_reducible apply Same.mk); (focus rfl); (first | exact trivial | exact rfl))
 | (intro cap hcap)
 | ((fail_if_success (with_reducible first | apply Fin.mk | apply CallP.mk | apply LoopP.mk | apply VC.mk | apply falseMk | apply Round.mk | apply LookP.mk | apply RangeP.mk | apply NextP.mk | apply EntryP.mk | apply Eq.symm)); conv => whnf))
  refine tbase_at 600 7 ⟨by simp [inR], by decide, by decide⟩ ⟨rfl, rfl, trivial⟩ ?_
  intro b hb
  have hb : b = baseL 600 7 := hb
  have hbl : b.length = 11352 := by rw [hb, baseL_length]; decide
  have hb8 : B8 b := by rw [hb]; exact baseL_B8 (by decide)
  have hbg : ∀ i, 10752 ≤ i → i < 11352 → b.getD i 0 = 7 := fun i h1 h2 => by rw [hb]; exact baseL_get h1 (by rw [← hb]; omega)
  clear hb
  repeat' (first
 | (with_reducible first | exact True.intro | apply And.intro | apply If_true | apply If_false | apply If_not)
 | ((with_reducible apply VC.mk); (first | trivial | omega | (simp only [inR]; omega) | (exact ⟨rfl, List.prefix_rfl⟩) | (refine ⟨rfl, rfl, rfl, ?_, rfl⟩; (simp; done)) | (focus (repeat' (first | exact True.intro | apply And.intro | rfl | exact Nat.le_of_ble_eq_true rfl)); done) | (simp [inR, Cont.cells]; done) | (simp [inR, Cont.cells]; omega)))
 | ((with_reducible apply If_dec) <;> intro hc <;> (try (exfalso; omega)))
 | ((with_reducible apply If_any) <;> intro hc)
 | ((with_reducible first | apply PF.mk | apply DrawP.mk); (focus kernel_rfl))
 | ((with_reducible apply Same.mk); (focus rfl); (first | exact trivial | exact rfl))
 | (intro cap hcap)
 | ((fail_if_success (with_reducible first | apply Fin.mk | apply CallP.mk | apply LoopP.mk | apply VC.mk | apply falseMk | apply Round.mk | apply LookP.mk | apply RangeP.mk | apply NextP.mk | apply EntryP.mk | apply Eq.symm)); conv => whnf))
  refine topen_at b ⟨by omega, by omega⟩ ⟨⟨rfl, rfl, rfl⟩, trivial⟩ ?_
  repeat' (first
 | (with_reducible first | exact True.intro | apply And.intro | apply If_true | apply If_false | apply If_not)
 | ((with_reducible apply VC.mk); (first | trivial | omega | (simp only [inR]; omega) | (exact ⟨rfl, List.prefix_rfl⟩) | (refine ⟨rfl, rfl, rfl, ?_, rfl⟩; (simp; done)) | (focus (repeat' (first | exact True.intro | apply And.intro | rfl | exact Nat.le_of_ble_eq_true rfl)); done) | (simp [inR, Cont.cells]; done) | (simp [inR, Cont.cells]; omega)))
 | ((with_reducible apply If_dec) <;> intro hc <;> (try (exfalso; omega)))
 | ((with_reducible apply If_any) <;> intro hc)
 | ((with_reducible first | apply PF.mk | apply DrawP.mk); (focus kernel_rfl))
 | ((with_reducible apply Same.mk); (focus rfl); (first | exact trivial | exact rfl))
 | (intro cap hcap)
 | ((fail_if_success (with_reducible first | apply Fin.mk | apply CallP.mk | apply LoopP.mk | apply VC.mk | apply falseMk | apply Round.mk | apply LookP.mk | apply RangeP.mk | apply NextP.mk | apply EntryP.mk | apply Eq.symm)); conv => whnf))
  refine begin_at jX (DF.mk0 b) 0 1 rfl rfl rfl ⟨rfl, trivial⟩ ?_
  repeat' (first
 | (with_reducible first | exact True.intro | apply And.intro | apply If_true | apply If_false | apply If_not)
 | ((with_reducible apply VC.mk); (first | trivial | omega | (simp only [inR]; omega) | (exact ⟨rfl, List.prefix_rfl⟩) | (refine ⟨rfl, rfl, rfl, ?_, rfl⟩; (simp; done)) | (focus (repeat' (first | exact True.intro | apply And.intro | rfl | exact Nat.le_of_ble_eq_true rfl)); done) | (simp [inR, Cont.cells]; done) | (simp [inR, Cont.cells]; omega)))
 | ((with_reducible apply If_dec) <;> intro hc <;> (try (exfalso; omega)))
 | ((with_reducible apply If_any) <;> intro hc)
 | ((with_reducible first | apply PF.mk | apply DrawP.mk); (focus kernel_rfl))
 | ((with_reducible apply Same.mk); (focus rfl); (first | exact trivial | exact rfl))
 | (intro cap hcap)
 | ((fail_if_success (with_reducible first | apply Fin.mk | apply CallP.mk | apply LoopP.mk | apply VC.mk | apply falseMk | apply Round.mk | apply LookP.mk | apply RangeP.mk | apply NextP.mk | apply EntryP.mk | apply Eq.symm)); conv => whnf))
  have zO := TR.zero_ok
  have zB := TR.zero_B hb8
  refine tput_at TR.zero jX (DF.mk0 b) 10755 [97] 2 3 4 0 1 ⟨zO, ⟨rfl, rfl⟩, ⟨by simp [inR], by simp⟩, Int.le_refl _, by show (0 : Int) ≤ _; omega, by show b.length ≤ _; omega⟩ rfl rfl rfl rfl rfl rfl ⟨rfl, rfl, ⟨rfl, rfl, rfl⟩, trivial⟩ ?_
  rintro ⟨e1, t1, m1⟩ hr
  dsimp only at hr ⊢
  rcases hr with ⟨h, -⟩ | ⟨-, h, -⟩ | ⟨-, -, h1, h2, h3⟩
  · cases h
  · exact absurd (show inB 10755 [97].length by unfold inB; simp) h
  have h2 : t1 = TR.zero.put b 10755 [97] := h2
  have p1 := put_V zO b 10755 [97]
  have hin := put_In (TR.zero_In jX) zO zB (a := 10755) (p := [97]) (fun x hx => by simp at hx; omega) jX_al (by simp) (.inr (.inr (by show (512 : Int) + 10240 ≤ 10755; omega)))
  have hdir : t1.dirty = [(21, putG (TR.zero.sec b 21) 3 [97])] := by rw [h2]; rfl
  rw [← h2] at p1 hin
  obtain ⟨O1, F1, V1, C1, W1⟩ := p1
  have B1 : t1.B b := by rw [h2]; exact zB.put zO 10755 (fun x hx => by simp at hx; omega)
  clear h2
  subst h1
  have F1 : t1.fresh = [] := F1
  have V1 : t1.over = false := V1
  have hm1 : (m1 : Int) ≤ 1 := by have : m1 ≤ [97].length := h3; simp at this; omega
  repeat' (first
 | (with_reducible first | exact True.intro | apply And.intro | apply If_true | apply If_false | apply If_not)
 | ((with_reducible apply VC.mk); (first | trivial | omega | (simp only [inR]; omega) | (exact ⟨rfl, List.prefix_rfl⟩) | (refine ⟨rfl, rfl, rfl, ?_, rfl⟩; (simp; done)) | (focus (repeat' (first | exact True.intro | apply And.intro | rfl | exact Nat.le_of_ble_eq_true rfl)); done) | (simp [inR, Cont.cells]; done) | (simp [inR, Cont.cells]; omega)))
 | ((with_reducible apply If_dec) <;> intro hc <;> (try (exfalso; omega)))
 | ((with_reducible apply If_any) <;> intro hc)
 | ((with_reducible first | apply PF.mk | apply DrawP.mk); (focus kernel_rfl))
 | ((with_reducible apply Same.mk); (focus rfl); (first | exact trivial | exact rfl))
 | (intro cap hcap)
 | ((fail_if_success (with_reducible first | apply Fin.mk | apply CallP.mk | apply LoopP.mk | apply VC.mk | apply falseMk | apply Round.mk | apply LookP.mk | apply RangeP.mk | apply NextP.mk | apply EntryP.mk | apply Eq.symm)); conv => whnf))
  refine tget_at t1 jX ((DF.mk0 b).tick m1) 10755 2 2 3 4 0 1 ⟨O1, ⟨rfl, rfl⟩, ⟨by simp [inR], by simp [inR]⟩, by show (0 : Int) ≤ 0 + m1; omega, by show (0 : Int) + m1 ≤ _; omega, by show b.length ≤ _; omega⟩ rfl rfl rfl rfl rfl rfl ⟨rfl, rfl, rfl, trivial⟩ ?_
  rintro ⟨g, e2, m2⟩ hr
  dsimp only at hr ⊢
  rcases hr with ⟨-, q1, q2, q3⟩ | ⟨h, -⟩
  rotate_left
  · exact absurd (show inB 10755 2 by unfold inB; simp) h
  have q2 : g = t1.rd b 10755 2 := q2
  have hg : g = [97, 7] := by
    have v0 := W1 10755
    have v1 := W1 10756
    rw [if_pos (by simp)] at v0
    rw [if_neg (by simp), zero_V, hbg 10756 (by omega) (by omega)] at v1
    rw [q2]
    show [t1.V b (10755 + 0), t1.V b (10755 + 1)] = _
    rw [v0, v1]; rfl
  have q3 : m2 ≤ 2 := q3
  subst q1
  clear q2
  subst hg
  clear h2 q2
  repeat' (first
 | (with_reducible first | exact True.intro | apply And.intro | apply If_true | apply If_false | apply If_not)
 | ((with_reducible apply VC.mk); (first | trivial | omega | (simp only [inR]; omega) | (exact ⟨rfl, List.prefix_rfl⟩) | (refine ⟨rfl, rfl, rfl, ?_, rfl⟩; (simp; done)) | (focus (repeat' (first | exact True.intro | apply And.intro | rfl | exact Nat.le_of_ble_eq_true rfl)); done) | (simp [inR, Cont.cells]; done) | (simp [inR, Cont.cells]; omega)))
 | ((with_reducible apply If_dec) <;> intro hc <;> (try (exfalso; omega)))
 | ((with_reducible apply If_any) <;> intro hc)
 | ((with_reducible first | apply PF.mk | apply DrawP.mk); (focus kernel_rfl))
 | ((with_reducible apply Same.mk); (focus rfl); (first | exact trivial | exact rfl))
 | (intro cap hcap)
 | ((fail_if_success (with_reducible first | apply Fin.mk | apply CallP.mk | apply LoopP.mk | apply VC.mk | apply falseMk | apply Round.mk | apply LookP.mk | apply RangeP.mk | apply NextP.mk | apply EntryP.mk | apply Eq.symm)); conv => whnf))
  · exact absurd rfl hc
  refine bytes_at (((DF.mk0 b).tick m1).tick m2) 1 (by show b.length ≤ _; omega) rfl ⟨rfl, trivial⟩ ?_
  intro l1 hl1
  have hl1 : l1 = b := hl1
  subst hl1
  repeat' (first
 | (with_reducible first | exact True.intro | apply And.intro | apply If_true | apply If_false | apply If_not)
 | ((with_reducible apply VC.mk); (first | trivial | omega | (simp only [inR]; omega) | (exact ⟨rfl, List.prefix_rfl⟩) | (refine ⟨rfl, rfl, rfl, ?_, rfl⟩; (simp; done)) | (focus (repeat' (first | exact True.intro | apply And.intro | rfl | exact Nat.le_of_ble_eq_true rfl)); done) | (simp [inR, Cont.cells]; done) | (simp [inR, Cont.cells]; omega)))
 | ((with_reducible apply If_dec) <;> intro hc <;> (try (exfalso; omega)))
 | ((with_reducible apply If_any) <;> intro hc)
 | ((with_reducible first | apply PF.mk | apply DrawP.mk); (focus kernel_rfl))
 | ((with_reducible apply Same.mk); (focus rfl); (first | exact trivial | exact rfl))
 | (intro cap hcap)
 | ((fail_if_success (with_reducible first | apply Fin.mk | apply CallP.mk | apply LoopP.mk | apply VC.mk | apply falseMk | apply Round.mk | apply LookP.mk | apply RangeP.mk | apply NextP.mk | apply EntryP.mk | apply Eq.symm)); conv => whnf))
  refine bytes_at (((DF.mk0 l1).tick m1).tick m2) 1 (by show l1.length ≤ _; omega) rfl ⟨rfl, trivial⟩ ?_
  intro l2 hl2
  have hl2 : l2 = l1 := hl2
  subst hl2
  have h7 : l2.getD 10755 0 = 7 := hbg 10755 (by omega) (by omega)
  have i7 : 0 + Int.toNat 10755 = 10755 := rfl
  repeat' (first
    | (with_reducible exact True.intro)
    | (with_reducible apply And.intro)
    | ((with_reducible apply VC.mk); (first | omega | (simp only [inR]; omega) | exact True.intro | (exact ⟨rfl, List.prefix_rfl⟩) | (refine ⟨rfl, rfl, rfl, ?_, rfl⟩; (simp; done)) | (focus (repeat' (first | exact True.intro | apply And.intro | rfl | exact Nat.le_of_ble_eq_true rfl)); done) | (simp [inR, Cont.cells]; done) | (simp [inR, Cont.cells]; omega)))
    | (with_reducible apply If_true)
    | (with_reducible apply If_false)
    | ((with_reducible apply If_dec) <;> intro hc <;> (try (exfalso; omega)))
    | (with_reducible apply If_not)
    | ((with_reducible apply If_any) <;> intro hc)
    | ((with_reducible apply PF.mk); (focus kernel_rfl))
    | ((with_reducible apply DrawP.mk); (focus kernel_rfl))
    | ((with_reducible apply Same.mk); (focus rfl); (first | exact trivial | exact rfl))
    | (intro cap hcap)
    | ((fail_if_success (with_reducible apply Fin.mk)); (fail_if_success (with_reducible apply CallP.mk)); (fail_if_success (with_reducible apply LoopP.mk)); (fail_if_success (with_reducible apply VC.mk)); (fail_if_success (with_reducible apply falseMk)); (fail_if_success (with_reducible apply Round.mk)); (fail_if_success (with_reducible apply LookP.mk)); (fail_if_success (with_reducible apply RangeP.mk)); (fail_if_success (with_reducible apply NextP.mk)); (fail_if_success (with_reducible apply EntryP.mk)); (fail_if_success (with_reducible apply Eq.symm)); conv => whnf))
  rotate_left
  · exfalso
    exact hc h7
  · exact absurd rfl hc
  obtain ⟨z, hz⟩ : ∃ z : List Int, z = List.replicate 512 0 := ⟨_, rfl⟩
  have hzl : z.length = 512 := by rw [hz]; exact List.length_replicate ..
  have okS : (((DF.mk0 l2).tick m1).tick m2).Ok (0 + m1 + m2) := ((DF.mk0_ok (by omega) 0 (Int.le_refl _)).tick m1).tick m2
  refine tcommit_at t1 jX (((DF.mk0 l2).tick m1).tick m2) (0 + m1 + m2) z 2 3 4 0 1 ⟨O1, ⟨by rw [hdir]; simp, fun q hq => ⟨(hin.keys q hq).1, by have := (hin.keys q hq).2.1; omega, (hin.keys q hq).2.2.2⟩⟩, by rw [F1]; simp [wrs, cost], jX_ok, okS, by omega, hz⟩ rfl rfl rfl rfl rfl rfl ⟨rfl, trivial⟩ ?_
  rintro ⟨e3, t3, j3, s3⟩ hr
  obtain ⟨rs, hrs⟩ : ∃ rs, RecRel t1 rs := by
    rcases hr with ⟨h, -⟩ | ⟨-, rs, h, -⟩
    · rw [V1] at h; cases h
    · exact ⟨rs, h⟩
  have hce := (tcommit_calm hr V1 ⟨rfl, rfl⟩ jX_ok (by show (512 : Int) + 10240 ≤ (l2.length : Int); omega) (by show l2.length ≤ _; omega) O1 hin hzl hrs).2 (by rw [one_rec hrs hdir (O1.sec _ (by rw [hdir]; exact List.mem_singleton.2 rfl))]; decide)
  obtain ⟨c1, c2, c3, c4, c5, c6, c7⟩ := hce
  dsimp only at c1 c2 c3 c4 c5 c6 ⊢
  subst c1 c2
  have hv : s3.now.getD 10755 0 = 97 := by
    have := c5 10755 (fun hj => by have : (512 : Int).toNat ≤ 10755 ∧ 10755 < (512 : Int).toNat + (10240 : Int).toNat := hj; omega)
    have e : t1.V l2 10755 = 97 := by rw [W1]; simp
    exact this.trans e
  have hlen : 11352 ≤ s3.now.length := by
    have h1 := lenR_ge rs (lenR t1.fresh l2.length)
    have h2 := lenR_ge t1.fresh l2.length
    have c6 : s3.now.length = lenR rs (lenR t1.fresh l2.length) := c6
    omega
  have hmax : s3.now.length ≤ 4194304 := by
    have c6 : s3.now.length = lenR rs (lenR t1.fresh l2.length) := c6
    rw [c6, F1]
    exact lenR_le _ _ _ (by show l2.length ≤ _; omega) (fun r hr => by have := hin.recs O1 jX_ok hrs r hr; have := this.1.1; omega)
  have okE := tcomRel_ok hr okS hzl (by show (10240 : Int) ≤ _; omega)
  clear hr c5 c6 c7
  repeat' (first
 | (with_reducible first | exact True.intro | apply And.intro | apply If_true | apply If_false | apply If_not)
 | ((with_reducible apply VC.mk); (first | trivial | omega | (simp only [inR]; omega) | (exact ⟨rfl, List.prefix_rfl⟩) | (refine ⟨rfl, rfl, rfl, ?_, rfl⟩; (simp; done)) | (focus (repeat' (first | exact True.intro | apply And.intro | rfl | exact Nat.le_of_ble_eq_true rfl)); done) | (simp [inR, Cont.cells]; done) | (simp [inR, Cont.cells]; omega)))
 | ((with_reducible apply If_dec) <;> intro hc <;> (try (exfalso; omega)))
 | ((with_reducible apply If_any) <;> intro hc)
 | ((with_reducible first | apply PF.mk | apply DrawP.mk); (focus kernel_rfl))
 | ((with_reducible apply Same.mk); (focus rfl); (first | exact trivial | exact rfl))
 | (intro cap hcap)
 | ((fail_if_success (with_reducible first | apply Fin.mk | apply CallP.mk | apply LoopP.mk | apply VC.mk | apply falseMk | apply Round.mk | apply LookP.mk | apply RangeP.mk | apply NextP.mk | apply EntryP.mk | apply Eq.symm)); conv => whnf))
  refine bytes_at s3 1 (by omega) rfl ⟨rfl, trivial⟩ ?_
  intro l3 hl3
  have hl3 : l3 = s3.now := hl3
  subst hl3
  repeat' (first
    | (with_reducible exact True.intro)
    | (with_reducible apply And.intro)
    | ((with_reducible apply VC.mk); (first | omega | (simp only [inR]; omega) | exact True.intro | (exact ⟨rfl, List.prefix_rfl⟩) | (refine ⟨rfl, rfl, rfl, ?_, rfl⟩; (simp; done)) | (focus (repeat' (first | exact True.intro | apply And.intro | rfl | exact Nat.le_of_ble_eq_true rfl)); done) | (simp [inR, Cont.cells]; done) | (simp [inR, Cont.cells]; omega)))
    | (with_reducible apply If_true)
    | (with_reducible apply If_false)
    | ((with_reducible apply If_dec) <;> intro hc <;> (try (exfalso; omega)))
    | (with_reducible apply If_not)
    | ((with_reducible apply If_any) <;> intro hc)
    | ((with_reducible apply PF.mk); (focus kernel_rfl))
    | ((with_reducible apply DrawP.mk); (focus kernel_rfl))
    | ((with_reducible apply Same.mk); (focus rfl); (first | exact trivial | exact rfl))
    | (intro cap hcap)
    | ((fail_if_success (with_reducible apply Fin.mk)); (fail_if_success (with_reducible apply CallP.mk)); (fail_if_success (with_reducible apply LoopP.mk)); (fail_if_success (with_reducible apply VC.mk)); (fail_if_success (with_reducible apply falseMk)); (fail_if_success (with_reducible apply Round.mk)); (fail_if_success (with_reducible apply LookP.mk)); (fail_if_success (with_reducible apply RangeP.mk)); (fail_if_success (with_reducible apply NextP.mk)); (fail_if_success (with_reducible apply EntryP.mk)); (fail_if_success (with_reducible apply Eq.symm)); conv => whnf))
  rotate_left
  · exact absurd hv hc
  refine tput_at t1.close j3 s3 0 [] 2 3 4 0 1 ⟨⟨O1.sec, O1.frs, O1.cap, O1.len⟩, c4, ⟨by simp [inR], by simp⟩, okE.ops.1, by have := okE.ops.2; rw [F1] at this; simp [wrs, cost] at this; omega, hmax⟩ rfl rfl rfl rfl rfl rfl ⟨rfl, rfl, ?_, trivial⟩ ?_
  · exact ⟨rfl, rfl⟩
  rintro ⟨e4, t4, m4⟩ hr
  rcases hr with ⟨-, h1, -, -⟩ | ⟨h, -⟩ | ⟨h, -⟩
  · have h1 : e4 = 6 := h1
    subst h1
    repeat' (first
 | (with_reducible first | exact True.intro | apply And.intro | apply If_true | apply If_false | apply If_not)
 | ((with_reducible apply VC.mk); (first | trivial | omega | (simp only [inR]; omega) | (exact ⟨rfl, List.prefix_rfl⟩) | (refine ⟨rfl, rfl, rfl, ?_, rfl⟩; (simp; done)) | (focus (repeat' (first | exact True.intro | apply And.intro | rfl | exact Nat.le_of_ble_eq_true rfl)); done) | (simp [inR, Cont.cells]; done) | (simp [inR, Cont.cells]; omega)))
 | ((with_reducible apply If_dec) <;> intro hc <;> (try (exfalso; omega)))
 | ((with_reducible apply If_any) <;> intro hc)
 | ((with_reducible first | apply PF.mk | apply DrawP.mk); (focus kernel_rfl))
 | ((with_reducible apply Same.mk); (focus rfl); (first | exact trivial | exact rfl))
 | (intro cap hcap)
 | ((fail_if_success (with_reducible first | apply Fin.mk | apply CallP.mk | apply LoopP.mk | apply VC.mk | apply falseMk | apply Round.mk | apply LookP.mk | apply RangeP.mk | apply NextP.mk | apply EntryP.mk | apply Eq.symm)); conv => whnf))
    exact Fin.bool rfl (hk () trivial)
  · cases h
  · cases h
def changedOk (x : Unit) : Prop := True
def changedRel (x : Unit) (r : Unit) : Prop := True
theorem changed_K : ConOk Go.Proofs.Try.prog 31 (Con.of (Unit) (Unit) (fun x => []) (fun _ => []) changedOk changedRel (fun _ r => .v (.bool true)) (fun _ _ => [])) := by
  refine conOk_rel (T := tab) mix Go.Proofs.Try.func31 (by decide +kernel) (by kernel_rfl) [] [] (fun n => by rw [Go.Proofs.Try.ntmps31]; exact Nat.le_of_ble_eq_true rfl) (fun x r _ _ => ⟨by simp [AV.noF, noFs, Cont.noF, recsC_noF], (fun c hc => by cases hc), Nat.le_refl _⟩) (fun x _ c hc => by cases hc) ?_
  intro x k h0 hk
  exact changed_c  k h0 (fun r hr => hk r hr)
theorem changed_at {avs : List AV} {H : List Chunk} {k : K}  (h0 : True) (ha : argsM H [] [] avs) (hQ : ∀ r : Unit, (True) → k (.v (.bool true)) H) : CallP Go.Proofs.Try.prog 31 avs H k :=
  CallP.mk ⟨_, changed_K.real, Con.spec changed_K, (), [], ⟨h0, rfl, trivial, ha⟩, fun r hr => (numK_eq H.length (fun N => k (AV.ren (fren [] N) (.v (.bool true))) (putAll H [] []))).mpr (by simpa [putAll, AV.ren, rens, Cont.ren, recsC, recAV] using hQ r hr)⟩
end Go.Proofs.Ytcfmlnddmpiemaa.Sx

