import Derived.Test.YtcfmlnddmpiemaaSxEc
import Derived.Test.YtcfmlnddmpiemaaSxU5
import Derived.Test.YtcfmlnddmpiemaaSxU4
set_option linter.unusedVariables false
set_option linter.unusedSimpArgs false
set_option maxRecDepth 10000
namespace Go.Proofs.Ytcfmlnddmpiemaa.Sx
open Go.RowKit Go.Proofs.Ytcfmlnddmpiemaa.Sx.Tb
/-! ### A tx's records -/
def rowsR (rr : List RecR) (dc : Nat) (i : Nat) : List AV := if i + 1 = rr.length then [.v (.int .i64 (rr.getD i (0, [])).1), .s 6 0 1 (rr.getD i (0, [])).2.length dc] else recAV true (rr.getD i (0, []))
def snocD (acc : List RecR) (x : List Int) : List RecR := acc.set (acc.length - 1) ((acc.getD (acc.length - 1) (0, [])).1, (acc.getD (acc.length - 1) (0, [])).2 ++ x)
def bldS (d : List (Int × List Int)) (ks : List Int) (acc : List RecR) (i : Nat) : List RecR :=
  if 0 < i ∧ ks.getD (i - 1) 0 = ks.getD i 0 - 1 then snocD acc ((lkS (ks.getD i 0) d).getD []) else acc ++ [(ks.getD i 0 * 512, (lkS (ks.getD i 0) d).getD [])]
def bldR (d : List (Int × List Int)) (ks : List Int) (m : Nat) : List RecR := (List.range m).foldl (bldS d ks) []
def RecRel (t : TR) (r : List RecR) : Prop := ∃ ks : List Int, ks.Perm (t.dirty.map (fun x => x.1)) ∧ ks.Pairwise (· ≤ ·) ∧ r = bldR t.dirty ks ks.length
def keyF (s : List Nat) (d : List (Int × List Int)) (b : Nat) : Int := (d.getD (s.idxOf b) (0, [])).1
theorem lkS_of_mem {n : Int} : ∀ {d : List (Int × List Int)}, n ∈ d.map (fun x => x.1) → ∃ l, lkS n d = some l
  | [], h => absurd h List.not_mem_nil
  | (a, v) :: r, h => by
    unfold lkS
    by_cases e : a = n
    · exact ⟨v, by rw [if_pos e]⟩
    · rw [if_neg e]
      refine lkS_of_mem (d := r) ?_
      rcases List.mem_cons.1 h with h | h
      · exact absurd h.symm e
      · exact h
theorem sub_len : ∀ {l s : List Nat}, l.Nodup → (∀ b ∈ l, b ∈ s) → l.length ≤ s.length
  | [], _, _, _ => Nat.zero_le _
  | a :: l, s, hn, h => by
    have hc := List.nodup_cons.1 hn
    have ha := h a (List.mem_cons_self ..)
    have i : l.length ≤ (s.erase a).length := sub_len hc.2 (fun b hb => (List.mem_erase_of_ne (fun e => hc.1 (by rw [← e]; exact hb))).2 (h b (List.mem_cons_of_mem _ hb)))
    rw [List.length_erase_of_mem ha] at i
    have : 0 < s.length := List.length_pos_of_mem ha
    simp only [List.length_cons]
    omega
theorem nodup_perm {l s : List Nat} (h1 : l.Nodup) (h2 : s.Nodup) (h : ∀ b, b ∈ l ↔ b ∈ s) : l.Perm s := by
  rw [List.perm_iff_count]
  intro a
  by_cases ha : a ∈ l
  · rw [h1.count, h2.count, if_pos ha, if_pos ((h a).1 ha)]
  · rw [List.count_eq_zero.2 ha, List.count_eq_zero.2 (fun q => ha ((h a).2 q))]
theorem keys_eq {sq : List Nat} {d : List (Int × List Int)} (hl : sq.length = d.length) (hn : sq.Nodup) : sq.map (keyF sq d) = d.map (fun x => x.1) := by
  apply List.ext_getElem (by simp [hl])
  intro i h1 h2
  have hi : i < sq.length := by simpa using h1
  rw [List.getElem_map, List.getElem_map]
  unfold keyF
  rw [hn.idxOf_getElem i hi, List.getD_eq_getElem?_getD, List.getElem?_eq_getElem (by omega)]
  rfl
theorem T5.leS {H : List Chunk} {fz : List Nat} {f : Nat → Nat} {ph : Nat → Bool} {t : TR} {j : JR} {s : DF} {st : List Nat × Nat} {a b c d e : Nat} {σ : List Nat} {cs : List Chunk} (f1 : f 1 = b) (f2 : f 2 = c) (f3 : f 3 = d) (f4 : f 4 = e) (h0 : nth H a = some (t.c0 d b c)) (h1 : nth H b = some (.mp (t.dirty.map (fun x => (x.1, AV.arr .u8 x.2))) (some st))) (h2 : nth H c = some t.c2) (h3 : nth H d = some (j.blk e)) (h4 : nth H e = some s.pk) (hz : memN a fz = false ∧ memN b fz = false ∧ memN c fz = false ∧ memN d fz = false ∧ memN e fz = false) (hx : chunksLe H fz f ph σ cs) : chunksLe H fz f ph (a :: b :: c :: d :: e :: σ) ([t.c0 3 1 2, .mp (t.dirty.map (fun x => (x.1, AV.arr .u8 x.2))) (some st), t.c2, j.blk 4, s.pk] ++ cs) := by
  refine ⟨?_, ?_, c2_le h2 hz.2.2.1, ?_, ?_, hx⟩
  · unfold Chunk.le TR.c0
    simp only
    rw [nth_lt h0, hz.1, h0]
    exact ⟨VC.mk ⟨rfl, rfl⟩, VC.mk ⟨f3, rfl, rfl, rfl⟩, VC.mk f1, VC.mk ⟨f2, rfl, rfl, rfl, rfl⟩, VC.mk rfl, trivial⟩
  · unfold Chunk.le
    simp only
    rw [nth_lt h1, hz.2.1, h1]
    exact ⟨VC.mk ⟨rfl, .inr rfl⟩, arr_les t.dirty⟩
  · unfold Chunk.le JR.blk
    simp only
    rw [nth_lt h3, hz.2.2.2.1, h3]
    exact ⟨VC.mk ⟨rfl, rfl⟩, VC.mk ⟨f4, rfl, rfl, rfl⟩, VC.mk rfl, VC.mk rfl, VC.mk rfl, trivial⟩
  · unfold Chunk.le DF.pk
    simp only
    rw [nth_lt h4, hz.2.2.2.2, h4]
    exact VC.mk ⟨rfl, rfl, rfl, rfl⟩
/-- From a map that is gone through back to a map. -/
theorem T5.leU {H : List Chunk} {fz : List Nat} {f : Nat → Nat} {ph : Nat → Bool} {t : TR} {j : JR} {s : DF} {st : Option (List Nat × Nat)} {a b c d e : Nat} {σ : List Nat} {cs : List Chunk} (f1 : f 1 = b) (f2 : f 2 = c) (f3 : f 3 = d) (f4 : f 4 = e) (h0 : nth H a = some (t.c0 d b c)) (h1 : nth H b = some (.mp (t.dirty.map (fun x => (x.1, AV.arr .u8 x.2))) st)) (h2 : nth H c = some t.c2) (h3 : nth H d = some (j.blk e)) (h4 : nth H e = some s.pk) (hz : memN a fz = false ∧ memN b fz = false ∧ memN c fz = false ∧ memN d fz = false ∧ memN e fz = false) (hx : chunksLe H fz f ph σ cs) : chunksLe H fz f ph (a :: b :: c :: d :: e :: σ) (tpre t j s ++ cs) := by
  refine ⟨?_, ?_, c2_le h2 hz.2.2.1, ?_, ?_, hx⟩
  · unfold Chunk.le TR.c0
    simp only
    rw [nth_lt h0, hz.1, h0]
    exact ⟨VC.mk ⟨rfl, rfl⟩, VC.mk ⟨f3, rfl, rfl, rfl⟩, VC.mk f1, VC.mk ⟨f2, rfl, rfl, rfl, rfl⟩, VC.mk rfl, trivial⟩
  · unfold Chunk.le TR.c1
    simp only
    rw [nth_lt h1, hz.2.1, h1]
    exact ⟨VC.mk ⟨rfl, .inl trivial⟩, arr_les t.dirty⟩
  · unfold Chunk.le JR.blk
    simp only
    rw [nth_lt h3, hz.2.2.2.1, h3]
    exact ⟨VC.mk ⟨rfl, rfl⟩, VC.mk ⟨f4, rfl, rfl, rfl⟩, VC.mk rfl, VC.mk rfl, VC.mk rfl, trivial⟩
  · unfold Chunk.le DF.pk
    simp only
    rw [nth_lt h4, hz.2.2.2.2, h4]
    exact VC.mk ⟨rfl, rfl, rfl, rfl⟩
set_option maxHeartbeats 16000000 in
theorem trecs_c (t : TR) (j : JR) (s : DF) (k : K) (h0 : t.Ok ∧ t.dirty.length ≤ 1073741824 ∧ ∀ q ∈ t.dirty, 0 ≤ q.1 ∧ q.1 ≤ 1073741824) (hk : ∀ r : List RecR, RecRel t r → k (.im true 2 r.length (recsC true r)) (tpre t j s)) : evFunc tab [] p66 Go.Proofs.Try.f66 [.p 0 0 1 0] (tpre t j s) k := by
  obtain ⟨h1, h2, hkb⟩ := h0
  repeat' (first
    | (with_reducible first | exact True.intro | apply And.intro | apply If_true | apply If_false | apply If_not)
    | ((with_reducible apply VC.mk); exact vt)
    | ((with_reducible apply If_dec) <;> intro hc <;> (try (exfalso; omega)))
    | ((with_reducible apply If_any) <;> intro hc)
    | ((with_reducible first | apply PF.mk | apply DrawP.mk); (focus kernel_rfl))
    | ((with_reducible apply Same.mk); (focus rfl); (first | exact trivial | exact rfl))
    | (intro cap hcap)
    | ((fail_if_success (with_reducible apply st)); conv => whnf))
  refine RangeP.mk (fun sq c sl sn sc => ?_)
  have sl : sq.length = t.dirty.length := by simpa using sl
  repeat' (first
    | (with_reducible first | exact True.intro | apply And.intro | apply If_true | apply If_false | apply If_not)
    | ((with_reducible apply VC.mk); exact vt)
    | ((with_reducible apply If_dec) <;> intro hc <;> (try (exfalso; omega)))
    | ((with_reducible apply If_any) <;> intro hc)
    | ((with_reducible first | apply PF.mk | apply DrawP.mk); (focus kernel_rfl))
    | ((with_reducible apply Same.mk); (focus rfl); (first | exact trivial | exact rfl))
    | (intro cap hcap)
    | ((fail_if_success (with_reducible apply st)); conv => whnf))
  refine LoopP.mk ⟨List Nat × Nat × List Int, fun y => y.1.Nodup ∧ (∀ b ∈ y.1, b ∈ sq) ∧ y.2.2 = y.1.map (keyF sq t.dirty), fun y => ([(0, .p 0 0 1 0), (3, .s 6 0 1 y.2.2.length y.2.1), (13, .p 5 0 1 0)], [t.c0 3 1 2, .mp (t.dirty.map (fun x => (x.1, AV.arr .u8 x.2))) (some (sq, c)), t.c2, j.blk 4, s.pk] ++ [.it 1 c c y.1, .blk 2 (.ints .i64 y.2.2) y.2.1]), fun y => sq.length - y.1.length, ([], 0, []), ⟨List.nodup_nil, fun b hb => absurd hb List.not_mem_nil, rfl⟩, Fit.ren [0, 1, 2, 3, 4, 5, 6] [] rfl rfl trivial ?_ ?_, ?_⟩
  · refine T5.leS rfl rfl rfl rfl rfl rfl rfl rfl rfl ⟨rfl, rfl, rfl, rfl, rfl⟩ ⟨VC.mk ⟨rfl, rfl, rfl, rfl⟩, ?_, trivial⟩
    exact ⟨VC.mk rfl, VC.mk rfl⟩
  · repeat' (first
    | (with_reducible first | exact True.intro | apply And.intro | apply If_true | apply If_false | apply If_not)
    | ((with_reducible apply VC.mk); exact vt)
    | ((with_reducible apply If_dec) <;> intro hc <;> (try (exfalso; omega)))
    | ((with_reducible apply If_any) <;> intro hc)
    | ((with_reducible first | apply PF.mk | apply DrawP.mk); (focus kernel_rfl))
    | ((with_reducible apply Same.mk); (focus rfl); (first | exact trivial | exact rfl))
    | (intro cap hcap)
    | ((fail_if_success (with_reducible apply st)); conv => whnf))
  · intro y hy
    obtain ⟨g1, g2, g3⟩ := hy
    have gl : y.2.2.length = y.1.length := by rw [g3, List.length_map]
    have gle : y.1.length ≤ sq.length := sub_len g1 g2
    repeat' (first
    | (with_reducible first | exact True.intro | apply And.intro | apply If_true | apply If_false | apply If_not)
    | ((with_reducible apply VC.mk); exact vt)
    | ((with_reducible apply If_dec) <;> intro hc <;> (try (exfalso; omega)))
    | ((with_reducible apply If_any) <;> intro hc)
    | ((with_reducible first | apply PF.mk | apply DrawP.mk); (focus kernel_rfl))
    | ((with_reducible apply Same.mk); (focus rfl); (first | exact trivial | exact rfl))
    | (intro cap hcap)
    | ((fail_if_success (with_reducible apply st)); conv => whnf))
    refine NextP.mk (fun b hb hnb => ?_) (fun hall => ?_)
    · have glt : y.1.length < sq.length := by
        have : (b :: y.1).length ≤ sq.length := sub_len (List.nodup_cons.2 ⟨hnb, g1⟩) (fun q hq => by rcases List.mem_cons.1 hq with rfl | hq; exact hb; exact g2 q hq)
        rw [List.length_cons] at this
        omega
      repeat' (first
    | (with_reducible first | exact True.intro | apply And.intro | apply If_true | apply If_false | apply If_not)
    | ((with_reducible apply VC.mk); exact vt)
    | ((with_reducible apply If_dec) <;> intro hc <;> (try (exfalso; omega)))
    | ((with_reducible apply If_any) <;> intro hc)
    | ((with_reducible first | apply PF.mk | apply DrawP.mk); (focus kernel_rfl))
    | ((with_reducible apply Same.mk); (focus rfl); (first | exact trivial | exact rfl))
    | (intro cap hcap)
    | ((fail_if_success (with_reducible apply st)); conv => whnf))
      refine EntryP.mk ⟨b, by simp, hb⟩ (fun q b' ka v e1 e2 e3 => ?_)
      have hbb : b = b' := by simpa using e1
      subst hbb
      have hka : ka = keyF sq t.dirty b := by
        rw [List.getElem?_map] at e3
        unfold keyF
        have hq : q < sq.length := (List.getElem?_eq_some_iff.1 e2).1
        have hi : sq.idxOf b = q := by
          have := sn.idxOf_getElem q hq
          rw [(List.getElem?_eq_some_iff.1 e2).2] at this
          exact this
        rw [hi, List.getD_eq_getElem?_getD]
        cases hdq : t.dirty[q]? with
        | none => rw [hdq] at e3; cases e3
        | some z => rw [hdq] at e3; cases e3; rfl
      repeat' (first
    | (with_reducible first | exact True.intro | apply And.intro | apply If_true | apply If_false | apply If_not)
    | ((with_reducible apply VC.mk); exact vt)
    | ((with_reducible apply If_dec) <;> intro hc <;> (try (exfalso; omega)))
    | ((with_reducible apply If_any) <;> intro hc)
    | ((with_reducible first | apply PF.mk | apply DrawP.mk); (focus kernel_rfl))
    | ((with_reducible apply Same.mk); (focus rfl); (first | exact trivial | exact rfl))
    | (intro cap hcap)
    | ((fail_if_success (with_reducible apply st)); conv => whnf))
      refine Round.mk ⟨(y.1 ++ [b], cap, y.2.2 ++ [ka]), ⟨?_, ?_, ?_⟩, by show sq.length - (y.1 ++ [b]).length < sq.length - y.1.length; rw [List.length_append]; simp only [List.length_cons, List.length_nil]; omega, Fit.ren [0, 1, 2, 3, 4, 5, 8] [] rfl rfl trivial (T5.leS rfl rfl rfl rfl rfl rfl rfl rfl rfl ⟨rfl, rfl, rfl, rfl, rfl⟩ ⟨VC.mk ⟨rfl, rfl, rfl, rfl⟩, ?_, trivial⟩) ?_⟩
      · show (y.1 ++ [b]).Nodup
        rw [List.nodup_append]
        exact ⟨g1, by simp, fun a ha q hq => by simp at hq; subst hq; exact fun e => hnb (e ▸ ha)⟩
      · intro q hq
        rcases List.mem_append.1 hq with hq | hq
        · exact g2 q hq
        · simp at hq; subst hq; exact hb
      · show y.2.2 ++ [ka] = _
        rw [g3, hka, List.map_append]; rfl
      · exact ⟨VC.mk ⟨rfl, Nat.mul_one _⟩, VC.mk ⟨rfl, List.prefix_refl _⟩⟩
      · repeat' (first
    | (with_reducible first | exact True.intro | apply And.intro | apply If_true | apply If_false | apply If_not)
    | ((with_reducible apply VC.mk); exact vt)
    | ((with_reducible apply If_dec) <;> intro hc <;> (try (exfalso; omega)))
    | ((with_reducible apply If_any) <;> intro hc)
    | ((with_reducible first | apply PF.mk | apply DrawP.mk); (focus kernel_rfl))
    | ((with_reducible apply Same.mk); (focus rfl); (first | exact trivial | exact rfl))
    | (intro cap hcap)
    | ((fail_if_success (with_reducible apply st)); conv => whnf))
    · repeat' (first
    | (with_reducible first | exact True.intro | apply And.intro | apply If_true | apply If_false | apply If_not)
    | ((with_reducible apply VC.mk); exact vt)
    | ((with_reducible apply If_dec) <;> intro hc <;> (try (exfalso; omega)))
    | ((with_reducible apply If_any) <;> intro hc)
    | ((with_reducible first | apply PF.mk | apply DrawP.mk); (focus kernel_rfl))
    | ((with_reducible apply Same.mk); (focus rfl); (first | exact trivial | exact rfl))
    | (intro cap hcap)
    | ((fail_if_success (with_reducible apply st)); conv => whnf))
      have hp : y.2.2.Perm (t.dirty.map (fun x => x.1)) := by
        rw [g3, ← keys_eq sl sn]
        exact List.Perm.map _ (nodup_perm g1 sn (fun b => ⟨g2 b, hall b⟩))
      refine sort_at y.2.2 y.2.1 6 (by omega) rfl ⟨rfl, trivial⟩ ?_
      intro ks hks
      have hkl : ks.length = y.2.2.length := by rw [hks]; exact List.length_mergeSort ..
      have hk1 : ks.Perm (t.dirty.map (fun x => x.1)) := by rw [hks]; exact (List.mergeSort_perm _ _).trans hp
      have hk2 : ks.Pairwise (· ≤ ·) := by
        rw [hks]
        have := List.pairwise_mergeSort (le := fun a b : Int => decide (a ≤ b)) (fun a b c h1 h2 => by simp at *; omega) (fun a b => by simp; omega) y.2.2
        simpa using this
      have hkr := hk (bldR t.dirty ks ks.length) ⟨ks, hk1, hk2, rfl⟩
      rw [← hkl]
      repeat' (first
    | (with_reducible first | exact True.intro | apply And.intro | apply If_true | apply If_false | apply If_not)
    | ((with_reducible apply VC.mk); exact vt)
    | ((with_reducible apply If_dec) <;> intro hc <;> (try (exfalso; omega)))
    | ((with_reducible apply If_any) <;> intro hc)
    | ((with_reducible first | apply PF.mk | apply DrawP.mk); (focus kernel_rfl))
    | ((with_reducible apply Same.mk); (focus rfl); (first | exact trivial | exact rfl))
    | (intro cap hcap)
    | ((fail_if_success (with_reducible apply st)); conv => whnf))
      refine LoopP.mk ⟨Nat × Nat × Nat × List RecR, fun z => z.1 ≤ ks.length ∧ z.2.2.2 = bldR t.dirty ks z.1 ∧ z.2.2.2.length ≤ z.1 ∧ (0 < z.1 → 0 < z.2.2.2.length) ∧ (z.2.2.2.getD (z.2.2.2.length - 1) (0, [])).2.length ≤ 512 * z.1, fun z => ([(0, .p 0 0 1 0), (3, .im true 1 ks.length (.ints .i64 ks)), (5, .s 5 0 2 z.2.2.2.length z.2.1), (24, .im true 1 ks.length (.ints .i64 ks)), (25, .v (.int .i64 (ks.length : Int))), (26, .v (.int .i64 (z.1 : Int)))], tpre t j s ++ [.blk 138 (.recs 2 z.2.2.2.length (rowsR z.2.2.2 z.2.2.1)) (z.2.1 * 2), .blk 5 (.ints .u8 (z.2.2.2.getD (z.2.2.2.length - 1) (0, [])).2) z.2.2.1]), fun z => ks.length - z.1, (0, 0, 0, []), ⟨Nat.zero_le _, rfl, Nat.le_refl _, fun h => absurd h (Nat.lt_irrefl _), Nat.le_refl _⟩, Fit.ren [0, 1, 2, 3, 4, 7, 8] [6] rfl rfl ⟨trivial, trivial⟩ ?_ ?_, ?_⟩
      · refine T5.leU rfl rfl rfl rfl rfl rfl rfl rfl rfl ⟨rfl, rfl, rfl, rfl, rfl⟩ ⟨?_, ?_, trivial⟩
        · exact ⟨VC.mk rfl, VC.mk rfl⟩
        · exact ⟨VC.mk rfl, VC.mk rfl⟩
      · repeat' (first
    | (with_reducible first | exact True.intro | apply And.intro | apply If_true | apply If_false | apply If_not)
    | ((with_reducible apply VC.mk); exact vt)
    | ((with_reducible apply If_dec) <;> intro hc <;> (try (exfalso; omega)))
    | ((with_reducible apply If_any) <;> intro hc)
    | ((with_reducible first | apply PF.mk | apply DrawP.mk); (focus kernel_rfl))
    | ((with_reducible apply Same.mk); (focus rfl); (first | exact trivial | exact rfl))
    | (intro cap hcap)
    | ((fail_if_success (with_reducible apply st)); conv => whnf))
        all_goals exact VC.mk ⟨rfl, by simp [List.take_of_length_le, hkl]⟩
      · intro z hz
        obtain ⟨m1, m2, m3, m4, m5⟩ := hz
        have ez : ((z.1 : Nat) : Int).toNat = z.1 := Int.toNat_natCast _
        have kll : ks.length ≤ 1073741824 := by rw [hkl, gl]; omega
        repeat' (first
    | (with_reducible first | exact True.intro | apply And.intro | apply If_true | apply If_false | apply If_not)
    | ((with_reducible apply VC.mk); exact vt)
    | ((with_reducible apply If_dec) <;> intro hc <;> (try (exfalso; omega)))
    | ((with_reducible apply If_any) <;> intro hc)
    | ((with_reducible first | apply PF.mk | apply DrawP.mk); (focus kernel_rfl))
    | ((with_reducible apply Same.mk); (focus rfl); (first | exact trivial | exact rfl))
    | (intro cap hcap)
    | ((fail_if_success (with_reducible apply st)); conv => whnf))
        · refine LookP.mk (fun v hv => ?_) (fun hn => ?_)
          rotate_left
          · exfalso
            rw [lkm_map] at hn
            have hm : ks.getD z.1 0 ∈ t.dirty.map (fun x => x.1) := by
              refine hk1.subset ?_
              rw [show ks.getD z.1 0 = ks[z.1]'(by omega) by simp [List.getD_eq_getElem?_getD, show z.1 < ks.length by omega]]
              exact List.getElem_mem _
            obtain ⟨l, hl⟩ := lkS_of_mem hm
            rw [ez, hl] at hn
            cases hn
          rw [lkm_map] at hv
          obtain ⟨x, hx, rfl⟩ : ∃ x, lkS (ks.getD ((z.1 : Nat) : Int).toNat 0) t.dirty = some x ∧ AV.arr .u8 x = v := by
            cases hq : lkS (ks.getD ((z.1 : Nat) : Int).toNat 0) t.dirty with
            | none => rw [hq] at hv; cases hv
            | some x => rw [hq] at hv; exact ⟨x, rfl, by simpa using hv⟩
          have hxl : x.length = 512 := h1.sec _ (lkS_mem hx)
          obtain ⟨n, hn⟩ : ∃ n, n = ks.getD ((z.1 : Nat) : Int).toNat 0 := ⟨_, rfl⟩
          rw [← hn] at hx ⊢
          have hnb := hkb _ (lkS_mem hx)
          dsimp only at hnb
          obtain ⟨G, hGd⟩ : ∃ G, G = rowsR z.2.2.2 z.2.2.1 := ⟨_, rfl⟩
          rw [← hGd]
          by_cases hB : 0 < (z.1 : Int) ∧ ks.getD ((z.1 : Int) - 1).toNat 0 = n - 1
          · have hlen : 0 < z.2.2.2.length := m4 (by omega)
            have hidx : 0 + ((z.2.2.2.length : Int) - 1).toNat = z.2.2.2.length - 1 := by omega
            have hG : G (0 + ((z.2.2.2.length : Int) - 1).toNat) = [.v (.int .i64 (z.2.2.2.getD (z.2.2.2.length - 1) (0, [])).1), .s 6 0 1 (z.2.2.2.getD (z.2.2.2.length - 1) (0, [])).2.length z.2.2.1] := by
              rw [hidx, hGd]; unfold rowsR; rw [if_pos (by omega)]
            have hAt : (Cont.recs 2 z.2.2.2.length G).at (0 + ((z.2.2.2.length : Int) - 1).toNat) 2 (0 + 1) = some (0 + ((z.2.2.2.length : Int) - 1).toNat < z.2.2.2.length, .s 6 0 1 (z.2.2.2.getD (z.2.2.2.length - 1) (0, [])).2.length z.2.2.1) := by
              show (match nth (G (0 + ((z.2.2.2.length : Int) - 1).toNat)) 1 with | some x => some (0 + ((z.2.2.2.length : Int) - 1).toNat < z.2.2.2.length, x) | none => none) = _
              rw [hG]; rfl
            obtain ⟨la, hla⟩ : ∃ la, la = z.2.2.2.getD (z.2.2.2.length - 1) (0, []) := ⟨_, rfl⟩
            have hbl : bldR t.dirty ks (z.1 + 1) = snocD z.2.2.2 x := by
              unfold bldR
              rw [List.range_succ, List.foldl_append, m2]
              show bldS t.dirty ks (bldR t.dirty ks z.1) z.1 = _
              unfold bldS
              rw [ez] at hn
              have h2 := hB.2
              rw [show ((z.1 : Int) - 1).toNat = z.1 - 1 by omega] at h2
              rw [if_pos ⟨by omega, by rw [← hn]; exact h2⟩, ← hn, hx]
              rfl
            have sl1 : (snocD z.2.2.2 x).length = z.2.2.2.length := by unfold snocD; rw [List.length_set]
            have sla : (snocD z.2.2.2 x).getD (z.2.2.2.length - 1) (0, []) = (la.1, la.2 ++ x) := by
              unfold snocD
              rw [List.getD_eq_getElem?_getD, List.getElem?_set_self (by omega), ← hla]; rfl
            have slo : ∀ q, q + 1 ≠ z.2.2.2.length → (snocD z.2.2.2 x).getD q (0, []) = z.2.2.2.getD q (0, []) := by
              intro q hq
              unfold snocD
              rw [List.getD_eq_getElem?_getD, List.getElem?_set_ne (by omega), List.getD_eq_getElem?_getD]
            rw [← hla] at hG hAt m5 ⊢
            repeat' (first
    | (with_reducible first | exact True.intro | apply And.intro | apply If_true | apply If_false | apply If_not)
    | ((with_reducible apply VC.mk); exact vt)
    | ((with_reducible apply If_dec) <;> intro hc <;> (try (exfalso; omega)))
    | ((with_reducible apply If_any) <;> intro hc)
    | ((with_reducible first | apply PF.mk | apply DrawP.mk); (focus kernel_rfl))
    | ((with_reducible apply Same.mk); (focus rfl); (first | exact trivial | exact rfl))
    | (intro cap hcap)
    | (rw [hAt])
    | ((fail_if_success (with_reducible apply st)); conv => whnf))
            refine Round.mk ⟨(z.1 + 1, z.2.1, cap, snocD z.2.2.2 x), ⟨by show z.1 + 1 ≤ _; omega, hbl.symm, by show (snocD z.2.2.2 x).length ≤ z.1 + 1; omega, fun _ => by show 0 < (snocD z.2.2.2 x).length; omega, by
              show ((snocD z.2.2.2 x).getD ((snocD z.2.2.2 x).length - 1) (0, [])).2.length ≤ 512 * (z.1 + 1)
              rw [sl1, sla, List.length_append]; omega⟩, by show ks.length - (z.1 + 1) < ks.length - z.1; omega, Fit.ren [0, 1, 2, 3, 4, 5, 8] [] rfl rfl trivial (T5.leU rfl rfl rfl rfl rfl rfl rfl rfl rfl ⟨rfl, rfl, rfl, rfl, rfl⟩ ⟨⟨VC.mk ⟨rfl, rfl⟩, VC.mk ⟨rfl, ?_⟩, ?_⟩, ?_, trivial⟩) ?_⟩
            · show (snocD z.2.2.2 x).length ≤ _
              rw [sl1]; exact Nat.le_refl _
            · show ∀ q, q < (snocD z.2.2.2 x).length → les _ _ _ _ (rowsR (snocD z.2.2.2 x) cap q) _
              intro q hq
              by_cases hq3 : q + 1 = z.2.2.2.length
              · have hqi : q = 0 + ((z.2.2.2.length : Int) - 1).toNat := by omega
                simp only [if_pos hqi, hG]
                unfold rowsR
                rw [if_pos (by rw [sl1]; exact hq3), show q = z.2.2.2.length - 1 by omega, sla]
                exact ⟨VC.mk rfl, VC.mk ⟨rfl, rfl, rfl, by show la.2.length + (512 - Int.toNat 0) = (la.2 ++ x).length; rw [List.length_append, hxl]; rfl, rfl⟩, trivial⟩
              · have hqi : ¬ q = 0 + ((z.2.2.2.length : Int) - 1).toNat := by omega
                have e1 : rowsR (snocD z.2.2.2 x) cap q = recAV true (z.2.2.2.getD q (0, [])) := by
                  unfold rowsR; rw [if_neg (by rw [sl1]; exact hq3), slo q hq3]
                have e3 : G q = recAV true (z.2.2.2.getD q (0, [])) := by
                  rw [hGd]; unfold rowsR; rw [if_neg hq3]
                rw [e1]
                simp only [if_neg hqi]
                rw [e3]
                exact recs_les _
            · refine ⟨VC.mk ⟨rfl, Nat.mul_one _⟩, VC.mk ⟨rfl, ?_⟩⟩
              show ((snocD z.2.2.2 x).getD ((snocD z.2.2.2 x).length - 1) (0, [])).2 <+: _
              rw [sl1, sla]
              have e2 : List.take (512 - Int.toNat 0) (List.drop (Int.toNat 0) x) = x := by
                rw [show Int.toNat 0 = 0 from rfl, List.drop_zero]; exact List.take_of_length_le (by omega)
              rw [e2]
              exact List.prefix_refl _
            · repeat' (first
    | (with_reducible first | exact True.intro | apply And.intro | apply If_true | apply If_false | apply If_not)
    | ((with_reducible apply VC.mk); exact vt)
    | ((with_reducible apply If_dec) <;> intro hc <;> (try (exfalso; omega)))
    | ((with_reducible apply If_any) <;> intro hc)
    | ((with_reducible first | apply PF.mk | apply DrawP.mk); (focus kernel_rfl))
    | ((with_reducible apply Same.mk); (focus rfl); (first | exact trivial | exact rfl))
    | (intro cap hcap)
    | ((fail_if_success (with_reducible apply st)); conv => whnf))
              exact VC.mk ⟨rfl, rfl, rfl, sl1.symm, rfl⟩
          · have hbl : bldR t.dirty ks (z.1 + 1) = z.2.2.2 ++ [(n * 512, x)] := by
              unfold bldR
              rw [List.range_succ, List.foldl_append, m2]
              show bldS t.dirty ks (bldR t.dirty ks z.1) z.1 = _
              unfold bldS
              rw [ez] at hn
              rw [if_neg (by rw [← hn]; intro h; apply hB; refine ⟨by omega, ?_⟩; rw [show ((z.1 : Int) - 1).toNat = z.1 - 1 by omega]; exact h.2), ← hn, hx]
              rfl
            have lastB : (z.2.2.2 ++ [(n * 512, x)]).getD ((z.2.2.2 ++ [(n * 512, x)]).length - 1) (0, []) = (n * 512, x) := by
              rw [List.length_append, List.getD_eq_getElem?_getD, List.getElem?_append_right (by simp)]
              simp
            repeat' (first
    | (with_reducible first | exact True.intro | apply And.intro | apply If_true | apply If_false | apply If_not)
    | ((with_reducible apply VC.mk); exact vt)
    | ((with_reducible apply If_dec) <;> intro hc <;> (try (exfalso; omega)))
    | ((with_reducible apply If_any) <;> intro hc)
    | ((with_reducible first | apply PF.mk | apply DrawP.mk); (focus kernel_rfl))
    | ((with_reducible apply Same.mk); (focus rfl); (first | exact trivial | exact rfl))
    | (intro cap hcap)
    | ((fail_if_success (with_reducible apply st)); conv => whnf))
            all_goals rename_i dcap hdcap
            all_goals (
              refine Round.mk ⟨(z.1 + 1, cap, dcap, z.2.2.2 ++ [(n * 512, x)]), ⟨by show z.1 + 1 ≤ _; omega, hbl.symm, by show (z.2.2.2 ++ [(n * 512, x)]).length ≤ z.1 + 1; simp; omega, fun _ => by show 0 < (z.2.2.2 ++ [(n * 512, x)]).length; simp, by
              show ((z.2.2.2 ++ [(n * 512, x)]).getD ((z.2.2.2 ++ [(n * 512, x)]).length - 1) (0, [])).2.length ≤ 512 * (z.1 + 1)
              rw [lastB]; show x.length ≤ _; omega⟩, by show ks.length - (z.1 + 1) < ks.length - z.1; omega, Fit.ren [0, 1, 2, 3, 4, 10, 8] [6] rfl rfl ⟨trivial, trivial⟩ (T5.leU rfl rfl rfl rfl rfl rfl rfl rfl rfl ⟨rfl, rfl, rfl, rfl, rfl⟩ ⟨⟨VC.mk ⟨rfl, rfl⟩, VC.mk ⟨rfl, ?_⟩, ?_⟩, ?_, trivial⟩) ?_⟩
              · show (z.2.2.2 ++ [(n * 512, x)]).length ≤ _; simp
              · show ∀ q, q < (z.2.2.2 ++ [(n * 512, x)]).length → les _ _ _ _ (rowsR (z.2.2.2 ++ [(n * 512, x)]) dcap q) _
                intro q hq
                have hl2 : (z.2.2.2 ++ [(n * 512, x)]).length = z.2.2.2.length + 1 := by simp
                by_cases hq2 : q < z.2.2.2.length
                · have e1 : rowsR (z.2.2.2 ++ [(n * 512, x)]) dcap q = recAV true (z.2.2.2.getD q (0, [])) := by
                    unfold rowsR
                    rw [if_neg (by omega), List.getD_eq_getElem?_getD, List.getElem?_append_left hq2, ← List.getD_eq_getElem?_getD]
                  rw [e1]
                  simp only [if_pos hq2]
                  rw [hGd]
                  by_cases hq3 : q + 1 = z.2.2.2.length
                  · unfold rowsR
                    rw [if_pos hq3]
                    have eq4 : z.2.2.2.length - 1 = q := by omega
                    refine ⟨VC.mk rfl, ⟨VC.mk ⟨?_, rfl, rfl, rfl, Nat.one_pos⟩, VC.mk ⟨rfl, ?_⟩⟩, trivial⟩
                    · rw [eq4]; omega
                    · rw [eq4]; simp
                  · unfold rowsR
                    rw [if_neg hq3]
                    exact recs_les _
                · have hq4 : q = z.2.2.2.length := by omega
                  subst hq4
                  have e1 : rowsR (z.2.2.2 ++ [(n * 512, x)]) dcap z.2.2.2.length = [.v (.int .i64 (n * 512)), .s 6 0 1 x.length dcap] := by
                    unfold rowsR
                    rw [if_pos hl2.symm, List.getD_eq_getElem?_getD, List.getElem?_append_right (Nat.le_refl _)]
                    simp
                  rw [e1]
                  simp only [Nat.lt_irrefl, if_false]
                  exact ⟨VC.mk rfl, VC.mk ⟨rfl, rfl, rfl, by rw [hxl]; rfl, rfl⟩, trivial⟩
              · refine ⟨VC.mk ⟨rfl, Nat.mul_one _⟩, VC.mk ⟨rfl, ?_⟩⟩
                have e1 : (z.2.2.2 ++ [(n * 512, x)]).getD ((z.2.2.2 ++ [(n * 512, x)]).length - 1) (0, []) = (n * 512, x) := by
                  rw [List.length_append, List.getD_eq_getElem?_getD, List.getElem?_append_right (by simp)]
                  simp
                show ((z.2.2.2 ++ [(n * 512, x)]).getD ((z.2.2.2 ++ [(n * 512, x)]).length - 1) (0, [])).2 <+: _
                rw [e1]
                have e2 : List.take (512 - Int.toNat 0) (List.drop (Int.toNat 0) x) = x := by
                  rw [show Int.toNat 0 = 0 from rfl, List.drop_zero]; exact List.take_of_length_le (by omega)
                rw [e2]
                exact List.prefix_refl _
              · repeat' (first
    | (with_reducible first | exact True.intro | apply And.intro | apply If_true | apply If_false | apply If_not)
    | ((with_reducible apply VC.mk); exact vt)
    | ((with_reducible apply If_dec) <;> intro hc <;> (try (exfalso; omega)))
    | ((with_reducible apply If_any) <;> intro hc)
    | ((with_reducible first | apply PF.mk | apply DrawP.mk); (focus kernel_rfl))
    | ((with_reducible apply Same.mk); (focus rfl); (first | exact trivial | exact rfl))
    | (intro cap hcap)
    | ((fail_if_success (with_reducible apply st)); conv => whnf)))
        · rw [show z.1 = ks.length by omega] at m2
          rw [← m2] at hkr
          refine Fin.ren [0, 1, 2, 3, 4] [5, 6] (.im true 2 z.2.2.2.length (recsC true z.2.2.2)) (tpre t j s) rfl rfl ⟨trivial, trivial, trivial⟩ ?_ ⟨VC.mk ⟨?_, rfl, rfl, rfl, by decide⟩, VC.mk ⟨rfl, rfl⟩, fun q hq => ?_⟩ hkr
          · exact T5.leU (cs := []) rfl rfl rfl rfl rfl rfl rfl rfl rfl ⟨rfl, rfl, rfl, rfl, rfl⟩ trivial
          · omega
          · simp only [Nat.zero_add]
            unfold rowsR
            by_cases hq3 : q + 1 = z.2.2.2.length
            · rw [if_pos hq3]
              have eq4 : z.2.2.2.length - 1 = q := by omega
              refine ⟨VC.mk rfl, ⟨VC.mk ⟨?_, rfl, rfl, rfl, Nat.one_pos⟩, VC.mk ⟨rfl, ?_⟩⟩, trivial⟩
              · rw [eq4]; omega
              · rw [eq4]; simp
            · rw [if_neg hq3]
              exact recs_les _
theorem recsC_ren (rs : List RecR) (f : Nat → Nat) : (recsC true rs).ren f = recsC true rs := rfl
attribute [local simp] recsC_noF recsC_ren
def trecsOk (x : TR × JR × DF) : Prop := x.1.Ok ∧ x.1.dirty.length ≤ 1073741824 ∧ ∀ q ∈ x.1.dirty, 0 ≤ q.1 ∧ q.1 ≤ 1073741824
def trecsRel (x : TR × JR × DF) (r : List RecR) : Prop := RecRel x.1 r
theorem trecs_K : ConOk Go.Proofs.Try.prog 66 (Con.of (TR × JR × DF) (List RecR) (fun x => [.p 0 0 1 0]) (fun x => tpre x.1 x.2.1 x.2.2) trecsOk trecsRel (fun x r => .im true 2 r.length (recsC true r)) (fun x r => tpre (x.1) (x.2.1) (x.2.2))) := by
  refine conOk_rel (T := tab) mix Go.Proofs.Try.func66 (by decide +kernel) (by kernel_rfl) [] p66 (fun n => by rw [Go.Proofs.Try.ntmps66]; exact Nat.le_of_ble_eq_true rfl) (fun x r _ _ => T5.good (by simp [AV.noF, noFs, Cont.noF])) (fun x _ => T5.nd) ?_
  intro x k h0 hk
  exact trecs_c x.1 x.2.1 x.2.2 k h0 (fun r hr => hk r hr)
theorem trecs_at {avs : List AV} {H : List Chunk} {k : K} (t : TR) (j : JR) (s : DF) (ta tb tc td te : Nat) (h0 : t.Ok ∧ t.dirty.length ≤ 1073741824 ∧ ∀ q ∈ t.dirty, 0 ≤ q.1 ∧ q.1 ≤ 1073741824) (hn : nodupN [ta, tb, tc, td, te] = true) (ha0 : nth H ta = some (t.c0 td tb tc)) (hb0 : nth H tb = some t.c1) (hc0 : nth H tc = some t.c2) (hd0 : nth H td = some (j.blk te)) (he0 : nth H te = some s.pk) (ha : argsM H [ta, tb, tc, td, te] [.p 0 0 1 0] avs)
    (hQ : ∀ r : List RecR, (RecRel t r) → k (.im true 2 r.length (recsC true r)) (((((H.set ta (TR.c0 (t) td tb tc)).set tb (TR.c1 (t))).set tc (TR.c2 (t))).set td (JR.blk (j) te)).set te (DF.pk (s)))) : CallP Go.Proofs.Try.prog 66 avs H k :=
  CallP.mk ⟨_, trecs_K.real, Con.spec trecs_K, (t, j, s), [ta, tb, tc, td, te], ⟨h0, hn, ⟨ha0, hb0.trans (congrArg some (TR.c1_ren t _).symm), hc0, hd0, he0, trivial⟩, ha⟩, fun r hr => (numK_eq _ _).mpr (by simpa [tpre, putAll, TR.c0_ren, TR.c1_ren, TR.c2_ren, JR.blk_ren, DF.pk_ren, AV.ren, rens, Cont.ren, fren, nth] using hQ r hr)⟩
end Go.Proofs.Ytcfmlnddmpiemaa.Sx


set_option maxRecDepth 10000
namespace Go.Proofs.Ytcfmlnddmpiemaa.Sx
/-! ### A tx's records, plain: how many and how large -/
theorem encL_cons (r : RecR) (rs : List RecR) : (encL (r :: rs)).length = 12 + r.2.length + (encL rs).length := by
  show (enc1 r ++ encL rs).length = _
  rw [List.length_append, enc1_length]
theorem encL_set (x : List Int) : ∀ (acc : List RecR) (i : Nat), i < acc.length → (encL (acc.set i ((acc.getD i (0, [])).1, (acc.getD i (0, [])).2 ++ x))).length = (encL acc).length + x.length
  | [], i, h => absurd h (Nat.not_lt_zero _)
  | a :: rs, 0, h => by
    show (encL ((a.1, a.2 ++ x) :: rs)).length = _
    rw [encL_cons, encL_cons]
    show 12 + (a.2 ++ x).length + _ = _
    rw [List.length_append]
    omega
  | a :: rs, i + 1, h => by
    show (encL (a :: rs.set i ((rs.getD i (0, [])).1, (rs.getD i (0, [])).2 ++ x))).length = _
    rw [encL_cons, encL_cons, encL_set x rs i (by simpa using h)]
    omega
theorem encL_append (a b : List RecR) : (encL (a ++ b)).length = (encL a).length + (encL b).length := by
  unfold encL; rw [List.flatMap_append, List.length_append]
def RecB (B : Int) (m : Nat) (rs : List RecR) : Prop := rs.length ≤ m ∧ (encL rs).length ≤ 524 * m ∧ ∀ r ∈ rs, 0 ≤ r.1 ∧ r.1 ≤ B * 512 ∧ r.2.length ≤ 512 * m
theorem snocD_B {B : Int} {m : Nat} {rs : List RecR} (h : RecB B m rs) {x : List Int} (hx : x.length ≤ 512) : RecB B (m + 1) (snocD rs x) := by
  obtain ⟨h1, h2, h3⟩ := h
  unfold snocD
  by_cases h0 : rs.length = 0
  · have : rs = [] := List.eq_nil_of_length_eq_zero h0
    subst this
    exact ⟨Nat.zero_le _, Nat.zero_le _, fun r hr => absurd hr List.not_mem_nil⟩
  · refine ⟨by rw [List.length_set]; omega, by rw [encL_set x rs _ (by omega)]; omega, fun r hr => ?_⟩
    rcases List.mem_or_eq_of_mem_set hr with hr | rfl
    · have := h3 r hr; omega
    · have hm : rs.getD (rs.length - 1) (0, []) ∈ rs := by
        rw [show rs.getD (rs.length - 1) (0, []) = rs[rs.length - 1]'(by omega) by simp [List.getD_eq_getElem?_getD, show rs.length - 1 < rs.length by omega]]
        exact List.getElem_mem _
      have := h3 _ hm
      refine ⟨this.1, this.2.1, ?_⟩
      show ((rs.getD (rs.length - 1) (0, [])).2 ++ x).length ≤ _
      rw [List.length_append]; omega
theorem bldR_B {d : List (Int × List Int)} {ks : List Int} {B : Int} (hd : ∀ q ∈ d, q.2.length = 512) (hk : ∀ n ∈ ks, 0 ≤ n ∧ n ≤ B) : ∀ m, m ≤ ks.length → RecB B m (bldR d ks m)
  | 0, _ => ⟨Nat.le_refl _, Nat.le_refl _, fun r hr => absurd hr List.not_mem_nil⟩
  | m + 1, hm => by
    have ih := bldR_B hd hk m (by omega)
    have e : bldR d ks (m + 1) = bldS d ks (bldR d ks m) m := by
      unfold bldR; rw [List.range_succ, List.foldl_append]; rfl
    rw [e]
    have hx : ((lkS (ks.getD m 0) d).getD []).length ≤ 512 := by
      cases hq : lkS (ks.getD m 0) d with
      | none => exact Nat.zero_le _
      | some l => exact Nat.le_of_eq (hd _ (lkS_mem hq))
    have hn : 0 ≤ ks.getD m 0 ∧ ks.getD m 0 ≤ B := by
      refine hk _ ?_
      rw [show ks.getD m 0 = ks[m]'(by omega) by simp [List.getD_eq_getElem?_getD, show m < ks.length by omega]]
      exact List.getElem_mem _
    unfold bldS
    split
    · exact snocD_B ih hx
    · obtain ⟨h1, h2, h3⟩ := ih
      refine ⟨by rw [List.length_append]; simp; omega, ?_, fun r hr => ?_⟩
      · rw [encL_append, encL_cons]
        show (encL (bldR d ks m)).length + (12 + ((lkS (ks.getD m 0) d).getD []).length + 0) ≤ 524 * (m + 1)
        omega
      · rcases List.mem_append.1 hr with hr | hr
        · have := h3 r hr; omega
        · obtain rfl := List.mem_singleton.1 hr
          refine ⟨by show 0 ≤ ks.getD m 0 * 512; omega, by show ks.getD m 0 * 512 ≤ _; omega, by show ((lkS (ks.getD m 0) d).getD []).length ≤ 512 * (m + 1); omega⟩
theorem RecRel.B {t : TR} {r : List RecR} (h : RecRel t r) (ho : t.Ok) {B : Int} (hk : ∀ q ∈ t.dirty, 0 ≤ q.1 ∧ q.1 ≤ B) : RecB B t.dirty.length r := by
  obtain ⟨ks, h1, h2, rfl⟩ := h
  have hl : ks.length = t.dirty.length := by rw [h1.length_eq, List.length_map]
  rw [← hl]
  refine bldR_B ho.sec (fun n hn => ?_) _ (Nat.le_refl _)
  obtain ⟨q, hq, rfl⟩ := List.mem_map.1 (h1.subset hn)
  exact hk q hq
end Go.Proofs.Ytcfmlnddmpiemaa.Sx


set_option maxRecDepth 10000
namespace Go.Proofs.Ytcfmlnddmpiemaa.Sx
open Go.RowKit Go.Proofs.Ytcfmlnddmpiemaa.Sx.Tb
/-! ### Size -/
end Go.Proofs.Ytcfmlnddmpiemaa.Sx


set_option maxRecDepth 10000
namespace Go.Proofs.Ytcfmlnddmpiemaa.Sx
/-! ### Law 27, put together, plain -/
theorem endL_bound (M : Nat) : ∀ (rs : List RecR) (n : Nat), n ≤ M → (∀ r ∈ rs, r.1.toNat + r.2.length ≤ M) → endL rs n ≤ M
  | [], n, h, _ => h
  | r :: rs, n, h, hr => endL_bound M rs _ (by have := hr r (List.mem_cons_self ..); show max n (r.1.toNat + r.2.length) ≤ M; omega) (fun q hq => hr q (List.mem_cons_of_mem _ hq))
theorem comRel_ok {j : JR} {s : DF} {rs : List RecR} {r : Int × JR × DF} {n : Int} (h : comRel j s rs r) (hs : s.Ok n) (hz : j.size ≤ 4194304) : r.2.2.Ok (n + 5000000) ∧ (r.2.1 = j ∨ r.2.1 = j.next) := by
  rcases h with ⟨_, rfl⟩ | ⟨_, _, rfl⟩ | ⟨_, hl, x, hx, h⟩
  · exact ⟨hs.mono (by omega), .inl rfl⟩
  · exact ⟨hs.mono (by omega), .inl rfl⟩
  · have hxo : x.2.Ok (n + 4194306) := by
      rw [hx]
      refine (DF.run_ok _ hs).mono ?_
      simp only [cost, FOp.size]
      omega
    rcases h with ⟨_, rfl⟩ | ⟨_, sg, hsg, y, hy, rfl⟩
    · exact ⟨hxo.mono (by omega), .inl rfl⟩
    · refine ⟨?_, .inr rfl⟩
      show y.2.Ok _
      rw [hy]
      refine (DF.run_ok _ hxo).mono ?_
      have : sg.length = 512 := by rw [hsg]; exact signL_length _ _ _
      simp only [cost, FOp.size]
      omega
theorem replay_ok {j : JR} {s : DF} {z : List Int} {n : Int} (hs : s.Ok n) (h8 : B8 s.now) (hj : j.Ok) (hz : z.length = 512) : (s.replay j z).2.2.2.Ok (n + 5000000) ∧ (s.replay j z).2.2.1.Ok ∧ ∃ q, (s.replay j z).2.2.1 = { j with seq := q } := by
  obtain ⟨j1, j2, j3, j4, j5, j6⟩ := hj
  unfold DF.replay
  cases hq : (s.pend j).2.1 with
  | none => exact ⟨hs.ask.mono (by omega), ⟨j1, j2, j3, j4, j5, j6⟩, j.seq, rfl⟩
  | some ss =>
    obtain ⟨q1, q2, -, -⟩ := DF.pend_ok h8 hq
    have hb8 : B8 (j.part s) := (h8.drop _).take _
    obtain ⟨o1, o2, o3⟩ := pendB_ok hb8 q1
    have hpl : (j.part s).length ≤ 4194304 := by unfold JR.part; simp only [List.length_take, List.length_drop]; omega
    have hsq : 0 ≤ le8 (j.part s) 4 ∧ le8 (j.part s) 4 < 18446744073709551616 := leV_bound (hb8.drop _) 8
    refine ⟨?_, ?_, le8 (j.part s) 4, ?_⟩
    · show DF.Ok (s.asked.run (applyOps j z ss)).2 _
      refine (DF.run_ok _ hs.ask).mono ?_
      have := cost_wrs_le ss
      unfold applyOps
      rw [cost_append]
      simp only [cost, FOp.size]
      omega
    · show (s.pend j).2.2.Ok
      rw [q2]
      exact ⟨j1, j2, j3, j4, hsq.1, hsq.2⟩
    · show (s.pend j).2.2 = _
      rw [q2]
end Go.Proofs.Ytcfmlnddmpiemaa.Sx


set_option maxRecDepth 10000
namespace Go.Proofs.Ytcfmlnddmpiemaa.Sx
open Go.RowKit Go.Proofs.Ytcfmlnddmpiemaa.Sx.Tb
/-! ### Commit of changes -/
theorem snocD_B8 {rs : List RecR} (h : ∀ r ∈ rs, B8 r.2) {x : List Int} (hx : B8 x) : ∀ r ∈ snocD rs x, B8 r.2 := by
  intro r hr
  unfold snocD at hr
  rcases List.mem_or_eq_of_mem_set hr with hr | rfl
  · exact h r hr
  · refine B8.append ?_ hx
    by_cases h0 : rs.length = 0
    · have : rs = [] := List.eq_nil_of_length_eq_zero h0
      subst this
      exact B8.nil
    · refine h _ ?_
      rw [show rs.getD (rs.length - 1) (0, []) = rs[rs.length - 1]'(by omega) by simp [List.getD_eq_getElem?_getD, show rs.length - 1 < rs.length by omega]]
      exact List.getElem_mem _
theorem bldR_B8 {d : List (Int × List Int)} (hd : ∀ q ∈ d, B8 q.2) (ks : List Int) : ∀ m, ∀ r ∈ bldR d ks m, B8 r.2
  | 0 => fun r hr => absurd hr List.not_mem_nil
  | m + 1 => by
    have ih := bldR_B8 hd ks m
    have e : bldR d ks (m + 1) = bldS d ks (bldR d ks m) m := by
      unfold bldR; rw [List.range_succ, List.foldl_append]; rfl
    rw [e]
    have hx : B8 ((lkS (ks.getD m 0) d).getD []) := by
      cases hq : lkS (ks.getD m 0) d with
      | none => exact B8.nil
      | some l => exact hd _ (lkS_mem hq)
    unfold bldS
    split
    · exact snocD_B8 ih hx
    · intro r hr
      rcases List.mem_append.1 hr with hr | hr
      · exact ih r hr
      · obtain rfl := List.mem_singleton.1 hr
        exact hx
theorem RecRel.B8 {t : TR} {r : List RecR} (h : RecRel t r) (hd : ∀ q ∈ t.dirty, B8 q.2) : ∀ q ∈ r, B8 q.2 := by
  obtain ⟨ks, h1, h2, rfl⟩ := h
  exact bldR_B8 hd ks _
def TR.close (t : TR) : TR := { t with over := true }
def frOps (t : TR) : List FOp := wrs t.fresh ++ if t.fresh.length = 0 then [] else [.fl]
def tcomRel (t : TR) (j : JR) (s : DF) (z : List Int) (x : Int × TR × JR × DF) : Prop :=
  t.over = true ∧ x = (6, t, j, s) ∨
  t.over = false ∧ ∃ rs, RecRel t rs ∧ (
    j.size - 512 < (encL rs).length ∧ x = (15, t, j, s) ∨
    (encL rs).length ≤ j.size - 512 ∧ ∃ y, y = s.run (frOps t) ∧ (
      y.1 ≠ 0 ∧ x = (y.1, t.close, j, y.2) ∨
      y.1 = 0 ∧ rs.length = 0 ∧ x = (0, t.close, j, y.2) ∨
      y.1 = 0 ∧ rs.length ≠ 0 ∧ ∃ q, comRel j y.2 rs q ∧ (
        q.1 ≠ 0 ∧ x = (q.1, t.close, q.2.1, q.2.2) ∨
        q.1 = 0 ∧ ∃ u, u = q.2.2.run (wrs rs ++ [.fl, .wr q.2.1.pos z, .fl]) ∧ x = (u.1, t.close, q.2.1, u.2))))
set_option maxHeartbeats 16000000 in
theorem tcommit_c (t : TR) (j : JR) (s : DF) (n : Int) (z : List Int) (k : K) (h0 : t.Ok ∧ (t.dirty.length ≤ 1048576 ∧ ∀ q ∈ t.dirty, 0 ≤ q.1 ∧ q.1 ≤ 1048576 ∧ B8 q.2) ∧ cost (wrs t.fresh) ≤ 34359738368 ∧ j.Ok ∧ s.Ok n ∧ n ≤ 34359738368 ∧ z = List.replicate 512 0) (hk : ∀ x : Int × TR × JR × DF, tcomRel t j s z x → k (.v (.int .i64 x.1)) (tpre x.2.1 x.2.2.1 x.2.2.2)) : evFunc tab [] p18 Go.Proofs.Try.f18 [.p 0 0 1 0] (tpre t j s) k := by
  obtain ⟨h1, ⟨h2, h3⟩, h4, h5, h6, h7, hz⟩ := h0
  have h2b : t.dirty.length ≤ 1073741824 ∧ ∀ q ∈ t.dirty, 0 ≤ q.1 ∧ q.1 ≤ 1073741824 := ⟨by omega, fun q hq => ⟨(h3 q hq).1, by have := (h3 q hq).2.1; omega⟩⟩
  have hcf := cost_nonneg (wrs t.fresh)
  repeat' (first
    | (with_reducible first | exact True.intro | apply And.intro | apply If_true | apply If_false | apply If_not)
    | ((with_reducible apply VC.mk); exact vt)
    | ((with_reducible apply If_dec) <;> intro hc <;> (try (exfalso; omega)))
    | ((with_reducible apply If_any) <;> intro hc)
    | ((with_reducible first | apply PF.mk | apply DrawP.mk); (focus kernel_rfl))
    | ((with_reducible apply Same.mk); (focus rfl); (first | exact trivial | exact rfl))
    | (intro cap hcap)
    | ((fail_if_success (with_reducible apply st)); conv => whnf))
  · exact T5.fin rfl rfl rfl rfl rfl rfl (hk (6, t, j, s) (.inl ⟨hc, rfl⟩))
  have hov : t.over = false := by simpa using hc
  refine trecs_at t j s 0 1 2 3 4 ⟨h1, h2b⟩ rfl rfl rfl rfl rfl rfl ⟨rfl, trivial⟩ ?_
  intro rs hr
  obtain ⟨b1, b2, b3⟩ := hr.B h1 (fun q hq => ⟨(h3 q hq).1, (h3 q hq).2.1⟩)
  have hr8 := hr.B8 (fun q hq => (h3 q hq).2.2)
  have bl : (encL rs).length ≤ 549453824 := by omega
  have bn : rs.length ≤ 1048576 := by omega
  clear b2 b1
  repeat' (first
    | (with_reducible first | exact True.intro | apply And.intro | apply If_true | apply If_false | apply If_not)
    | ((with_reducible apply VC.mk); exact vt)
    | ((with_reducible apply If_dec) <;> intro hc <;> (try (exfalso; omega)))
    | ((with_reducible apply If_any) <;> intro hc)
    | ((with_reducible first | apply PF.mk | apply DrawP.mk); (focus kernel_rfl))
    | ((with_reducible apply Same.mk); (focus rfl); (first | exact trivial | exact rfl))
    | (intro cap hcap)
    | ((fail_if_success (with_reducible apply st)); conv => whnf))
  refine enc_at rs ⟨by omega, by omega, fun q hq => ?_⟩ ⟨⟨rfl, rfl, rfl, rfl, fun _ _ => rfl⟩, trivial⟩ ?_
  · have := b3 q hq
    exact ⟨this.1, by omega, by omega⟩
  intro body hbody
  have hbl : body.length = (encL rs).length := by rw [hbody]
  repeat' (first
    | (with_reducible first | exact True.intro | apply And.intro | apply If_true | apply If_false | apply If_not)
    | ((with_reducible apply VC.mk); exact vt)
    | ((with_reducible apply If_dec) <;> intro hc <;> (try (exfalso; omega)))
    | ((with_reducible apply If_any) <;> intro hc)
    | ((with_reducible first | apply PF.mk | apply DrawP.mk); (focus kernel_rfl))
    | ((with_reducible apply Same.mk); (focus rfl); (first | exact trivial | exact rfl))
    | (intro cap hcap)
    | ((fail_if_success (with_reducible apply st)); conv => whnf))
  refine room_at j s 3 4 h5 rfl rfl rfl ⟨rfl, trivial⟩ ?_
  intro _ _
  repeat' (first
    | (with_reducible first | exact True.intro | apply And.intro | apply If_true | apply If_false | apply If_not)
    | ((with_reducible apply VC.mk); exact vt)
    | ((with_reducible apply If_dec) <;> intro hc <;> (try (exfalso; omega)))
    | ((with_reducible apply If_any) <;> intro hc)
    | ((with_reducible first | apply PF.mk | apply DrawP.mk); (focus kernel_rfl))
    | ((with_reducible apply Same.mk); (focus rfl); (first | exact trivial | exact rfl))
    | (intro cap hcap)
    | ((fail_if_success (with_reducible apply st)); conv => whnf))
  · exact T5.fin rfl rfl rfl rfl rfl rfl (hk (15, t, j, s) (.inr ⟨hov, rs, hr, .inl ⟨by omega, rfl⟩⟩))
  have hfit : (encL rs).length ≤ j.size - 512 := by omega
  clear hbody hbl
  have put : ∀ x, (∃ y, y = s.run (frOps t) ∧ (y.1 ≠ 0 ∧ x = (y.1, t.close, j, y.2) ∨ y.1 = 0 ∧ rs.length = 0 ∧ x = (0, t.close, j, y.2) ∨ y.1 = 0 ∧ rs.length ≠ 0 ∧ ∃ q, comRel j y.2 rs q ∧ (q.1 ≠ 0 ∧ x = (q.1, t.close, q.2.1, q.2.2) ∨ q.1 = 0 ∧ ∃ u, u = q.2.2.run (wrs rs ++ [.fl, .wr q.2.1.pos z, .fl]) ∧ x = (u.1, t.close, q.2.1, u.2)))) → k (.v (.int .i64 x.1)) (tpre x.2.1 x.2.2.1 x.2.2.2) := fun x hx => hk x (.inr ⟨hov, rs, hr, .inr ⟨hfit, hx⟩⟩)
  clear hk
  refine LoopP.mk ⟨Nat × DF, fun y => y.1 ≤ t.fresh.length ∧ s.run (wrs (t.fresh.take y.1)) = (0, y.2), fun y => ([(0, .p 0 0 1 0), (3, .im true 2 rs.length (recsC true rs)), (34, .s 2 0 2 t.fresh.length t.cap), (35, .v (.int .i64 t.fresh.length)), (36, .v (.int .i64 (y.1 : Int)))], tpre t.close j y.2), fun y => t.fresh.length - y.1, (0, s), ⟨Nat.zero_le _, rfl⟩, Fit.ren [0, 1, 2, 3, 4] [] rfl rfl trivial (T5.leX (t := t.close) rfl rfl rfl rfl rfl rfl rfl rfl rfl rfl trivial) ?_, ?_⟩
  · repeat' (first
    | (with_reducible first | exact True.intro | apply And.intro | apply If_true | apply If_false | apply If_not)
    | ((with_reducible apply VC.mk); exact vt)
    | ((with_reducible apply If_dec) <;> intro hc <;> (try (exfalso; omega)))
    | ((with_reducible apply If_any) <;> intro hc)
    | ((with_reducible first | apply PF.mk | apply DrawP.mk); (focus kernel_rfl))
    | ((with_reducible apply Same.mk); (focus rfl); (first | exact trivial | exact rfl))
    | (intro cap hcap)
    | ((fail_if_success (with_reducible apply st)); conv => whnf))
  intro y hy
  obtain ⟨g1, g2⟩ := hy
  have e : ((y.1 : Nat) : Int).toNat = y.1 := Int.toNat_natCast _
  have o := DF.run_ok (wrs (t.fresh.take y.1)) h6
  rw [g2] at o
  have o1 := cost_take t.fresh y.1
  have o2 : y.2.Ok (n + cost (wrs (t.fresh.take y.1))) := o
  have hce1 : t.close.fresh.length = t.fresh.length := rfl
  have hce2 : t.close.cap = t.cap := rfl
  by_cases hlt : y.1 < t.fresh.length
  · have hm : t.fresh.getD y.1 (0, []) ∈ t.fresh := by
      rw [show t.fresh.getD y.1 (0, []) = t.fresh[y.1] by simp [List.getD_eq_getElem?_getD, hlt]]; exact List.getElem_mem hlt
    have hok := h1.frs _ hm
    have hcl := h1.len
    have hsn := wrs_snoc t.fresh y.1 hlt
    repeat' (first
    | (with_reducible first | exact True.intro | apply And.intro | apply If_true | apply If_false | apply If_not)
    | ((with_reducible apply VC.mk); exact vt)
    | ((with_reducible apply If_dec) <;> intro hc <;> (try (exfalso; omega)))
    | ((with_reducible apply If_any) <;> intro hc)
    | ((with_reducible first | apply PF.mk | apply DrawP.mk); (focus kernel_rfl))
    | ((with_reducible apply Same.mk); (focus rfl); (first | exact trivial | exact rfl))
    | (intro cap hcap)
    | ((fail_if_success (with_reducible apply st)); conv => whnf))
    have hce : t.close.fresh = t.fresh := rfl
    simp only [e, Nat.zero_add, hce]
    generalize t.fresh.getD y.1 (0, []) = r at *
    refine doWr_at y.2 (n + cost (wrs (t.fresh.take y.1))) r.1 r.2 4 ⟨o2, by omega⟩ (by omega) rfl ⟨rfl, rfl, ⟨rfl, rfl, rfl⟩, trivial⟩ ?_
    have e1 : s.run (wrs (t.fresh.take (y.1 + 1))) = y.2.doOp (.wr r.1 r.2) := by rw [hsn, DF.run_good g2, DF.run1]
    obtain ⟨x, hx⟩ : ∃ x, x = y.2.doOp (.wr r.1 r.2) := ⟨_, rfl⟩
    rw [← hx] at e1
    rw [← hx]
    repeat' (first
    | (with_reducible first | exact True.intro | apply And.intro | apply If_true | apply If_false | apply If_not)
    | ((with_reducible apply VC.mk); exact vt)
    | ((with_reducible apply If_dec) <;> intro hc <;> (try (exfalso; omega)))
    | ((with_reducible apply If_any) <;> intro hc)
    | ((with_reducible first | apply PF.mk | apply DrawP.mk); (focus kernel_rfl))
    | ((with_reducible apply Same.mk); (focus rfl); (first | exact trivial | exact rfl))
    | (intro cap hcap)
    | ((fail_if_success (with_reducible apply st)); conv => whnf))
    · have e2 : s.run (frOps t) = x := by
        unfold frOps
        rw [wrs_cut t.fresh (y.1 + 1), List.append_assoc, DF.run_bad (by rw [e1]; exact hc), e1]
      exact T5.fin (t := t.close) rfl rfl rfl rfl rfl rfl (put (x.1, t.close, j, x.2) ⟨x, e2.symm, .inl ⟨hc, rfl⟩⟩)
    · refine Round.mk ⟨(y.1 + 1, x.2), ⟨by show y.1 + 1 ≤ _; omega, by rw [e1]; exact Prod.ext (Decidable.not_not.mp hc) rfl⟩, by show t.fresh.length - (y.1 + 1) < t.fresh.length - y.1; omega, Fit.ren [0, 1, 2, 3, 4] [] rfl rfl trivial (T5.leX (t := t.close) rfl rfl rfl rfl rfl rfl rfl rfl rfl rfl trivial) ?_⟩
      repeat' (first
    | (with_reducible first | exact True.intro | apply And.intro | apply If_true | apply If_false | apply If_not)
    | ((with_reducible apply VC.mk); exact vt)
    | ((with_reducible apply If_dec) <;> intro hc <;> (try (exfalso; omega)))
    | ((with_reducible apply If_any) <;> intro hc)
    | ((with_reducible first | apply PF.mk | apply DrawP.mk); (focus kernel_rfl))
    | ((with_reducible apply Same.mk); (focus rfl); (first | exact trivial | exact rfl))
    | (intro cap hcap)
    | ((fail_if_success (with_reducible apply st)); conv => whnf))
  · have e5 : t.fresh.take y.1 = t.fresh := List.take_of_length_le (by omega)
    rw [e5] at g2 o2
    have hsl : ∀ a n b, (signL a n b).length = 512 := signL_length
    repeat' (first
    | (with_reducible first | exact True.intro | apply And.intro | apply If_true | apply If_false | apply If_not)
    | ((with_reducible apply VC.mk); exact vt)
    | ((with_reducible apply If_dec) <;> intro hc <;> (try (exfalso; omega)))
    | ((with_reducible apply If_any) <;> intro hc)
    | ((with_reducible first | apply PF.mk | apply DrawP.mk); (focus kernel_rfl))
    | ((with_reducible apply Same.mk); (focus rfl); (first | exact trivial | exact rfl))
    | (intro cap hcap)
    | ((fail_if_success (with_reducible apply st)); conv => whnf))
    · refine doFl_at y.2 (n + cost (wrs t.fresh)) 4 ⟨o2, by omega⟩ rfl ⟨rfl, trivial⟩ ?_
      have e1 : s.run (frOps t) = y.2.doOp .fl := by
        unfold frOps
        rw [if_neg (by omega), DF.run_good g2, DF.run1]
      have o3 := DF.doOp_ok o2 .fl
      rw [show FOp.fl.size = 0 from rfl] at o3
      obtain ⟨x, hx⟩ : ∃ x, x = y.2.doOp .fl := ⟨_, rfl⟩
      rw [← hx] at e1 o3
      rw [← hx]
      repeat' (first
    | (with_reducible first | exact True.intro | apply And.intro | apply If_true | apply If_false | apply If_not)
    | ((with_reducible apply VC.mk); exact vt)
    | ((with_reducible apply If_dec) <;> intro hc <;> (try (exfalso; omega)))
    | ((with_reducible apply If_any) <;> intro hc)
    | ((with_reducible first | apply PF.mk | apply DrawP.mk); (focus kernel_rfl))
    | ((with_reducible apply Same.mk); (focus rfl); (first | exact trivial | exact rfl))
    | (intro cap hcap)
    | ((fail_if_success (with_reducible apply st)); conv => whnf))
      · exact T5.fin (t := t.close) rfl rfl rfl rfl rfl rfl (put (x.1, t.close, j, x.2) ⟨x, e1.symm, .inl ⟨hc, rfl⟩⟩)
      · exact T5.fin (t := t.close) rfl rfl rfl rfl rfl rfl (put (0, t.close, j, x.2) ⟨x, e1.symm, .inr (.inl ⟨Decidable.not_not.mp (by assumption), by omega, rfl⟩)⟩)
      have o4 : x.2.Ok (n + cost (wrs t.fresh) + 1) := o3.mono (by omega)
      have hx0 : (0, x.2) = s.run (frOps t) := by rw [e1]; exact Prod.ext (by simpa using Eq.symm (Decidable.not_not.mp (by assumption : ¬ x.1 ≠ 0))) rfl
      have hrl : ∀ r ∈ rs, r.2.length ≤ 1073741824 ∧ B8 r.2 := fun r hm => ⟨by have := (b3 r hm).2.2; omega, hr8 r hm⟩
      refine commit_at j x.2 (n + cost (wrs t.fresh) + 1) rs 3 4 ⟨h5, o4, by omega, by omega, by omega, hrl⟩ rfl rfl rfl ⟨rfl, ⟨rfl, rfl, rfl, rfl, fun _ _ => rfl⟩, trivial⟩ ?_
      rintro ⟨qe, qj, qs⟩ hq
      dsimp only at hq ⊢
      obtain ⟨p1, p2⟩ := comRel_ok hq o4 (by have := h5.2.2.2.1; omega)
      dsimp only at p1 p2
      have hjo : qj.Ok := by
        rcases p2 with rfl | rfl
        · exact h5
        · exact JR.next_ok h5
      repeat' (first
    | (with_reducible first | exact True.intro | apply And.intro | apply If_true | apply If_false | apply If_not)
    | ((with_reducible apply VC.mk); exact vt)
    | ((with_reducible apply If_dec) <;> intro hc <;> (try (exfalso; omega)))
    | ((with_reducible apply If_any) <;> intro hc)
    | ((with_reducible first | apply PF.mk | apply DrawP.mk); (focus kernel_rfl))
    | ((with_reducible apply Same.mk); (focus rfl); (first | exact trivial | exact rfl))
    | (intro cap hcap)
    | ((fail_if_success (with_reducible apply st)); conv => whnf))
      · exact T5.fin (t := t.close) rfl rfl rfl rfl rfl rfl (put (qe, t.close, qj, qs) ⟨(0, x.2), hx0, .inr (.inr ⟨rfl, by omega, (qe, qj, qs), hq, .inl ⟨hc, rfl⟩⟩)⟩)
      have hq0 : qe = 0 := Decidable.not_not.mp hc
      have hcw := cost_wrs_le rs
      refine apply_at qj qs (n + cost (wrs t.fresh) + 1 + 5000000) z rs 3 4 ⟨hjo, p1, by omega, by omega, fun r hm => (hrl r hm).1, by omega, hz⟩ rfl rfl rfl ⟨rfl, ⟨rfl, rfl, rfl, rfl, fun _ _ => rfl⟩, trivial⟩ ?_
      intro u hu
      repeat' (first
    | (with_reducible first | exact True.intro | apply And.intro | apply If_true | apply If_false | apply If_not)
    | ((with_reducible apply VC.mk); exact vt)
    | ((with_reducible apply If_dec) <;> intro hc <;> (try (exfalso; omega)))
    | ((with_reducible apply If_any) <;> intro hc)
    | ((with_reducible first | apply PF.mk | apply DrawP.mk); (focus kernel_rfl))
    | ((with_reducible apply Same.mk); (focus rfl); (first | exact trivial | exact rfl))
    | (intro cap hcap)
    | ((fail_if_success (with_reducible apply st)); conv => whnf))
      exact T5.fin (t := t.close) rfl rfl rfl rfl rfl rfl (put (u.1, t.close, qj, u.2) ⟨(0, x.2), hx0, .inr (.inr ⟨rfl, by omega, (qe, qj, qs), hq, .inr ⟨hq0, u, hu, rfl⟩⟩)⟩)
    · exact T5.fin (t := t.close) rfl rfl rfl rfl rfl rfl (put (0, t.close, j, y.2) ⟨(0, y.2), (by unfold frOps; rw [if_pos (by omega), List.append_nil, g2]), .inr (.inl ⟨rfl, by omega, rfl⟩)⟩)
    have hy0 : (0, y.2) = s.run (frOps t) := by unfold frOps; rw [if_pos (by omega), List.append_nil, g2]
    have hrl : ∀ r ∈ rs, r.2.length ≤ 1073741824 ∧ B8 r.2 := fun r hm => ⟨by have := (b3 r hm).2.2; omega, hr8 r hm⟩
    refine commit_at j y.2 (n + cost (wrs t.fresh)) rs 3 4 ⟨h5, o2, by omega, by omega, by omega, hrl⟩ rfl rfl rfl ⟨rfl, ⟨rfl, rfl, rfl, rfl, fun _ _ => rfl⟩, trivial⟩ ?_
    rintro ⟨qe, qj, qs⟩ hq
    dsimp only at hq ⊢
    obtain ⟨p1, p2⟩ := comRel_ok hq o2 (by have := h5.2.2.2.1; omega)
    dsimp only at p1 p2
    have hjo : qj.Ok := by
      rcases p2 with rfl | rfl
      · exact h5
      · exact JR.next_ok h5
    repeat' (first
    | (with_reducible first | exact True.intro | apply And.intro | apply If_true | apply If_false | apply If_not)
    | ((with_reducible apply VC.mk); exact vt)
    | ((with_reducible apply If_dec) <;> intro hc <;> (try (exfalso; omega)))
    | ((with_reducible apply If_any) <;> intro hc)
    | ((with_reducible first | apply PF.mk | apply DrawP.mk); (focus kernel_rfl))
    | ((with_reducible apply Same.mk); (focus rfl); (first | exact trivial | exact rfl))
    | (intro cap hcap)
    | ((fail_if_success (with_reducible apply st)); conv => whnf))
    · exact T5.fin (t := t.close) rfl rfl rfl rfl rfl rfl (put (qe, t.close, qj, qs) ⟨(0, y.2), hy0, .inr (.inr ⟨rfl, by omega, (qe, qj, qs), hq, .inl ⟨hc, rfl⟩⟩)⟩)
    have hq0 : qe = 0 := Decidable.not_not.mp hc
    have hcw := cost_wrs_le rs
    refine apply_at qj qs (n + cost (wrs t.fresh) + 5000000) z rs 3 4 ⟨hjo, p1, by omega, by omega, fun r hm => (hrl r hm).1, by omega, hz⟩ rfl rfl rfl ⟨rfl, ⟨rfl, rfl, rfl, rfl, fun _ _ => rfl⟩, trivial⟩ ?_
    intro u hu
    repeat' (first
    | (with_reducible first | exact True.intro | apply And.intro | apply If_true | apply If_false | apply If_not)
    | ((with_reducible apply VC.mk); exact vt)
    | ((with_reducible apply If_dec) <;> intro hc <;> (try (exfalso; omega)))
    | ((with_reducible apply If_any) <;> intro hc)
    | ((with_reducible first | apply PF.mk | apply DrawP.mk); (focus kernel_rfl))
    | ((with_reducible apply Same.mk); (focus rfl); (first | exact trivial | exact rfl))
    | (intro cap hcap)
    | ((fail_if_success (with_reducible apply st)); conv => whnf))
    exact T5.fin (t := t.close) rfl rfl rfl rfl rfl rfl (put (u.1, t.close, qj, u.2) ⟨(0, y.2), hy0, .inr (.inr ⟨rfl, by omega, (qe, qj, qs), hq, .inr ⟨hq0, u, hu, rfl⟩⟩)⟩)
def tcommitOk (x : TR × JR × DF × Int × List Int) : Prop := x.1.Ok ∧ (x.1.dirty.length ≤ 1048576 ∧ ∀ q ∈ x.1.dirty, 0 ≤ q.1 ∧ q.1 ≤ 1048576 ∧ B8 q.2) ∧ cost (wrs x.1.fresh) ≤ 34359738368 ∧ x.2.1.Ok ∧ x.2.2.1.Ok x.2.2.2.1 ∧ x.2.2.2.1 ≤ 34359738368 ∧ x.2.2.2.2 = List.replicate 512 0
def tcommitRel (x : TR × JR × DF × Int × List Int) (r : Int × TR × JR × DF) : Prop := tcomRel x.1 x.2.1 x.2.2.1 x.2.2.2.2 r
theorem tcommit_K : ConOk Go.Proofs.Try.prog 18 (Con.of (TR × JR × DF × Int × List Int) (Int × TR × JR × DF) (fun x => [.p 0 0 1 0]) (fun x => tpre x.1 x.2.1 x.2.2.1) tcommitOk tcommitRel (fun x r => .v (.int .i64 r.1)) (fun x r => tpre (r.2.1) (r.2.2.1) (r.2.2.2))) := by
  refine conOk_rel (T := tab) mix Go.Proofs.Try.func18 (by decide +kernel) (by kernel_rfl) [] p18 (fun n => by rw [Go.Proofs.Try.ntmps18]; exact Nat.le_of_ble_eq_true rfl) (fun x r _ _ => T5.good (by simp [AV.noF, noFs, Cont.noF])) (fun x _ => T5.nd) ?_
  intro x k h0 hk
  exact tcommit_c x.1 x.2.1 x.2.2.1 x.2.2.2.1 x.2.2.2.2 k h0 (fun r hr => hk r hr)
theorem tcommit_at {avs : List AV} {H : List Chunk} {k : K} (t : TR) (j : JR) (s : DF) (n : Int) (z : List Int) (ta tb tc td te : Nat) (h0 : t.Ok ∧ (t.dirty.length ≤ 1048576 ∧ ∀ q ∈ t.dirty, 0 ≤ q.1 ∧ q.1 ≤ 1048576 ∧ B8 q.2) ∧ cost (wrs t.fresh) ≤ 34359738368 ∧ j.Ok ∧ s.Ok n ∧ n ≤ 34359738368 ∧ z = List.replicate 512 0) (hn : nodupN [ta, tb, tc, td, te] = true) (ha0 : nth H ta = some (t.c0 td tb tc)) (hb0 : nth H tb = some t.c1) (hc0 : nth H tc = some t.c2) (hd0 : nth H td = some (j.blk te)) (he0 : nth H te = some s.pk) (ha : argsM H [ta, tb, tc, td, te] [.p 0 0 1 0] avs)
    (hQ : ∀ r : Int × TR × JR × DF, (tcomRel t j s z r) → k (.v (.int .i64 r.1)) (((((H.set ta (TR.c0 (r.2.1) td tb tc)).set tb (TR.c1 (r.2.1))).set tc (TR.c2 (r.2.1))).set td (JR.blk (r.2.2.1) te)).set te (DF.pk (r.2.2.2)))) : CallP Go.Proofs.Try.prog 18 avs H k :=
  CallP.mk ⟨_, tcommit_K.real, Con.spec tcommit_K, (t, j, s, n, z), [ta, tb, tc, td, te], ⟨h0, hn, ⟨ha0, hb0.trans (congrArg some (TR.c1_ren t _).symm), hc0, hd0, he0, trivial⟩, ha⟩, fun r hr => (numK_eq _ _).mpr (by simpa [tpre, putAll, TR.c0_ren, TR.c1_ren, TR.c2_ren, JR.blk_ren, DF.pk_ren, AV.ren, rens, Cont.ren, fren, nth] using hQ r hr)⟩
end Go.Proofs.Ytcfmlnddmpiemaa.Sx


set_option maxRecDepth 10000
namespace Go.Proofs.Ytcfmlnddmpiemaa.Sx
/-! ### What a calm file shows behind writes, plain -/
def wrV (f : Nat → Int) (a : Nat) (xs : List Int) (i : Nat) : Int := if a ≤ i ∧ i < a + xs.length then xs.getD (i - a) 0 else f i
def doneV (rs : List RecR) (f : Nat → Int) : Nat → Int := rs.foldl (fun f r => wrV f r.1.toNat r.2) f
def DF.V (s : DF) (i : Nat) : Int := s.now.getD i 0
theorem doneV_cons (r : RecR) (rs : List RecR) (f : Nat → Int) : doneV (r :: rs) f = doneV rs (wrV f r.1.toNat r.2) := rfl
theorem doneV_snoc (rs : List RecR) (r : RecR) (f : Nat → Int) : doneV (rs ++ [r]) f = wrV (doneV rs f) r.1.toNat r.2 := by
  unfold doneV; rw [List.foldl_append]; rfl
theorem wrV_append (f : Nat → Int) (a : Nat) (l m : List Int) : wrV f a (l ++ m) = wrV (wrV f a l) (a + l.length) m := by
  funext i
  unfold wrV
  rw [List.length_append]
  by_cases h1 : a ≤ i ∧ i < a + l.length
  · rw [if_pos ⟨h1.1, by omega⟩, if_neg (by omega), if_pos h1, List.getD_eq_getElem?_getD, List.getElem?_append_left (by omega), List.getD_eq_getElem?_getD]
  · by_cases h2 : a + l.length ≤ i ∧ i < a + l.length + m.length
    · rw [if_pos ⟨by omega, by omega⟩, if_pos h2, List.getD_eq_getElem?_getD, List.getElem?_append_right (by omega), List.getD_eq_getElem?_getD, show i - a - l.length = i - (a + l.length) by omega]
    · rw [if_neg (by omega), if_neg h2, if_neg h1]
def lenR (rs : List RecR) (n : Nat) : Nat := rs.foldl (fun n r => if r.2.length = 0 then n else max n (r.1.toNat + r.2.length)) n
/-! ### A tx's view is what its fresh ones and its sectors leave -/
theorem layR_get {at_ : Int} {l : List Int} {r : RecR} (hl : l.length = 512) (h0 : 0 ≤ at_) (hr : 0 ≤ r.1) {j : Nat} (hj : j < 512) : (layR at_ l r).getD j 0 = if r.1.toNat ≤ at_.toNat + j ∧ at_.toNat + j < r.1.toNat + r.2.length then r.2.getD (at_.toNat + j - r.1.toNat) 0 else l.getD j 0 := by
  unfold layR
  rw [hl]
  split
  · rename_i h
    have e : ((r.2.drop (max at_ r.1 - r.1).toNat).take (min (at_ + (512 : Nat)) (r.1 + r.2.length) - max at_ r.1).toNat).length = (min (at_ + (512 : Nat)) (r.1 + r.2.length) - max at_ r.1).toNat := by rw [List.length_take, List.length_drop]; omega
    rw [putG_get (by omega), e]
    by_cases c : r.1.toNat ≤ at_.toNat + j ∧ at_.toNat + j < r.1.toNat + r.2.length
    · rw [if_pos c, if_pos (by omega), List.getD_eq_getElem?_getD, List.getElem?_take, if_pos (by omega), List.getElem?_drop, List.getD_eq_getElem?_getD]
      congr 2; omega
    · rw [if_neg c, if_neg (by omega)]
  · rename_i h
    rw [if_neg (by omega)]
theorem lays_get {at_ : Int} (h0 : 0 ≤ at_) : ∀ (rs : List RecR) (l : List Int) (f : Nat → Int), l.length = 512 → (∀ r ∈ rs, 0 ≤ r.1) → (∀ j, j < 512 → l.getD j 0 = f (at_.toNat + j)) → ∀ j, j < 512 → (rs.foldl (layR at_) l).getD j 0 = doneV rs f (at_.toNat + j)
  | [], l, f, hl, hr, h, j, hj => h j hj
  | r :: rs, l, f, hl, hr, h, j, hj => by
    rw [doneV_cons]
    refine lays_get h0 rs _ _ (layR_length _ _ _ hl h0) (fun q hq => hr q (List.mem_cons_of_mem _ hq)) (fun i hi => ?_) j hj
    rw [layR_get hl h0 (hr r (List.mem_cons_self ..)) hi, h i hi]
    rfl
theorem secF_get (now : List Int) (n : Nat) {j : Nat} (hj : j < 512) : (secF now (n : Int)).getD j 0 = now.getD (512 * n + j) 0 := by
  have := zero_V now (512 * n + j)
  unfold TR.V TR.sec at this
  rw [← this]
  show _ = (secF now (((512 * n + j) / 512 : Nat) : Int)).getD ((512 * n + j) % 512) 0
  rw [show (512 * n + j) / 512 = n by omega, show (512 * n + j) % 512 = j by omega]
/-- The view: a sector that is dirty, or what the fresh ones leave. -/
theorem TR.V_eq {t : TR} (h : t.Ok) (s : DF) (i : Nat) : t.V s.now i = (match lkS ((i / 512 : Nat) : Int) t.dirty with | some l => l.getD (i % 512) 0 | none => doneV t.fresh s.V i) := by
  unfold TR.V TR.sec
  cases hq : lkS ((i / 512 : Nat) : Int) t.dirty with
  | some l => rfl
  | none =>
    show (t.fresh.foldl (layR (512 * ((i / 512 : Nat) : Int))) (secF s.now ((i / 512 : Nat) : Int))).getD (i % 512) 0 = _
    rw [lays_get (by omega) t.fresh _ s.V (secF_length _ _) (fun r hr => (h.frs r hr).1) (fun j hj => ?_) (i % 512) (Nat.mod_lt _ (by omega))]
    · congr 1; omega
    · rw [secF_get _ _ hj]; unfold DF.V; rw [show (512 * ((i / 512 : Nat) : Int)).toNat = 512 * (i / 512) by omega]
/-! ### The records are the sectors -/
def keyV (d : List (Int × List Int)) (ks : List Int) (f : Nat → Int) : Nat → Int := ks.foldl (fun f k => wrV f (k * 512).toNat ((lkS k d).getD [])) f
def SecsOk (d : List (Int × List Int)) (ks : List Int) : Prop := ∀ k ∈ ks, 0 ≤ k ∧ ((lkS k d).getD []).length = 512
theorem keyV_get {d : List (Int × List Int)} : ∀ (ks : List Int) (f : Nat → Int), SecsOk d ks → ∀ i, keyV d ks f i = if ((i / 512 : Nat) : Int) ∈ ks then ((lkS ((i / 512 : Nat) : Int) d).getD []).getD (i % 512) 0 else f i
  | [], f, _, i => by rw [if_neg List.not_mem_nil]; rfl
  | k :: ks, f, h, i => by
    obtain ⟨h0, h1⟩ := h k (List.mem_cons_self ..)
    show keyV d ks (wrV f (k * 512).toNat ((lkS k d).getD [])) i = _
    rw [keyV_get ks _ (fun q hq => h q (List.mem_cons_of_mem _ hq)) i]
    by_cases c : ((i / 512 : Nat) : Int) ∈ ks
    · rw [if_pos c, if_pos (List.mem_cons_of_mem _ c)]
    · rw [if_neg c]
      unfold wrV
      rw [h1]
      by_cases c2 : ((i / 512 : Nat) : Int) = k
      · rw [if_pos (by omega), if_pos (by rw [c2]; exact List.mem_cons_self ..), c2]
        congr 1; omega
      · rw [if_neg (by omega), if_neg (fun hm => by rcases List.mem_cons.1 hm with e | e; exact c2 e; exact c e)]
theorem snocD_eq {rs : List RecR} (h : rs ≠ []) (x : List Int) : ∃ init last, rs = init ++ [last] ∧ snocD rs x = init ++ [(last.1, last.2 ++ x)] := by
  refine ⟨rs.dropLast, rs.getLast h, (List.dropLast_concat_getLast h).symm, ?_⟩
  have e := (List.dropLast_concat_getLast h).symm
  generalize rs.dropLast = a at e
  generalize rs.getLast h = b at e
  subst e
  unfold snocD
  rw [show (a ++ [b]).length - 1 = a.length by simp]
  rw [List.getD_eq_getElem?_getD, List.getElem?_append_right (Nat.le_refl _), Nat.sub_self]
  rw [List.set_append_right _ _ (Nat.le_refl _), Nat.sub_self]
  rfl
/-- What is known of the records of some sectors. -/
structure RecS (d : List (Int × List Int)) (ks : List Int) (rs : List RecR) : Prop where
  view : ∀ f, doneV rs f = keyV d ks f
  last : ks ≠ [] → ∃ init r, rs = init ++ [r] ∧ r.1 + r.2.length = (ks.getD (ks.length - 1) 0 + 1) * 512
  cov : ∀ r ∈ rs, 0 ≤ r.1 ∧ 0 < r.2.length ∧ ∀ i : Nat, r.1 ≤ i → (i : Int) < r.1 + r.2.length → ((i / 512 : Nat) : Int) ∈ ks
  nil : ks = [] → rs = []
theorem keyV_snoc (d : List (Int × List Int)) (ks : List Int) (k : Int) (f : Nat → Int) : keyV d (ks ++ [k]) f = wrV (keyV d ks f) (k * 512).toNat ((lkS k d).getD []) := by
  unfold keyV; rw [List.foldl_append]; rfl
theorem bldR_S {d : List (Int × List Int)} {ks : List Int} (hk : SecsOk d ks) : ∀ m, m ≤ ks.length → RecS d (ks.take m) (bldR d ks m)
  | 0, _ => by
    rw [List.take_zero]
    exact ⟨fun f => rfl, fun h => absurd rfl h, fun r hr => absurd hr List.not_mem_nil, fun _ => rfl⟩
  | m + 1, hm => by
    have ih := bldR_S hk m (by omega)
    have hkm : ks.getD m 0 ∈ ks := by
      rw [show ks.getD m 0 = ks[m]'(by omega) by simp [List.getD_eq_getElem?_getD, show m < ks.length by omega]]
      exact List.getElem_mem _
    obtain ⟨k0, k1⟩ := hk _ hkm
    have et : ks.take (m + 1) = ks.take m ++ [ks.getD m 0] := by
      rw [List.take_add_one, List.getElem?_eq_getElem (show m < ks.length by omega), List.getD_eq_getElem?_getD, List.getElem?_eq_getElem (show m < ks.length by omega)]; rfl
    have e : bldR d ks (m + 1) = bldS d ks (bldR d ks m) m := by
      unfold bldR; rw [List.range_succ, List.foldl_append]; rfl
    have tl : (ks.take m).length = m := by rw [List.length_take]; omega
    have hlast : (ks.take (m + 1)).getD ((ks.take (m + 1)).length - 1) 0 = ks.getD m 0 := by
      rw [et, show (ks.take m ++ [ks.getD m 0]).length - 1 = m by rw [List.length_append, tl]; rfl, List.getD_eq_getElem?_getD, List.getElem?_append_right (by omega), tl, Nat.sub_self]; rfl
    rw [e]
    obtain ⟨x, hx⟩ : ∃ x, x = (lkS (ks.getD m 0) d).getD [] := ⟨_, rfl⟩
    rw [← hx] at k1
    unfold bldS
    rw [← hx]
    split
    · rename_i h
      have hne : ks.take m ≠ [] := fun h0 => by rw [h0] at tl; simp at tl; omega
      obtain ⟨init, r, hr, he⟩ := ih.last hne
      have hrn : bldR d ks m ≠ [] := by rw [hr]; simp
      have hpm : (ks.take m).getD ((ks.take m).length - 1) 0 = ks.getD (m - 1) 0 := by
        rw [tl, List.getD_eq_getElem?_getD, List.getElem?_take, if_pos (by omega), List.getD_eq_getElem?_getD]
      rw [hpm, h.2] at he
      have hs : snocD (bldR d ks m) x = init ++ [(r.1, r.2 ++ x)] := by
        obtain ⟨i2, r2, a1, a2⟩ := snocD_eq hrn x
        rw [hr] at a1
        obtain ⟨b1, b2⟩ := List.append_inj' a1 rfl
        cases b2
        rw [a2, ← b1]
      rw [hs]
      have hrr := ih.cov r (by rw [hr]; simp)
      refine ⟨fun f => ?_, fun _ => ⟨init, _, rfl, ?_⟩, fun q hq => ?_, fun h0 => ?_⟩
      · rw [doneV_snoc, et, keyV_snoc, ← hx, ← ih.view f, hr, doneV_snoc, wrV_append]
        congr 1
        omega
      · rw [hlast, List.length_append, k1]
        show r.1 + ((r.2.length + 512 : Nat) : Int) = _
        omega
      · rcases List.mem_append.1 hq with hq | hq
        · obtain ⟨q1, q2, q3⟩ := ih.cov q (by rw [hr]; exact List.mem_append_left _ hq)
          exact ⟨q1, q2, fun i a b => by rw [et]; exact List.mem_append_left _ (q3 i a b)⟩
        · obtain rfl := List.mem_singleton.1 hq
          refine ⟨hrr.1, by show 0 < (r.2 ++ x).length; rw [List.length_append]; omega, fun i a b => ?_⟩
          have b : (i : Int) < r.1 + ((r.2 ++ x).length : Int) := b
          rw [List.length_append] at b
          rw [et]
          by_cases c : (i : Int) < r.1 + r.2.length
          · exact List.mem_append_left _ (hrr.2.2 i a c)
          · refine List.mem_append_right _ (List.mem_singleton.2 ?_)
            omega
      · rw [et] at h0; simp at h0
    · refine ⟨fun f => ?_, fun _ => ⟨_, _, rfl, ?_⟩, fun q hq => ?_, fun h0 => ?_⟩
      · rw [doneV_snoc, et, keyV_snoc, ih.view f, ← hx]
      · rw [hlast]
        show ks.getD m 0 * 512 + (x.length : Int) = _
        omega
      · rcases List.mem_append.1 hq with hq | hq
        · obtain ⟨q1, q2, q3⟩ := ih.cov q hq
          exact ⟨q1, q2, fun i a b => by rw [et]; exact List.mem_append_left _ (q3 i a b)⟩
        · obtain rfl := List.mem_singleton.1 hq
          refine ⟨by show 0 ≤ ks.getD m 0 * 512; omega, by show 0 < x.length; omega, fun i a b => ?_⟩
          have a : ks.getD m 0 * 512 ≤ (i : Int) := a
          have b : (i : Int) < ks.getD m 0 * 512 + (x.length : Int) := b
          rw [et]
          exact List.mem_append_right _ (List.mem_singleton.2 (by omega))
      · rw [et] at h0; simp at h0
theorem secs_of {t : TR} (h : t.Ok) (hk : ∀ q ∈ t.dirty, 0 ≤ q.1) {ks : List Int} (hp : ∀ k ∈ ks, k ∈ t.dirty.map (fun x => x.1)) : SecsOk t.dirty ks := by
  intro k hq
  obtain ⟨l, hl⟩ := lkS_of_mem (hp k hq)
  rw [hl]
  exact ⟨hk _ (lkS_mem hl), h.sec _ (lkS_mem hl)⟩
theorem lkS_key {n : Int} : ∀ {d : List (Int × List Int)} {l : List Int}, lkS n d = some l → n ∈ d.map (fun x => x.1) := fun h => List.mem_map.2 ⟨_, lkS_mem h, rfl⟩
/-- All in one: the records of a tx. -/
theorem RecRel.S {t : TR} {rs : List RecR} (h : RecRel t rs) (ho : t.Ok) (hk : ∀ q ∈ t.dirty, 0 ≤ q.1) : (∀ (s : DF) (i : Nat), doneV rs (doneV t.fresh s.V) i = t.V s.now i) ∧ (∀ r ∈ rs, 0 ≤ r.1 ∧ 0 < r.2.length ∧ ∀ i : Nat, r.1 ≤ i → (i : Int) < r.1 + r.2.length → ((i / 512 : Nat) : Int) ∈ t.dirty.map (fun x => x.1)) := by
  obtain ⟨ks, h1, h2, rfl⟩ := h
  have hs := secs_of ho hk (ks := ks) (fun k hk => h1.subset hk)
  have hS := bldR_S hs ks.length (Nat.le_refl _)
  rw [List.take_length] at hS
  refine ⟨fun s i => ?_, fun r hr => ?_⟩
  · rw [hS.view, keyV_get ks _ hs, TR.V_eq ho]
    cases hq : lkS ((i / 512 : Nat) : Int) t.dirty with
    | some l => rw [if_pos (h1.symm.subset (lkS_key hq))]; rfl
    | none =>
      rw [if_neg (fun hm => ?_)]
      obtain ⟨l, hl⟩ := lkS_of_mem (h1.subset hm)
      rw [hq] at hl; cases hl
  · obtain ⟨q1, q2, q3⟩ := hS.cov r hr
    exact ⟨q1, q2, fun i a b => h1.subset (q3 i a b)⟩
end Go.Proofs.Ytcfmlnddmpiemaa.Sx


set_option maxRecDepth 10000
namespace Go.Proofs.Ytcfmlnddmpiemaa.Sx
/-! ### A commit on a calm file, plain -/
theorem perm_sorted_eq : ∀ {l m : List Int}, l.Perm m → l.Pairwise (· ≤ ·) → m.Pairwise (· ≤ ·) → l = m
  | [], m, h, _, _ => (List.nil_perm.1 h).symm
  | a :: l, [], h, _, _ => absurd h.length_eq (by simp)
  | a :: l, b :: m, h, h1, h2 => by
    have hab : a = b := by
      rcases List.mem_cons.1 (h.symm.subset (List.mem_cons_self (a := b) (l := m))) with e | hb
      · exact e.symm
      rcases List.mem_cons.1 (h.subset (List.mem_cons_self (a := a) (l := l))) with e | ha
      · exact e
      exact Int.le_antisymm ((List.pairwise_cons.1 h1).1 b hb) ((List.pairwise_cons.1 h2).1 a ha)
    subst hab
    rw [perm_sorted_eq (List.Perm.cons_inv h) (List.pairwise_cons.1 h1).2 (List.pairwise_cons.1 h2).2]
theorem RecRel.unique {t : TR} {r r' : List RecR} (h : RecRel t r) (h' : RecRel t r') : r = r' := by
  obtain ⟨ks, a1, a2, rfl⟩ := h
  obtain ⟨ks', b1, b2, rfl⟩ := h'
  rw [perm_sorted_eq (a1.trans b1.symm) a2 b2]
/-- A tx whose changes may be committed by a journal. -/
structure TR.In (t : TR) (j : JR) : Prop where
  keys : ∀ q ∈ t.dirty, 0 ≤ q.1 ∧ q.1 ≤ 8191 ∧ (q.1 * 512 + 512 ≤ j.pos ∨ j.pos + j.size ≤ q.1 * 512) ∧ B8 q.2
  nodup : (t.dirty.map (fun x => x.1)).Nodup
  frs : ∀ r ∈ t.fresh, 0 ≤ r.1 ∧ r.1 + r.2.length ≤ 4194304 ∧ (r.1 + r.2.length ≤ j.pos ∨ j.pos + j.size ≤ r.1) ∧ B8 r.2
theorem TR.In.recs {t : TR} {j : JR} (h : t.In j) (ho : t.Ok) (hj : j.Ok) {rs : List RecR} (hr : RecRel t rs) : ∀ r ∈ rs, j.out r.1 r.2.length ∧ r.1 + r.2.length ≤ 4194304 := by
  obtain ⟨-, hc⟩ := hr.S ho (fun q hq => (h.keys q hq).1)
  obtain ⟨j1, j2, j3, j4, j5, j6⟩ := hj
  intro r hm
  obtain ⟨c1, c2, c3⟩ := hc r hm
  have key : ∀ i : Nat, r.1 ≤ i → (i : Int) < r.1 + r.2.length → (i : Int) < 4194304 ∧ ((i : Int) < j.pos ∨ j.pos + j.size ≤ i) := by
    intro i a b
    obtain ⟨q, hq, e⟩ := List.mem_map.1 (c3 i a b)
    have := h.keys q hq
    omega
  have h1 := key (r.1.toNat + r.2.length - 1) (by omega) (by omega)
  refine ⟨⟨c1, by omega, by omega, by omega, ?_⟩, by omega⟩
  by_cases c : r.1 + r.2.length ≤ j.pos
  · exact .inl c
  · refine .inr (Int.not_lt.1 (fun c4 => ?_))
    have := key (max r.1 j.pos).toNat (by omega) (by omega)
    omega
theorem doneV_congr : ∀ (rs : List RecR) (f g : Nat → Int) (i : Nat), f i = g i → doneV rs f i = doneV rs g i
  | [], f, g, i, h => h
  | r :: rs, f, g, i, h => by
    rw [doneV_cons, doneV_cons]
    refine doneV_congr rs _ _ i ?_
    unfold wrV
    rw [h]
/-- What a commit does on a calm file. -/
structure ComEnd (t : TR) (j : JR) (s : DF) (rs : List RecR) (x : Int × TR × JR × DF) : Prop where
  err : x.1 = 0
  tx : x.2.1 = t.close
  jr : x.2.2.1 = j ∨ x.2.2.1 = j.next
  live : x.2.2.2.live
  view : ∀ i, ¬ j.inJ i → x.2.2.2.V i = t.V s.now i
  len : x.2.2.2.now.length = lenR rs (lenR t.fresh s.now.length)
  items : s.items = [] → x.2.2.2.items = []
end Go.Proofs.Ytcfmlnddmpiemaa.Sx


set_option maxRecDepth 10000
namespace Go.Proofs.Ytcfmlnddmpiemaa.Sx
/-! ### Put and Fresh keep what a commit needs, plain -/
theorem upS_keys (n : Int) (v : List Int) : ∀ (d : List (Int × List Int)), (upS n v d).map (fun x => x.1) = if n ∈ d.map (fun x => x.1) then d.map (fun x => x.1) else d.map (fun x => x.1) ++ [n]
  | [] => by
    show [n] = if n ∈ ([] : List Int) then [] else [n]
    rw [if_neg List.not_mem_nil]
  | (a, u) :: r => by
    unfold upS
    by_cases h : a = n
    · rw [if_pos h, if_pos (List.mem_map.2 ⟨_, List.mem_cons_self .., h⟩)]; rfl
    · rw [if_neg h, List.map_cons, upS_keys n v r, List.map_cons]
      by_cases h2 : n ∈ r.map (fun x => x.1)
      · rw [if_pos h2, if_pos (List.mem_cons_of_mem _ h2)]
      · rw [if_neg h2, if_neg (fun hm => by rcases List.mem_cons.1 hm with e | e; exact h e.symm; exact h2 e)]; rfl
theorem upS_nodup {n : Int} {v : List Int} {d : List (Int × List Int)} (h : (d.map (fun x => x.1)).Nodup) : ((upS n v d).map (fun x => x.1)).Nodup := by
  rw [upS_keys]
  split
  · exact h
  · rename_i h2
    rw [List.nodup_append]
    exact ⟨h, by simp, fun a ha q hq => by simp at hq; subst hq; exact fun e => h2 (e ▸ ha)⟩
theorem upS_mem {n : Int} {v : List Int} : ∀ {d : List (Int × List Int)} {q : Int × List Int}, q ∈ upS n v d → q = (n, v) ∨ q ∈ d
  | [], q, h => .inl (List.mem_singleton.1 h)
  | (a, u) :: r, q, h => by
    unfold upS at h
    split at h
    · rename_i e
      rcases List.mem_cons.1 h with h | h
      · rw [← e]; exact .inl h
      · exact .inr (List.mem_cons_of_mem _ h)
    · rcases List.mem_cons.1 h with h | h
      · exact .inr (h ▸ List.mem_cons_self ..)
      · rcases upS_mem h with h | h
        · exact .inl h
        · exact .inr (List.mem_cons_of_mem _ h)
theorem sec_B8 {t : TR} {now : List Int} (hb : t.B now) (ho : t.Ok) (n : Nat) : B8 (t.sec now (n : Int)) := by
  intro x hx
  obtain ⟨i, hi, rfl⟩ := List.mem_iff_getElem.1 hx
  have hl := ho.sec_length now (n : Int) (by omega)
  have := hb (512 * n + i)
  unfold TR.V at this
  rw [show (512 * n + i) / 512 = n by omega, show (512 * n + i) % 512 = i by omega, List.getD_eq_getElem?_getD, List.getElem?_eq_getElem hi] at this
  exact this
def JR.al (j : JR) : Prop := j.pos % 512 = 0 ∧ j.size % 512 = 0
theorem wr1_In {t : TR} {j : JR} {now : List Int} (h : t.In j) (ho : t.Ok) (hb : t.B now) {a : Nat} {xs : List Int} (hx : B8 xs) (ha : j.al) (h0 : 0 < xs.length) (h1 : a + xs.length ≤ 4194304) (h2 : a + xs.length ≤ j.pos ∨ j.pos + j.size ≤ a) (h3 : a % 512 + xs.length ≤ 512) : (t.wr1 now a xs).In j := by
  obtain ⟨a1, a2⟩ := ha
  refine ⟨fun q hq => ?_, upS_nodup h.nodup, h.frs⟩
  rcases upS_mem (show q ∈ upS _ _ _ from hq) with rfl | hq
  · exact ⟨by show (0 : Int) ≤ ((a / 512 : Nat) : Int); omega, by show ((a / 512 : Nat) : Int) ≤ 8191; omega, by show ((a / 512 : Nat) : Int) * 512 + 512 ≤ j.pos ∨ j.pos + j.size ≤ ((a / 512 : Nat) : Int) * 512; omega, putG_B8 (sec_B8 hb ho _) hx⟩
  · exact h.keys q hq
theorem wr1_B {t : TR} {now : List Int} (ho : t.Ok) (hb : t.B now) {a : Nat} {xs : List Int} (hx : B8 xs) (h3 : a % 512 + xs.length ≤ 512) : (t.wr1 now a xs).B now := by
  intro i
  rw [wr1_V ho now a xs h3]
  split
  · exact hx.getD _
  · exact hb i
theorem putF_In : ∀ (f : Nat) (t : TR) (j : JR) (now : List Int) (a : Nat) (p : List Int), t.In j → t.Ok → t.B now → B8 p → j.al → a + p.length ≤ 4194304 → (p.length = 0 ∨ a + p.length ≤ j.pos ∨ j.pos + j.size ≤ a) → p.length ≤ f → (TR.putF f t now a p).In j
  | 0, t, j, now, a, p, h, _, _, _, _, _, _, _ => h
  | f + 1, t, j, now, a, p, h, ho, hb, hp, ha, h1, h2, hf => by
    by_cases h0 : p.length = 0
    · rw [putF_nil _ _ _ _ _ h0]; exact h
    · have e : TR.putF (f + 1) t now a p = TR.putF f (t.wr1 now a (p.take (min p.length (512 - a % 512)))) now (a + min p.length (512 - a % 512)) (p.drop (min p.length (512 - a % 512))) := by
        show (if _ then _ else _) = _; rw [if_neg h0]
      rw [e]
      generalize hk : min p.length (512 - a % 512) = k
      have hkl : (p.take k).length = k := by rw [List.length_take]; omega
      have hdl : (p.drop k).length = p.length - k := List.length_drop ..
      have h2 : a + p.length ≤ j.pos ∨ j.pos + j.size ≤ a := by omega
      exact putF_In f _ j now (a + k) (p.drop k) (wr1_In h ho hb (hp.take _) ha (by omega) (by omega) (by omega) (by omega)) (ho.wr1 now a (p.take k) (by omega)) (wr1_B ho hb (hp.take _) (by omega)) (hp.drop _) ha (by omega) (by omega) (by omega)
theorem put_In {t : TR} {j : JR} {now : List Int} {a : Nat} {p : List Int} (h : t.In j) (ho : t.Ok) (hb : t.B now) (hp : B8 p) (ha : j.al) (h1 : a + p.length ≤ 4194304) (h2 : p.length = 0 ∨ a + p.length ≤ j.pos ∨ j.pos + j.size ≤ a) : (t.put now a p).In j := putF_In _ t j now a p h ho hb hp ha h1 h2 (Nat.le_refl _)
theorem lay1_lk (t : TR) (r : RecR) (n m : Int) : lkS m (t.lay1 r n).dirty = if m = n then (lkS n t.dirty).map (fun l => layR (n * 512) l r) else lkS m t.dirty := by
  unfold TR.lay1
  cases hq : lkS n t.dirty with
  | none =>
    show lkS m t.dirty = _
    split
    · rename_i e; rw [e, hq]; rfl
    · rfl
  | some l =>
    show lkS m (upS n _ t.dirty) = _
    rw [lkS_upS]; rfl
theorem lay1_In {t : TR} {j : JR} (h : t.In j) {r : RecR} (hr : B8 r.2) (n : Int) : (t.lay1 r n).In j := by
  unfold TR.lay1
  cases hq : lkS n t.dirty with
  | none => exact h
  | some l =>
    have hl := h.keys _ (lkS_mem hq)
    refine ⟨fun q hm => ?_, upS_nodup h.nodup, h.frs⟩
    rcases upS_mem (show q ∈ upS _ _ _ from hm) with rfl | hm
    · refine ⟨hl.1, hl.2.1, hl.2.2.1, ?_⟩
      show B8 (layR _ l r)
      unfold layR
      split
      · exact putG_B8 hl.2.2.2 ((hr.drop _).take _)
      · exact hl.2.2.2
    · exact h.keys q hm
theorem layN_all : ∀ (k : Nat) (t : TR) (r : RecR) (n : Nat), t.Ok → (TR.layN k t r n).Ok ∧ (TR.layN k t r n).fresh = t.fresh ∧ (TR.layN k t r n).over = t.over ∧ (TR.layN k t r n).cap = t.cap ∧ (∀ j : JR, t.In j → B8 r.2 → (TR.layN k t r n).In j) ∧
    ∀ m : Nat, lkS (m : Int) (TR.layN k t r n).dirty = if n ≤ m ∧ m < n + k then (lkS (m : Int) t.dirty).map (fun l => layR ((m : Int) * 512) l r) else lkS (m : Int) t.dirty
  | 0, t, r, n, h => ⟨h, rfl, rfl, rfl, fun _ h _ => h, fun m => by rw [if_neg (by omega)]; rfl⟩
  | k + 1, t, r, n, h => by
    obtain ⟨o1, o2, o3, o4⟩ := TR.lay1_ok h r (n : Int) (by omega)
    obtain ⟨i1, i2, i3, i4, i5, i6⟩ := layN_all k (t.lay1 r (n : Int)) r (n + 1) o1
    refine ⟨i1, i2.trans o2, i3.trans o3, i4.trans o4, fun j hI hr => i5 j (lay1_In hI hr _) hr, fun m => ?_⟩
    show lkS (m : Int) (TR.layN k (t.lay1 r (n : Int)) r (n + 1)).dirty = _
    rw [i6, lay1_lk]
    by_cases c : m = n
    · subst c
      rw [if_neg (by omega), if_pos rfl, if_pos (by omega)]
    · by_cases c2 : n + 1 ≤ m ∧ m < n + 1 + k
      · rw [if_pos c2, if_neg (by omega), if_pos (by omega)]
      · rw [if_neg c2, if_neg (by omega), if_neg (by omega)]
/-- What is written ahead is seen. -/
theorem fresh_V {t : TR} (h : t.Ok) (s : DF) {a : Nat} {p : List Int} {c : Nat} (ha : a % 512 = 0) (h1 : a + p.length ≤ 4194304) (hc : t.fresh.length + 1 ≤ c) (hn : t.fresh.length + 1 ≤ 1073741824) :
    (t.freshT a p c).Ok ∧ (t.freshT a p c).fresh = t.fresh ++ [((a : Int), p)] ∧ (t.freshT a p c).over = t.over ∧ (t.freshT a p c).cap = c ∧ (∀ j : JR, t.In j → B8 p → (p.length = 0 ∨ a + p.length ≤ j.pos ∨ j.pos + j.size ≤ a) → (a + p.length ≤ j.pos ∨ j.pos + j.size ≤ a) → (t.freshT a p c).In j) ∧
    ∀ i, (t.freshT a p c).V s.now i = wrV (t.V s.now) a p i := by
  have hO : (t.addF ((a : Int), p) c).Ok := by
    refine ⟨h.sec, ?_, ?_, ?_⟩
    · intro q hq
      rcases List.mem_append.1 (show q ∈ t.fresh ++ [((a : Int), p)] from hq) with hq | hq
      · exact h.frs q hq
      · obtain rfl := List.mem_singleton.1 hq
        exact ⟨by show (0 : Int) ≤ a; omega, by show (a : Int) ≤ _; omega, by show p.length ≤ _; omega⟩
    · show (t.fresh ++ [((a : Int), p)]).length ≤ c; rw [List.length_append]; exact hc
    · show (t.fresh ++ [((a : Int), p)]).length ≤ _; rw [List.length_append]; exact hn
  obtain ⟨i1, i2, i3, i4, i5, i6⟩ := layN_all ((p.length + 511) / 512) (t.addF ((a : Int), p) c) ((a : Int), p) (a / 512) hO
  refine ⟨i1, i2, i3, i4, fun j hI hp _ hr => i5 j ⟨hI.keys, hI.nodup, fun r hm => ?_⟩ hp, fun i => ?_⟩
  · rcases List.mem_append.1 (show r ∈ t.fresh ++ [((a : Int), p)] from hm) with hm | hm
    · exact hI.frs r hm
    · obtain rfl := List.mem_singleton.1 hm
      exact ⟨by show (0 : Int) ≤ a; omega, by show (a : Int) + p.length ≤ _; omega, hr, hp⟩
  · rw [TR.V_eq (t := t.freshT a p c) i1]
    have e6 := i6 (i / 512)
    have e6 : lkS ((i / 512 : Nat) : Int) (t.freshT a p c).dirty = if a / 512 ≤ i / 512 ∧ i / 512 < a / 512 + (p.length + 511) / 512 then (lkS ((i / 512 : Nat) : Int) t.dirty).map (fun l => layR (((i / 512 : Nat) : Int) * 512) l ((a : Int), p)) else lkS ((i / 512 : Nat) : Int) t.dirty := e6
    rw [e6]
    have e2 : doneV (t.freshT a p c).fresh s.V i = wrV (doneV t.fresh s.V) a p i := by
      have : (t.freshT a p c).fresh = t.fresh ++ [((a : Int), p)] := i2
      rw [this, doneV_snoc]; rfl
    cases hq : lkS ((i / 512 : Nat) : Int) t.dirty with
    | none =>
      have : (if a / 512 ≤ i / 512 ∧ i / 512 < a / 512 + (p.length + 511) / 512 then (none : Option (List Int)).map (fun l => layR (((i / 512 : Nat) : Int) * 512) l ((a : Int), p)) else none) = none := by split <;> rfl
      rw [this]
      show doneV (t.freshT a p c).fresh s.V i = wrV (t.V s.now) a p i
      rw [e2]
      unfold wrV
      split
      · rfl
      · rw [TR.V_eq h, hq]
    | some l =>
      have hl : l.length = 512 := h.sec _ (lkS_mem hq)
      have hVi : t.V s.now i = l.getD (i % 512) 0 := by rw [TR.V_eq h, hq]
      unfold wrV
      rw [hVi]
      by_cases c1 : a / 512 ≤ i / 512 ∧ i / 512 < a / 512 + (p.length + 511) / 512
      · rw [if_pos c1]
        show (layR (((i / 512 : Nat) : Int) * 512) l ((a : Int), p)).getD (i % 512) 0 = _
        rw [layR_get hl (by omega) (by show (0 : Int) ≤ a; omega) (Nat.mod_lt _ (by omega))]
        have e3 : (((i / 512 : Nat) : Int) * 512).toNat + i % 512 = i := by omega
        have e4 : ((a : Int), p).1.toNat = a := Int.toNat_natCast _
        rw [e3, e4]
      · rw [if_neg c1]
        show l.getD (i % 512) 0 = _
        rw [if_neg (by omega)]
theorem TR.In.count {t : TR} {j : JR} (h : t.In j) : t.dirty.length ≤ 8192 := by
  have hn : ((t.dirty.map (fun x => x.1)).map Int.toNat).Nodup := by
    rw [List.nodup_iff_pairwise_ne, List.pairwise_map]
    refine List.Pairwise.imp_of_mem ?_ (List.nodup_iff_pairwise_ne.1 h.nodup)
    intro a b ha hb hne e
    obtain ⟨q, hq, rfl⟩ := List.mem_map.1 ha
    obtain ⟨r, hr, rfl⟩ := List.mem_map.1 hb
    have := h.keys q hq
    have := h.keys r hr
    omega
  have := sub_len (s := List.range 8192) hn (fun b hb => by
    obtain ⟨k, hk, rfl⟩ := List.mem_map.1 hb
    obtain ⟨q, hq, rfl⟩ := List.mem_map.1 hk
    have := h.keys q hq
    exact List.mem_range.2 (by omega))
  rwa [List.length_map, List.length_map, List.length_range] at this
theorem frOps_cost (t : TR) : cost (frOps t) ≤ cost (wrs t.fresh) + 1 := by
  unfold frOps
  rw [cost_append]
  split
  · simp only [cost]; omega
  · simp only [cost, FOp.size]; omega
theorem tcomRel_ok {t : TR} {j : JR} {s : DF} {z : List Int} {x : Int × TR × JR × DF} {n : Int} (h : tcomRel t j s z x) (hs : s.Ok n) (hz : z.length = 512) (hj : j.size ≤ 4194304) : x.2.2.2.Ok (n + cost (wrs t.fresh) + 10000001) := by
  have h0 := cost_nonneg (wrs t.fresh)
  rcases h with ⟨_, rfl⟩ | ⟨_, rs, hr, h⟩
  · exact hs.mono (by omega)
  rcases h with ⟨_, rfl⟩ | ⟨hf, y, hy, h⟩
  · exact hs.mono (by omega)
  have hyo : y.2.Ok (n + (cost (wrs t.fresh) + 1)) := by
    rw [hy]
    exact (DF.run_ok _ hs).mono (by have := frOps_cost t; omega)
  rcases h with ⟨_, rfl⟩ | ⟨_, _, rfl⟩ | ⟨_, _, q, hq, h⟩
  · exact hyo.mono (by omega)
  · exact hyo.mono (by omega)
  · have hqo := (comRel_ok hq hyo hj).1
    rcases h with ⟨_, rfl⟩ | ⟨_, u, hu, rfl⟩
    · exact hqo.mono (by omega)
    · show u.2.Ok _
      rw [hu]
      refine (DF.run_ok _ hqo).mono ?_
      have := cost_wrs_le rs
      rw [cost_append]
      simp only [cost, FOp.size]
      omega
end Go.Proofs.Ytcfmlnddmpiemaa.Sx


set_option maxRecDepth 10000
namespace Go.Proofs.Ytcfmlnddmpiemaa.Sx
/-! ### A tx's commit, cut off anywhere, plain -/
/-- Writes within a file, cut off anywhere: only their bytes may be laid. -/
theorem wrs_items : ∀ (rs : List RecR) (s : DF), (∀ r ∈ rs, 0 ≤ r.1 ∧ r.1.toNat + r.2.length ≤ s.now.length) →
    (s.run (wrs rs)).2.safe = s.safe ∧ (s.run (wrs rs)).2.now.length = s.now.length ∧ (∀ it ∈ (s.run (wrs rs)).2.items, it ∈ s.items ∨ ∃ r ∈ rs, it ∈ segs r.2.length r.1 r.2) ∧ ((s.run (wrs rs)).1 = 0 → (s.run (wrs rs)).2.now = doneL rs s.now)
  | [], s, _ => ⟨rfl, rfl, fun it h => .inl h, fun _ => rfl⟩
  | r :: rs, s, h => by
    obtain ⟨h0, h1⟩ := h r (List.mem_cons_self ..)
    rw [show wrs (r :: rs) = .wr r.1 r.2 :: wrs rs from rfl, DF.run]
    by_cases hA : (s.doOp (.wr r.1 r.2)).1 = 0
    · rw [if_pos hA]
      obtain ⟨-, hd⟩ := DF.doOp_did hA (by omega)
      rw [hd]
      have hl : (putG s.now r.1.toNat r.2).length = s.now.length := by rw [putG_length (by omega)]; omega
      obtain ⟨i1, i2, i3, i4⟩ := wrs_items rs { s with now := putG s.now r.1.toNat r.2, items := s.items ++ segs r.2.length r.1 r.2, ops := s.ops + 1, wrote := s.wrote + 1 } (fun q hq => by
        have := h q (List.mem_cons_of_mem _ hq)
        show 0 ≤ q.1 ∧ q.1.toNat + q.2.length ≤ (putG s.now r.1.toNat r.2).length
        omega)
      refine ⟨i1, i2.trans hl, fun it hit => ?_, fun he => (i4 he).trans rfl⟩
      rcases i3 it hit with h2 | ⟨q, hq, h2⟩
      · rcases List.mem_append.1 (show it ∈ s.items ++ segs r.2.length r.1 r.2 from h2) with h2 | h2
        · exact .inl h2
        · exact .inr ⟨r, List.mem_cons_self .., h2⟩
      · exact .inr ⟨q, List.mem_cons_of_mem _ hq, h2⟩
    · rw [if_neg hA]
      have he := DF.doOp_err hA
      rw [he]
      exact ⟨rfl, rfl, fun it h => .inl h, fun h => absurd h hA⟩
/-- What a crash may leave of a file when some of the fresh ones were written. -/
def FrC (j : JR) (b : List Int) (fr : List RecR) (C : List Int) : Prop := C.length = b.length ∧ B8 C ∧ (∀ i, j.inJ i → C.getD i 0 = b.getD i 0) ∧ ∀ i, (∀ r ∈ fr, ¬ covers r i) → C.getD i 0 = b.getD i 0
structure FrIn (j : JR) (b : List Int) (fr : List RecR) : Prop where
  in_ : ∀ r ∈ fr, 0 ≤ r.1 ∧ r.1.toNat + r.2.length ≤ b.length
  out : ∀ r ∈ fr, r.1 + r.2.length ≤ j.pos ∨ j.pos + j.size ≤ r.1
  b8 : ∀ r ∈ fr, B8 r.2
theorem fr_crash {j : JR} {b : List Int} {fr : List RecR} {s : DF} (hj : j.Ok) (hF : FrIn j b fr) (h8 : B8 b) (hs : s.safe = b) (hi : ∀ it ∈ s.items, ∃ r ∈ fr, it ∈ segs r.2.length r.1 r.2) (ks : List Bool) : FrC j b fr (crashL s.safe s.items ks) := by
  obtain ⟨j1, j2, j3, j4, j5, j6⟩ := hj
  rw [hs]
  refine crash_keeps (FrC j b fr) s.items b ks (fun it hit C hC => ?_) ⟨rfl, h8, fun _ _ => rfl, fun _ _ => rfl⟩
  obtain ⟨r, hr, hm⟩ := hi it hit
  obtain ⟨i1, i2, i3, i4⟩ := segs_in _ _ _ it hm
  obtain ⟨f0, f1⟩ := hF.in_ r hr
  have fo := hF.out r hr
  obtain ⟨c1, c2, c3, c4⟩ := hC
  rw [i1]
  have hl := layL_length (b := C) (at_ := it.2.1) (xs := it.2.2) (by omega)
  refine ⟨by rw [hl]; omega, ?_, fun i hi => ?_, fun i hi => ?_⟩
  · rw [layL_eq (by omega)]
    refine putG_B8 ?_ (i4 (hF.b8 r hr))
    unfold layP
    exact c2.append (B8.replicate _)
  · have hi2 : j.pos.toNat ≤ i ∧ i < j.pos.toNat + j.size.toNat := hi
    rw [layL_at (by omega), if_neg (by omega)]
    exact c3 i hi
  · rw [layL_at (by omega), if_neg (fun hq => hi r hr ⟨by omega, by omega⟩)]
    exact c4 i hi
theorem doneL_in {fr : List RecR} {b : List Int} (h : ∀ r ∈ fr, 0 ≤ r.1 ∧ r.1.toNat + r.2.length ≤ b.length) : (doneL fr b).length = b.length := by
  rw [doneL_length fr b (fun r hr => by have := h r hr; omega)]
  refine Nat.le_antisymm (endL_bound b.length fr b.length (Nat.le_refl _) (fun r hr => (h r hr).2)) (endL_ge _ _)
/-- Wherever a tx's commit is cut off. -/
theorem tcrash {t : TR} {j : JR} {s : DF} {z b : List Int} {x : Int × TR × JR × DF} (h : tcomRel t j s z x) (ho : t.over = false) (hs : s.safe = b) (hn : s.now = b) (hi : s.items = []) (hj : j.Ok) (hal : j.pos % 512 = 0) (hf : j.pos + j.size ≤ b.length) (hm : b.length ≤ 4194304) (h8 : B8 b) (h0 : ∀ i, i < 512 → b.getD (j.pos.toNat + i) 0 = 0)
    (hT : t.Ok) (hI : t.In j) (hF : ∀ r ∈ t.fresh, r.1.toNat + r.2.length ≤ b.length) (hD : ∀ q ∈ t.dirty, q.1 * 512 + 512 ≤ b.length) (hz : z = List.replicate 512 0) {rs : List RecR} (hr : RecRel t rs) (hfit : (encL rs).length ≤ j.size - 512) :
    JCase j (doneL t.fresh b) rs ∧ ∀ ks, FrC j b t.fresh (crashL x.2.2.2.safe x.2.2.2.items ks) ∨ Cr j (doneL t.fresh b) rs (crashL x.2.2.2.safe x.2.2.2.items ks) := by
  have hFI : FrIn j b t.fresh := ⟨fun r hm => ⟨(hI.frs r hm).1, hF r hm⟩, fun r hm => (hI.frs r hm).2.2.1, fun r hm => (hI.frs r hm).2.2.2⟩
  have hl1 := doneL_in hFI.in_
  have hout := hI.recs hT hj hr
  have hcov := (hr.S hT (fun q hq => (hI.keys q hq).1)).2
  have hr8 := hr.B8 (fun q hq => (hI.keys q hq).2.2.2)
  obtain ⟨j1, j2, j3, j4, j5, j6⟩ := hj
  have hj : j.Ok := ⟨j1, j2, j3, j4, j5, j6⟩
  have hend : ∀ r ∈ rs, r.1 + r.2.length ≤ b.length := fun r hm => by
    obtain ⟨c1, c2, c3⟩ := hcov r hm
    obtain ⟨q, hq, e⟩ := List.mem_map.1 (c3 (r.1.toNat + r.2.length - 1) (by omega) (by omega))
    have := hD q hq
    omega
  have hJ : JCase j (doneL t.fresh b) rs := ⟨hj, hal, by rw [hl1]; exact hf, doneL_B8 _ _ h8 hFI.b8, fun r hm => (hout r hm).1, fun r hm => ⟨(hout r hm).1.1, (hout r hm).1.2.2.1, by have := (hout r hm).1.1; have := hend r hm; omega⟩, hr8, fun r hm => by rw [hl1]; have := hend r hm; have := (hcov r hm).1; omega, by rw [hl1]; exact hm, hfit⟩
  refine ⟨hJ, ?_⟩
  have hz1 : ∀ i, i < 512 → (doneL t.fresh b).getD (j.pos.toNat + i) 0 = 0 := fun i hi => by
    rw [doneL_off t.fresh b _ (fun r hm => by have := hFI.in_ r hm; omega) (fun r hm hc => ?_)]
    · exact h0 i hi
    · have := hFI.out r hm
      have := hFI.in_ r hm
      have hc : r.1.toNat ≤ j.pos.toNat + i ∧ j.pos.toNat + i < r.1.toNat + r.2.length := hc
      omega
  rcases h with ⟨h, _⟩ | ⟨_, rs', hr', h⟩
  · rw [ho] at h; cases h
  obtain rfl := hr.unique hr'
  rcases h with ⟨h, _⟩ | ⟨_, y, hy, h⟩
  · omega
  obtain ⟨w1, w2, w3, w4⟩ := wrs_items t.fresh s (fun r hm => by rw [hn]; exact hFI.in_ r hm)
  have w3 : ∀ it ∈ (s.run (wrs t.fresh)).2.items, ∃ r ∈ t.fresh, it ∈ segs r.2.length r.1 r.2 := fun it hit => by
    rcases w3 it hit with h | h
    · rw [hi] at h; cases h
    · exact h
  -- what stands behind the fresh ones
  have ends : (y.1 ≠ 0 → y.2.safe = b ∧ ∀ it ∈ y.2.items, ∃ r ∈ t.fresh, it ∈ segs r.2.length r.1 r.2) ∧ (y.1 = 0 → y.2.safe = doneL t.fresh b ∧ y.2.now = doneL t.fresh b ∧ y.2.items = []) := by
    rw [hy]
    unfold frOps
    by_cases hA : (s.run (wrs t.fresh)).1 = 0
    · by_cases hL : t.fresh.length = 0
      · have hf0 : t.fresh = [] := List.eq_nil_of_length_eq_zero hL
        rw [if_pos hL, List.append_nil, hf0]
        exact ⟨fun h => absurd rfl h, fun _ => ⟨hs, hn, hi⟩⟩
      · rw [if_neg hL]
        have e1 : s.run (wrs t.fresh) = (0, (s.run (wrs t.fresh)).2) := Prod.ext hA rfl
        rw [DF.run_good e1, DF.run1]
        have w4 := w4 hA
        rw [hn] at w4
        refine ⟨fun hB => ?_, fun hB => ?_⟩
        · rw [DF.doOp_err hB]
          exact ⟨w1.trans hs, w3⟩
        · rw [DF.doOp_fled hB]
          exact ⟨w4, w4, rfl⟩
    · rw [DF.run_bad hA]
      exact ⟨fun _ => ⟨w1.trans hs, w3⟩, fun h => absurd h hA⟩
  rcases h with ⟨h1, rfl⟩ | ⟨h1, h2, rfl⟩ | ⟨h1, h2, q, hq, h3⟩
  · intro ks
    obtain ⟨e1, e2⟩ := ends.1 h1
    exact .inl (fr_crash hj hFI h8 e1 e2 ks)
  · intro ks
    obtain ⟨e1, e2, e3⟩ := ends.2 h1
    refine .inr ?_
    show Cr j _ rs (crashL y.2.safe y.2.items ks)
    exact body_cr hJ hz1 e1 (by rw [e3]; intro it hit; cases hit) ks
  · obtain ⟨e1, e2, e3⟩ := ends.2 h1
    obtain ⟨k1, k2⟩ := commit_cr hJ hz1 e1 e2 e3 hq
    rcases h3 with ⟨h3, rfl⟩ | ⟨h3, u, hu, rfl⟩
    · exact fun ks => .inr (k1 ks)
    · obtain ⟨n1, n2, n3, n4, n5⟩ := k2 h3
      have hap := (apply_cr hJ hz n4 n5 rfl n3 n2).1
      intro ks
      refine .inr ?_
      show Cr j _ rs (crashL u.2.safe u.2.items ks)
      rw [hu, n1]
      exact hap ks
/-- Where only fresh ones may stand nothing is pending. -/
theorem FrC.pend {j : JR} {b C : List Int} {fr : List RecR} (hj : j.Ok) (hf : j.pos + j.size ≤ b.length) (h0 : ∀ i, i < 512 → b.getD (j.pos.toNat + i) 0 = 0) (h : FrC j b fr C) : pendB j (j.partL C) = none := by
  obtain ⟨j1, j2, j3, j4, j5, j6⟩ := hj
  refine zero_none ⟨j1, j2, j3, j4, j5, j6⟩ (by rw [h.1]; omega) (fun i hi => ?_)
  have hJ : j.inJ (j.pos.toNat + i) := ⟨by omega, by omega⟩
  exact (h.2.2.1 _ hJ).trans (h0 i (by omega))
end Go.Proofs.Ytcfmlnddmpiemaa.Sx


set_option maxRecDepth 10000
namespace Go.Proofs.Ytcfmlnddmpiemaa.Sx
/-! ### How many bytes the records take: each sector 512, each run of them 12 more -/
def encI (ks : List Int) : Nat → Nat
  | 0 => 0
  | m + 1 => encI ks m + (if 0 < m ∧ ks.getD (m - 1) 0 = ks.getD m 0 - 1 then 512 else 524)
theorem encL_bld {d : List (Int × List Int)} {ks : List Int} (hk : SecsOk d ks) : ∀ m, m ≤ ks.length → (encL (bldR d ks m)).length = encI ks m
  | 0, _ => rfl
  | m + 1, hm => by
    have ih := encL_bld hk m (by omega)
    have hkm : ks.getD m 0 ∈ ks := by
      rw [show ks.getD m 0 = ks[m]'(by omega) by simp [List.getD_eq_getElem?_getD, show m < ks.length by omega]]
      exact List.getElem_mem _
    obtain ⟨k0, k1⟩ := hk _ hkm
    have e : bldR d ks (m + 1) = bldS d ks (bldR d ks m) m := by
      unfold bldR; rw [List.range_succ, List.foldl_append]; rfl
    rw [e]
    show _ = encI ks m + _
    rw [← ih]
    unfold bldS
    by_cases h : 0 < m ∧ ks.getD (m - 1) 0 = ks.getD m 0 - 1
    · rw [if_pos h, if_pos h]
      have hS := bldR_S hk m (by omega)
      have tl : (ks.take m).length = m := by rw [List.length_take]; omega
      obtain ⟨init, r, hr, -⟩ := hS.last (fun h0 => by rw [h0] at tl; simp at tl; omega)
      have hn : 0 < (bldR d ks m).length := by rw [hr]; simp
      unfold snocD
      rw [encL_set _ _ _ (by omega), k1]
    · rw [if_neg h, if_neg h, encL_append, encL_cons]
      show _ + (12 + ((lkS (ks.getD m 0) d).getD []).length + 0) = _
      rw [k1]
def cntK (ks : List Int) (S : Int) : Nat := (ks.filter (fun k => decide (k < S))).length
theorem cntK_split {ks : List Int} {S : Int} {i : Nat} (h1 : ∀ x ∈ ks.take i, x < S) (h2 : ∀ x ∈ ks.drop i, S ≤ x) (hi : i ≤ ks.length) : cntK ks S = i := by
  unfold cntK
  conv => lhs; rw [← List.take_append_drop i ks]
  rw [List.filter_append, List.filter_eq_self.2 (fun x hx => by simpa using h1 x hx), List.filter_eq_nil_iff.2 (fun x hx => by have := h2 x hx; simp; omega), List.append_nil, List.length_take]
  omega
/-- By the law: the sectors one by one. -/
def needV (p : Int → Bool) : Nat → Int
  | 0 => 0
  | s + 1 => needV p s + (if p s then (if p ((s : Int) - 1) then 512 else 524) else 0)
theorem sorted_get {ks : List Int} (h : ks.Pairwise (· < ·)) {i j : Nat} (hij : i < j) (hj : j < ks.length) : ks.getD i 0 < ks.getD j 0 := by
  have := List.pairwise_iff_getElem.1 h i j (by omega) hj hij
  simpa [List.getD_eq_getElem?_getD, show i < ks.length by omega, hj] using this
theorem getD_mem {ks : List Int} {i : Nat} (h : i < ks.length) : ks.getD i 0 ∈ ks := by
  rw [show ks.getD i 0 = ks[i] by simp [List.getD_eq_getElem?_getD, h]]; exact List.getElem_mem h
theorem mem_getD {ks : List Int} {x : Int} (h : x ∈ ks) : ∃ i, i < ks.length ∧ ks.getD i 0 = x := by
  obtain ⟨i, hi, e⟩ := List.mem_iff_getElem.1 h
  exact ⟨i, hi, by simpa [List.getD_eq_getElem?_getD, hi] using e⟩
theorem mem_take_getD {ks : List Int} {x : Int} {n : Nat} (h : x ∈ ks.take n) : ∃ i, i < n ∧ i < ks.length ∧ ks.getD i 0 = x := by
  obtain ⟨i, hi, e⟩ := List.mem_iff_getElem.1 h
  rw [List.length_take] at hi
  refine ⟨i, by omega, by omega, ?_⟩
  rw [List.getElem_take] at e
  simpa [List.getD_eq_getElem?_getD, show i < ks.length by omega] using e
theorem mem_drop_getD {ks : List Int} {x : Int} {n : Nat} (h : x ∈ ks.drop n) : ∃ i, n ≤ i ∧ i < ks.length ∧ ks.getD i 0 = x := by
  obtain ⟨i, hi, e⟩ := List.mem_iff_getElem.1 h
  rw [List.length_drop] at hi
  refine ⟨n + i, by omega, by omega, ?_⟩
  rw [List.getElem_drop] at e
  simpa [List.getD_eq_getElem?_getD, show n + i < ks.length by omega] using e
theorem needV_eq {ks : List Int} (h : ks.Pairwise (· < ·)) (h0 : ∀ k ∈ ks, 0 ≤ k) : ∀ S : Nat, needV (fun s => decide (s ∈ ks)) S = encI ks (cntK ks S)
  | 0 => by
    rw [show cntK ks ((0 : Nat) : Int) = 0 from cntK_split (i := 0) (fun x hx => by simp at hx) (fun x hx => by rw [List.drop_zero] at hx; have := h0 x hx; omega) (Nat.zero_le _)]
    rfl
  | S + 1 => by
    have ih := needV_eq h h0 S
    show needV _ S + _ = _
    rw [ih]
    by_cases hm : ((S : Nat) : Int) ∈ ks
    · obtain ⟨i, hi, e⟩ := mem_getD hm
      have c1 : cntK ks ((S : Nat) : Int) = i := by
        refine cntK_split (fun x hx => ?_) (fun x hx => ?_) (by omega)
        · obtain ⟨j, j1, j2, rfl⟩ := mem_take_getD hx
          have := sorted_get h j1 hi
          omega
        · obtain ⟨j, j1, j2, rfl⟩ := mem_drop_getD hx
          by_cases q : j = i
          · rw [q, e]; exact Int.le_refl _
          · have := sorted_get h (show i < j by omega) j2
            omega
      have c2 : cntK ks (((S + 1 : Nat)) : Int) = i + 1 := by
        refine cntK_split (fun x hx => ?_) (fun x hx => ?_) (by omega)
        · obtain ⟨j, j1, j2, rfl⟩ := mem_take_getD hx
          by_cases q : j = i
          · rw [q, e]; omega
          · have := sorted_get h (show j < i by omega) hi
            omega
        · obtain ⟨j, j1, j2, rfl⟩ := mem_drop_getD hx
          have := sorted_get h (show i < j by omega) j2
          omega
      rw [c1, c2, if_pos (by simpa using hm)]
      show _ = ((encI ks i + _ : Nat) : Int)
      by_cases q : ((S : Nat) : Int) - 1 ∈ ks
      · rw [if_pos (by simpa using q)]
        obtain ⟨j, j1, j2⟩ := mem_getD q
        have hji : j + 1 = i := by
          have l1 : j < i := by
            rcases Nat.lt_trichotomy j i with r | r | r
            · exact r
            · rw [r, e] at j2; omega
            · have := sorted_get h r j1; omega
          by_cases r : j + 1 = i
          · exact r
          · have a1 := sorted_get h (show j < j + 1 by omega) (by omega)
            have a2 := sorted_get h (show j + 1 < i by omega) hi
            omega
        rw [if_pos ⟨by omega, by rw [show i - 1 = j by omega, j2, e]⟩]
        omega
      · rw [if_neg (by simpa using q), if_neg]
        · omega
        · rintro ⟨r1, r2⟩
          rw [e] at r2
          exact q (r2 ▸ getD_mem (by omega))
    · have c2 : cntK ks (((S + 1 : Nat)) : Int) = cntK ks ((S : Nat) : Int) := by
        unfold cntK
        congr 1
        refine List.filter_congr (fun x hx => ?_)
        have : x ≠ (S : Int) := fun e => hm (e ▸ hx)
        simp
        omega
      rw [c2, if_neg (by simpa using hm)]
      omega
/-- The size of a tx's records, by the law. -/
theorem RecRel.size {t : TR} {rs : List RecR} (h : RecRel t rs) (ho : t.Ok) (hk : ∀ q ∈ t.dirty, 0 ≤ q.1 ∧ q.1 < 80) (hn : (t.dirty.map (fun x => x.1)).Nodup) : ((encL rs).length : Int) = needV (fun s => decide (s ∈ t.dirty.map (fun x => x.1))) 80 := by
  obtain ⟨ks, h1, h2, rfl⟩ := h
  have hs := secs_of ho (fun q hq => (hk q hq).1) (ks := ks) (fun k hk => h1.subset hk)
  have h3 : ks.Pairwise (· < ·) := by
    have hnd := (h1.nodup_iff).2 hn
    rw [List.nodup_iff_pairwise_ne] at hnd
    exact (h2.and hnd).imp (fun ⟨a, b⟩ => by omega)
  have hm : ∀ k ∈ ks, 0 ≤ k ∧ k < 80 := fun k hq => by
    obtain ⟨q, hm, rfl⟩ := List.mem_map.1 (h1.subset hq)
    exact hk q hm
  rw [encL_bld hs ks.length (Nat.le_refl _)]
  have e := needV_eq h3 (fun k hk => (hm k hk).1) 80
  rw [show cntK ks ((80 : Nat) : Int) = ks.length from cntK_split (fun x hx => (hm x (List.mem_of_mem_take hx)).2) (fun x hx => by rw [List.drop_length] at hx; cases hx) (Nat.le_refl _)] at e
  rw [← e]
  congr 1
  funext s
  rw [decide_eq_decide]
  exact ⟨fun h => h1.subset h, fun h => h1.symm.subset h⟩
end Go.Proofs.Ytcfmlnddmpiemaa.Sx

