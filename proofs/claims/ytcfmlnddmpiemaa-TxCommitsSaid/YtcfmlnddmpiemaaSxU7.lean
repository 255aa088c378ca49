import Derived.Test.YtcfmlnddmpiemaaSxU6
import Derived.Test.YtcfmlnddmpiemaaSxU5
import Derived.Test.YtcfmlnddmpiemaaSxU1
set_option linter.unusedVariables false
set_option linter.unusedSimpArgs false
set_option maxRecDepth 10000
namespace Go.Proofs.Ytcfmlnddmpiemaa.Sx
open Go.RowKit Go.Proofs.Ytcfmlnddmpiemaa.Sx.Tb
/-! ### The law TxCommits -/
theorem placeX_b (o : OpR) : 10752 ≤ placeX o ∧ placeX o < 16752 ∧ (o.kind = 2 → placeX o % 512 = 0) := by
  unfold placeX
  split
  · omega
  · exact ⟨by omega, by omega, fun h => absurd h (by assumption)⟩
def secL (a n : Nat) : List Int := (List.range n).map (fun i => ((a / 512 + i : Nat) : Int))
theorem secL_snoc (a n : Nat) : secL a (n + 1) = secL a n ++ [((a / 512 + n : Nat) : Int)] := by
  unfold secL; rw [List.range_succ, List.map_append]; rfl
theorem secL_length (a n : Nat) : (secL a n).length = n := by unfold secL; rw [List.length_map, List.length_range]
theorem secL_mem (a n : Nat) (k : Int) : k ∈ secL a n ↔ ∃ m : Nat, k = (m : Int) ∧ a / 512 ≤ m ∧ m < a / 512 + n := by
  unfold secL
  rw [List.mem_map]
  constructor
  · rintro ⟨i, hi, rfl⟩
    rw [List.mem_range] at hi
    exact ⟨a / 512 + i, rfl, by omega, by omega⟩
  · rintro ⟨m, rfl, h1, h2⟩
    exact ⟨m - a / 512, List.mem_range.2 (by omega), by rw [show a / 512 + (m - a / 512) = m by omega]⟩
structure ComI (b : List Int) (i q : Nat) (t : TR) (m puts : List Int) : Prop where
  ok : t.Ok
  over : t.over = false
  frn : t.fresh.length ≤ i
  inn : t.In jX
  b8 : t.B b
  cst : cost (wrs t.fresh) ≤ 2000 * (i : Int)
  ops : q ≤ 4000 * i
  view : ∀ p, t.V b p = m.getD p 0
  len : b.length ≤ m.length ∧ m.length ≤ 20000
  key : ∀ k : Int, k ∈ t.ks ↔ k ∈ puts
  rng : ∀ k ∈ puts, 0 ≤ k ∧ k < 80
  pln : puts.length ≤ 100 * i
theorem ComI.next {b : List Int} {i q : Nat} {t : TR} {m puts : List Int} (h : ComI b i q t m puts) : ComI b (i + 1) q t m puts := by
  obtain ⟨a1, a2, a3, a4, a5, a6, a7, a8, a9, b1, b2, b3⟩ := h
  exact ⟨a1, a2, by omega, a4, a5, by omega, by omega, a8, a9, b1, b2, by omega⟩
theorem ComI.fresh {b : List Int} {i q : Nat} {t : TR} {m puts : List Int} (h : ComI b i q t m puts) (hi : i ≤ 25) {A c : Nat} {p w : List Int} (hA : 10752 ≤ A ∧ A < 16752 ∧ A % 512 = 0) (hp : p.length ≤ 1500) (h8 : B8 p) (hc : t.fresh.length + 1 ≤ c) (hwl : w.length = max m.length (A + p.length)) (hw : ∀ q, w.getD q 0 = wrV (fun q => m.getD q 0) A p q) : ComI b (i + 1) q (t.freshT A p c) w puts := by
  obtain ⟨a1, a2, a3, a4, a5, a6, a7, a8, a9, b1, b2, b3⟩ := h
  obtain ⟨p1, p2, p3, p4, p5, p6⟩ := fresh_V a1 (DF.mk0 b) (a := A) (p := p) (c := c) hA.2.2 (by omega) hc (by omega)
  have hI := p5 jX a4 h8 (.inr (.inr (by show (512 : Int) + 10240 ≤ A; omega))) (.inr (by show (512 : Int) + 10240 ≤ A; omega))
  have hv : ∀ r, (t.freshT A p c).V b r = w.getD r 0 := fun r => by
    rw [hw]
    refine (p6 r).trans ?_
    unfold wrV
    show (if _ then _ else t.V b r) = (if _ then _ else m.getD r 0)
    rw [a8]
  refine ⟨p1, p3.trans a2, by rw [p2, List.length_append]; show t.fresh.length + 1 ≤ i + 1; omega, hI, fun r => ?_, ?_, by omega, hv, by omega, fun k => ?_, b2, by omega⟩
  · refine (show _ = _ from p6 r) ▸ ?_
    unfold wrV
    split
    · exact h8.getD _
    · exact a5 r
  · rw [p2]
    unfold wrs
    rw [List.map_append, cost_append]
    show cost (wrs t.fresh) + (1 + (p.length : Int) + 0) ≤ 2000 * ((i + 1 : Nat) : Int)
    omega
  · rw [← b1]
    constructor
    · intro hk
      obtain ⟨x, hx, rfl⟩ := List.mem_map.1 hk
      have := (hI.keys x hx).1
      have e : x.1 = ((x.1.toNat : Nat) : Int) := by omega
      rw [e] at hk ⊢
      exact (fresh_ks a1 (by omega) hc (by omega) _).1 hk
    · intro hk
      obtain ⟨x, hx, rfl⟩ := List.mem_map.1 hk
      have := (a4.keys x hx).1
      have e : x.1 = ((x.1.toNat : Nat) : Int) := by omega
      rw [e] at hk ⊢
      exact (fresh_ks a1 (by omega) hc (by omega) _).2 hk
theorem ComI.put {b : List Int} {i q : Nat} {t : TR} {m puts : List Int} (h : ComI b i q t m puts) (hi : i ≤ 25) {A n d : Nat} {p w : List Int} (hA : 10752 ≤ A ∧ A < 16752) (hp : p.length ≤ 1500) (h8 : B8 p) (hd : d ≤ 1500) (hwl : w.length = max m.length (A + p.length)) (hw : ∀ q, w.getD q 0 = wrV (fun q => m.getD q 0) A p q)
    (hn1 : n = 0 ∨ 0 < p.length ∧ (A / 512 + n - 1) * 512 < A + p.length) (hn2 : ¬ (0 < p.length ∧ (A / 512 + n) * 512 < A + p.length)) : ComI b (i + 1) (q + d) (t.put b A p) w (puts ++ secL A n) := by
  obtain ⟨a1, a2, a3, a4, a5, a6, a7, a8, a9, b1, b2, b3⟩ := h
  obtain ⟨p1, p2, p3, p4, p5⟩ := put_V a1 b A p
  have hn4 : n ≤ 4 := by omega
  refine ⟨p1, p3.trans a2, by rw [p2]; omega, put_In a4 a1 a5 h8 jX_al (by omega) (.inr (.inr (by show (512 : Int) + 10240 ≤ A; omega))), a5.put a1 A h8, by rw [p2]; omega, by omega, fun r => ?_, by omega, fun k => ?_, fun k hk => ?_, by rw [List.length_append, secL_length]; omega⟩
  · rw [p5, hw]
    unfold wrV
    show (if _ then _ else t.V b r) = (if _ then _ else m.getD r 0)
    rw [a8]
  · rw [put_ks, List.mem_append, ← b1, secL_mem]
    constructor
    · rintro (h | ⟨h0, r, rfl, h1, h2⟩)
      · exact .inl h
      · exact .inr ⟨r, rfl, by omega, by omega⟩
    · rintro (h | ⟨r, rfl, h1, h2⟩)
      · exact .inl h
      · exact .inr ⟨by omega, r, rfl, by omega, by omega⟩
  · rcases List.mem_append.1 hk with hk | hk
    · exact b2 k hk
    · obtain ⟨r, rfl, h1, h2⟩ := (secL_mem _ _ _).1 hk
      omega
set_option maxHeartbeats 32000000 in
theorem txcommits_c (n c : Int) (row : List OpR) (k : K) (h0 : inR .i64 n ∧ (0 ≤ c ∧ c < 256) ∧ row.length ≤ 9223372036854775807 ∧ ∀ o ∈ row, inR .i64 o.kind ∧ inR .i64 o.pos ∧ inR .i64 o.n ∧ B8 o.b) (hk : k (.v (.bool true)) []) : evFunc tab [] p5 Go.Proofs.Try.f5 [.v (.int .i64 n), .v (.int .u8 c), .im true 4 row.length (opsC true row)] [] k := by
  obtain ⟨hn, hc8, hrl, hro⟩ := h0
  repeat' (first
 | (with_reducible first | exact True.intro | apply And.intro | apply If_true | apply If_false | apply If_not)
 | ((with_reducible apply VC.mk); (first | trivial | omega | (simp only [inR]; omega) | (exact ⟨rfl, List.prefix_rfl⟩) | (refine ⟨rfl, rfl, rfl, ?_, rfl⟩; (simp; done)) | (focus (repeat' (first | exact True.intro | apply And.intro | rfl | exact Nat.le_of_ble_eq_true rfl)); done) | (simp [inR, Cont.cells]; done) | (simp [inR, Cont.cells]; omega)))
 | ((with_reducible apply If_dec) <;> intro hc <;> (try (exfalso; omega)))
 | ((with_reducible apply If_any) <;> intro hc)
 | ((with_reducible first | apply PF.mk | apply DrawP.mk); (focus kernel_rfl))
 | ((with_reducible apply Same.mk); (focus rfl); (first | exact trivial | exact rfl))
 | (intro cap hcap)
 | ((fail_if_success (with_reducible first | apply Fin.mk | apply CallP.mk | apply LoopP.mk | apply VC.mk | apply falseMk | apply Round.mk | apply LookP.mk | apply RangeP.mk | apply NextP.mk | apply EntryP.mk | apply Eq.symm)); conv => whnf))
  refine changed_at trivial trivial ?_
  intro _ _
  repeat' (first
 | (with_reducible first | exact True.intro | apply And.intro | apply If_true | apply If_false | apply If_not)
 | ((with_reducible apply VC.mk); (first | trivial | omega | (simp only [inR]; omega) | (exact ⟨rfl, List.prefix_rfl⟩) | (refine ⟨rfl, rfl, rfl, ?_, rfl⟩; (simp; done)) | (focus (repeat' (first | exact True.intro | apply And.intro | rfl | exact Nat.le_of_ble_eq_true rfl)); done) | (simp [inR, Cont.cells]; done) | (simp [inR, Cont.cells]; omega)))
 | ((with_reducible apply If_dec) <;> intro hc <;> (try (exfalso; omega)))
 | ((with_reducible apply If_any) <;> intro hc)
 | ((with_reducible first | apply PF.mk | apply DrawP.mk); (focus kernel_rfl))
 | ((with_reducible apply Same.mk); (focus rfl); (first | exact trivial | exact rfl))
 | (intro cap hcap)
 | ((fail_if_success (with_reducible first | apply Fin.mk | apply CallP.mk | apply LoopP.mk | apply VC.mk | apply falseMk | apply Round.mk | apply LookP.mk | apply RangeP.mk | apply NextP.mk | apply EntryP.mk | apply Eq.symm)); conv => whnf))
  refine xlight_at row hrl ⟨⟨rfl, rfl, rfl, rfl, fun _ _ => rfl⟩, trivial⟩ ?_
  intro b hb
  repeat' (first
 | (with_reducible first | exact True.intro | apply And.intro | apply If_true | apply If_false | apply If_not)
 | ((with_reducible apply VC.mk); (first | trivial | omega | (simp only [inR]; omega) | (exact ⟨rfl, List.prefix_rfl⟩) | (refine ⟨rfl, rfl, rfl, ?_, rfl⟩; (simp; done)) | (focus (repeat' (first | exact True.intro | apply And.intro | rfl | exact Nat.le_of_ble_eq_true rfl)); done) | (simp [inR, Cont.cells]; done) | (simp [inR, Cont.cells]; omega)))
 | ((with_reducible apply If_dec) <;> intro hc <;> (try (exfalso; omega)))
 | ((with_reducible apply If_any) <;> intro hc)
 | ((with_reducible first | apply PF.mk | apply DrawP.mk); (focus kernel_rfl))
 | ((with_reducible apply Same.mk); (focus rfl); (first | exact trivial | exact rfl))
 | (intro cap hcap)
 | ((fail_if_success (with_reducible first | apply Fin.mk | apply CallP.mk | apply LoopP.mk | apply VC.mk | apply falseMk | apply Round.mk | apply LookP.mk | apply RangeP.mk | apply NextP.mk | apply EntryP.mk | apply Eq.symm)); conv => whnf))
  rotate_left
  · refine changed_at trivial trivial ?_
    intro _ _
    repeat' (first
 | (with_reducible first | exact True.intro | apply And.intro | apply If_true | apply If_false | apply If_not)
 | ((with_reducible apply VC.mk); (first | trivial | omega | (simp only [inR]; omega) | (exact ⟨rfl, List.prefix_rfl⟩) | (refine ⟨rfl, rfl, rfl, ?_, rfl⟩; (simp; done)) | (focus (repeat' (first | exact True.intro | apply And.intro | rfl | exact Nat.le_of_ble_eq_true rfl)); done) | (simp [inR, Cont.cells]; done) | (simp [inR, Cont.cells]; omega)))
 | ((with_reducible apply If_dec) <;> intro hc <;> (try (exfalso; omega)))
 | ((with_reducible apply If_any) <;> intro hc)
 | ((with_reducible first | apply PF.mk | apply DrawP.mk); (focus kernel_rfl))
 | ((with_reducible apply Same.mk); (focus rfl); (first | exact trivial | exact rfl))
 | (intro cap hcap)
 | ((fail_if_success (with_reducible first | apply Fin.mk | apply CallP.mk | apply LoopP.mk | apply VC.mk | apply falseMk | apply Round.mk | apply LookP.mk | apply RangeP.mk | apply NextP.mk | apply EntryP.mk | apply Eq.symm)); conv => whnf))
    exact Fin.same hk
  have hlt := hb hc
  clear hb hc
  refine tbase_at n c ⟨hn, hc8⟩ ⟨rfl, rfl, trivial⟩ ?_
  intro b hb
  have hb : b = baseL n c := hb
  have hbl : 10752 ≤ b.length ∧ b.length < 17752 := by rw [hb, baseL_length]; omega
  have hb8 : B8 b := by rw [hb]; exact baseL_B8 hc8
  clear hb
  repeat' (first
 | (with_reducible first | exact True.intro | apply And.intro | apply If_true | apply If_false | apply If_not)
 | ((with_reducible apply VC.mk); (first | trivial | omega | (simp only [inR]; omega) | (exact ⟨rfl, List.prefix_rfl⟩) | (refine ⟨rfl, rfl, rfl, ?_, rfl⟩; (simp; done)) | (focus (repeat' (first | exact True.intro | apply And.intro | rfl | exact Nat.le_of_ble_eq_true rfl)); done) | (simp [inR, Cont.cells]; done) | (simp [inR, Cont.cells]; omega)))
 | ((with_reducible apply If_dec) <;> intro hc <;> (try (exfalso; omega)))
 | ((with_reducible apply If_any) <;> intro hc)
 | ((with_reducible first | apply PF.mk | apply DrawP.mk); (focus kernel_rfl))
 | ((with_reducible apply Same.mk); (focus rfl); (first | exact trivial | exact rfl))
 | (intro cap hcap)
 | ((fail_if_success (with_reducible first | apply Fin.mk | apply CallP.mk | apply LoopP.mk | apply VC.mk | apply falseMk | apply Round.mk | apply LookP.mk | apply RangeP.mk | apply NextP.mk | apply EntryP.mk | apply Eq.symm)); conv => whnf))
  refine topen_at b ⟨by omega, by omega⟩ ⟨⟨rfl, rfl, rfl⟩, trivial⟩ ?_
  repeat' (first
 | (with_reducible first | exact True.intro | apply And.intro | apply If_true | apply If_false | apply If_not)
 | ((with_reducible apply VC.mk); (first | trivial | omega | (simp only [inR]; omega) | (exact ⟨rfl, List.prefix_rfl⟩) | (refine ⟨rfl, rfl, rfl, ?_, rfl⟩; (simp; done)) | (focus (repeat' (first | exact True.intro | apply And.intro | rfl | exact Nat.le_of_ble_eq_true rfl)); done) | (simp [inR, Cont.cells]; done) | (simp [inR, Cont.cells]; omega)))
 | ((with_reducible apply If_dec) <;> intro hc <;> (try (exfalso; omega)))
 | ((with_reducible apply If_any) <;> intro hc)
 | ((with_reducible first | apply PF.mk | apply DrawP.mk); (focus kernel_rfl))
 | ((with_reducible apply Same.mk); (focus rfl); (first | exact trivial | exact rfl))
 | (intro cap hcap)
 | ((fail_if_success (with_reducible first | apply Fin.mk | apply CallP.mk | apply LoopP.mk | apply VC.mk | apply falseMk | apply Round.mk | apply LookP.mk | apply RangeP.mk | apply NextP.mk | apply EntryP.mk | apply Eq.symm)); conv => whnf))
  refine begin_at jX (DF.mk0 b) 0 1 rfl rfl rfl ⟨rfl, trivial⟩ ?_
  repeat' (first
 | (with_reducible first | exact True.intro | apply And.intro | apply If_true | apply If_false | apply If_not)
 | ((with_reducible apply VC.mk); (first | trivial | omega | (simp only [inR]; omega) | (exact ⟨rfl, List.prefix_rfl⟩) | (refine ⟨rfl, rfl, rfl, ?_, rfl⟩; (simp; done)) | (focus (repeat' (first | exact True.intro | apply And.intro | rfl | exact Nat.le_of_ble_eq_true rfl)); done) | (simp [inR, Cont.cells]; done) | (simp [inR, Cont.cells]; omega)))
 | ((with_reducible apply If_dec) <;> intro hc <;> (try (exfalso; omega)))
 | ((with_reducible apply If_any) <;> intro hc)
 | ((with_reducible first | apply PF.mk | apply DrawP.mk); (focus kernel_rfl))
 | ((with_reducible apply Same.mk); (focus rfl); (first | exact trivial | exact rfl))
 | (intro cap hcap)
 | ((fail_if_success (with_reducible first | apply Fin.mk | apply CallP.mk | apply LoopP.mk | apply VC.mk | apply falseMk | apply Round.mk | apply LookP.mk | apply RangeP.mk | apply NextP.mk | apply EntryP.mk | apply Eq.symm)); conv => whnf))
  have hI0 : ComI b 0 0 TR.zero b [] := ⟨TR.zero_ok, rfl, Nat.le_refl _, TR.zero_In _, TR.zero_B hb8, by show cost [] ≤ _; simp [cost], Nat.le_refl _, fun p => zero_V b p, ⟨Nat.le_refl _, by omega⟩, fun k => Iff.rfl, fun k h => absurd h List.not_mem_nil, Nat.le_refl _⟩
  refine LoopP.mk ⟨Nat × Nat × TR × List Int × List Int × Nat, fun y => y.1 ≤ row.length ∧ ComI b y.1 y.2.1 y.2.2.1 y.2.2.2.1 y.2.2.2.2.1, fun y => ([(2, .im true 4 row.length (opsC true row)), (7, .im true 1 b.length (.ints .u8 b)), (8, .p 4 0 1 0), (9, .p 3 0 1 0), (11, .p 0 0 1 0), (13, .im true 1 y.2.2.2.1.length (.ints .u8 y.2.2.2.1)), (14, .s 5 0 1 y.2.2.2.2.1.length y.2.2.2.2.2), (15, .v (.int .i64 (y.1 : Int)))], tpre y.2.2.1 jX ((DF.mk0 b).tick y.2.1) ++ [.blk 3 (.ints .i64 y.2.2.2.2.1) (y.2.2.2.2.2 * 1)]), fun y => row.length - y.1, (0, 0, TR.zero, b, [], 0), ⟨Nat.zero_le _, hI0⟩, Fit.ren [2, 3, 4, 0, 1, 5] [] rfl rfl trivial (T5.leG (cs := [.blk 3 (.ints .i64 []) (0 * 1)]) rfl rfl rfl rfl rfl rfl rfl rfl rfl ⟨rfl, rfl, rfl, rfl, rfl⟩ ?_) ?_, ?_⟩
  · repeat' (first
 | (with_reducible first | exact True.intro | apply And.intro | apply If_true | apply If_false | apply If_not)
 | ((with_reducible apply VC.mk); (first | trivial | omega | (simp only [inR]; omega) | (exact ⟨rfl, List.prefix_rfl⟩) | (refine ⟨rfl, rfl, rfl, ?_, rfl⟩; (simp; done)) | (focus (repeat' (first | exact True.intro | apply And.intro | rfl | exact Nat.le_of_ble_eq_true rfl)); done) | (simp [inR, Cont.cells]; done) | (simp [inR, Cont.cells]; omega)))
 | ((with_reducible apply If_dec) <;> intro hc <;> (try (exfalso; omega)))
 | ((with_reducible apply If_any) <;> intro hc)
 | ((with_reducible first | apply PF.mk | apply DrawP.mk); (focus kernel_rfl))
 | ((with_reducible apply Same.mk); (focus rfl); (first | exact trivial | exact rfl))
 | (intro cap hcap)
 | ((fail_if_success (with_reducible first | apply Fin.mk | apply CallP.mk | apply LoopP.mk | apply VC.mk | apply falseMk | apply Round.mk | apply LookP.mk | apply RangeP.mk | apply NextP.mk | apply EntryP.mk | apply Eq.symm)); conv => whnf))
  · repeat' (first
 | (with_reducible first | exact True.intro | apply And.intro | apply If_true | apply If_false | apply If_not)
 | ((with_reducible apply VC.mk); (first | trivial | omega | (simp only [inR]; omega) | (exact ⟨rfl, List.prefix_rfl⟩) | (refine ⟨rfl, rfl, rfl, ?_, rfl⟩; (simp; done)) | (focus (repeat' (first | exact True.intro | apply And.intro | rfl | exact Nat.le_of_ble_eq_true rfl)); done) | (simp [inR, Cont.cells]; done) | (simp [inR, Cont.cells]; omega)))
 | ((with_reducible apply If_dec) <;> intro hc <;> (try (exfalso; omega)))
 | ((with_reducible apply If_any) <;> intro hc)
 | ((with_reducible first | apply PF.mk | apply DrawP.mk); (focus kernel_rfl))
 | ((with_reducible apply Same.mk); (focus rfl); (first | exact trivial | exact rfl))
 | (intro cap hcap)
 | ((fail_if_success (with_reducible first | apply Fin.mk | apply CallP.mk | apply LoopP.mk | apply VC.mk | apply falseMk | apply Round.mk | apply LookP.mk | apply RangeP.mk | apply NextP.mk | apply EntryP.mk | apply Eq.symm)); conv => whnf))
  intro y hy
  obtain ⟨g1, gI⟩ := hy
  have e : ((y.1 : Nat) : Int).toNat = y.1 := Int.toNat_natCast _
  have hr25 := hlt.1
  have gops := gI.ops
  have gpl := gI.pln
  have hops : ∀ m : Nat, m ≤ 200000 → 0 ≤ ((DF.mk0 b).tick m).ops ∧ ((DF.mk0 b).tick m).ops ≤ 274877906944 := by
    intro m hm
    show 0 ≤ 0 + (m : Int) ∧ 0 + (m : Int) ≤ _
    omega
  repeat' (first
 | (with_reducible first | exact True.intro | apply And.intro | apply If_true | apply If_false | apply If_not)
 | ((with_reducible apply VC.mk); (first | trivial | omega | (simp only [inR]; omega) | (exact ⟨rfl, List.prefix_rfl⟩) | (refine ⟨rfl, rfl, rfl, ?_, rfl⟩; (simp; done)) | (focus (repeat' (first | exact True.intro | apply And.intro | rfl | exact Nat.le_of_ble_eq_true rfl)); done) | (simp [inR, Cont.cells]; done) | (simp [inR, Cont.cells]; omega)))
 | ((with_reducible apply If_dec) <;> intro hc <;> (try (exfalso; omega)))
 | ((with_reducible apply If_any) <;> intro hc)
 | ((with_reducible first | apply PF.mk | apply DrawP.mk); (focus kernel_rfl))
 | ((with_reducible apply Same.mk); (focus rfl); (first | exact trivial | exact rfl))
 | (intro cap hcap)
 | ((fail_if_success (with_reducible first | apply Fin.mk | apply CallP.mk | apply LoopP.mk | apply VC.mk | apply falseMk | apply Round.mk | apply LookP.mk | apply RangeP.mk | apply NextP.mk | apply EntryP.mk | apply Eq.symm)); conv => whnf))
  rotate_left
  · have gln := gI.len
    have hcnt := gI.inn.count
    have hov := gI.over
    obtain ⟨zz, hzz⟩ : ∃ zz : List Int, zz = List.replicate 512 0 := ⟨_, rfl⟩
    have hzl : zz.length = 512 := by rw [hzz]; exact List.length_replicate ..
    have okS : ((DF.mk0 b).tick y.2.1).Ok (0 + y.2.1) := (DF.mk0_ok (by omega) 0 (Int.le_refl _)).tick y.2.1
    have hcst := gI.cst
    refine tsize_at y.2.2.1 jX ((DF.mk0 b).tick y.2.1) 0 1 2 3 4 ⟨gI.ok, by omega, fun q hq => ⟨(gI.inn.keys q hq).1, by have := (gI.inn.keys q hq).2.1; omega⟩⟩ rfl rfl rfl rfl rfl rfl ⟨rfl, trivial⟩ ?_
    intro rs hrs
    have hrs : RecRel y.2.2.1 rs := hrs
    have hsz := hrs.size gI.ok (fun q hq => gI.rng _ ((gI.key _).1 (List.mem_map.2 ⟨q, hq, rfl⟩))) gI.inn.nodup
    have hsz2 := hsz.trans (needV_congr gI.key 80)
    repeat' (first
    | (with_reducible exact True.intro)
    | (with_reducible apply And.intro)
    | ((with_reducible apply VC.mk); (first | omega | (simp only [inR]; omega) | exact True.intro | (exact ⟨rfl, List.prefix_rfl⟩) | (refine ⟨rfl, rfl, rfl, ?_, rfl⟩; (simp; done)) | (focus (repeat' (first | exact True.intro | apply And.intro | rfl | exact Nat.le_of_ble_eq_true rfl)); done) | (simp [inR, Cont.cells]; done) | (simp [inR, Cont.cells]; omega)))
    | (with_reducible apply If_true)
    | (with_reducible apply If_false)
    | ((with_reducible apply If_dec) <;> intro hc <;> (try (exfalso; omega)))
    | (with_reducible apply If_not)
    | ((with_reducible apply If_any) <;> intro hc)
    | ((with_reducible apply PF.mk); (focus kernel_rfl))
    | ((with_reducible apply DrawP.mk); (focus kernel_rfl))
    | ((with_reducible apply Same.mk); (focus rfl); (first | exact trivial | exact rfl))
    | (intro cap hcap)
    | ((fail_if_success (with_reducible apply Fin.mk)); (fail_if_success (with_reducible apply CallP.mk)); (fail_if_success (with_reducible apply LoopP.mk)); (fail_if_success (with_reducible apply VC.mk)); (fail_if_success (with_reducible apply falseMk)); (fail_if_success (with_reducible apply Round.mk)); (fail_if_success (with_reducible apply LookP.mk)); (fail_if_success (with_reducible apply RangeP.mk)); (fail_if_success (with_reducible apply NextP.mk)); (fail_if_success (with_reducible apply EntryP.mk)); (fail_if_success (with_reducible apply Eq.symm)); conv => whnf))
    refine need_at y.2.2.2.2.1 (by omega) ⟨arg_ints rfl rfl rfl, trivial⟩ ?_
    intro r hr
    have hr : r = needV (fun s => decide (s ∈ y.2.2.2.2.1)) 80 := hr
    have hrr : r = ((encL rs).length : Int) := by rw [hr]; exact hsz2.symm
    clear hr
    repeat' (first
    | (with_reducible exact True.intro)
    | (with_reducible apply And.intro)
    | ((with_reducible apply VC.mk); (first | omega | (simp only [inR]; omega) | exact True.intro | (exact ⟨rfl, List.prefix_rfl⟩) | (refine ⟨rfl, rfl, rfl, ?_, rfl⟩; (simp; done)) | (focus (repeat' (first | exact True.intro | apply And.intro | rfl | exact Nat.le_of_ble_eq_true rfl)); done) | (simp [inR, Cont.cells]; done) | (simp [inR, Cont.cells]; omega)))
    | (with_reducible apply If_true)
    | (with_reducible apply If_false)
    | ((with_reducible apply If_dec) <;> intro hc <;> (try (exfalso; omega)))
    | (with_reducible apply If_not)
    | ((with_reducible apply If_any) <;> intro hc)
    | ((with_reducible apply PF.mk); (focus kernel_rfl))
    | ((with_reducible apply DrawP.mk); (focus kernel_rfl))
    | ((with_reducible apply Same.mk); (focus rfl); (first | exact trivial | exact rfl))
    | (intro cap hcap)
    | ((fail_if_success (with_reducible apply Fin.mk)); (fail_if_success (with_reducible apply CallP.mk)); (fail_if_success (with_reducible apply LoopP.mk)); (fail_if_success (with_reducible apply VC.mk)); (fail_if_success (with_reducible apply falseMk)); (fail_if_success (with_reducible apply Round.mk)); (fail_if_success (with_reducible apply LookP.mk)); (fail_if_success (with_reducible apply RangeP.mk)); (fail_if_success (with_reducible apply NextP.mk)); (fail_if_success (with_reducible apply EntryP.mk)); (fail_if_success (with_reducible apply Eq.symm)); conv => whnf))
    refine tcommit_at y.2.2.1 jX ((DF.mk0 b).tick y.2.1) (0 + y.2.1) zz 0 1 2 3 4 ⟨gI.ok, ⟨by omega, fun q hq => ⟨(gI.inn.keys q hq).1, by have := (gI.inn.keys q hq).2.1; omega, (gI.inn.keys q hq).2.2.2⟩⟩, by omega, jX_ok, okS, by omega, hzz⟩ rfl rfl rfl rfl rfl rfl ⟨rfl, trivial⟩ ?_
    rintro ⟨e3, t3, j3, s3⟩ hr
    have hcalm := tcommit_calm hr hov ⟨rfl, rfl⟩ jX_ok (by show (512 : Int) + 10240 ≤ (b.length : Int); omega) (by show b.length ≤ _; omega) gI.ok gI.inn hzl hrs
    have okE := tcomRel_ok hr okS hzl (by show (10240 : Int) ≤ _; omega)
    clear hr
    dsimp only at hcalm okE ⊢
    by_cases hfit : ((encL rs).length : Int) ≤ 10240 - 512
    · obtain ⟨c1, c2, c3, c4, c5, c6, c7⟩ := hcalm.2 hfit
      dsimp only at c1 c2 c3 c4 c5 c6 c7
      subst c1 c2
      have c7 : s3.items = [] := c7 rfl
      have hjo : j3.Ok := by
        rcases c3 with rfl | rfl
        · exact jX_ok
        · exact JR.next_ok jX_ok
      have hjz : j3.size = 10240 := by rcases c3 with rfl | rfl <;> rfl
      repeat' (first
    | (with_reducible exact True.intro)
    | (with_reducible apply And.intro)
    | ((with_reducible apply VC.mk); (first | omega | (simp only [inR]; omega) | exact True.intro | (exact ⟨rfl, List.prefix_rfl⟩) | (refine ⟨rfl, rfl, rfl, ?_, rfl⟩; (simp; done)) | (focus (repeat' (first | exact True.intro | apply And.intro | rfl | exact Nat.le_of_ble_eq_true rfl)); done) | (simp [inR, Cont.cells]; done) | (simp [inR, Cont.cells]; omega)))
    | (with_reducible apply If_true)
    | (with_reducible apply If_false)
    | ((with_reducible apply If_dec) <;> intro hc <;> (try (exfalso; omega)))
    | (with_reducible apply If_not)
    | ((with_reducible apply If_any) <;> intro hc)
    | ((with_reducible apply PF.mk); (focus kernel_rfl))
    | ((with_reducible apply DrawP.mk); (focus kernel_rfl))
    | ((with_reducible apply Same.mk); (focus rfl); (first | exact trivial | exact rfl))
    | (intro cap hcap)
    | ((fail_if_success (with_reducible apply Fin.mk)); (fail_if_success (with_reducible apply CallP.mk)); (fail_if_success (with_reducible apply LoopP.mk)); (fail_if_success (with_reducible apply VC.mk)); (fail_if_success (with_reducible apply falseMk)); (fail_if_success (with_reducible apply Round.mk)); (fail_if_success (with_reducible apply LookP.mk)); (fail_if_success (with_reducible apply RangeP.mk)); (fail_if_success (with_reducible apply NextP.mk)); (fail_if_success (with_reducible apply EntryP.mk)); (fail_if_success (with_reducible apply Eq.symm)); conv => whnf))
      refine room_at j3 s3 3 4 hjo rfl rfl rfl ⟨rfl, trivial⟩ ?_
      intro _ _
      repeat' (first
    | (with_reducible exact True.intro)
    | (with_reducible apply And.intro)
    | ((with_reducible apply VC.mk); (first | omega | (simp only [inR]; omega) | exact True.intro | (exact ⟨rfl, List.prefix_rfl⟩) | (refine ⟨rfl, rfl, rfl, ?_, rfl⟩; (simp; done)) | (focus (repeat' (first | exact True.intro | apply And.intro | rfl | exact Nat.le_of_ble_eq_true rfl)); done) | (simp [inR, Cont.cells]; done) | (simp [inR, Cont.cells]; omega)))
    | (with_reducible apply If_true)
    | (with_reducible apply If_false)
    | ((with_reducible apply If_dec) <;> intro hc <;> (try (exfalso; omega)))
    | (with_reducible apply If_not)
    | ((with_reducible apply If_any) <;> intro hc)
    | ((with_reducible apply PF.mk); (focus kernel_rfl))
    | ((with_reducible apply DrawP.mk); (focus kernel_rfl))
    | ((with_reducible apply Same.mk); (focus rfl); (first | exact trivial | exact rfl))
    | (intro cap hcap)
    | ((fail_if_success (with_reducible apply Fin.mk)); (fail_if_success (with_reducible apply CallP.mk)); (fail_if_success (with_reducible apply LoopP.mk)); (fail_if_success (with_reducible apply VC.mk)); (fail_if_success (with_reducible apply falseMk)); (fail_if_success (with_reducible apply Round.mk)); (fail_if_success (with_reducible apply LookP.mk)); (fail_if_success (with_reducible apply RangeP.mk)); (fail_if_success (with_reducible apply NextP.mk)); (fail_if_success (with_reducible apply EntryP.mk)); (fail_if_success (with_reducible apply Eq.symm)); conv => whnf))
      refine tcommit_at y.2.2.1.close j3 s3 (0 + y.2.1 + cost (wrs y.2.2.1.fresh) + 10000001) zz 0 1 2 3 4 ⟨⟨gI.ok.sec, gI.ok.frs, gI.ok.cap, gI.ok.len⟩, ⟨by show y.2.2.1.dirty.length ≤ _; omega, fun q hq => ⟨(gI.inn.keys q hq).1, by have := (gI.inn.keys q hq).2.1; omega, (gI.inn.keys q hq).2.2.2⟩⟩, by show cost (wrs y.2.2.1.fresh) ≤ _; omega, hjo, okE, by omega, hzz⟩ rfl rfl rfl rfl rfl rfl ⟨rfl, trivial⟩ ?_
      rintro ⟨e4, t4, j4, s4⟩ hr4
      obtain ⟨rfl, rfl, rfl, rfl⟩ : e4 = 6 ∧ t4 = y.2.2.1.close ∧ j4 = j3 ∧ s4 = s3 := by
        rcases hr4 with ⟨-, h⟩ | ⟨h, -⟩
        · cases h; exact ⟨rfl, rfl, rfl, rfl⟩
        · cases h
      clear hr4
      dsimp only
      repeat' (first
    | (with_reducible exact True.intro)
    | (with_reducible apply And.intro)
    | ((with_reducible apply VC.mk); (first | omega | (simp only [inR]; omega) | exact True.intro | (exact ⟨rfl, List.prefix_rfl⟩) | (refine ⟨rfl, rfl, rfl, ?_, rfl⟩; (simp; done)) | (focus (repeat' (first | exact True.intro | apply And.intro | rfl | exact Nat.le_of_ble_eq_true rfl)); done) | (simp [inR, Cont.cells]; done) | (simp [inR, Cont.cells]; omega)))
    | (with_reducible apply If_true)
    | (with_reducible apply If_false)
    | ((with_reducible apply If_dec) <;> intro hc <;> (try (exfalso; omega)))
    | (with_reducible apply If_not)
    | ((with_reducible apply If_any) <;> intro hc)
    | ((with_reducible apply PF.mk); (focus kernel_rfl))
    | ((with_reducible apply DrawP.mk); (focus kernel_rfl))
    | ((with_reducible apply Same.mk); (focus rfl); (first | exact trivial | exact rfl))
    | (intro cap hcap)
    | ((fail_if_success (with_reducible apply Fin.mk)); (fail_if_success (with_reducible apply CallP.mk)); (fail_if_success (with_reducible apply LoopP.mk)); (fail_if_success (with_reducible apply VC.mk)); (fail_if_success (with_reducible apply falseMk)); (fail_if_success (with_reducible apply Round.mk)); (fail_if_success (with_reducible apply LookP.mk)); (fail_if_success (with_reducible apply RangeP.mk)); (fail_if_success (with_reducible apply NextP.mk)); (fail_if_success (with_reducible apply EntryP.mk)); (fail_if_success (with_reducible apply Eq.symm)); conv => whnf))
      refine waiting_at s4 4 trivial rfl ⟨rfl, trivial⟩ (fun _ => ?_)
      have c8 : (s4.items.length : Int) = 0 := by rw [c7]; rfl
      repeat' (first
    | (with_reducible exact True.intro)
    | (with_reducible apply And.intro)
    | ((with_reducible apply VC.mk); (first | omega | (simp only [inR]; omega) | exact True.intro | (exact ⟨rfl, List.prefix_rfl⟩) | (refine ⟨rfl, rfl, rfl, ?_, rfl⟩; (simp; done)) | (focus (repeat' (first | exact True.intro | apply And.intro | rfl | exact Nat.le_of_ble_eq_true rfl)); done) | (simp [inR, Cont.cells]; done) | (simp [inR, Cont.cells]; omega)))
    | (with_reducible apply If_true)
    | (with_reducible apply If_false)
    | ((with_reducible apply If_dec) <;> intro hc <;> (try (exfalso; omega)))
    | (with_reducible apply If_not)
    | ((with_reducible apply If_any) <;> intro hc)
    | ((with_reducible apply PF.mk); (focus kernel_rfl))
    | ((with_reducible apply DrawP.mk); (focus kernel_rfl))
    | ((with_reducible apply Same.mk); (focus rfl); (first | exact trivial | exact rfl))
    | (intro cap hcap)
    | ((fail_if_success (with_reducible apply Fin.mk)); (fail_if_success (with_reducible apply CallP.mk)); (fail_if_success (with_reducible apply LoopP.mk)); (fail_if_success (with_reducible apply VC.mk)); (fail_if_success (with_reducible apply falseMk)); (fail_if_success (with_reducible apply Round.mk)); (fail_if_success (with_reducible apply LookP.mk)); (fail_if_success (with_reducible apply RangeP.mk)); (fail_if_success (with_reducible apply NextP.mk)); (fail_if_success (with_reducible apply EntryP.mk)); (fail_if_success (with_reducible apply Eq.symm)); conv => whnf))
      refine bytes_at s4 4 (by have := okE.now; omega) rfl ⟨rfl, trivial⟩ ?_
      intro l1 hl1
      have hl1 : l1 = s4.now := hl1
      have hln : l1.length ≤ 4194304 := by rw [hl1]; exact okE.now
      have hv : ∀ i, 10752 ≤ i → l1.getD i 0 = y.2.2.2.1.getD i 0 := fun i hi => by
        rw [hl1, ← gI.view]
        exact c5 i (fun hj => by have : (512 : Int).toNat ≤ i ∧ i < (512 : Int).toNat + (10240 : Int).toNat := hj; omega)
      clear hl1
      repeat' (first
    | (with_reducible exact True.intro)
    | (with_reducible apply And.intro)
    | ((with_reducible apply VC.mk); (first | omega | (simp only [inR]; omega) | exact True.intro | (exact ⟨rfl, List.prefix_rfl⟩) | (refine ⟨rfl, rfl, rfl, ?_, rfl⟩; (simp; done)) | (focus (repeat' (first | exact True.intro | apply And.intro | rfl | exact Nat.le_of_ble_eq_true rfl)); done) | (simp [inR, Cont.cells]; done) | (simp [inR, Cont.cells]; omega)))
    | (with_reducible apply If_true)
    | (with_reducible apply If_false)
    | ((with_reducible apply If_dec) <;> intro hc <;> (try (exfalso; omega)))
    | (with_reducible apply If_not)
    | ((with_reducible apply If_any) <;> intro hc)
    | ((with_reducible apply PF.mk); (focus kernel_rfl))
    | ((with_reducible apply DrawP.mk); (focus kernel_rfl))
    | ((with_reducible apply Same.mk); (focus rfl); (first | exact trivial | exact rfl))
    | (intro cap hcap)
    | ((fail_if_success (with_reducible apply Fin.mk)); (fail_if_success (with_reducible apply CallP.mk)); (fail_if_success (with_reducible apply LoopP.mk)); (fail_if_success (with_reducible apply VC.mk)); (fail_if_success (with_reducible apply falseMk)); (fail_if_success (with_reducible apply Round.mk)); (fail_if_success (with_reducible apply LookP.mk)); (fail_if_success (with_reducible apply RangeP.mk)); (fail_if_success (with_reducible apply NextP.mk)); (fail_if_success (with_reducible apply EntryP.mk)); (fail_if_success (with_reducible apply Eq.symm)); conv => whnf))
      · refine longer_at l1 (y.2.2.2.1.length : Int) ⟨by omega, by omega, by omega⟩ ⟨rfl, rfl, trivial⟩ ?_
        intro r1 hr1
        have hr1 : r1 = longL l1 (y.2.2.2.1.length : Int) := hr1
        have hr1l : r1.length = y.2.2.2.1.length := by rw [hr1, longL_length]; omega
        have hr1g : ∀ i, r1.getD i 0 = l1.getD i 0 := fun i => by rw [hr1, longL_get]
        clear hr1
        repeat' (first
    | (with_reducible exact True.intro)
    | (with_reducible apply And.intro)
    | ((with_reducible apply VC.mk); (first | omega | (simp only [inR]; omega) | exact True.intro | (exact ⟨rfl, List.prefix_rfl⟩) | (refine ⟨rfl, rfl, rfl, ?_, rfl⟩; (simp; done)) | (focus (repeat' (first | exact True.intro | apply And.intro | rfl | exact Nat.le_of_ble_eq_true rfl)); done) | (simp [inR, Cont.cells]; done) | (simp [inR, Cont.cells]; omega)))
    | (with_reducible apply If_true)
    | (with_reducible apply If_false)
    | ((with_reducible apply If_dec) <;> intro hc <;> (try (exfalso; omega)))
    | (with_reducible apply If_not)
    | ((with_reducible apply If_any) <;> intro hc)
    | ((with_reducible apply PF.mk); (focus kernel_rfl))
    | ((with_reducible apply DrawP.mk); (focus kernel_rfl))
    | ((with_reducible apply Same.mk); (focus rfl); (first | exact trivial | exact rfl))
    | (intro cap hcap)
    | ((fail_if_success (with_reducible apply Fin.mk)); (fail_if_success (with_reducible apply CallP.mk)); (fail_if_success (with_reducible apply LoopP.mk)); (fail_if_success (with_reducible apply VC.mk)); (fail_if_success (with_reducible apply falseMk)); (fail_if_success (with_reducible apply Round.mk)); (fail_if_success (with_reducible apply LookP.mk)); (fail_if_success (with_reducible apply RangeP.mk)); (fail_if_success (with_reducible apply NextP.mk)); (fail_if_success (with_reducible apply EntryP.mk)); (fail_if_success (with_reducible apply Eq.symm)); conv => whnf))
        refine longer_at y.2.2.2.1 (y.2.2.2.1.length : Int) ⟨by omega, by omega, by omega⟩ ⟨rfl, rfl, trivial⟩ ?_
        intro r2 hr2
        have hr2 : r2 = longL y.2.2.2.1 (y.2.2.2.1.length : Int) := hr2
        have hr2l : r2.length = y.2.2.2.1.length := by rw [hr2, longL_length]; omega
        have hr2g : ∀ i, r2.getD i 0 = y.2.2.2.1.getD i 0 := fun i => by rw [hr2, longL_get]
        clear hr2
        have hdd : r1.drop 10752 = r2.drop 10752 := by
          refine ext_getD (by rw [List.length_drop, List.length_drop, hr1l, hr2l]) (fun i hi => ?_)
          rw [List.getD_eq_getElem?_getD, List.getElem?_drop, ← List.getD_eq_getElem?_getD, hr1g, hv _ (by omega), ← hr2g, List.getD_eq_getElem?_getD, List.getD_eq_getElem?_getD, List.getElem?_drop]
        repeat' (first
    | (with_reducible exact True.intro)
    | (with_reducible apply And.intro)
    | ((with_reducible apply VC.mk); (first | omega | (simp only [inR]; omega) | exact True.intro | (exact ⟨rfl, List.prefix_rfl⟩) | (refine ⟨rfl, rfl, rfl, ?_, rfl⟩; (simp; done)) | (focus (repeat' (first | exact True.intro | apply And.intro | rfl | exact Nat.le_of_ble_eq_true rfl)); done) | (simp [inR, Cont.cells]; done) | (simp [inR, Cont.cells]; omega)))
    | (with_reducible apply If_true)
    | (with_reducible apply If_false)
    | ((with_reducible apply If_dec) <;> intro hc <;> (try (exfalso; omega)))
    | (with_reducible apply If_not)
    | ((with_reducible apply If_any) <;> intro hc)
    | ((with_reducible apply PF.mk); (focus kernel_rfl))
    | ((with_reducible apply DrawP.mk); (focus kernel_rfl))
    | ((with_reducible apply Same.mk); (focus rfl); (first | exact trivial | exact rfl))
    | (intro cap hcap)
    | ((fail_if_success (with_reducible apply Fin.mk)); (fail_if_success (with_reducible apply CallP.mk)); (fail_if_success (with_reducible apply LoopP.mk)); (fail_if_success (with_reducible apply VC.mk)); (fail_if_success (with_reducible apply falseMk)); (fail_if_success (with_reducible apply Round.mk)); (fail_if_success (with_reducible apply LookP.mk)); (fail_if_success (with_reducible apply RangeP.mk)); (fail_if_success (with_reducible apply NextP.mk)); (fail_if_success (with_reducible apply EntryP.mk)); (fail_if_success (with_reducible apply Eq.symm)); conv => whnf))
        have t1 : List.take (r1.length - Int.toNat 10752) (List.drop (Int.toNat 10752) r1) = r1.drop 10752 := List.take_of_length_le (by rw [List.length_drop]; exact Nat.le_refl _)
        have t2 : List.take (r2.length - Int.toNat 10752) (List.drop (Int.toNat 10752) r2) = r2.drop 10752 := List.take_of_length_le (by rw [List.length_drop]; exact Nat.le_refl _)
        refine same_at (List.take (r1.length - Int.toNat 10752) (List.drop (Int.toNat 10752) r1)) (List.take (r2.length - Int.toNat 10752) (List.drop (Int.toNat 10752) r2)) ⟨⟨rfl, by rw [t1, List.length_drop]; rfl, rfl⟩, ⟨rfl, by rw [t2, List.length_drop]; rfl, rfl⟩, trivial⟩ ?_
        repeat' (first
    | (with_reducible exact True.intro)
    | (with_reducible apply And.intro)
    | ((with_reducible apply VC.mk); (first | omega | (simp only [inR]; omega) | exact True.intro | (exact ⟨rfl, List.prefix_rfl⟩) | (refine ⟨rfl, rfl, rfl, ?_, rfl⟩; (simp; done)) | (focus (repeat' (first | exact True.intro | apply And.intro | rfl | exact Nat.le_of_ble_eq_true rfl)); done) | (simp [inR, Cont.cells]; done) | (simp [inR, Cont.cells]; omega)))
    | (with_reducible apply If_true)
    | (with_reducible apply If_false)
    | ((with_reducible apply If_dec) <;> intro hc <;> (try (exfalso; omega)))
    | (with_reducible apply If_not)
    | ((with_reducible apply If_any) <;> intro hc)
    | ((with_reducible apply PF.mk); (focus kernel_rfl))
    | ((with_reducible apply DrawP.mk); (focus kernel_rfl))
    | ((with_reducible apply Same.mk); (focus rfl); (first | exact trivial | exact rfl))
    | (intro cap hcap)
    | ((fail_if_success (with_reducible apply Fin.mk)); (fail_if_success (with_reducible apply CallP.mk)); (fail_if_success (with_reducible apply LoopP.mk)); (fail_if_success (with_reducible apply VC.mk)); (fail_if_success (with_reducible apply falseMk)); (fail_if_success (with_reducible apply Round.mk)); (fail_if_success (with_reducible apply LookP.mk)); (fail_if_success (with_reducible apply RangeP.mk)); (fail_if_success (with_reducible apply NextP.mk)); (fail_if_success (with_reducible apply EntryP.mk)); (fail_if_success (with_reducible apply Eq.symm)); conv => whnf))
        exact Fin.bool (decide_eq_true (congrArg strOf (t1.trans (hdd.trans t2.symm)))) hk
      · refine longer_at l1 (l1.length : Int) ⟨by omega, by omega, by omega⟩ ⟨rfl, rfl, trivial⟩ ?_
        intro r1 hr1
        have hr1 : r1 = longL l1 (l1.length : Int) := hr1
        have hr1l : r1.length = l1.length := by rw [hr1, longL_length]; omega
        have hr1g : ∀ i, r1.getD i 0 = l1.getD i 0 := fun i => by rw [hr1, longL_get]
        clear hr1
        repeat' (first
    | (with_reducible exact True.intro)
    | (with_reducible apply And.intro)
    | ((with_reducible apply VC.mk); (first | omega | (simp only [inR]; omega) | exact True.intro | (exact ⟨rfl, List.prefix_rfl⟩) | (refine ⟨rfl, rfl, rfl, ?_, rfl⟩; (simp; done)) | (focus (repeat' (first | exact True.intro | apply And.intro | rfl | exact Nat.le_of_ble_eq_true rfl)); done) | (simp [inR, Cont.cells]; done) | (simp [inR, Cont.cells]; omega)))
    | (with_reducible apply If_true)
    | (with_reducible apply If_false)
    | ((with_reducible apply If_dec) <;> intro hc <;> (try (exfalso; omega)))
    | (with_reducible apply If_not)
    | ((with_reducible apply If_any) <;> intro hc)
    | ((with_reducible apply PF.mk); (focus kernel_rfl))
    | ((with_reducible apply DrawP.mk); (focus kernel_rfl))
    | ((with_reducible apply Same.mk); (focus rfl); (first | exact trivial | exact rfl))
    | (intro cap hcap)
    | ((fail_if_success (with_reducible apply Fin.mk)); (fail_if_success (with_reducible apply CallP.mk)); (fail_if_success (with_reducible apply LoopP.mk)); (fail_if_success (with_reducible apply VC.mk)); (fail_if_success (with_reducible apply falseMk)); (fail_if_success (with_reducible apply Round.mk)); (fail_if_success (with_reducible apply LookP.mk)); (fail_if_success (with_reducible apply RangeP.mk)); (fail_if_success (with_reducible apply NextP.mk)); (fail_if_success (with_reducible apply EntryP.mk)); (fail_if_success (with_reducible apply Eq.symm)); conv => whnf))
        refine longer_at y.2.2.2.1 (l1.length : Int) ⟨by omega, by omega, by omega⟩ ⟨rfl, rfl, trivial⟩ ?_
        intro r2 hr2
        have hr2 : r2 = longL y.2.2.2.1 (l1.length : Int) := hr2
        have hr2l : r2.length = l1.length := by rw [hr2, longL_length]; omega
        have hr2g : ∀ i, r2.getD i 0 = y.2.2.2.1.getD i 0 := fun i => by rw [hr2, longL_get]
        clear hr2
        have hdd : r1.drop 10752 = r2.drop 10752 := by
          refine ext_getD (by rw [List.length_drop, List.length_drop, hr1l, hr2l]) (fun i hi => ?_)
          rw [List.getD_eq_getElem?_getD, List.getElem?_drop, ← List.getD_eq_getElem?_getD, hr1g, hv _ (by omega), ← hr2g, List.getD_eq_getElem?_getD, List.getD_eq_getElem?_getD, List.getElem?_drop]
        repeat' (first
    | (with_reducible exact True.intro)
    | (with_reducible apply And.intro)
    | ((with_reducible apply VC.mk); (first | omega | (simp only [inR]; omega) | exact True.intro | (exact ⟨rfl, List.prefix_rfl⟩) | (refine ⟨rfl, rfl, rfl, ?_, rfl⟩; (simp; done)) | (focus (repeat' (first | exact True.intro | apply And.intro | rfl | exact Nat.le_of_ble_eq_true rfl)); done) | (simp [inR, Cont.cells]; done) | (simp [inR, Cont.cells]; omega)))
    | (with_reducible apply If_true)
    | (with_reducible apply If_false)
    | ((with_reducible apply If_dec) <;> intro hc <;> (try (exfalso; omega)))
    | (with_reducible apply If_not)
    | ((with_reducible apply If_any) <;> intro hc)
    | ((with_reducible apply PF.mk); (focus kernel_rfl))
    | ((with_reducible apply DrawP.mk); (focus kernel_rfl))
    | ((with_reducible apply Same.mk); (focus rfl); (first | exact trivial | exact rfl))
    | (intro cap hcap)
    | ((fail_if_success (with_reducible apply Fin.mk)); (fail_if_success (with_reducible apply CallP.mk)); (fail_if_success (with_reducible apply LoopP.mk)); (fail_if_success (with_reducible apply VC.mk)); (fail_if_success (with_reducible apply falseMk)); (fail_if_success (with_reducible apply Round.mk)); (fail_if_success (with_reducible apply LookP.mk)); (fail_if_success (with_reducible apply RangeP.mk)); (fail_if_success (with_reducible apply NextP.mk)); (fail_if_success (with_reducible apply EntryP.mk)); (fail_if_success (with_reducible apply Eq.symm)); conv => whnf))
        have t1 : List.take (r1.length - Int.toNat 10752) (List.drop (Int.toNat 10752) r1) = r1.drop 10752 := List.take_of_length_le (by rw [List.length_drop]; exact Nat.le_refl _)
        have t2 : List.take (r2.length - Int.toNat 10752) (List.drop (Int.toNat 10752) r2) = r2.drop 10752 := List.take_of_length_le (by rw [List.length_drop]; exact Nat.le_refl _)
        refine same_at (List.take (r1.length - Int.toNat 10752) (List.drop (Int.toNat 10752) r1)) (List.take (r2.length - Int.toNat 10752) (List.drop (Int.toNat 10752) r2)) ⟨⟨rfl, by rw [t1, List.length_drop]; rfl, rfl⟩, ⟨rfl, by rw [t2, List.length_drop]; rfl, rfl⟩, trivial⟩ ?_
        repeat' (first
    | (with_reducible exact True.intro)
    | (with_reducible apply And.intro)
    | ((with_reducible apply VC.mk); (first | omega | (simp only [inR]; omega) | exact True.intro | (exact ⟨rfl, List.prefix_rfl⟩) | (refine ⟨rfl, rfl, rfl, ?_, rfl⟩; (simp; done)) | (focus (repeat' (first | exact True.intro | apply And.intro | rfl | exact Nat.le_of_ble_eq_true rfl)); done) | (simp [inR, Cont.cells]; done) | (simp [inR, Cont.cells]; omega)))
    | (with_reducible apply If_true)
    | (with_reducible apply If_false)
    | ((with_reducible apply If_dec) <;> intro hc <;> (try (exfalso; omega)))
    | (with_reducible apply If_not)
    | ((with_reducible apply If_any) <;> intro hc)
    | ((with_reducible apply PF.mk); (focus kernel_rfl))
    | ((with_reducible apply DrawP.mk); (focus kernel_rfl))
    | ((with_reducible apply Same.mk); (focus rfl); (first | exact trivial | exact rfl))
    | (intro cap hcap)
    | ((fail_if_success (with_reducible apply Fin.mk)); (fail_if_success (with_reducible apply CallP.mk)); (fail_if_success (with_reducible apply LoopP.mk)); (fail_if_success (with_reducible apply VC.mk)); (fail_if_success (with_reducible apply falseMk)); (fail_if_success (with_reducible apply Round.mk)); (fail_if_success (with_reducible apply LookP.mk)); (fail_if_success (with_reducible apply RangeP.mk)); (fail_if_success (with_reducible apply NextP.mk)); (fail_if_success (with_reducible apply EntryP.mk)); (fail_if_success (with_reducible apply Eq.symm)); conv => whnf))
        exact Fin.bool (decide_eq_true (congrArg strOf (t1.trans (hdd.trans t2.symm)))) hk
    · obtain ⟨rfl, rfl, rfl, rfl⟩ : e3 = 15 ∧ t3 = y.2.2.1 ∧ j3 = jX ∧ s3 = (DF.mk0 b).tick y.2.1 := by
        have := hcalm.1 (by show (10240 : Int) - 512 < _; omega)
        cases this; exact ⟨rfl, rfl, rfl, rfl⟩
      have jz : jX.size = 10240 := rfl
      repeat' (first
    | (with_reducible exact True.intro)
    | (with_reducible apply And.intro)
    | ((with_reducible apply VC.mk); (first | omega | (simp only [inR]; omega) | exact True.intro | (exact ⟨rfl, List.prefix_rfl⟩) | (refine ⟨rfl, rfl, rfl, ?_, rfl⟩; (simp; done)) | (focus (repeat' (first | exact True.intro | apply And.intro | rfl | exact Nat.le_of_ble_eq_true rfl)); done) | (simp [inR, Cont.cells]; done) | (simp [inR, Cont.cells]; omega)))
    | (with_reducible apply If_true)
    | (with_reducible apply If_false)
    | ((with_reducible apply If_dec) <;> intro hc <;> (try (exfalso; omega)))
    | (with_reducible apply If_not)
    | ((with_reducible apply If_any) <;> intro hc)
    | ((with_reducible apply PF.mk); (focus kernel_rfl))
    | ((with_reducible apply DrawP.mk); (focus kernel_rfl))
    | ((with_reducible apply Same.mk); (focus rfl); (first | exact trivial | exact rfl))
    | (intro cap hcap)
    | ((fail_if_success (with_reducible apply Fin.mk)); (fail_if_success (with_reducible apply CallP.mk)); (fail_if_success (with_reducible apply LoopP.mk)); (fail_if_success (with_reducible apply VC.mk)); (fail_if_success (with_reducible apply falseMk)); (fail_if_success (with_reducible apply Round.mk)); (fail_if_success (with_reducible apply LookP.mk)); (fail_if_success (with_reducible apply RangeP.mk)); (fail_if_success (with_reducible apply NextP.mk)); (fail_if_success (with_reducible apply EntryP.mk)); (fail_if_success (with_reducible apply Eq.symm)); conv => whnf))
      refine room_at jX ((DF.mk0 b).tick y.2.1) 3 4 jX_ok rfl rfl rfl ⟨rfl, trivial⟩ ?_
      intro _ _
      repeat' (first
    | (with_reducible exact True.intro)
    | (with_reducible apply And.intro)
    | ((with_reducible apply VC.mk); (first | omega | (simp only [inR]; omega) | exact True.intro | (exact ⟨rfl, List.prefix_rfl⟩) | (refine ⟨rfl, rfl, rfl, ?_, rfl⟩; (simp; done)) | (focus (repeat' (first | exact True.intro | apply And.intro | rfl | exact Nat.le_of_ble_eq_true rfl)); done) | (simp [inR, Cont.cells]; done) | (simp [inR, Cont.cells]; omega)))
    | (with_reducible apply If_true)
    | (with_reducible apply If_false)
    | ((with_reducible apply If_dec) <;> intro hc <;> (try (exfalso; omega)))
    | (with_reducible apply If_not)
    | ((with_reducible apply If_any) <;> intro hc)
    | ((with_reducible apply PF.mk); (focus kernel_rfl))
    | ((with_reducible apply DrawP.mk); (focus kernel_rfl))
    | ((with_reducible apply Same.mk); (focus rfl); (first | exact trivial | exact rfl))
    | (intro cap hcap)
    | ((fail_if_success (with_reducible apply Fin.mk)); (fail_if_success (with_reducible apply CallP.mk)); (fail_if_success (with_reducible apply LoopP.mk)); (fail_if_success (with_reducible apply VC.mk)); (fail_if_success (with_reducible apply falseMk)); (fail_if_success (with_reducible apply Round.mk)); (fail_if_success (with_reducible apply LookP.mk)); (fail_if_success (with_reducible apply RangeP.mk)); (fail_if_success (with_reducible apply NextP.mk)); (fail_if_success (with_reducible apply EntryP.mk)); (fail_if_success (with_reducible apply Eq.symm)); conv => whnf))
      refine bytes_at ((DF.mk0 b).tick y.2.1) 4 (by show b.length ≤ _; omega) rfl ⟨rfl, trivial⟩ ?_
      intro l1 hl1
      have hl1 : l1 = b := hl1
      subst hl1
      repeat' (first
    | (with_reducible exact True.intro)
    | (with_reducible apply And.intro)
    | ((with_reducible apply VC.mk); (first | omega | (simp only [inR]; omega) | exact True.intro | (exact ⟨rfl, List.prefix_rfl⟩) | (refine ⟨rfl, rfl, rfl, ?_, rfl⟩; (simp; done)) | (focus (repeat' (first | exact True.intro | apply And.intro | rfl | exact Nat.le_of_ble_eq_true rfl)); done) | (simp [inR, Cont.cells]; done) | (simp [inR, Cont.cells]; omega)))
    | (with_reducible apply If_true)
    | (with_reducible apply If_false)
    | ((with_reducible apply If_dec) <;> intro hc <;> (try (exfalso; omega)))
    | (with_reducible apply If_not)
    | ((with_reducible apply If_any) <;> intro hc)
    | ((with_reducible apply PF.mk); (focus kernel_rfl))
    | ((with_reducible apply DrawP.mk); (focus kernel_rfl))
    | ((with_reducible apply Same.mk); (focus rfl); (first | exact trivial | exact rfl))
    | (intro cap hcap)
    | ((fail_if_success (with_reducible apply Fin.mk)); (fail_if_success (with_reducible apply CallP.mk)); (fail_if_success (with_reducible apply LoopP.mk)); (fail_if_success (with_reducible apply VC.mk)); (fail_if_success (with_reducible apply falseMk)); (fail_if_success (with_reducible apply Round.mk)); (fail_if_success (with_reducible apply LookP.mk)); (fail_if_success (with_reducible apply RangeP.mk)); (fail_if_success (with_reducible apply NextP.mk)); (fail_if_success (with_reducible apply EntryP.mk)); (fail_if_success (with_reducible apply Eq.symm)); conv => whnf))
      refine same_at l1 l1 ⟨⟨rfl, rfl, rfl⟩, ⟨rfl, rfl, rfl⟩, trivial⟩ ?_
      repeat' (first
    | (with_reducible exact True.intro)
    | (with_reducible apply And.intro)
    | ((with_reducible apply VC.mk); (first | omega | (simp only [inR]; omega) | exact True.intro | (exact ⟨rfl, List.prefix_rfl⟩) | (refine ⟨rfl, rfl, rfl, ?_, rfl⟩; (simp; done)) | (focus (repeat' (first | exact True.intro | apply And.intro | rfl | exact Nat.le_of_ble_eq_true rfl)); done) | (simp [inR, Cont.cells]; done) | (simp [inR, Cont.cells]; omega)))
    | (with_reducible apply If_true)
    | (with_reducible apply If_false)
    | ((with_reducible apply If_dec) <;> intro hc <;> (try (exfalso; omega)))
    | (with_reducible apply If_not)
    | ((with_reducible apply If_any) <;> intro hc)
    | ((with_reducible apply PF.mk); (focus kernel_rfl))
    | ((with_reducible apply DrawP.mk); (focus kernel_rfl))
    | ((with_reducible apply Same.mk); (focus rfl); (first | exact trivial | exact rfl))
    | (intro cap hcap)
    | ((fail_if_success (with_reducible apply Fin.mk)); (fail_if_success (with_reducible apply CallP.mk)); (fail_if_success (with_reducible apply LoopP.mk)); (fail_if_success (with_reducible apply VC.mk)); (fail_if_success (with_reducible apply falseMk)); (fail_if_success (with_reducible apply Round.mk)); (fail_if_success (with_reducible apply LookP.mk)); (fail_if_success (with_reducible apply RangeP.mk)); (fail_if_success (with_reducible apply NextP.mk)); (fail_if_success (with_reducible apply EntryP.mk)); (fail_if_success (with_reducible apply Eq.symm)); conv => whnf))
      exact Fin.bool (decide_eq_true rfl) hk
  have hlt2 : y.1 < row.length := by omega
  have hom : (row.getD ((y.1 : Nat) : Int).toNat OpR.z) ∈ row := by
    rw [e, show row.getD y.1 OpR.z = row[y.1] by simp [List.getD_eq_getElem?_getD, hlt2]]; exact List.getElem_mem hlt2
  obtain ⟨ro1, ro2, ro3, ro4⟩ := hro _ hom
  have hob : (row.getD ((y.1 : Nat) : Int).toNat OpR.z).b.length ≤ 1500 := by rw [e]; exact hlt.2 y.1 hlt2
  have hcap : y.2.2.2.2.1.length ≤ 2500 := by omega
  refine place_at (row.getD ((y.1 : Nat) : Int).toNat OpR.z) ro2 ⟨⟨rfl, rfl, rfl, rfl, trivial⟩, trivial⟩ ?_
  intro at_ hat
  obtain ⟨q1, q2, q3⟩ := placeX_b (row.getD ((y.1 : Nat) : Int).toNat OpR.z)
  rw [← hat] at q1 q2 q3
  obtain ⟨A, hA⟩ : ∃ A : Nat, at_ = A := ⟨at_.toNat, by omega⟩
  subst hA
  clear hat
  have fB : inB (A : Int) (row.getD ((y.1 : Nat) : Int).toNat OpR.z).b.length := by unfold inB; omega
  have fF : (row.getD ((y.1 : Nat) : Int).toNat OpR.z).kind = 2 → inF (A : Int) (row.getD ((y.1 : Nat) : Int).toNat OpR.z).b.length := fun h => by have := q3 h; unfold inF; omega
  have gln := gI.len
  repeat' (first
    | (with_reducible exact True.intro)
    | (with_reducible apply And.intro)
    | ((with_reducible apply VC.mk); (first | omega | (simp only [inR]; omega) | exact True.intro | (exact ⟨rfl, List.prefix_rfl⟩) | (refine ⟨rfl, rfl, rfl, ?_, rfl⟩; (simp; done)) | (focus (repeat' (first | exact True.intro | apply And.intro | rfl | exact Nat.le_of_ble_eq_true rfl)); done) | (simp [inR, Cont.cells]; done) | (simp [inR, Cont.cells]; omega)))
    | (with_reducible apply If_true)
    | (with_reducible apply If_false)
    | ((with_reducible apply If_dec) <;> intro hc <;> (try (exfalso; omega)))
    | (with_reducible apply If_not)
    | ((with_reducible apply If_any) <;> intro hc)
    | ((with_reducible apply PF.mk); (focus kernel_rfl))
    | ((with_reducible apply DrawP.mk); (focus kernel_rfl))
    | ((with_reducible apply Same.mk); (focus rfl); (first | exact trivial | exact rfl))
    | (intro cap hcap)
    | ((fail_if_success (with_reducible apply Fin.mk)); (fail_if_success (with_reducible apply CallP.mk)); (fail_if_success (with_reducible apply LoopP.mk)); (fail_if_success (with_reducible apply VC.mk)); (fail_if_success (with_reducible apply falseMk)); (fail_if_success (with_reducible apply Round.mk)); (fail_if_success (with_reducible apply LookP.mk)); (fail_if_success (with_reducible apply RangeP.mk)); (fail_if_success (with_reducible apply NextP.mk)); (fail_if_success (with_reducible apply EntryP.mk)); (fail_if_success (with_reducible apply Eq.symm)); conv => whnf))
  · refine Round.mk ⟨(y.1 + 1, y.2.1, y.2.2.1, y.2.2.2.1, y.2.2.2.2.1, y.2.2.2.2.2), ⟨by show y.1 + 1 ≤ _; omega, gI.next⟩, by show row.length - (y.1 + 1) < row.length - y.1; omega, Fit.ren [0, 1, 2, 3, 4, 5] [] rfl rfl trivial (T5.leG (cs := [.blk 3 (.ints .i64 y.2.2.2.2.1) (y.2.2.2.2.2 * 1)]) rfl rfl rfl rfl rfl rfl rfl rfl rfl ⟨rfl, rfl, rfl, rfl, rfl⟩ ?_) ?_⟩
    · repeat' (first
    | (with_reducible exact True.intro)
    | (with_reducible apply And.intro)
    | ((with_reducible apply VC.mk); (first | omega | (simp only [inR]; omega) | exact True.intro | (exact ⟨rfl, List.prefix_rfl⟩) | (refine ⟨rfl, rfl, rfl, ?_, rfl⟩; (simp; done)) | (focus (repeat' (first | exact True.intro | apply And.intro | rfl | exact Nat.le_of_ble_eq_true rfl)); done) | (simp [inR, Cont.cells]; done) | (simp [inR, Cont.cells]; omega)))
    | (with_reducible apply If_true)
    | (with_reducible apply If_false)
    | ((with_reducible apply If_dec) <;> intro hc <;> (try (exfalso; omega)))
    | (with_reducible apply If_not)
    | ((with_reducible apply If_any) <;> intro hc)
    | ((with_reducible apply PF.mk); (focus kernel_rfl))
    | ((with_reducible apply DrawP.mk); (focus kernel_rfl))
    | ((with_reducible apply Same.mk); (focus rfl); (first | exact trivial | exact rfl))
    | (intro cap hcap)
    | ((fail_if_success (with_reducible apply Fin.mk)); (fail_if_success (with_reducible apply CallP.mk)); (fail_if_success (with_reducible apply LoopP.mk)); (fail_if_success (with_reducible apply VC.mk)); (fail_if_success (with_reducible apply falseMk)); (fail_if_success (with_reducible apply Round.mk)); (fail_if_success (with_reducible apply LookP.mk)); (fail_if_success (with_reducible apply RangeP.mk)); (fail_if_success (with_reducible apply NextP.mk)); (fail_if_success (with_reducible apply EntryP.mk)); (fail_if_success (with_reducible apply Eq.symm)); conv => whnf))
    · repeat' (first
    | (with_reducible exact True.intro)
    | (with_reducible apply And.intro)
    | ((with_reducible apply VC.mk); (first | omega | (simp only [inR]; omega) | exact True.intro | (exact ⟨rfl, List.prefix_rfl⟩) | (refine ⟨rfl, rfl, rfl, ?_, rfl⟩; (simp; done)) | (focus (repeat' (first | exact True.intro | apply And.intro | rfl | exact Nat.le_of_ble_eq_true rfl)); done) | (simp [inR, Cont.cells]; done) | (simp [inR, Cont.cells]; omega)))
    | (with_reducible apply If_true)
    | (with_reducible apply If_false)
    | ((with_reducible apply If_dec) <;> intro hc <;> (try (exfalso; omega)))
    | (with_reducible apply If_not)
    | ((with_reducible apply If_any) <;> intro hc)
    | ((with_reducible apply PF.mk); (focus kernel_rfl))
    | ((with_reducible apply DrawP.mk); (focus kernel_rfl))
    | ((with_reducible apply Same.mk); (focus rfl); (first | exact trivial | exact rfl))
    | (intro cap hcap)
    | ((fail_if_success (with_reducible apply Fin.mk)); (fail_if_success (with_reducible apply CallP.mk)); (fail_if_success (with_reducible apply LoopP.mk)); (fail_if_success (with_reducible apply VC.mk)); (fail_if_success (with_reducible apply falseMk)); (fail_if_success (with_reducible apply Round.mk)); (fail_if_success (with_reducible apply LookP.mk)); (fail_if_success (with_reducible apply RangeP.mk)); (fail_if_success (with_reducible apply NextP.mk)); (fail_if_success (with_reducible apply EntryP.mk)); (fail_if_success (with_reducible apply Eq.symm)); conv => whnf))
  · have hk2 : (row.getD ((y.1 : Nat) : Int).toNat OpR.z).kind = 2 := by omega
    have hF := fF hk2
    have gfr := gI.frn
    refine tfresh_at y.2.2.1 jX ((DF.mk0 b).tick y.2.1) (A : Int) (row.getD ((y.1 : Nat) : Int).toNat OpR.z).b 0 1 2 3 4 ⟨gI.ok, by omega, by simp only [inR]; omega, by omega⟩ rfl rfl rfl rfl rfl rfl ⟨rfl, rfl, ⟨rfl, rfl, rfl⟩, trivial⟩ ?_
    rintro ⟨e1, t1⟩ hr
    dsimp only
    rcases hr with ⟨h, -⟩ | ⟨-, h, -⟩ | ⟨-, -, h1, cp, h2, h3⟩
    · rw [gI.over] at h; cases h
    · exact absurd hF h
    have h1 : e1 = 0 := h1
    have h3' : t1 = y.2.2.1.freshT A (row.getD ((y.1 : Nat) : Int).toNat OpR.z).b cp := by have h3 : t1 = _ := h3; rw [h3]; rfl
    subst h1
    repeat' (first
    | (with_reducible exact True.intro)
    | (with_reducible apply And.intro)
    | ((with_reducible apply VC.mk); (first | omega | (simp only [inR]; omega) | exact True.intro | (exact ⟨rfl, List.prefix_rfl⟩) | (refine ⟨rfl, rfl, rfl, ?_, rfl⟩; (simp; done)) | (focus (repeat' (first | exact True.intro | apply And.intro | rfl | exact Nat.le_of_ble_eq_true rfl)); done) | (simp [inR, Cont.cells]; done) | (simp [inR, Cont.cells]; omega)))
    | (with_reducible apply If_true)
    | (with_reducible apply If_false)
    | ((with_reducible apply If_dec) <;> intro hc <;> (try (exfalso; omega)))
    | (with_reducible apply If_not)
    | ((with_reducible apply If_any) <;> intro hc)
    | ((with_reducible apply PF.mk); (focus kernel_rfl))
    | ((with_reducible apply DrawP.mk); (focus kernel_rfl))
    | ((with_reducible apply Same.mk); (focus rfl); (first | exact trivial | exact rfl))
    | (intro cap hcap)
    | ((fail_if_success (with_reducible apply Fin.mk)); (fail_if_success (with_reducible apply CallP.mk)); (fail_if_success (with_reducible apply LoopP.mk)); (fail_if_success (with_reducible apply VC.mk)); (fail_if_success (with_reducible apply falseMk)); (fail_if_success (with_reducible apply Round.mk)); (fail_if_success (with_reducible apply LookP.mk)); (fail_if_success (with_reducible apply RangeP.mk)); (fail_if_success (with_reducible apply NextP.mk)); (fail_if_success (with_reducible apply EntryP.mk)); (fail_if_success (with_reducible apply Eq.symm)); conv => whnf))
    refine longer_at y.2.2.2.1 ((A : Int) + (row.getD ((y.1 : Nat) : Int).toNat OpR.z).b.length) ⟨by omega, by omega, by omega⟩ ⟨rfl, rfl, trivial⟩ ?_
    intro m hm
    have hm : m = longL y.2.2.2.1 ((A : Int) + (row.getD ((y.1 : Nat) : Int).toNat OpR.z).b.length) := hm
    have hml : m.length = max y.2.2.2.1.length (A + (row.getD ((y.1 : Nat) : Int).toNat OpR.z).b.length) := by rw [hm, longL_length]; omega
    have hmg : ∀ q, m.getD q 0 = y.2.2.2.1.getD q 0 := fun q => by rw [hm, longL_get]
    clear hm
    repeat' (first
    | (with_reducible exact True.intro)
    | (with_reducible apply And.intro)
    | ((with_reducible apply VC.mk); (first | omega | (simp only [inR]; omega) | exact True.intro | (exact ⟨rfl, List.prefix_rfl⟩) | (refine ⟨rfl, rfl, rfl, ?_, rfl⟩; (simp; done)) | (focus (repeat' (first | exact True.intro | apply And.intro | rfl | exact Nat.le_of_ble_eq_true rfl)); done) | (simp [inR, Cont.cells]; done) | (simp [inR, Cont.cells]; omega)))
    | (with_reducible apply If_true)
    | (with_reducible apply If_false)
    | ((with_reducible apply If_dec) <;> intro hc <;> (try (exfalso; omega)))
    | (with_reducible apply If_not)
    | ((with_reducible apply If_any) <;> intro hc)
    | ((with_reducible apply PF.mk); (focus kernel_rfl))
    | ((with_reducible apply DrawP.mk); (focus kernel_rfl))
    | ((with_reducible apply Same.mk); (focus rfl); (first | exact trivial | exact rfl))
    | (intro cap hcap)
    | ((fail_if_success (with_reducible apply Fin.mk)); (fail_if_success (with_reducible apply CallP.mk)); (fail_if_success (with_reducible apply LoopP.mk)); (fail_if_success (with_reducible apply VC.mk)); (fail_if_success (with_reducible apply falseMk)); (fail_if_success (with_reducible apply Round.mk)); (fail_if_success (with_reducible apply LookP.mk)); (fail_if_success (with_reducible apply RangeP.mk)); (fail_if_success (with_reducible apply NextP.mk)); (fail_if_success (with_reducible apply EntryP.mk)); (fail_if_success (with_reducible apply Eq.symm)); conv => whnf))
    refine with_at m A (row.getD ((y.1 : Nat) : Int).toNat OpR.z).b ⟨by omega, by omega⟩ ⟨⟨rfl, rfl, rfl⟩, rfl, ⟨rfl, rfl, rfl⟩, trivial⟩ ?_
    intro w hw
    have hwl : w.length = max y.2.2.2.1.length (A + (row.getD ((y.1 : Nat) : Int).toNat OpR.z).b.length) := by rw [hw, putG_length (by omega)]; omega
    have hwg : ∀ q, w.getD q 0 = wrV (fun q => y.2.2.2.1.getD q 0) A (row.getD ((y.1 : Nat) : Int).toNat OpR.z).b q := fun q => by rw [hw, putG_get (by omega), hmg]; rfl
    clear hw
    repeat' (first
    | (with_reducible exact True.intro)
    | (with_reducible apply And.intro)
    | ((with_reducible apply VC.mk); (first | omega | (simp only [inR]; omega) | exact True.intro | (exact ⟨rfl, List.prefix_rfl⟩) | (refine ⟨rfl, rfl, rfl, ?_, rfl⟩; (simp; done)) | (focus (repeat' (first | exact True.intro | apply And.intro | rfl | exact Nat.le_of_ble_eq_true rfl)); done) | (simp [inR, Cont.cells]; done) | (simp [inR, Cont.cells]; omega)))
    | (with_reducible apply If_true)
    | (with_reducible apply If_false)
    | ((with_reducible apply If_dec) <;> intro hc <;> (try (exfalso; omega)))
    | (with_reducible apply If_not)
    | ((with_reducible apply If_any) <;> intro hc)
    | ((with_reducible apply PF.mk); (focus kernel_rfl))
    | ((with_reducible apply DrawP.mk); (focus kernel_rfl))
    | ((with_reducible apply Same.mk); (focus rfl); (first | exact trivial | exact rfl))
    | (intro cap hcap)
    | ((fail_if_success (with_reducible apply Fin.mk)); (fail_if_success (with_reducible apply CallP.mk)); (fail_if_success (with_reducible apply LoopP.mk)); (fail_if_success (with_reducible apply VC.mk)); (fail_if_success (with_reducible apply falseMk)); (fail_if_success (with_reducible apply Round.mk)); (fail_if_success (with_reducible apply LookP.mk)); (fail_if_success (with_reducible apply RangeP.mk)); (fail_if_success (with_reducible apply NextP.mk)); (fail_if_success (with_reducible apply EntryP.mk)); (fail_if_success (with_reducible apply Eq.symm)); conv => whnf))
    have hI2 := gI.fresh (by omega) ⟨by omega, by omega, by have := q3 hk2; omega⟩ hob ro4 h2 hwl hwg
    rw [← h3'] at hI2
    refine Round.mk ⟨(y.1 + 1, y.2.1, t1, w, y.2.2.2.2.1, y.2.2.2.2.2), ⟨by show y.1 + 1 ≤ _; omega, hI2⟩, by show row.length - (y.1 + 1) < row.length - y.1; omega, Fit.ren [0, 1, 6, 3, 4, 5] [] rfl rfl trivial (T5.leG (cs := [.blk 3 (.ints .i64 y.2.2.2.2.1) (y.2.2.2.2.2 * 1)]) rfl rfl rfl rfl rfl rfl rfl rfl rfl ⟨rfl, rfl, rfl, rfl, rfl⟩ ?_) ?_⟩
    · repeat' (first
    | (with_reducible exact True.intro)
    | (with_reducible apply And.intro)
    | ((with_reducible apply VC.mk); (first | omega | (simp only [inR]; omega) | exact True.intro | (exact ⟨rfl, List.prefix_rfl⟩) | (refine ⟨rfl, rfl, rfl, ?_, rfl⟩; (simp; done)) | (focus (repeat' (first | exact True.intro | apply And.intro | rfl | exact Nat.le_of_ble_eq_true rfl)); done) | (simp [inR, Cont.cells]; done) | (simp [inR, Cont.cells]; omega)))
    | (with_reducible apply If_true)
    | (with_reducible apply If_false)
    | ((with_reducible apply If_dec) <;> intro hc <;> (try (exfalso; omega)))
    | (with_reducible apply If_not)
    | ((with_reducible apply If_any) <;> intro hc)
    | ((with_reducible apply PF.mk); (focus kernel_rfl))
    | ((with_reducible apply DrawP.mk); (focus kernel_rfl))
    | ((with_reducible apply Same.mk); (focus rfl); (first | exact trivial | exact rfl))
    | (intro cap hcap)
    | ((fail_if_success (with_reducible apply Fin.mk)); (fail_if_success (with_reducible apply CallP.mk)); (fail_if_success (with_reducible apply LoopP.mk)); (fail_if_success (with_reducible apply VC.mk)); (fail_if_success (with_reducible apply falseMk)); (fail_if_success (with_reducible apply Round.mk)); (fail_if_success (with_reducible apply LookP.mk)); (fail_if_success (with_reducible apply RangeP.mk)); (fail_if_success (with_reducible apply NextP.mk)); (fail_if_success (with_reducible apply EntryP.mk)); (fail_if_success (with_reducible apply Eq.symm)); conv => whnf))
    · repeat' (first
    | (with_reducible exact True.intro)
    | (with_reducible apply And.intro)
    | ((with_reducible apply VC.mk); (first | omega | (simp only [inR]; omega) | exact True.intro | (exact ⟨rfl, List.prefix_rfl⟩) | (refine ⟨rfl, rfl, rfl, ?_, rfl⟩; (simp; done)) | (focus (repeat' (first | exact True.intro | apply And.intro | rfl | exact Nat.le_of_ble_eq_true rfl)); done) | (simp [inR, Cont.cells]; done) | (simp [inR, Cont.cells]; omega)))
    | (with_reducible apply If_true)
    | (with_reducible apply If_false)
    | ((with_reducible apply If_dec) <;> intro hc <;> (try (exfalso; omega)))
    | (with_reducible apply If_not)
    | ((with_reducible apply If_any) <;> intro hc)
    | ((with_reducible apply PF.mk); (focus kernel_rfl))
    | ((with_reducible apply DrawP.mk); (focus kernel_rfl))
    | ((with_reducible apply Same.mk); (focus rfl); (first | exact trivial | exact rfl))
    | (intro cap hcap)
    | ((fail_if_success (with_reducible apply Fin.mk)); (fail_if_success (with_reducible apply CallP.mk)); (fail_if_success (with_reducible apply LoopP.mk)); (fail_if_success (with_reducible apply VC.mk)); (fail_if_success (with_reducible apply falseMk)); (fail_if_success (with_reducible apply Round.mk)); (fail_if_success (with_reducible apply LookP.mk)); (fail_if_success (with_reducible apply RangeP.mk)); (fail_if_success (with_reducible apply NextP.mk)); (fail_if_success (with_reducible apply EntryP.mk)); (fail_if_success (with_reducible apply Eq.symm)); conv => whnf))
  · refine tput_at y.2.2.1 jX ((DF.mk0 b).tick y.2.1) (A : Int) (row.getD ((y.1 : Nat) : Int).toNat OpR.z).b 0 1 2 3 4 ⟨gI.ok, ⟨rfl, rfl⟩, ⟨by simp only [inR]; omega, by omega⟩, (hops _ (by omega)).1, (hops _ (by omega)).2, by show b.length ≤ _; omega⟩ rfl rfl rfl rfl rfl rfl ⟨rfl, rfl, ⟨rfl, rfl, rfl⟩, trivial⟩ ?_
    rintro ⟨e1, t1, m1⟩ hr
    dsimp only at hr ⊢
    rcases hr with ⟨h, -⟩ | ⟨-, h, -⟩ | ⟨-, -, h1, h2, h3⟩
    · rw [gI.over] at h; cases h
    · exact absurd fB h
    have h2' : t1 = y.2.2.1.put b A (row.getD ((y.1 : Nat) : Int).toNat OpR.z).b := by rw [h2]; rfl
    have hm1 : m1 ≤ 1500 := Nat.le_trans h3 hob
    subst h1
    repeat' (first
    | (with_reducible exact True.intro)
    | (with_reducible apply And.intro)
    | ((with_reducible apply VC.mk); (first | omega | (simp only [inR]; omega) | exact True.intro | (exact ⟨rfl, List.prefix_rfl⟩) | (refine ⟨rfl, rfl, rfl, ?_, rfl⟩; (simp; done)) | (focus (repeat' (first | exact True.intro | apply And.intro | rfl | exact Nat.le_of_ble_eq_true rfl)); done) | (simp [inR, Cont.cells]; done) | (simp [inR, Cont.cells]; omega)))
    | (with_reducible apply If_true)
    | (with_reducible apply If_false)
    | ((with_reducible apply If_dec) <;> intro hc <;> (try (exfalso; omega)))
    | (with_reducible apply If_not)
    | ((with_reducible apply If_any) <;> intro hc)
    | ((with_reducible apply PF.mk); (focus kernel_rfl))
    | ((with_reducible apply DrawP.mk); (focus kernel_rfl))
    | ((with_reducible apply Same.mk); (focus rfl); (first | exact trivial | exact rfl))
    | (intro cap hcap)
    | ((fail_if_success (with_reducible apply Fin.mk)); (fail_if_success (with_reducible apply CallP.mk)); (fail_if_success (with_reducible apply LoopP.mk)); (fail_if_success (with_reducible apply VC.mk)); (fail_if_success (with_reducible apply falseMk)); (fail_if_success (with_reducible apply Round.mk)); (fail_if_success (with_reducible apply LookP.mk)); (fail_if_success (with_reducible apply RangeP.mk)); (fail_if_success (with_reducible apply NextP.mk)); (fail_if_success (with_reducible apply EntryP.mk)); (fail_if_success (with_reducible apply Eq.symm)); conv => whnf))
    refine LoopP.mk ⟨Nat × List Int × Nat, fun u => u.2.1 = y.2.2.2.2.1 ++ secL A u.1 ∧ u.1 ≤ 4 ∧ (u.1 = 0 ∨ 0 < (row.getD ((y.1 : Nat) : Int).toNat OpR.z).b.length ∧ (A / 512 + u.1 - 1) * 512 < A + (row.getD ((y.1 : Nat) : Int).toNat OpR.z).b.length), fun u => ([(2, .im true 4 row.length (opsC true row)), (7, .im true 1 b.length (.ints .u8 b)), (8, .p 4 0 1 0), (9, .p 3 0 1 0), (11, .p 0 0 1 0), (13, .im true 1 y.2.2.2.1.length (.ints .u8 y.2.2.2.1)), (14, .s 5 0 1 u.2.1.length u.2.2), (15, .v (.int .i64 (y.1 : Int))), (16, .v (.int .i64 (A : Int))), (17, .v (.int .i64 ((A / 512 + u.1 : Nat) : Int)))], tpre t1 jX (((DF.mk0 b).tick y.2.1).tick m1) ++ [.blk 3 (.ints .i64 u.2.1) (u.2.2 * 1)]), fun u => 10 - u.1, (0, y.2.2.2.2.1, y.2.2.2.2.2), ⟨by show _ = _ ++ []; rw [List.append_nil], Nat.zero_le _, .inl rfl⟩, Fit.ren [0, 1, 2, 3, 4, 5] [] rfl rfl trivial (T5.leG (cs := [.blk 3 (.ints .i64 y.2.2.2.2.1) (y.2.2.2.2.2 * 1)]) rfl rfl rfl rfl rfl rfl rfl rfl rfl ⟨rfl, rfl, rfl, rfl, rfl⟩ ?_) ?_, ?_⟩
    · repeat' (first
    | (with_reducible exact True.intro)
    | (with_reducible apply And.intro)
    | ((with_reducible apply VC.mk); (first | omega | (simp only [inR]; omega) | exact True.intro | (exact ⟨rfl, List.prefix_rfl⟩) | (refine ⟨rfl, rfl, rfl, ?_, rfl⟩; (simp; done)) | (focus (repeat' (first | exact True.intro | apply And.intro | rfl | exact Nat.le_of_ble_eq_true rfl)); done) | (simp [inR, Cont.cells]; done) | (simp [inR, Cont.cells]; omega)))
    | (with_reducible apply If_true)
    | (with_reducible apply If_false)
    | ((with_reducible apply If_dec) <;> intro hc <;> (try (exfalso; omega)))
    | (with_reducible apply If_not)
    | ((with_reducible apply If_any) <;> intro hc)
    | ((with_reducible apply PF.mk); (focus kernel_rfl))
    | ((with_reducible apply DrawP.mk); (focus kernel_rfl))
    | ((with_reducible apply Same.mk); (focus rfl); (first | exact trivial | exact rfl))
    | (intro cap hcap)
    | ((fail_if_success (with_reducible apply Fin.mk)); (fail_if_success (with_reducible apply CallP.mk)); (fail_if_success (with_reducible apply LoopP.mk)); (fail_if_success (with_reducible apply VC.mk)); (fail_if_success (with_reducible apply falseMk)); (fail_if_success (with_reducible apply Round.mk)); (fail_if_success (with_reducible apply LookP.mk)); (fail_if_success (with_reducible apply RangeP.mk)); (fail_if_success (with_reducible apply NextP.mk)); (fail_if_success (with_reducible apply EntryP.mk)); (fail_if_success (with_reducible apply Eq.symm)); conv => whnf))
    · repeat' (first
    | (with_reducible exact True.intro)
    | (with_reducible apply And.intro)
    | ((with_reducible apply VC.mk); (first | omega | (simp only [inR]; omega) | exact True.intro | (exact ⟨rfl, List.prefix_rfl⟩) | (refine ⟨rfl, rfl, rfl, ?_, rfl⟩; (simp; done)) | (focus (repeat' (first | exact True.intro | apply And.intro | rfl | exact Nat.le_of_ble_eq_true rfl)); done) | (simp [inR, Cont.cells]; done) | (simp [inR, Cont.cells]; omega)))
    | (with_reducible apply If_true)
    | (with_reducible apply If_false)
    | ((with_reducible apply If_dec) <;> intro hc <;> (try (exfalso; omega)))
    | (with_reducible apply If_not)
    | ((with_reducible apply If_any) <;> intro hc)
    | ((with_reducible apply PF.mk); (focus kernel_rfl))
    | ((with_reducible apply DrawP.mk); (focus kernel_rfl))
    | ((with_reducible apply Same.mk); (focus rfl); (first | exact trivial | exact rfl))
    | (intro cap hcap)
    | ((fail_if_success (with_reducible apply Fin.mk)); (fail_if_success (with_reducible apply CallP.mk)); (fail_if_success (with_reducible apply LoopP.mk)); (fail_if_success (with_reducible apply VC.mk)); (fail_if_success (with_reducible apply falseMk)); (fail_if_success (with_reducible apply Round.mk)); (fail_if_success (with_reducible apply LookP.mk)); (fail_if_success (with_reducible apply RangeP.mk)); (fail_if_success (with_reducible apply NextP.mk)); (fail_if_success (with_reducible apply EntryP.mk)); (fail_if_success (with_reducible apply Eq.symm)); conv => whnf))
    intro u hu
    obtain ⟨u1, u2, u3⟩ := hu
    have ul : u.2.1.length ≤ 3000 := by rw [u1, List.length_append, secL_length]; omega
    repeat' (first
    | (with_reducible exact True.intro)
    | (with_reducible apply And.intro)
    | ((with_reducible apply VC.mk); (first | omega | (simp only [inR]; omega) | exact True.intro | (exact ⟨rfl, List.prefix_rfl⟩) | (refine ⟨rfl, rfl, rfl, ?_, rfl⟩; (simp; done)) | (focus (repeat' (first | exact True.intro | apply And.intro | rfl | exact Nat.le_of_ble_eq_true rfl)); done) | (simp [inR, Cont.cells]; done) | (simp [inR, Cont.cells]; omega)))
    | (with_reducible apply If_true)
    | (with_reducible apply If_false)
    | ((with_reducible apply If_dec) <;> intro hc <;> (try (exfalso; omega)))
    | (with_reducible apply If_not)
    | ((with_reducible apply If_any) <;> intro hc)
    | ((with_reducible apply PF.mk); (focus kernel_rfl))
    | ((with_reducible apply DrawP.mk); (focus kernel_rfl))
    | ((with_reducible apply Same.mk); (focus rfl); (first | exact trivial | exact rfl))
    | (intro cap hcap)
    | ((fail_if_success (with_reducible apply Fin.mk)); (fail_if_success (with_reducible apply CallP.mk)); (fail_if_success (with_reducible apply LoopP.mk)); (fail_if_success (with_reducible apply VC.mk)); (fail_if_success (with_reducible apply falseMk)); (fail_if_success (with_reducible apply Round.mk)); (fail_if_success (with_reducible apply LookP.mk)); (fail_if_success (with_reducible apply RangeP.mk)); (fail_if_success (with_reducible apply NextP.mk)); (fail_if_success (with_reducible apply EntryP.mk)); (fail_if_success (with_reducible apply Eq.symm)); conv => whnf))
    · refine Round.mk ⟨(u.1 + 1, u.2.1 ++ [((A / 512 + u.1 : Nat) : Int)], cap), ⟨by show _ = _ ++ secL A (u.1 + 1); rw [secL_snoc, ← List.append_assoc, ← u1], by show u.1 + 1 ≤ 4; omega, .inr ⟨by omega, by show (A / 512 + (u.1 + 1) - 1) * 512 < _; omega⟩⟩, by show 10 - (u.1 + 1) < 10 - u.1; omega, Fit.ren [0, 1, 2, 3, 4, 7] [] rfl rfl trivial (T5.leG (cs := [.blk 3 (.ints .i64 (u.2.1 ++ [((A / 512 + u.1 : Nat) : Int)])) (cap * 1)]) rfl rfl rfl rfl rfl rfl rfl rfl rfl ⟨rfl, rfl, rfl, rfl, rfl⟩ ?_) ?_⟩
      · repeat' (first
    | (with_reducible exact True.intro)
    | (with_reducible apply And.intro)
    | ((with_reducible apply VC.mk); (first | omega | (simp only [inR]; omega) | exact True.intro | (exact ⟨rfl, List.prefix_rfl⟩) | (refine ⟨rfl, rfl, rfl, ?_, rfl⟩; (simp; done)) | (focus (repeat' (first | exact True.intro | apply And.intro | rfl | exact Nat.le_of_ble_eq_true rfl)); done) | (simp [inR, Cont.cells]; done) | (simp [inR, Cont.cells]; omega)))
    | (with_reducible apply If_true)
    | (with_reducible apply If_false)
    | ((with_reducible apply If_dec) <;> intro hc <;> (try (exfalso; omega)))
    | (with_reducible apply If_not)
    | ((with_reducible apply If_any) <;> intro hc)
    | ((with_reducible apply PF.mk); (focus kernel_rfl))
    | ((with_reducible apply DrawP.mk); (focus kernel_rfl))
    | ((with_reducible apply Same.mk); (focus rfl); (first | exact trivial | exact rfl))
    | (intro cap hcap)
    | ((fail_if_success (with_reducible apply Fin.mk)); (fail_if_success (with_reducible apply CallP.mk)); (fail_if_success (with_reducible apply LoopP.mk)); (fail_if_success (with_reducible apply VC.mk)); (fail_if_success (with_reducible apply falseMk)); (fail_if_success (with_reducible apply Round.mk)); (fail_if_success (with_reducible apply LookP.mk)); (fail_if_success (with_reducible apply RangeP.mk)); (fail_if_success (with_reducible apply NextP.mk)); (fail_if_success (with_reducible apply EntryP.mk)); (fail_if_success (with_reducible apply Eq.symm)); conv => whnf))
      · repeat' (first
    | (with_reducible exact True.intro)
    | (with_reducible apply And.intro)
    | ((with_reducible apply VC.mk); (first | omega | (simp only [inR]; omega) | exact True.intro | (exact ⟨rfl, List.prefix_rfl⟩) | (refine ⟨rfl, rfl, rfl, ?_, rfl⟩; (simp; done)) | (focus (repeat' (first | exact True.intro | apply And.intro | rfl | exact Nat.le_of_ble_eq_true rfl)); done) | (simp [inR, Cont.cells]; done) | (simp [inR, Cont.cells]; omega)))
    | (with_reducible apply If_true)
    | (with_reducible apply If_false)
    | ((with_reducible apply If_dec) <;> intro hc <;> (try (exfalso; omega)))
    | (with_reducible apply If_not)
    | ((with_reducible apply If_any) <;> intro hc)
    | ((with_reducible apply PF.mk); (focus kernel_rfl))
    | ((with_reducible apply DrawP.mk); (focus kernel_rfl))
    | ((with_reducible apply Same.mk); (focus rfl); (first | exact trivial | exact rfl))
    | (intro cap hcap)
    | ((fail_if_success (with_reducible apply Fin.mk)); (fail_if_success (with_reducible apply CallP.mk)); (fail_if_success (with_reducible apply LoopP.mk)); (fail_if_success (with_reducible apply VC.mk)); (fail_if_success (with_reducible apply falseMk)); (fail_if_success (with_reducible apply Round.mk)); (fail_if_success (with_reducible apply LookP.mk)); (fail_if_success (with_reducible apply RangeP.mk)); (fail_if_success (with_reducible apply NextP.mk)); (fail_if_success (with_reducible apply EntryP.mk)); (fail_if_success (with_reducible apply Eq.symm)); conv => whnf))
    all_goals (
      repeat' (first
    | (with_reducible exact True.intro)
    | (with_reducible apply And.intro)
    | ((with_reducible apply VC.mk); (first | omega | (simp only [inR]; omega) | exact True.intro | (exact ⟨rfl, List.prefix_rfl⟩) | (refine ⟨rfl, rfl, rfl, ?_, rfl⟩; (simp; done)) | (focus (repeat' (first | exact True.intro | apply And.intro | rfl | exact Nat.le_of_ble_eq_true rfl)); done) | (simp [inR, Cont.cells]; done) | (simp [inR, Cont.cells]; omega)))
    | (with_reducible apply If_true)
    | (with_reducible apply If_false)
    | ((with_reducible apply If_dec) <;> intro hc <;> (try (exfalso; omega)))
    | (with_reducible apply If_not)
    | ((with_reducible apply If_any) <;> intro hc)
    | ((with_reducible apply PF.mk); (focus kernel_rfl))
    | ((with_reducible apply DrawP.mk); (focus kernel_rfl))
    | ((with_reducible apply Same.mk); (focus rfl); (first | exact trivial | exact rfl))
    | (intro cap hcap)
    | ((fail_if_success (with_reducible apply Fin.mk)); (fail_if_success (with_reducible apply CallP.mk)); (fail_if_success (with_reducible apply LoopP.mk)); (fail_if_success (with_reducible apply VC.mk)); (fail_if_success (with_reducible apply falseMk)); (fail_if_success (with_reducible apply Round.mk)); (fail_if_success (with_reducible apply LookP.mk)); (fail_if_success (with_reducible apply RangeP.mk)); (fail_if_success (with_reducible apply NextP.mk)); (fail_if_success (with_reducible apply EntryP.mk)); (fail_if_success (with_reducible apply Eq.symm)); conv => whnf))
      refine longer_at y.2.2.2.1 ((A : Int) + (row.getD ((y.1 : Nat) : Int).toNat OpR.z).b.length) ⟨by omega, by omega, by omega⟩ ⟨rfl, rfl, trivial⟩ ?_
      intro m hm
      have hm : m = longL y.2.2.2.1 ((A : Int) + (row.getD ((y.1 : Nat) : Int).toNat OpR.z).b.length) := hm
      have hml : m.length = max y.2.2.2.1.length (A + (row.getD ((y.1 : Nat) : Int).toNat OpR.z).b.length) := by rw [hm, longL_length]; omega
      have hmg : ∀ q, m.getD q 0 = y.2.2.2.1.getD q 0 := fun q => by rw [hm, longL_get]
      clear hm
      repeat' (first
    | (with_reducible exact True.intro)
    | (with_reducible apply And.intro)
    | ((with_reducible apply VC.mk); (first | omega | (simp only [inR]; omega) | exact True.intro | (exact ⟨rfl, List.prefix_rfl⟩) | (refine ⟨rfl, rfl, rfl, ?_, rfl⟩; (simp; done)) | (focus (repeat' (first | exact True.intro | apply And.intro | rfl | exact Nat.le_of_ble_eq_true rfl)); done) | (simp [inR, Cont.cells]; done) | (simp [inR, Cont.cells]; omega)))
    | (with_reducible apply If_true)
    | (with_reducible apply If_false)
    | ((with_reducible apply If_dec) <;> intro hc <;> (try (exfalso; omega)))
    | (with_reducible apply If_not)
    | ((with_reducible apply If_any) <;> intro hc)
    | ((with_reducible apply PF.mk); (focus kernel_rfl))
    | ((with_reducible apply DrawP.mk); (focus kernel_rfl))
    | ((with_reducible apply Same.mk); (focus rfl); (first | exact trivial | exact rfl))
    | (intro cap hcap)
    | ((fail_if_success (with_reducible apply Fin.mk)); (fail_if_success (with_reducible apply CallP.mk)); (fail_if_success (with_reducible apply LoopP.mk)); (fail_if_success (with_reducible apply VC.mk)); (fail_if_success (with_reducible apply falseMk)); (fail_if_success (with_reducible apply Round.mk)); (fail_if_success (with_reducible apply LookP.mk)); (fail_if_success (with_reducible apply RangeP.mk)); (fail_if_success (with_reducible apply NextP.mk)); (fail_if_success (with_reducible apply EntryP.mk)); (fail_if_success (with_reducible apply Eq.symm)); conv => whnf))
      refine with_at m A (row.getD ((y.1 : Nat) : Int).toNat OpR.z).b ⟨by omega, by omega⟩ ⟨⟨rfl, rfl, rfl⟩, rfl, ⟨rfl, rfl, rfl⟩, trivial⟩ ?_
      intro w hw
      have hwl : w.length = max y.2.2.2.1.length (A + (row.getD ((y.1 : Nat) : Int).toNat OpR.z).b.length) := by rw [hw, putG_length (by omega)]; omega
      have hwg : ∀ q, w.getD q 0 = wrV (fun q => y.2.2.2.1.getD q 0) A (row.getD ((y.1 : Nat) : Int).toNat OpR.z).b q := fun q => by rw [hw, putG_get (by omega), hmg]; rfl
      clear hw
      repeat' (first
    | (with_reducible exact True.intro)
    | (with_reducible apply And.intro)
    | ((with_reducible apply VC.mk); (first | omega | (simp only [inR]; omega) | exact True.intro | (exact ⟨rfl, List.prefix_rfl⟩) | (refine ⟨rfl, rfl, rfl, ?_, rfl⟩; (simp; done)) | (focus (repeat' (first | exact True.intro | apply And.intro | rfl | exact Nat.le_of_ble_eq_true rfl)); done) | (simp [inR, Cont.cells]; done) | (simp [inR, Cont.cells]; omega)))
    | (with_reducible apply If_true)
    | (with_reducible apply If_false)
    | ((with_reducible apply If_dec) <;> intro hc <;> (try (exfalso; omega)))
    | (with_reducible apply If_not)
    | ((with_reducible apply If_any) <;> intro hc)
    | ((with_reducible apply PF.mk); (focus kernel_rfl))
    | ((with_reducible apply DrawP.mk); (focus kernel_rfl))
    | ((with_reducible apply Same.mk); (focus rfl); (first | exact trivial | exact rfl))
    | (intro cap hcap)
    | ((fail_if_success (with_reducible apply Fin.mk)); (fail_if_success (with_reducible apply CallP.mk)); (fail_if_success (with_reducible apply LoopP.mk)); (fail_if_success (with_reducible apply VC.mk)); (fail_if_success (with_reducible apply falseMk)); (fail_if_success (with_reducible apply Round.mk)); (fail_if_success (with_reducible apply LookP.mk)); (fail_if_success (with_reducible apply RangeP.mk)); (fail_if_success (with_reducible apply NextP.mk)); (fail_if_success (with_reducible apply EntryP.mk)); (fail_if_success (with_reducible apply Eq.symm)); conv => whnf))

      have hI2 := gI.put (n := u.1) (d := m1) (by omega) ⟨by omega, by omega⟩ hob ro4 hm1 hwl hwg u3 (by omega)
      rw [← h2', ← u1] at hI2
      rw [tick_tick]
      refine Round.mk ⟨(y.1 + 1, y.2.1 + m1, t1, w, u.2.1, u.2.2), ⟨by show y.1 + 1 ≤ _; omega, hI2⟩, by show row.length - (y.1 + 1) < row.length - y.1; omega, Fit.ren [0, 1, 2, 3, 4, 5] [] rfl rfl trivial (T5.leG (cs := [.blk 3 (.ints .i64 u.2.1) (u.2.2 * 1)]) rfl rfl rfl rfl rfl rfl rfl rfl rfl ⟨rfl, rfl, rfl, rfl, rfl⟩ ?_) ?_⟩
      · repeat' (first
    | (with_reducible exact True.intro)
    | (with_reducible apply And.intro)
    | ((with_reducible apply VC.mk); (first | omega | (simp only [inR]; omega) | exact True.intro | (exact ⟨rfl, List.prefix_rfl⟩) | (refine ⟨rfl, rfl, rfl, ?_, rfl⟩; (simp; done)) | (focus (repeat' (first | exact True.intro | apply And.intro | rfl | exact Nat.le_of_ble_eq_true rfl)); done) | (simp [inR, Cont.cells]; done) | (simp [inR, Cont.cells]; omega)))
    | (with_reducible apply If_true)
    | (with_reducible apply If_false)
    | ((with_reducible apply If_dec) <;> intro hc <;> (try (exfalso; omega)))
    | (with_reducible apply If_not)
    | ((with_reducible apply If_any) <;> intro hc)
    | ((with_reducible apply PF.mk); (focus kernel_rfl))
    | ((with_reducible apply DrawP.mk); (focus kernel_rfl))
    | ((with_reducible apply Same.mk); (focus rfl); (first | exact trivial | exact rfl))
    | (intro cap hcap)
    | ((fail_if_success (with_reducible apply Fin.mk)); (fail_if_success (with_reducible apply CallP.mk)); (fail_if_success (with_reducible apply LoopP.mk)); (fail_if_success (with_reducible apply VC.mk)); (fail_if_success (with_reducible apply falseMk)); (fail_if_success (with_reducible apply Round.mk)); (fail_if_success (with_reducible apply LookP.mk)); (fail_if_success (with_reducible apply RangeP.mk)); (fail_if_success (with_reducible apply NextP.mk)); (fail_if_success (with_reducible apply EntryP.mk)); (fail_if_success (with_reducible apply Eq.symm)); conv => whnf))
      · repeat' (first
    | (with_reducible exact True.intro)
    | (with_reducible apply And.intro)
    | ((with_reducible apply VC.mk); (first | omega | (simp only [inR]; omega) | exact True.intro | (exact ⟨rfl, List.prefix_rfl⟩) | (refine ⟨rfl, rfl, rfl, ?_, rfl⟩; (simp; done)) | (focus (repeat' (first | exact True.intro | apply And.intro | rfl | exact Nat.le_of_ble_eq_true rfl)); done) | (simp [inR, Cont.cells]; done) | (simp [inR, Cont.cells]; omega)))
    | (with_reducible apply If_true)
    | (with_reducible apply If_false)
    | ((with_reducible apply If_dec) <;> intro hc <;> (try (exfalso; omega)))
    | (with_reducible apply If_not)
    | ((with_reducible apply If_any) <;> intro hc)
    | ((with_reducible apply PF.mk); (focus kernel_rfl))
    | ((with_reducible apply DrawP.mk); (focus kernel_rfl))
    | ((with_reducible apply Same.mk); (focus rfl); (first | exact trivial | exact rfl))
    | (intro cap hcap)
    | ((fail_if_success (with_reducible apply Fin.mk)); (fail_if_success (with_reducible apply CallP.mk)); (fail_if_success (with_reducible apply LoopP.mk)); (fail_if_success (with_reducible apply VC.mk)); (fail_if_success (with_reducible apply falseMk)); (fail_if_success (with_reducible apply Round.mk)); (fail_if_success (with_reducible apply LookP.mk)); (fail_if_success (with_reducible apply RangeP.mk)); (fail_if_success (with_reducible apply NextP.mk)); (fail_if_success (with_reducible apply EntryP.mk)); (fail_if_success (with_reducible apply Eq.symm)); conv => whnf)))
end Go.Proofs.Ytcfmlnddmpiemaa.Sx

