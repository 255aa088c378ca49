import Derived.Test.YtcfmlnddmpiemaaSxEc
import Derived.Test.YtcfmlnddmpiemaaSxU6
import Derived.Test.YtcfmlnddmpiemaaSxU3
set_option linter.unusedVariables false
set_option linter.unusedSimpArgs false
set_option maxRecDepth 10000
namespace Go.Proofs.Ytcfmlnddmpiemaa.Sx
open Go.RowKit Go.Proofs.Ytcfmlnddmpiemaa.Sx.Tb
/-! ### The law TxCrashes -/
def runL (a n : Nat) : List Int := (List.range n).map (fun i => ((a + i : Nat) : Int))
theorem runL_snoc (a n : Nat) : runL a (n + 1) = runL a n ++ [((a + n : Nat) : Int)] := by
  unfold runL; rw [List.range_succ, List.map_append]; rfl
theorem runL_length (a n : Nat) : (runL a n).length = n := by unfold runL; rw [List.length_map, List.length_range]
theorem runL_mem (a n : Nat) (k : Int) : k ∈ runL a n ↔ ∃ m : Nat, k = (m : Int) ∧ a ≤ m ∧ m < a + n := by
  unfold runL
  rw [List.mem_map]
  constructor
  · rintro ⟨i, hi, rfl⟩
    rw [List.mem_range] at hi
    exact ⟨a + i, rfl, by omega, by omega⟩
  · rintro ⟨m, rfl, h1, h2⟩
    exact ⟨m - a, List.mem_range.2 (by omega), by rw [show a + (m - a) = m by omega]⟩
structure CrI (b : List Int) (i q : Nat) (t : TR) (m fr : List Int) : Prop where
  ok : t.Ok
  over : t.over = false
  frn : t.fresh.length ≤ i
  inn : t.In jX
  b8 : t.B b
  cst : cost (wrs t.fresh) ≤ 2000 * (i : Int)
  ops : q ≤ 4000 * i
  view : ∀ p, t.V b p = m.getD p 0
  len : m.length = 18752
  key : ∀ k ∈ t.ks, 0 ≤ k ∧ k < 36
  frb : ∀ r ∈ t.fresh, r.1.toNat + r.2.length ≤ 18752
  all : ∀ r ∈ t.fresh, ∀ n : Nat, covers r n → (n : Int) ∈ fr
  frl : fr.length ≤ 1500 * i
  rng : ∀ x ∈ fr, 0 ≤ x ∧ x < 18752
theorem CrI.next {b : List Int} {i q : Nat} {t : TR} {m fr : List Int} (h : CrI b i q t m fr) : CrI b (i + 1) q t m fr := by
  obtain ⟨a1, a2, a3, a4, a5, a6, a7, a8, a9, b1, b2, b3, b4, b5⟩ := h
  exact ⟨a1, a2, by omega, a4, a5, by omega, by omega, a8, a9, b1, b2, b3, by omega, b5⟩
theorem CrI.fresh {b : List Int} {i q : Nat} {t : TR} {m fr : List Int} (h : CrI b i q t m fr) (hi : i ≤ 25) {A c : Nat} {p w : List Int} (hA : 10752 ≤ A ∧ A < 16752 ∧ A % 512 = 0) (hp : p.length ≤ 1500) (h8 : B8 p) (hc : t.fresh.length + 1 ≤ c) (hwl : w.length = max m.length (A + p.length)) (hw : ∀ q, w.getD q 0 = wrV (fun q => m.getD q 0) A p q) : CrI b (i + 1) q (t.freshT A p c) w (fr ++ runL A p.length) := by
  obtain ⟨a1, a2, a3, a4, a5, a6, a7, a8, a9, b1, b2, b3, b4, b5⟩ := h
  obtain ⟨p1, p2, p3, p4, p5, p6⟩ := fresh_V a1 (DF.mk0 b) (a := A) (p := p) (c := c) hA.2.2 (by omega) hc (by omega)
  have hI := p5 jX a4 h8 (.inr (.inr (by show (512 : Int) + 10240 ≤ A; omega))) (.inr (by show (512 : Int) + 10240 ≤ A; omega))
  have hv : ∀ r, (t.freshT A p c).V b r = w.getD r 0 := fun r => by
    rw [hw]
    refine (p6 r).trans ?_
    unfold wrV
    show (if _ then _ else t.V b r) = (if _ then _ else m.getD r 0)
    rw [a8]
  refine ⟨p1, p3.trans a2, by rw [p2, List.length_append]; show t.fresh.length + 1 ≤ i + 1; omega, hI, fun r => ?_, ?_, by omega, hv, by omega, fun k hk => ?_, fun r hr => ?_, fun r hr n hn => ?_, by rw [List.length_append, runL_length]; omega, fun x hx => ?_⟩
  · refine (show _ = _ from p6 r) ▸ ?_
    unfold wrV
    split
    · exact h8.getD _
    · exact a5 r
  · rw [p2]
    unfold wrs
    rw [List.map_append, cost_append]
    show cost (wrs t.fresh) + (1 + (p.length : Int) + 0) ≤ 2000 * ((i + 1 : Nat) : Int)
    omega
  · obtain ⟨x, hx, rfl⟩ := List.mem_map.1 hk
    have := (hI.keys x hx).1
    have e : x.1 = ((x.1.toNat : Nat) : Int) := by omega
    rw [e] at hk ⊢
    exact b1 _ ((fresh_ks a1 (by omega) hc (by omega) _).1 hk)
  · rw [p2] at hr
    rcases List.mem_append.1 hr with hr | hr
    · exact b2 r hr
    · rw [List.mem_singleton.1 hr]
      show (A : Int).toNat + p.length ≤ 18752
      omega
  · rw [p2] at hr
    rcases List.mem_append.1 hr with hr | hr
    · exact List.mem_append.2 (.inl (b3 r hr n hn))
    · rw [List.mem_singleton.1 hr] at hn
      have hn : (A : Int).toNat ≤ n ∧ n < (A : Int).toNat + p.length := hn
      exact List.mem_append.2 (.inr ((runL_mem _ _ _).2 ⟨n, rfl, by omega, by omega⟩))
  · rcases List.mem_append.1 hx with hx | hx
    · exact b5 x hx
    · obtain ⟨r, rfl, h1, h2⟩ := (runL_mem _ _ _).1 hx
      omega
theorem CrI.put {b : List Int} {i q : Nat} {t : TR} {m fr : List Int} (h : CrI b i q t m fr) (hi : i ≤ 25) {A d : Nat} {p w : List Int} (hA : 10752 ≤ A ∧ A < 16752) (hp : p.length ≤ 1500) (h8 : B8 p) (hd : d ≤ 1500) (hwl : w.length = max m.length (A + p.length)) (hw : ∀ q, w.getD q 0 = wrV (fun q => m.getD q 0) A p q) : CrI b (i + 1) (q + d) (t.put b A p) w fr := by
  obtain ⟨a1, a2, a3, a4, a5, a6, a7, a8, a9, b1, b2, b3, b4, b5⟩ := h
  obtain ⟨p1, p2, p3, p4, p5⟩ := put_V a1 b A p
  refine ⟨p1, p3.trans a2, by rw [p2]; omega, put_In a4 a1 a5 h8 jX_al (by omega) (.inr (.inr (by show (512 : Int) + 10240 ≤ A; omega))), a5.put a1 A h8, by rw [p2]; omega, by omega, fun r => ?_, by omega, fun k hk => ?_, by rw [p2]; exact b2, by rw [p2]; exact b3, by omega, b5⟩
  · rw [p5, hw]
    unfold wrV
    show (if _ then _ else t.V b r) = (if _ then _ else m.getD r 0)
    rw [a8]
  · rw [put_ks] at hk
    rcases hk with h | ⟨h0, r, rfl, h1, h2⟩
    · exact b1 k h
    · omega
set_option maxHeartbeats 64000000 in
theorem txcrashes_c (n c : Int) (row : List OpR) (ao : Int) (ak : List Bool) (k : K) (h0 : inR .i64 n ∧ (0 ≤ c ∧ c < 256) ∧ row.length ≤ 9223372036854775807 ∧ (∀ o ∈ row, inR .i64 o.kind ∧ inR .i64 o.pos ∧ inR .i64 o.n ∧ B8 o.b) ∧ inR .i64 ao ∧ ak.length ≤ 9223372036854775807) (hk : k (.v (.bool true)) []) : evFunc tab [148] p6 Go.Proofs.Try.f6 [.agg [.v (.int .i64 n), .v (.int .u8 c), .im true 4 row.length (opsC true row), .v (.int .i64 ao), .im true 1 ak.length (boolsC ak)]] [] k := by
  obtain ⟨hn, hc8, hrl, hro, hao, hakl⟩ := h0
  repeat' (first
    | (with_reducible first | exact True.intro | apply And.intro | apply If_true | apply If_false | apply If_not)
    | ((with_reducible apply VC.mk); exact vt)
    | ((with_reducible apply If_dec) <;> intro hc <;> (try (exfalso; omega)))
    | ((with_reducible apply If_any) <;> intro hc)
    | ((with_reducible first | apply PF.mk | apply DrawP.mk); (focus kernel_rfl))
    | ((with_reducible apply Same.mk); (focus rfl); (first | exact trivial | exact rfl))
    | (intro cap hcap)
    | ((fail_if_success (with_reducible apply st)); conv => whnf))
  refine changed_at trivial trivial ?_
  intro _ _
  repeat' (first
    | (with_reducible first | exact True.intro | apply And.intro | apply If_true | apply If_false | apply If_not)
    | ((with_reducible apply VC.mk); exact vt)
    | ((with_reducible apply If_dec) <;> intro hc <;> (try (exfalso; omega)))
    | ((with_reducible apply If_any) <;> intro hc)
    | ((with_reducible first | apply PF.mk | apply DrawP.mk); (focus kernel_rfl))
    | ((with_reducible apply Same.mk); (focus rfl); (first | exact trivial | exact rfl))
    | (intro cap hcap)
    | ((fail_if_success (with_reducible apply st)); conv => whnf))
  refine xlight_at row hrl ⟨⟨rfl, rfl, rfl, rfl, fun _ _ => rfl⟩, trivial⟩ ?_
  intro b hb
  repeat' (first
    | (with_reducible first | exact True.intro | apply And.intro | apply If_true | apply If_false | apply If_not)
    | ((with_reducible apply VC.mk); exact vt)
    | ((with_reducible apply If_dec) <;> intro hc <;> (try (exfalso; omega)))
    | ((with_reducible apply If_any) <;> intro hc)
    | ((with_reducible first | apply PF.mk | apply DrawP.mk); (focus kernel_rfl))
    | ((with_reducible apply Same.mk); (focus rfl); (first | exact trivial | exact rfl))
    | (intro cap hcap)
    | ((fail_if_success (with_reducible apply st)); conv => whnf))
  rotate_left 2
  · refine changed_at trivial trivial ?_
    intro _ _
    repeat' (first
    | (with_reducible first | exact True.intro | apply And.intro | apply If_true | apply If_false | apply If_not)
    | ((with_reducible apply VC.mk); exact vt)
    | ((with_reducible apply If_dec) <;> intro hc <;> (try (exfalso; omega)))
    | ((with_reducible apply If_any) <;> intro hc)
    | ((with_reducible first | apply PF.mk | apply DrawP.mk); (focus kernel_rfl))
    | ((with_reducible apply Same.mk); (focus rfl); (first | exact trivial | exact rfl))
    | (intro cap hcap)
    | ((fail_if_success (with_reducible apply st)); conv => whnf))
    exact Fin.bool rfl hk
  · refine changed_at trivial trivial ?_
    intro _ _
    repeat' (first
    | (with_reducible first | exact True.intro | apply And.intro | apply If_true | apply If_false | apply If_not)
    | ((with_reducible apply VC.mk); exact vt)
    | ((with_reducible apply If_dec) <;> intro hc <;> (try (exfalso; omega)))
    | ((with_reducible apply If_any) <;> intro hc)
    | ((with_reducible first | apply PF.mk | apply DrawP.mk); (focus kernel_rfl))
    | ((with_reducible apply Same.mk); (focus rfl); (first | exact trivial | exact rfl))
    | (intro cap hcap)
    | ((fail_if_success (with_reducible apply st)); conv => whnf))
    exact Fin.bool rfl hk
  have hlt := hb (by assumption)
  have hak : ak.length ≤ 300 := by omega
  clear hb
  refine tbase_at n c ⟨hn, hc8⟩ ⟨rfl, rfl, trivial⟩ ?_
  intro b0 hb0
  have hb0 : b0 = baseL n c := hb0
  have hbl0 : 10752 ≤ b0.length ∧ b0.length < 17752 := by rw [hb0, baseL_length]; omega
  have hb80 : B8 b0 := by rw [hb0]; exact baseL_B8 hc8
  have hz0 : ∀ i, i < 10752 → b0.getD i 0 = 0 := fun i hi => by
    rw [hb0]; unfold baseL
    rw [List.getD_eq_getElem?_getD, List.getElem?_append_left (by rw [List.length_replicate]; exact hi), List.getElem?_replicate]
    split <;> rfl
  clear hb0
  repeat' (first
    | (with_reducible first | exact True.intro | apply And.intro | apply If_true | apply If_false | apply If_not)
    | ((with_reducible apply VC.mk); exact vo)
    | ((with_reducible apply If_dec) <;> intro hc <;> (try (exfalso; omega)))
    | ((with_reducible apply If_any) <;> intro hc)
    | ((with_reducible first | apply PF.mk | apply DrawP.mk); (focus kernel_rfl))
    | ((with_reducible apply Same.mk); (focus rfl); (first | exact trivial | exact rfl))
    | (intro cap hcap)
    | ((fail_if_success (with_reducible apply st)); conv => whnf))
  refine longer_at b0 18752 ⟨by omega, by omega, by omega⟩ ⟨rfl, rfl, trivial⟩ ?_
  intro b hb
  have hb : b = longL b0 18752 := hb
  have hbl : b.length = 18752 := by rw [hb, longL_length]; omega
  have hb8 : B8 b := by rw [hb]; exact B8.append hb80 (B8.replicate _)
  have hz : ∀ i, i < 10752 → b.getD i 0 = 0 := fun i hi => by rw [hb, longL_get]; exact hz0 i hi
  clear hb hz0 hb80
  repeat' (first
    | (with_reducible first | exact True.intro | apply And.intro | apply If_true | apply If_false | apply If_not)
    | ((with_reducible apply VC.mk); exact vo)
    | ((with_reducible apply If_dec) <;> intro hc <;> (try (exfalso; omega)))
    | ((with_reducible apply If_any) <;> intro hc)
    | ((with_reducible first | apply PF.mk | apply DrawP.mk); (focus kernel_rfl))
    | ((with_reducible apply Same.mk); (focus rfl); (first | exact trivial | exact rfl))
    | (intro cap hcap)
    | ((fail_if_success (with_reducible apply st)); conv => whnf))
  refine topen_at b ⟨by omega, by omega⟩ ⟨⟨rfl, rfl, rfl⟩, trivial⟩ ?_
  repeat' (first
    | (with_reducible first | exact True.intro | apply And.intro | apply If_true | apply If_false | apply If_not)
    | ((with_reducible apply VC.mk); exact vo)
    | ((with_reducible apply If_dec) <;> intro hc <;> (try (exfalso; omega)))
    | ((with_reducible apply If_any) <;> intro hc)
    | ((with_reducible first | apply PF.mk | apply DrawP.mk); (focus kernel_rfl))
    | ((with_reducible apply Same.mk); (focus rfl); (first | exact trivial | exact rfl))
    | (intro cap hcap)
    | ((fail_if_success (with_reducible apply st)); conv => whnf))
  refine begin_at jX (DF.mk0 b) 2 3 rfl rfl rfl ⟨rfl, trivial⟩ ?_
  repeat' (first
    | (with_reducible first | exact True.intro | apply And.intro | apply If_true | apply If_false | apply If_not)
    | ((with_reducible apply VC.mk); exact vo)
    | ((with_reducible apply If_dec) <;> intro hc <;> (try (exfalso; omega)))
    | ((with_reducible apply If_any) <;> intro hc)
    | ((with_reducible first | apply PF.mk | apply DrawP.mk); (focus kernel_rfl))
    | ((with_reducible apply Same.mk); (focus rfl); (first | exact trivial | exact rfl))
    | (intro cap hcap)
    | ((fail_if_success (with_reducible apply st)); conv => whnf))
  have hI0 : CrI b 0 0 TR.zero b [] := ⟨TR.zero_ok, rfl, Nat.le_refl _, TR.zero_In _, TR.zero_B hb8, by show cost [] ≤ _; simp [cost], Nat.le_refl _, fun p => zero_V b p, hbl, fun k hk => absurd hk List.not_mem_nil, fun r hr => absurd hr List.not_mem_nil, fun r hr => absurd hr List.not_mem_nil, Nat.zero_le _, fun x hx => absurd hx List.not_mem_nil⟩
  refine LoopP.mk ⟨Nat × Nat × TR × List Int × List Int × Nat × Bool, fun y => y.1 ≤ row.length ∧ CrI b y.1 y.2.1 y.2.2.1 y.2.2.2.1 y.2.2.2.2.1, fun y => ([(5, .im true 4 row.length (opsC true row)), (6, .p 5 0 1 0), (7, .im true 1 b.length (.ints .u8 b)), (8, .p 4 0 1 0), (9, .p 3 0 1 0), (11, .p 0 0 1 0), (13, .im true 1 (y.2.2.2.1).length (.ints .u8 (y.2.2.2.1))), (14, .s 6 0 1 (y.2.2.2.2.1).length (y.2.2.2.2.2.1)), (15, .v (.bool (y.2.2.2.2.2.2))), (16, .v (.int .i64 ((y.1 : Nat) : Int)))], tpre (y.2.2.1) jX ((DF.mk0 b).tick (y.2.1)) ++ [.blk 93 (.lst [.v (.int .i64 ao), .im true 1 ak.length (boolsC ak)]) 2, .blk 3 (.ints .i64 (y.2.2.2.2.1)) (y.2.2.2.2.2.1 * 1)]), fun y => row.length - y.1, (0, 0, TR.zero, b, [], 0, false), ⟨Nat.zero_le _, hI0⟩, Fit.ren [4, 5, 6, 2, 3, 1, 7] [] rfl rfl trivial (T5.leG (cs := [.blk 93 (.lst [.v (.int .i64 ao), .im true 1 ak.length (boolsC ak)]) 2, .blk 3 (.ints .i64 ([])) (0 * 1)]) rfl rfl rfl rfl rfl rfl rfl rfl rfl ⟨rfl, rfl, rfl, rfl, rfl⟩ ?_) ?_, ?_⟩
  · repeat' (first
    | (with_reducible first | exact True.intro | apply And.intro | apply If_true | apply If_false | apply If_not)
    | ((with_reducible apply VC.mk); exact vo)
    | ((with_reducible apply If_dec) <;> intro hc <;> (try (exfalso; omega)))
    | ((with_reducible apply If_any) <;> intro hc)
    | ((with_reducible first | apply PF.mk | apply DrawP.mk); (focus kernel_rfl))
    | ((with_reducible apply Same.mk); (focus rfl); (first | exact trivial | exact rfl))
    | (intro cap hcap)
    | ((fail_if_success (with_reducible apply st)); conv => whnf))
  · repeat' (first
    | (with_reducible first | exact True.intro | apply And.intro | apply If_true | apply If_false | apply If_not)
    | ((with_reducible apply VC.mk); exact vo)
    | ((with_reducible apply If_dec) <;> intro hc <;> (try (exfalso; omega)))
    | ((with_reducible apply If_any) <;> intro hc)
    | ((with_reducible first | apply PF.mk | apply DrawP.mk); (focus kernel_rfl))
    | ((with_reducible apply Same.mk); (focus rfl); (first | exact trivial | exact rfl))
    | (intro cap hcap)
    | ((fail_if_success (with_reducible apply st)); conv => whnf))
  intro y hy
  obtain ⟨g1, gI⟩ := hy
  have e : ((y.1 : Nat) : Int).toNat = y.1 := Int.toNat_natCast _
  have hr25 := hlt.1
  have gops := gI.ops
  have gfl := gI.frl
  have gln := gI.len
  have hops : ∀ m : Nat, m ≤ 200000 → 0 ≤ ((DF.mk0 b).tick m).ops ∧ ((DF.mk0 b).tick m).ops ≤ 274877906944 := by
    intro m hm
    show 0 ≤ 0 + (m : Int) ∧ 0 + (m : Int) ≤ _
    omega
  repeat' (first
    | (with_reducible first | exact True.intro | apply And.intro | apply If_true | apply If_false | apply If_not)
    | ((with_reducible apply VC.mk); exact vo)
    | ((with_reducible apply If_dec) <;> intro hc <;> (try (exfalso; omega)))
    | ((with_reducible apply If_any) <;> intro hc)
    | ((with_reducible first | apply PF.mk | apply DrawP.mk); (focus kernel_rfl))
    | ((with_reducible apply Same.mk); (focus rfl); (first | exact trivial | exact rfl))
    | (intro cap hcap)
    | ((fail_if_success (with_reducible apply st)); conv => whnf))
  rotate_left
  · have hcnt := gI.inn.count
    have hov := gI.over
    have hcst := gI.cst
    obtain ⟨zz, hzz⟩ : ∃ zz : List Int, zz = List.replicate 512 0 := ⟨_, rfl⟩
    have hzl : zz.length = 512 := by rw [hzz]; exact List.length_replicate ..
    have okS : ((DF.mk0 b).tick y.2.1).Ok (0 + y.2.1) := (DF.mk0_ok (by omega) 0 (Int.le_refl _)).tick y.2.1
    refine tsize_at y.2.2.1 jX ((DF.mk0 b).tick y.2.1) 0 1 2 3 4 ⟨gI.ok, by omega, fun q hq => ⟨(gI.inn.keys q hq).1, by have := (gI.inn.keys q hq).2.1; omega⟩⟩ rfl rfl rfl rfl rfl rfl ⟨rfl, trivial⟩ ?_
    intro rs hrs
    have hrs : RecRel y.2.2.1 rs := hrs
    have jz : jX.size = 10240 := rfl
    repeat' (first
    | (with_reducible first | exact True.intro | apply And.intro | apply If_true | apply If_false | apply If_not)
    | ((with_reducible apply VC.mk); exact vo)
    | ((with_reducible apply If_dec) <;> intro hc <;> (try (exfalso; omega)))
    | ((with_reducible apply If_any) <;> intro hc)
    | ((with_reducible first | apply PF.mk | apply DrawP.mk); (focus kernel_rfl))
    | ((with_reducible apply Same.mk); (focus rfl); (first | exact trivial | exact rfl))
    | (intro cap hcap)
    | ((fail_if_success (with_reducible apply st)); conv => whnf))
    have v1 : 0 ≤ IntKind.u64.wrap ao := by rw [wrap_u64]; omega
    refine room_at jX ((DF.mk0 b).tick y.2.1) 3 4 jX_ok rfl rfl rfl ⟨rfl, trivial⟩ ?_
    intro _ _
    repeat' (first
    | (with_reducible first | exact True.intro | apply And.intro | apply If_true | apply If_false | apply If_not)
    | ((with_reducible apply VC.mk); exact vo)
    | ((with_reducible apply If_dec) <;> intro hc <;> (try (exfalso; omega)))
    | ((with_reducible apply If_any) <;> intro hc)
    | ((with_reducible first | apply PF.mk | apply DrawP.mk); (focus kernel_rfl))
    | ((with_reducible apply Same.mk); (focus rfl); (first | exact trivial | exact rfl))
    | (intro cap hcap)
    | ((fail_if_success (with_reducible apply st)); conv => whnf))
    · exact Fin.bool rfl hk
    rotate_left
    · exact Fin.bool rfl hk
    refine stop_at ((DF.mk0 b).tick y.2.1) (1 + IntKind.u64.wrap ao % 40) 4 ⟨(hops _ (by omega)).1, by have := (hops y.2.1 (by omega)).2; omega⟩ rfl ⟨rfl, rfl, trivial⟩ (fun _ => ?_)
    obtain ⟨s1, hs1⟩ : ∃ s1 : DF, s1 = { (DF.mk0 b).tick y.2.1 with stop := if 0 < 1 + IntKind.u64.wrap ao % 40 ∧ 1 + IntKind.u64.wrap ao % 40 ≤ 65536 then ((DF.mk0 b).tick y.2.1).ops + (1 + IntKind.u64.wrap ao % 40) else 0 } := ⟨_, rfl⟩
    rw [← hs1]
    have a1 : s1.safe = b := by rw [hs1]; rfl
    have a2 : s1.now = b := by rw [hs1]; rfl
    have a4 : s1.items = [] := by rw [hs1]; rfl
    have okS : s1.Ok (0 + y.2.1) := by rw [hs1]; exact ⟨okS.safe, okS.now, okS.its, okS.len, okS.ops, okS.wrote, okS.all⟩
    clear hs1
    repeat' (first
    | (with_reducible first | exact True.intro | apply And.intro | apply If_true | apply If_false | apply If_not)
    | ((with_reducible apply VC.mk); exact vo)
    | ((with_reducible apply If_dec) <;> intro hc <;> (try (exfalso; omega)))
    | ((with_reducible apply If_any) <;> intro hc)
    | ((with_reducible first | apply PF.mk | apply DrawP.mk); (focus kernel_rfl))
    | ((with_reducible apply Same.mk); (focus rfl); (first | exact trivial | exact rfl))
    | (intro cap hcap)
    | ((fail_if_success (with_reducible apply st)); conv => whnf))
    refine tcommit_at y.2.2.1 jX s1 (0 + y.2.1) zz 0 1 2 3 4 ⟨gI.ok, ⟨by omega, fun q hq => ⟨(gI.inn.keys q hq).1, by have := (gI.inn.keys q hq).2.1; omega, (gI.inn.keys q hq).2.2.2⟩⟩, by omega, jX_ok, okS, by omega, hzz⟩ rfl rfl rfl rfl rfl rfl ⟨rfl, trivial⟩ ?_
    rintro ⟨e3, t3, j3, s3⟩ hr
    have hend := tcrash_end hr hov a1 a2 a4 jX_ok (by decide) (by show (512 : Int) + 10240 ≤ (b.length : Int); omega) (by omega) hb8 (fun i hi => hz _ (by show 512 + i < 10752; omega)) gI.ok gI.inn (fun r hr => by have := gI.frb r hr; omega) (fun q hq => by have := gI.key _ (List.mem_map.2 ⟨q, hq, rfl⟩); omega) hzz hrs (by omega) ak
    have okE := tcomRel_ok hr okS hzl (by show (10240 : Int) ≤ _; omega)
    clear hr
    dsimp only at hend okE ⊢
    repeat' (first
    | (with_reducible first | exact True.intro | apply And.intro | apply If_true | apply If_false | apply If_not)
    | ((with_reducible apply VC.mk); exact vo)
    | ((with_reducible apply If_dec) <;> intro hc <;> (try (exfalso; omega)))
    | ((with_reducible apply If_any) <;> intro hc)
    | ((with_reducible first | apply PF.mk | apply DrawP.mk); (focus kernel_rfl))
    | ((with_reducible apply Same.mk); (focus rfl); (first | exact trivial | exact rfl))
    | (intro cap hcap)
    | ((fail_if_success (with_reducible apply st)); conv => whnf))
    refine crash_at s3 ak 4 ⟨okE.safe, by omega, by have := okE.len; omega, okE.its⟩ rfl ⟨rfl, ⟨rfl, rfl, ⟨rfl, rfl, fun _ _ => rfl⟩⟩, trivial⟩ ?_
    intro C hC
    rw [← hC] at hend
    obtain ⟨C8, Cl, hend⟩ := hend
    clear hC
    repeat' (first
    | (with_reducible first | exact True.intro | apply And.intro | apply If_true | apply If_false | apply If_not)
    | ((with_reducible apply VC.mk); exact vo)
    | ((with_reducible apply If_dec) <;> intro hc <;> (try (exfalso; omega)))
    | ((with_reducible apply If_any) <;> intro hc)
    | ((with_reducible first | apply PF.mk | apply DrawP.mk); (focus kernel_rfl))
    | ((with_reducible apply Same.mk); (focus rfl); (first | exact trivial | exact rfl))
    | (intro cap hcap)
    | ((fail_if_success (with_reducible apply st)); conv => whnf))
    refine topen_at C ⟨by omega, by omega⟩ ⟨⟨rfl, rfl, rfl⟩, trivial⟩ ?_
    repeat' (first
    | (with_reducible first | exact True.intro | apply And.intro | apply If_true | apply If_false | apply If_not)
    | ((with_reducible apply VC.mk); exact vo)
    | ((with_reducible apply If_dec) <;> intro hc <;> (try (exfalso; omega)))
    | ((with_reducible apply If_any) <;> intro hc)
    | ((with_reducible first | apply PF.mk | apply DrawP.mk); (focus kernel_rfl))
    | ((with_reducible apply Same.mk); (focus rfl); (first | exact trivial | exact rfl))
    | (intro cap hcap)
    | ((fail_if_success (with_reducible apply st)); conv => whnf))
    refine replay_at jX (DF.mk0 C) 0 zz 7 8 ⟨jX_ok, DF.Ok.zero (by omega), by decide, C8, hzz⟩ rfl rfl rfl ⟨rfl, trivial⟩ ?_
    intro x hx
    obtain ⟨n1, n2, n3⟩ := hend x hx
    have okR := (replay_ok (z := zz) (DF.Ok.zero (b := C) (by omega)) C8 jX_ok hzl).1
    rw [← hx] at okR
    clear hx hend
    repeat' (first
    | (with_reducible first | exact True.intro | apply And.intro | apply If_true | apply If_false | apply If_not)
    | ((with_reducible apply VC.mk); exact vo)
    | ((with_reducible apply If_dec) <;> intro hc <;> (try (exfalso; omega)))
    | ((with_reducible apply If_any) <;> intro hc)
    | ((with_reducible first | apply PF.mk | apply DrawP.mk); (focus kernel_rfl))
    | ((with_reducible apply Same.mk); (focus rfl); (first | exact trivial | exact rfl))
    | (intro cap hcap)
    | ((fail_if_success (with_reducible apply st)); conv => whnf))
    refine bytes_at x.2.2.2 8 (by have := okR.now; omega) rfl ⟨rfl, trivial⟩ ?_
    intro now hnow
    have hnow : now = x.2.2.2.now := hnow
    rw [← hnow] at n2 n3
    clear hnow
    repeat' (first
    | (with_reducible first | exact True.intro | apply And.intro | apply If_true | apply If_false | apply If_not)
    | ((with_reducible apply VC.mk); exact vo)
    | ((with_reducible apply If_dec) <;> intro hc <;> (try (exfalso; omega)))
    | ((with_reducible apply If_any) <;> intro hc)
    | ((with_reducible first | apply PF.mk | apply DrawP.mk); (focus kernel_rfl))
    | ((with_reducible apply Same.mk); (focus rfl); (first | exact trivial | exact rfl))
    | (intro cap hcap)
    | ((fail_if_success (with_reducible apply st)); conv => whnf))
    have t1 : List.take (now.length - Int.toNat 10752) (List.drop (Int.toNat 10752) now) = now.drop 10752 := List.take_of_length_le (by rw [List.length_drop]; exact Nat.le_refl _)
    have t2 : List.take (y.2.2.2.1.length - Int.toNat 10752) (List.drop (Int.toNat 10752) y.2.2.2.1) = y.2.2.2.1.drop 10752 := List.take_of_length_le (by rw [List.length_drop]; exact Nat.le_refl _)
    have nJ : ∀ i, 10752 ≤ i → ¬ jX.inJ i := fun i hi hj => by have : (512 : Int).toNat ≤ i ∧ i < (512 : Int).toNat + (10240 : Int).toNat := hj; omega
    refine same_at (List.take (now.length - Int.toNat 10752) (List.drop (Int.toNat 10752) now)) (List.take (y.2.2.2.1.length - Int.toNat 10752) (List.drop (Int.toNat 10752) y.2.2.2.1)) ⟨⟨rfl, by rw [t1, List.length_drop]; rfl, rfl⟩, ⟨rfl, by rw [t2, List.length_drop]; rfl, rfl⟩, trivial⟩ ?_
    repeat' (first
    | (with_reducible first | exact True.intro | apply And.intro | apply If_true | apply If_false | apply If_not)
    | ((with_reducible apply VC.mk); exact vo)
    | ((with_reducible apply If_dec) <;> intro hc <;> (try (exfalso; omega)))
    | ((with_reducible apply If_any) <;> intro hc)
    | ((with_reducible first | apply PF.mk | apply DrawP.mk); (focus kernel_rfl))
    | ((with_reducible apply Same.mk); (focus rfl); (first | exact trivial | exact rfl))
    | (intro cap hcap)
    | ((fail_if_success (with_reducible apply st)); conv => whnf))
    · exact Fin.bool rfl hk
    have hother : ∀ i : Nat, 10752 ≤ i → i < 18752 → (∀ x ∈ y.2.2.2.2.1, x ≠ (i : Int)) → now.getD i 0 = b.getD i 0 := by
      rcases n3 with n3 | n3
      · exfalso
        refine hc (congrArg strOf (t1.trans (Eq.trans ?_ t2.symm)))
        refine ext_getD (by rw [List.length_drop, List.length_drop]; omega) (fun i hi => ?_)
        rw [List.getD_eq_getElem?_getD, List.getElem?_drop, ← List.getD_eq_getElem?_getD, n3 _ (nJ _ (by omega)), gI.view, List.getD_eq_getElem?_getD, List.getD_eq_getElem?_getD, List.getElem?_drop]
      · intro i hi _ hx
        refine n3 i (nJ i hi) (fun r hr hcv => ?_)
        exact hx _ (gI.all r hr i hcv) rfl
    have nl : now.length = 18752 := by omega
    refine partO_at b 0 b.length ⟨by omega, by omega⟩ ⟨⟨rfl, rfl, rfl⟩, rfl, rfl, trivial⟩ ?_
    intro o0 cp ho0 hcp
    have ho0 : o0 = b := by rw [ho0, List.drop_zero]; exact List.take_of_length_le (Nat.le_refl _)
    subst ho0
    repeat' (first
    | (with_reducible first | exact True.intro | apply And.intro | apply If_true | apply If_false | apply If_not)
    | ((with_reducible apply VC.mk); exact vo)
    | ((with_reducible apply If_dec) <;> intro hc <;> (try (exfalso; omega)))
    | ((with_reducible apply If_any) <;> intro hc)
    | ((with_reducible first | apply PF.mk | apply DrawP.mk); (focus kernel_rfl))
    | ((with_reducible apply Same.mk); (focus rfl); (first | exact trivial | exact rfl))
    | (intro cap hcap)
    | ((fail_if_success (with_reducible apply st)); conv => whnf))
    obtain ⟨fr, hfr⟩ : ∃ fr, fr = y.2.2.2.2.1 := ⟨_, rfl⟩
    obtain ⟨fc, hfc⟩ : ∃ fc, fc = y.2.2.2.2.2.1 := ⟨_, rfl⟩
    have grng := gI.rng
    rw [← hfr] at gfl hother grng
    rw [← hfr, ← hfc]
    refine LoopP.mk ⟨Nat × List Int, fun u => u.1 ≤ fr.length ∧ u.2.length = 18752 ∧ ∀ i : Nat, u.2.getD i 0 = if (i : Int) ∈ fr.take u.1 then now.getD i 0 else o0.getD i 0, fun u => ([(14, .s 0 0 1 fr.length fc), (13, .im true 1 y.2.2.2.1.length (.ints .u8 y.2.2.2.1)), (23, .im true 1 now.length (.ints .u8 now)), (24, .s 1 0 1 u.2.length cp), (25, .v (.int .i64 ((u.1 : Nat) : Int)))], [.blk 3 (.ints .i64 fr) (fc * 1), .blk 5 (.ints .u8 u.2) cp]), fun u => fr.length - u.1, (0, o0), ⟨Nat.zero_le _, hbl, fun i => by rw [List.take_zero, if_neg List.not_mem_nil]⟩, Fit.ren [6, 9] [] rfl rfl trivial ?_ ?_, ?_⟩
    · repeat' (first
    | (with_reducible first | exact True.intro | apply And.intro | apply If_true | apply If_false | apply If_not)
    | ((with_reducible apply VC.mk); exact vo)
    | ((with_reducible apply If_dec) <;> intro hc <;> (try (exfalso; omega)))
    | ((with_reducible apply If_any) <;> intro hc)
    | ((with_reducible first | apply PF.mk | apply DrawP.mk); (focus kernel_rfl))
    | ((with_reducible apply Same.mk); (focus rfl); (first | exact trivial | exact rfl))
    | (intro cap hcap)
    | ((fail_if_success (with_reducible apply st)); conv => whnf))
    · repeat' (first
    | (with_reducible first | exact True.intro | apply And.intro | apply If_true | apply If_false | apply If_not)
    | ((with_reducible apply VC.mk); exact vo)
    | ((with_reducible apply If_dec) <;> intro hc <;> (try (exfalso; omega)))
    | ((with_reducible apply If_any) <;> intro hc)
    | ((with_reducible first | apply PF.mk | apply DrawP.mk); (focus kernel_rfl))
    | ((with_reducible apply Same.mk); (focus rfl); (first | exact trivial | exact rfl))
    | (intro cap hcap)
    | ((fail_if_success (with_reducible apply st)); conv => whnf))
    intro u hu
    obtain ⟨u1, u2, u3⟩ := hu
    have eu : ((u.1 : Nat) : Int).toNat = u.1 := Int.toNat_natCast u.1
    have hx : u.1 < fr.length → 0 ≤ fr.getD (0 + ((u.1 : Nat) : Int).toNat) 0 ∧ fr.getD (0 + ((u.1 : Nat) : Int).toNat) 0 < 18752 := fun h => by
      rw [eu, Nat.zero_add, show fr.getD u.1 0 = fr[u.1] by simp [List.getD_eq_getElem?_getD, h]]
      exact grng _ (List.getElem_mem h)
    repeat' (first
    | (with_reducible first | exact True.intro | apply And.intro | apply If_true | apply If_false | apply If_not)
    | ((with_reducible apply VC.mk); exact vo)
    | ((with_reducible apply If_dec) <;> intro hc <;> (try (exfalso; omega)))
    | ((with_reducible apply If_any) <;> intro hc)
    | ((with_reducible first | apply PF.mk | apply DrawP.mk); (focus kernel_rfl))
    | ((with_reducible apply Same.mk); (focus rfl); (first | exact trivial | exact rfl))
    | (intro cap hcap)
    | ((fail_if_success (with_reducible apply st)); conv => whnf))
    · have hx2 := hx (by omega)
      have hlt3 : u.1 < fr.length := by omega
      refine Round.mk ⟨(u.1 + 1, u.2.set (0 + (fr.getD (0 + ((u.1 : Nat) : Int).toNat) 0).toNat) (now.getD (fr.getD (0 + ((u.1 : Nat) : Int).toNat) 0).toNat 0)), ⟨by show u.1 + 1 ≤ _; omega, by show (List.set _ _ _).length = _; rw [List.length_set]; exact u2, fun i => ?_⟩, by show fr.length - (u.1 + 1) < fr.length - u.1; omega, Fit.ren [0, 1] [] rfl rfl trivial ?_ ?_⟩
      · have m1 := mem_take_succ hlt3 (i : Int)
        show (List.set _ _ _).getD i 0 = if (i : Int) ∈ fr.take (u.1 + 1) then _ else _
        have ez : 0 + ((u.1 : Nat) : Int).toNat = u.1 := by omega
        rw [ez] at hx2 ⊢
        rw [Nat.zero_add]
        by_cases hi : fr.getD u.1 0 = (i : Int)
        · rw [if_pos (m1.2 (.inr hi)), hi, Int.toNat_natCast, List.getD_eq_getElem?_getD, List.getElem?_set_self (by omega)]; rfl
        · rw [List.getD_eq_getElem?_getD, List.getElem?_set_ne (by omega), ← List.getD_eq_getElem?_getD, u3]
          by_cases h2 : (i : Int) ∈ fr.take u.1
          · rw [if_pos h2, if_pos (m1.2 (.inl h2))]
          · rw [if_neg h2, if_neg (fun h => (m1.1 h).elim h2 hi)]
      · repeat' (first
    | (with_reducible first | exact True.intro | apply And.intro | apply If_true | apply If_false | apply If_not)
    | ((with_reducible apply VC.mk); exact vo)
    | ((with_reducible apply If_dec) <;> intro hc <;> (try (exfalso; omega)))
    | ((with_reducible apply If_any) <;> intro hc)
    | ((with_reducible first | apply PF.mk | apply DrawP.mk); (focus kernel_rfl))
    | ((with_reducible apply Same.mk); (focus rfl); (first | exact trivial | exact rfl))
    | (intro cap hcap)
    | ((fail_if_success (with_reducible apply st)); conv => whnf))
      · repeat' (first
    | (with_reducible first | exact True.intro | apply And.intro | apply If_true | apply If_false | apply If_not)
    | ((with_reducible apply VC.mk); exact vo)
    | ((with_reducible apply If_dec) <;> intro hc <;> (try (exfalso; omega)))
    | ((with_reducible apply If_any) <;> intro hc)
    | ((with_reducible first | apply PF.mk | apply DrawP.mk); (focus kernel_rfl))
    | ((with_reducible apply Same.mk); (focus rfl); (first | exact trivial | exact rfl))
    | (intro cap hcap)
    | ((fail_if_success (with_reducible apply st)); conv => whnf))
    have hfin : now.drop 10752 = u.2.drop 10752 := by
      refine ext_getD (by rw [List.length_drop, List.length_drop]; omega) (fun i hi => ?_)
      rw [List.length_drop] at hi
      rw [List.getD_eq_getElem?_getD, List.getD_eq_getElem?_getD, List.getElem?_drop, List.getElem?_drop, ← List.getD_eq_getElem?_getD, ← List.getD_eq_getElem?_getD, u3, List.take_of_length_le (by omega)]
      split
      · rfl
      · rename_i hne
        exact hother _ (by omega) (by omega) (fun x hx e => hne (by rw [← e]; exact hx))
    have t3 : List.take (u.2.length - Int.toNat 10752) (List.drop (0 + Int.toNat 10752) u.2) = u.2.drop 10752 := by
      have h7 : Int.toNat 10752 = 10752 := rfl
      rw [h7, Nat.zero_add]
      exact List.take_of_length_le (by rw [List.length_drop]; exact Nat.le_refl _)
    have ul : u.2.length ≤ cp := by omega
    refine same_at (List.take (now.length - Int.toNat 10752) (List.drop (Int.toNat 10752) now)) (List.take (u.2.length - Int.toNat 10752) (List.drop (0 + Int.toNat 10752) u.2)) ⟨⟨rfl, by rw [t1, List.length_drop]; rfl, rfl⟩, ⟨?_, rfl, by rw [t3, List.length_drop]; rfl, ?_, rfl, Nat.one_pos⟩, trivial⟩ ?_
    · show 0 + Int.toNat 10752 + (u.2.length - Int.toNat 10752) ≤ u.2.length
      have : Int.toNat 10752 = 10752 := rfl
      omega
    · simp [Cont.low, Cont.ren, Cont.same]
    repeat' (first
    | (with_reducible first | exact True.intro | apply And.intro | apply If_true | apply If_false | apply If_not)
    | ((with_reducible apply VC.mk); exact vo)
    | ((with_reducible apply If_dec) <;> intro hc <;> (try (exfalso; omega)))
    | ((with_reducible apply If_any) <;> intro hc)
    | ((with_reducible first | apply PF.mk | apply DrawP.mk); (focus kernel_rfl))
    | ((with_reducible apply Same.mk); (focus rfl); (first | exact trivial | exact rfl))
    | (intro cap hcap)
    | ((fail_if_success (with_reducible apply st)); conv => whnf))
    exact Fin.bool (decide_eq_true (congrArg strOf (t1.trans (hfin.trans t3.symm)))) hk
  have hlt2 : y.1 < row.length := by omega
  have hom : (row.getD ((y.1 : Nat) : Int).toNat OpR.z) ∈ row := by
    rw [e, show row.getD y.1 OpR.z = row[y.1] by simp [List.getD_eq_getElem?_getD, hlt2]]; exact List.getElem_mem hlt2
  obtain ⟨ro1, ro2, ro3, ro4⟩ := hro _ hom
  have hob : (row.getD ((y.1 : Nat) : Int).toNat OpR.z).b.length ≤ 1500 := by rw [e]; exact hlt.2 y.1 hlt2
  have hcap : y.2.2.2.2.1.length ≤ 37500 := by omega
  refine place_at (row.getD ((y.1 : Nat) : Int).toNat OpR.z) ro2 ⟨⟨rfl, rfl, rfl, rfl, trivial⟩, trivial⟩ ?_
  intro at_ hat
  obtain ⟨q1, q2, q3⟩ := placeX_b (row.getD ((y.1 : Nat) : Int).toNat OpR.z)
  rw [← hat] at q1 q2 q3
  obtain ⟨A, hA⟩ : ∃ A : Nat, at_ = A := ⟨at_.toNat, by omega⟩
  subst hA
  clear hat
  have fB : inB (A : Int) (row.getD ((y.1 : Nat) : Int).toNat OpR.z).b.length := by unfold inB; omega
  have fF : (row.getD ((y.1 : Nat) : Int).toNat OpR.z).kind = 2 → inF (A : Int) (row.getD ((y.1 : Nat) : Int).toNat OpR.z).b.length := fun h => by have := q3 h; unfold inF; omega
  repeat' (first
    | (with_reducible first | exact True.intro | apply And.intro | apply If_true | apply If_false | apply If_not)
    | ((with_reducible apply VC.mk); exact vo)
    | ((with_reducible apply If_dec) <;> intro hc <;> (try (exfalso; omega)))
    | ((with_reducible apply If_any) <;> intro hc)
    | ((with_reducible first | apply PF.mk | apply DrawP.mk); (focus kernel_rfl))
    | ((with_reducible apply Same.mk); (focus rfl); (first | exact trivial | exact rfl))
    | (intro cap hcap)
    | ((fail_if_success (with_reducible apply st)); conv => whnf))
  · refine tput_at y.2.2.1 jX ((DF.mk0 b).tick y.2.1) (A : Int) (row.getD ((y.1 : Nat) : Int).toNat OpR.z).b 0 1 2 3 4 ⟨gI.ok, ⟨rfl, rfl⟩, ⟨by simp only [inR]; omega, by omega⟩, (hops _ (by omega)).1, (hops _ (by omega)).2, by show b.length ≤ _; omega⟩ rfl rfl rfl rfl rfl rfl ⟨rfl, rfl, ⟨rfl, rfl, rfl⟩, trivial⟩ ?_
    rintro ⟨e1, t1, m1⟩ hr
    dsimp only at hr ⊢
    rcases hr with ⟨h, -⟩ | ⟨-, h, -⟩ | ⟨-, -, h1, h2, h3⟩
    · rw [gI.over] at h; cases h
    · exact absurd fB h
    have h2' : t1 = y.2.2.1.put b A (row.getD ((y.1 : Nat) : Int).toNat OpR.z).b := by rw [h2]; rfl
    have hm1 : m1 ≤ 1500 := Nat.le_trans h3 hob
    subst h1
    repeat' (first
    | (with_reducible first | exact True.intro | apply And.intro | apply If_true | apply If_false | apply If_not)
    | ((with_reducible apply VC.mk); exact vo)
    | ((with_reducible apply If_dec) <;> intro hc <;> (try (exfalso; omega)))
    | ((with_reducible apply If_any) <;> intro hc)
    | ((with_reducible first | apply PF.mk | apply DrawP.mk); (focus kernel_rfl))
    | ((with_reducible apply Same.mk); (focus rfl); (first | exact trivial | exact rfl))
    | (intro cap hcap)
    | ((fail_if_success (with_reducible apply st)); conv => whnf))
    all_goals
      refine with_at y.2.2.2.1 A (row.getD ((y.1 : Nat) : Int).toNat OpR.z).b ⟨by omega, by omega⟩ ⟨⟨rfl, rfl, rfl⟩, rfl, ⟨rfl, rfl, rfl⟩, trivial⟩ ?_
      intro w hw
      have hwl : w.length = max y.2.2.2.1.length (A + (row.getD ((y.1 : Nat) : Int).toNat OpR.z).b.length) := by rw [hw, putG_length (by omega)]
      have hwg : ∀ q, w.getD q 0 = wrV (fun q => y.2.2.2.1.getD q 0) A (row.getD ((y.1 : Nat) : Int).toNat OpR.z).b q := fun q => by rw [hw, putG_get (by omega)]; rfl
      clear hw
      repeat' (first
    | (with_reducible first | exact True.intro | apply And.intro | apply If_true | apply If_false | apply If_not)
    | ((with_reducible apply VC.mk); exact vo)
    | ((with_reducible apply If_dec) <;> intro hc <;> (try (exfalso; omega)))
    | ((with_reducible apply If_any) <;> intro hc)
    | ((with_reducible first | apply PF.mk | apply DrawP.mk); (focus kernel_rfl))
    | ((with_reducible apply Same.mk); (focus rfl); (first | exact trivial | exact rfl))
    | (intro cap hcap)
    | ((fail_if_success (with_reducible apply st)); conv => whnf))
      have hI2 := gI.put (d := m1) (by omega) ⟨by omega, by omega⟩ hob ro4 hm1 hwl hwg
      rw [← h2'] at hI2
      rw [tick_tick]
      refine Round.mk ⟨(y.1 + 1, y.2.1 + m1, t1, w, y.2.2.2.2.1, y.2.2.2.2.2.1, (y.2.2.2.2.2.2 || decide (0 < ((row.getD ((y.1 : Nat) : Int).toNat OpR.z).b.length : Int)))), ⟨by show y.1 + 1 ≤ _; omega, hI2⟩, by show row.length - (y.1 + 1) < row.length - y.1; omega, Fit.ren [0, 1, 2, 3, 4, 5, 6] [] rfl rfl trivial (T5.leG (cs := [.blk 93 (.lst [.v (.int .i64 ao), .im true 1 ak.length (boolsC ak)]) 2, .blk 3 (.ints .i64 (y.2.2.2.2.1)) (y.2.2.2.2.2.1 * 1)]) rfl rfl rfl rfl rfl rfl rfl rfl rfl ⟨rfl, rfl, rfl, rfl, rfl⟩ ?_) ?_⟩
      · repeat' (first
    | (with_reducible first | exact True.intro | apply And.intro | apply If_true | apply If_false | apply If_not)
    | ((with_reducible apply VC.mk); exact vo)
    | ((with_reducible apply If_dec) <;> intro hc <;> (try (exfalso; omega)))
    | ((with_reducible apply If_any) <;> intro hc)
    | ((with_reducible first | apply PF.mk | apply DrawP.mk); (focus kernel_rfl))
    | ((with_reducible apply Same.mk); (focus rfl); (first | exact trivial | exact rfl))
    | (intro cap hcap)
    | ((fail_if_success (with_reducible apply st)); conv => whnf))
      · repeat' (first
    | (with_reducible first | exact True.intro | apply And.intro | apply If_true | apply If_false | apply If_not)
    | ((with_reducible apply VC.mk); exact vo)
    | ((with_reducible apply If_dec) <;> intro hc <;> (try (exfalso; omega)))
    | ((with_reducible apply If_any) <;> intro hc)
    | ((with_reducible first | apply PF.mk | apply DrawP.mk); (focus kernel_rfl))
    | ((with_reducible apply Same.mk); (focus rfl); (first | exact trivial | exact rfl))
    | (intro cap hcap)
    | ((fail_if_success (with_reducible apply st)); conv => whnf))
        all_goals (refine VC.mk (congrArg Value.bool ?_); simp [hc])
  · have hk2 : (row.getD ((y.1 : Nat) : Int).toNat OpR.z).kind = 2 := by omega
    have hF := fF hk2
    have gfr := gI.frn
    refine tfresh_at y.2.2.1 jX ((DF.mk0 b).tick y.2.1) (A : Int) (row.getD ((y.1 : Nat) : Int).toNat OpR.z).b 0 1 2 3 4 ⟨gI.ok, by omega, by simp only [inR]; omega, by omega⟩ rfl rfl rfl rfl rfl rfl ⟨rfl, rfl, ⟨rfl, rfl, rfl⟩, trivial⟩ ?_
    rintro ⟨e1, t1⟩ hr
    dsimp only
    rcases hr with ⟨h, -⟩ | ⟨-, h, -⟩ | ⟨-, -, h1, cp, h2, h3⟩
    · rw [gI.over] at h; cases h
    · exact absurd hF h
    have h1 : e1 = 0 := h1
    have h3' : t1 = y.2.2.1.freshT A (row.getD ((y.1 : Nat) : Int).toNat OpR.z).b cp := by have h3 : t1 = _ := h3; rw [h3]; rfl
    subst h1
    repeat' (first
    | (with_reducible first | exact True.intro | apply And.intro | apply If_true | apply If_false | apply If_not)
    | ((with_reducible apply VC.mk); exact vo)
    | ((with_reducible apply If_dec) <;> intro hc <;> (try (exfalso; omega)))
    | ((with_reducible apply If_any) <;> intro hc)
    | ((with_reducible first | apply PF.mk | apply DrawP.mk); (focus kernel_rfl))
    | ((with_reducible apply Same.mk); (focus rfl); (first | exact trivial | exact rfl))
    | (intro cap hcap)
    | ((fail_if_success (with_reducible apply st)); conv => whnf))
    refine LoopP.mk ⟨Nat × List Int × Nat, fun u => u.2.1 = y.2.2.2.2.1 ++ runL A u.1 ∧ u.1 ≤ (row.getD ((y.1 : Nat) : Int).toNat OpR.z).b.length, fun u => ([(5, .im true 4 row.length (opsC true row)), (6, .p 5 0 1 0), (7, .im true 1 b.length (.ints .u8 b)), (8, .p 4 0 1 0), (9, .p 3 0 1 0), (11, .p 0 0 1 0), (13, .im true 1 (y.2.2.2.1).length (.ints .u8 (y.2.2.2.1))), (14, .s 6 0 1 (u.2.1).length (u.2.2)), (15, .v (.bool (y.2.2.2.2.2.2))), (16, .v (.int .i64 ((y.1 : Nat) : Int))), (17, .v (.int .i64 (A : Int))), (18, .v (.int .i64 ((u.1 : Nat) : Int)))], tpre (t1) jX ((DF.mk0 b).tick (y.2.1)) ++ [.blk 93 (.lst [.v (.int .i64 ao), .im true 1 ak.length (boolsC ak)]) 2, .blk 3 (.ints .i64 (u.2.1)) (u.2.2 * 1)]), fun u => (row.getD ((y.1 : Nat) : Int).toNat OpR.z).b.length - u.1, (0, y.2.2.2.2.1, y.2.2.2.2.2.1), ⟨by show _ = _ ++ []; rw [List.append_nil], Nat.zero_le _⟩, Fit.ren [0, 1, 7, 3, 4, 5, 6] [] rfl rfl trivial (T5.leG (cs := [.blk 93 (.lst [.v (.int .i64 ao), .im true 1 ak.length (boolsC ak)]) 2, .blk 3 (.ints .i64 (y.2.2.2.2.1)) (y.2.2.2.2.2.1 * 1)]) rfl rfl rfl rfl rfl rfl rfl rfl rfl ⟨rfl, rfl, rfl, rfl, rfl⟩ ?_) ?_, ?_⟩
    · repeat' (first
    | (with_reducible first | exact True.intro | apply And.intro | apply If_true | apply If_false | apply If_not)
    | ((with_reducible apply VC.mk); exact vo)
    | ((with_reducible apply If_dec) <;> intro hc <;> (try (exfalso; omega)))
    | ((with_reducible apply If_any) <;> intro hc)
    | ((with_reducible first | apply PF.mk | apply DrawP.mk); (focus kernel_rfl))
    | ((with_reducible apply Same.mk); (focus rfl); (first | exact trivial | exact rfl))
    | (intro cap hcap)
    | ((fail_if_success (with_reducible apply st)); conv => whnf))
    · repeat' (first
    | (with_reducible first | exact True.intro | apply And.intro | apply If_true | apply If_false | apply If_not)
    | ((with_reducible apply VC.mk); exact vo)
    | ((with_reducible apply If_dec) <;> intro hc <;> (try (exfalso; omega)))
    | ((with_reducible apply If_any) <;> intro hc)
    | ((with_reducible first | apply PF.mk | apply DrawP.mk); (focus kernel_rfl))
    | ((with_reducible apply Same.mk); (focus rfl); (first | exact trivial | exact rfl))
    | (intro cap hcap)
    | ((fail_if_success (with_reducible apply st)); conv => whnf))
    intro u hu
    obtain ⟨u1, u2⟩ := hu
    have ul : u.2.1.length ≤ 40000 := by rw [u1, List.length_append, runL_length]; omega
    repeat' (first
    | (with_reducible first | exact True.intro | apply And.intro | apply If_true | apply If_false | apply If_not)
    | ((with_reducible apply VC.mk); exact vo)
    | ((with_reducible apply If_dec) <;> intro hc <;> (try (exfalso; omega)))
    | ((with_reducible apply If_any) <;> intro hc)
    | ((with_reducible first | apply PF.mk | apply DrawP.mk); (focus kernel_rfl))
    | ((with_reducible apply Same.mk); (focus rfl); (first | exact trivial | exact rfl))
    | (intro cap hcap)
    | ((fail_if_success (with_reducible apply st)); conv => whnf))
    · refine Round.mk ⟨(u.1 + 1, u.2.1 ++ [(A : Int) + ((u.1 : Nat) : Int)], cap), ⟨by show _ = _ ++ runL A (u.1 + 1); rw [runL_snoc, ← List.append_assoc, ← u1]; rfl, by show u.1 + 1 ≤ _; omega⟩, by show (row.getD ((y.1 : Nat) : Int).toNat OpR.z).b.length - (u.1 + 1) < (row.getD ((y.1 : Nat) : Int).toNat OpR.z).b.length - u.1; omega, Fit.ren [0, 1, 2, 3, 4, 5, 8] [] rfl rfl trivial (T5.leG (cs := [.blk 93 (.lst [.v (.int .i64 ao), .im true 1 ak.length (boolsC ak)]) 2, .blk 3 (.ints .i64 (u.2.1 ++ [(A : Int) + ((u.1 : Nat) : Int)])) (cap * 1)]) rfl rfl rfl rfl rfl rfl rfl rfl rfl ⟨rfl, rfl, rfl, rfl, rfl⟩ ?_) ?_⟩
      · repeat' (first
    | (with_reducible first | exact True.intro | apply And.intro | apply If_true | apply If_false | apply If_not)
    | ((with_reducible apply VC.mk); exact vo)
    | ((with_reducible apply If_dec) <;> intro hc <;> (try (exfalso; omega)))
    | ((with_reducible apply If_any) <;> intro hc)
    | ((with_reducible first | apply PF.mk | apply DrawP.mk); (focus kernel_rfl))
    | ((with_reducible apply Same.mk); (focus rfl); (first | exact trivial | exact rfl))
    | (intro cap hcap)
    | ((fail_if_success (with_reducible apply st)); conv => whnf))
      · repeat' (first
    | (with_reducible first | exact True.intro | apply And.intro | apply If_true | apply If_false | apply If_not)
    | ((with_reducible apply VC.mk); exact vo)
    | ((with_reducible apply If_dec) <;> intro hc <;> (try (exfalso; omega)))
    | ((with_reducible apply If_any) <;> intro hc)
    | ((with_reducible first | apply PF.mk | apply DrawP.mk); (focus kernel_rfl))
    | ((with_reducible apply Same.mk); (focus rfl); (first | exact trivial | exact rfl))
    | (intro cap hcap)
    | ((fail_if_success (with_reducible apply st)); conv => whnf))
    · refine with_at y.2.2.2.1 A (row.getD ((y.1 : Nat) : Int).toNat OpR.z).b ⟨by omega, by omega⟩ ⟨⟨rfl, rfl, rfl⟩, rfl, ⟨rfl, rfl, rfl⟩, trivial⟩ ?_
      intro w hw
      have hwl : w.length = max y.2.2.2.1.length (A + (row.getD ((y.1 : Nat) : Int).toNat OpR.z).b.length) := by rw [hw, putG_length (by omega)]
      have hwg : ∀ q, w.getD q 0 = wrV (fun q => y.2.2.2.1.getD q 0) A (row.getD ((y.1 : Nat) : Int).toNat OpR.z).b q := fun q => by rw [hw, putG_get (by omega)]; rfl
      clear hw
      repeat' (first
    | (with_reducible first | exact True.intro | apply And.intro | apply If_true | apply If_false | apply If_not)
    | ((with_reducible apply VC.mk); exact vo)
    | ((with_reducible apply If_dec) <;> intro hc <;> (try (exfalso; omega)))
    | ((with_reducible apply If_any) <;> intro hc)
    | ((with_reducible first | apply PF.mk | apply DrawP.mk); (focus kernel_rfl))
    | ((with_reducible apply Same.mk); (focus rfl); (first | exact trivial | exact rfl))
    | (intro cap hcap)
    | ((fail_if_success (with_reducible apply st)); conv => whnf))
      have hul : u.1 = (row.getD ((y.1 : Nat) : Int).toNat OpR.z).b.length := by omega
      have hI2 := gI.fresh (by omega) ⟨by omega, by omega, by have := q3 hk2; omega⟩ hob ro4 h2 hwl hwg
      rw [← h3', ← hul, ← u1] at hI2
      refine Round.mk ⟨(y.1 + 1, y.2.1, t1, w, u.2.1, u.2.2, y.2.2.2.2.2.2), ⟨by show y.1 + 1 ≤ _; omega, hI2⟩, by show row.length - (y.1 + 1) < row.length - y.1; omega, Fit.ren [0, 1, 2, 3, 4, 5, 6] [] rfl rfl trivial (T5.leG (cs := [.blk 93 (.lst [.v (.int .i64 ao), .im true 1 ak.length (boolsC ak)]) 2, .blk 3 (.ints .i64 (u.2.1)) (u.2.2 * 1)]) rfl rfl rfl rfl rfl rfl rfl rfl rfl ⟨rfl, rfl, rfl, rfl, rfl⟩ ?_) ?_⟩
      · repeat' (first
    | (with_reducible first | exact True.intro | apply And.intro | apply If_true | apply If_false | apply If_not)
    | ((with_reducible apply VC.mk); exact vo)
    | ((with_reducible apply If_dec) <;> intro hc <;> (try (exfalso; omega)))
    | ((with_reducible apply If_any) <;> intro hc)
    | ((with_reducible first | apply PF.mk | apply DrawP.mk); (focus kernel_rfl))
    | ((with_reducible apply Same.mk); (focus rfl); (first | exact trivial | exact rfl))
    | (intro cap hcap)
    | ((fail_if_success (with_reducible apply st)); conv => whnf))
      · repeat' (first
    | (with_reducible first | exact True.intro | apply And.intro | apply If_true | apply If_false | apply If_not)
    | ((with_reducible apply VC.mk); exact vo)
    | ((with_reducible apply If_dec) <;> intro hc <;> (try (exfalso; omega)))
    | ((with_reducible apply If_any) <;> intro hc)
    | ((with_reducible first | apply PF.mk | apply DrawP.mk); (focus kernel_rfl))
    | ((with_reducible apply Same.mk); (focus rfl); (first | exact trivial | exact rfl))
    | (intro cap hcap)
    | ((fail_if_success (with_reducible apply st)); conv => whnf))
  · refine Round.mk ⟨(y.1 + 1, y.2.1, y.2.2.1, y.2.2.2.1, y.2.2.2.2.1, y.2.2.2.2.2.1, y.2.2.2.2.2.2), ⟨by show y.1 + 1 ≤ _; omega, gI.next⟩, by show row.length - (y.1 + 1) < row.length - y.1; omega, Fit.ren [0, 1, 2, 3, 4, 5, 6] [] rfl rfl trivial (T5.leG (cs := [.blk 93 (.lst [.v (.int .i64 ao), .im true 1 ak.length (boolsC ak)]) 2, .blk 3 (.ints .i64 (y.2.2.2.2.1)) (y.2.2.2.2.2.1 * 1)]) rfl rfl rfl rfl rfl rfl rfl rfl rfl ⟨rfl, rfl, rfl, rfl, rfl⟩ ?_) ?_⟩
    · repeat' (first
    | (with_reducible first | exact True.intro | apply And.intro | apply If_true | apply If_false | apply If_not)
    | ((with_reducible apply VC.mk); exact vo)
    | ((with_reducible apply If_dec) <;> intro hc <;> (try (exfalso; omega)))
    | ((with_reducible apply If_any) <;> intro hc)
    | ((with_reducible first | apply PF.mk | apply DrawP.mk); (focus kernel_rfl))
    | ((with_reducible apply Same.mk); (focus rfl); (first | exact trivial | exact rfl))
    | (intro cap hcap)
    | ((fail_if_success (with_reducible apply st)); conv => whnf))
    · repeat' (first
    | (with_reducible first | exact True.intro | apply And.intro | apply If_true | apply If_false | apply If_not)
    | ((with_reducible apply VC.mk); exact vo)
    | ((with_reducible apply If_dec) <;> intro hc <;> (try (exfalso; omega)))
    | ((with_reducible apply If_any) <;> intro hc)
    | ((with_reducible first | apply PF.mk | apply DrawP.mk); (focus kernel_rfl))
    | ((with_reducible apply Same.mk); (focus rfl); (first | exact trivial | exact rfl))
    | (intro cap hcap)
    | ((fail_if_success (with_reducible apply st)); conv => whnf))
end Go.Proofs.Ytcfmlnddmpiemaa.Sx

